/- Proved here: the law FnExactPilotPlaceCard of the given program answers true at every input, and leaves the input as it was; no condition. This text: lemmas on the way (an evaluator of the program's code, sound once for all; the functions it prints; plain proofs on these). -/
import Derived.Test.YtkbmnjmgceabdaaGreatDoorP3
set_option linter.all false
set_option autoImplicit false
set_option maxRecDepth 8000
namespace Go.Ev
theorem setCs_all (r m:List C) (h:r.length=m.length):setCs r 0 m=m:=by
 unfold setCs
 rw[List.drop_eq_nil_of_le (by omega)];simp
theorem len32 {n:Nat} (h:n≤1048576):(n:Int)≤4294967296:=by omega
theorem w_toStringS_eq (l:List Str) (hl:l.length≤1048576∧∀x,x∈l→True):w_toStringS [.l (l.map sE)]=some [.l (l.map sE)]:=by
 have h:=to_loop (l:=l) (e:=sE) (body:=ap3 w_toStringS.d1) [.s (bs #[])] (by omega)
  (fun i hi c hc hz=>by
   simp only[apL,jC,jD,w_toStringS.d1,C.I_i,C.L_l,jW,jY,getD_map' sE hi,w1 hi (show l.length<big by simp only[big];omega),hz,hc]
   simp[hi,sE,hc,hz,setCs_all])
  (fun c=>by simp[w_toStringS.d1]) l.length 0 rfl
 rw[Int.ofNat_zero] at h
 simp only[List.take_zero,List.map_nil,jB] at h
 simp only[w_toStringS,w_toStringS.d3,apL,jC,C.L_l,jW,jY,rows]
 simp[len32 hl.1,h,w_toStringS.d2]
def Bt.o (b:Bt):List C:=[.s b.name,.s b.zone,.i b.room,.i b.hold,.b b.shut,.l (b.marks.map sE)]
def Cp.o (c:Cp):List C:=[.s c.name,.s c.svc,.i c.rank,.i c.born,.i c.room,.i c.hold,.s c.sel,.i c.apart,.s c.near,.s c.fixed,.s c.at_,.l (c.likes.map Lk.e)]
theorem w_toPilotBerth_eq (b:Bt) (h:b.Sz 1048576):w_toPilotBerth b.e=some b.o:=by
 simp[w_toPilotBerth,w_toPilotBerth.d1,Bt.e,Bt.o,w_toStringS_eq b.marks ⟨h.2.2.1,fun _ _=>trivial⟩,call1]
theorem w_toPilotService_eq (b:Sv) (h:True):w_toPilotService b.e=some b.e:=rfl
theorem w_toPilotLike_eq (b:Lk) (h:True):w_toPilotLike b.e=some b.e:=rfl
theorem w_toPilotBerthS_eq (l:List Bt) (hl:l.length≤1048576∧∀x,x∈l→x.Sz 1048576):w_toPilotBerthS [.l (l.map Bt.e)]=some [.l (l.map Bt.e)]:=by
 have h:=to_loop (l:=l) (e:=Bt.e) (body:=ap3 w_toPilotBerthS.d1) [.s (bs #[]),.s (bs #[]),.l [],.i 0,.i 0,.b false] (by omega)
  (fun i hi c hc hz=>by
   simp only[apL,jC,jD,w_toPilotBerthS.d1,C.I_i,C.L_l,jW,jY,getD_map' Bt.e hi,w1 hi (show l.length<big by simp only[big];omega),hz,hc]
   have hx:=w_toPilotBerth_eq l[i] (hl.2 _ (List.getElem_mem hi))
   simp only[Bt.e,Bt.o] at hx
   simp[hi,Bt.e,hx,hc,hz,call1,call2,call6,call12,setCs_all])
  (fun c=>by simp[w_toPilotBerthS.d1]) l.length 0 rfl
 rw[Int.ofNat_zero] at h
 simp only[List.take_zero,List.map_nil,jB] at h
 simp only[w_toPilotBerthS,w_toPilotBerthS.d3,apL,jC,C.L_l,jW,jY,rows]
 simp[len32 hl.1,h,w_toPilotBerthS.d2]
theorem w_toPilotServiceS_eq (l:List Sv) (hl:l.length≤1048576∧∀x,x∈l→True):w_toPilotServiceS [.l (l.map Sv.e)]=some [.l (l.map Sv.e)]:=by
 have h:=to_loop (l:=l) (e:=Sv.e) (body:=ap3 w_toPilotServiceS.d1) [.s (bs #[]),.i 0] (by omega)
  (fun i hi c hc hz=>by
   simp only[apL,jC,jD,w_toPilotServiceS.d1,C.I_i,C.L_l,jW,jY,getD_map' Sv.e hi,w1 hi (show l.length<big by simp only[big];omega),hz,hc]
   have hx:=w_toPilotService_eq l[i] trivial
   simp only[Sv.e] at hx
   simp[hi,Sv.e,hx,hc,hz,call1,call2,call6,call12,setCs_all])
  (fun c=>by simp[w_toPilotServiceS.d1]) l.length 0 rfl
 rw[Int.ofNat_zero] at h
 simp only[List.take_zero,List.map_nil,jB] at h
 simp only[w_toPilotServiceS,w_toPilotServiceS.d3,apL,jC,C.L_l,jW,jY,rows]
 simp[len32 hl.1,h,w_toPilotServiceS.d2]
theorem w_toPilotLikeS_eq (l:List Lk) (hl:l.length≤1048576∧∀x,x∈l→True):w_toPilotLikeS [.l (l.map Lk.e)]=some [.l (l.map Lk.e)]:=by
 have h:=to_loop (l:=l) (e:=Lk.e) (body:=ap3 w_toPilotLikeS.d1) [.s (bs #[]),.i 0] (by omega)
  (fun i hi c hc hz=>by
   simp only[apL,jC,jD,w_toPilotLikeS.d1,C.I_i,C.L_l,jW,jY,getD_map' Lk.e hi,w1 hi (show l.length<big by simp only[big];omega),hz,hc]
   have hx:=w_toPilotLike_eq l[i] trivial
   simp only[Lk.e] at hx
   simp[hi,Lk.e,hx,hc,hz,call1,call2,call6,call12,setCs_all])
  (fun c=>by simp[w_toPilotLikeS.d1]) l.length 0 rfl
 rw[Int.ofNat_zero] at h
 simp only[List.take_zero,List.map_nil,jB] at h
 simp only[w_toPilotLikeS,w_toPilotLikeS.d3,apL,jC,C.L_l,jW,jY,rows]
 simp[len32 hl.1,h,w_toPilotLikeS.d2]
theorem w_toPilotCopy_eq (b:Cp) (h:b.Sz 1048576):w_toPilotCopy b.e=some b.o:=by
 simp[w_toPilotCopy,w_toPilotCopy.d1,Cp.e,Cp.o,w_toPilotLikeS_eq b.likes ⟨h.2.2.2.2.2.2.1,fun _ _=>trivial⟩,call1]
theorem w_toPilotCopyS_eq (l:List Cp) (hl:l.length≤1048576∧∀x,x∈l→x.Sz 1048576):w_toPilotCopyS [.l (l.map Cp.e)]=some [.l (l.map Cp.e)]:=by
 have h:=to_loop (l:=l) (e:=Cp.e) (body:=ap3 w_toPilotCopyS.d1) [.s (bs #[]),.s (bs #[]),.i 0,.i 0,.i 0,.i 0,.s (bs #[]),.l [],.i 0,.s (bs #[]),.s (bs #[]),.s (bs #[])] (by omega)
  (fun i hi c hc hz=>by
   simp only[apL,jC,jD,w_toPilotCopyS.d1,C.I_i,C.L_l,jW,jY,getD_map' Cp.e hi,w1 hi (show l.length<big by simp only[big];omega),hz,hc]
   have hx:=w_toPilotCopy_eq l[i] (hl.2 _ (List.getElem_mem hi))
   simp only[Cp.e,Cp.o] at hx
   simp[hi,Cp.e,hx,hc,hz,call1,call2,call6,call12,setCs_all])
  (fun c=>by simp[w_toPilotCopyS.d1]) l.length 0 rfl
 rw[Int.ofNat_zero] at h
 simp only[List.take_zero,List.map_nil,jB] at h
 simp only[w_toPilotCopyS,w_toPilotCopyS.d3,apL,jC,C.L_l,jW,jY,rows]
 simp[len32 hl.1,h,w_toPilotCopyS.d2]
theorem w_toPilotFleet_eq (f:Fl) (h:f.Sz 1048576):w_toPilotFleet f.e=some f.e:=by
 have h1:=w_toPilotBerthS_eq f.bts h.1
 have h2:=w_toPilotServiceS_eq f.svs ⟨h.2.1.1,fun _ _=>trivial⟩
 have h3:=w_toPilotCopyS_eq f.cps h.2.2
 simp[w_toPilotFleet,w_toPilotFleet.d1,Fl.e,h1,h2,h3,call1]
theorem w_eqStringS_eq (l:List Str) (hl:l.length≤1048576∧∀x,x∈l→True):w_eqStringS [.l (l.map sE),.l (l.map sE)]=some [.b true]:=by
 have h:=eq_loop (l:=l) (e:=sE) (body:=ap3 w_eqStringS.d1)
  (fun i hi=>by
   simp only[apL,jC,jD,w_eqStringS.d1,C.I_i,C.L_l,jW,jY,getD_map' sE hi,w1 hi (show l.length<big by simp only[big];omega)]
   simp[hi,sE])
  (by simp[w_eqStringS.d1]) l.length 0 rfl
 rw[Int.ofNat_zero] at h
 simp[w_eqStringS,w_eqStringS.d3,h,w_eqStringS.d2]
theorem w_eqPilotBerth_eq (b:Bt) (h:b.Sz 1048576):w_eqPilotBerth (b.e++b.e)=some [.b true]:=by
 simp[w_eqPilotBerth,w_eqPilotBerth.d1,Bt.e,w_eqStringS_eq b.marks ⟨h.2.2.1,fun _ _=>trivial⟩,call1]
theorem w_eqPilotService_eq (b:Sv) (h:True):w_eqPilotService (b.e++b.e)=some [.b true]:=by
 simp[w_eqPilotService,w_eqPilotService.d1,Sv.e]
theorem w_eqPilotLike_eq (b:Lk) (h:True):w_eqPilotLike (b.e++b.e)=some [.b true]:=by
 simp[w_eqPilotLike,w_eqPilotLike.d1,Lk.e]
theorem w_eqPilotBerthS_eq (l:List Bt) (hl:l.length≤1048576∧∀x,x∈l→x.Sz 1048576):w_eqPilotBerthS [.l (l.map Bt.e),.l (l.map Bt.e)]=some [.b true]:=by
 have h:=eq_loop (l:=l) (e:=Bt.e) (body:=ap3 w_eqPilotBerthS.d1)
  (fun i hi=>by
   simp only[apL,jC,jD,w_eqPilotBerthS.d1,C.I_i,C.L_l,jW,jY,getD_map' Bt.e hi,w1 hi (show l.length<big by simp only[big];omega)]
   have hx:=w_eqPilotBerth_eq l[i] (hl.2 _ (List.getElem_mem hi))
   simp only[Bt.e,jA,jB] at hx
   simp[hi,Bt.e,hx,call1])
  (by simp[w_eqPilotBerthS.d1]) l.length 0 rfl
 rw[Int.ofNat_zero] at h
 simp[w_eqPilotBerthS,w_eqPilotBerthS.d3,h,w_eqPilotBerthS.d2]
theorem w_eqPilotServiceS_eq (l:List Sv) (hl:l.length≤1048576∧∀x,x∈l→True):w_eqPilotServiceS [.l (l.map Sv.e),.l (l.map Sv.e)]=some [.b true]:=by
 have h:=eq_loop (l:=l) (e:=Sv.e) (body:=ap3 w_eqPilotServiceS.d1)
  (fun i hi=>by
   simp only[apL,jC,jD,w_eqPilotServiceS.d1,C.I_i,C.L_l,jW,jY,getD_map' Sv.e hi,w1 hi (show l.length<big by simp only[big];omega)]
   have hx:=w_eqPilotService_eq l[i] (hl.2 _ (List.getElem_mem hi))
   simp only[Sv.e,jA,jB] at hx
   simp[hi,Sv.e,hx,call1])
  (by simp[w_eqPilotServiceS.d1]) l.length 0 rfl
 rw[Int.ofNat_zero] at h
 simp[w_eqPilotServiceS,w_eqPilotServiceS.d3,h,w_eqPilotServiceS.d2]
theorem w_eqPilotLikeS_eq (l:List Lk) (hl:l.length≤1048576∧∀x,x∈l→True):w_eqPilotLikeS [.l (l.map Lk.e),.l (l.map Lk.e)]=some [.b true]:=by
 have h:=eq_loop (l:=l) (e:=Lk.e) (body:=ap3 w_eqPilotLikeS.d1)
  (fun i hi=>by
   simp only[apL,jC,jD,w_eqPilotLikeS.d1,C.I_i,C.L_l,jW,jY,getD_map' Lk.e hi,w1 hi (show l.length<big by simp only[big];omega)]
   have hx:=w_eqPilotLike_eq l[i] (hl.2 _ (List.getElem_mem hi))
   simp only[Lk.e,jA,jB] at hx
   simp[hi,Lk.e,hx,call1])
  (by simp[w_eqPilotLikeS.d1]) l.length 0 rfl
 rw[Int.ofNat_zero] at h
 simp[w_eqPilotLikeS,w_eqPilotLikeS.d3,h,w_eqPilotLikeS.d2]
theorem w_eqPilotCopy_eq (b:Cp) (h:b.Sz 1048576):w_eqPilotCopy (b.e++b.e)=some [.b true]:=by
 simp[w_eqPilotCopy,w_eqPilotCopy.d1,Cp.e,w_eqPilotLikeS_eq b.likes ⟨h.2.2.2.2.2.2.1,fun _ _=>trivial⟩,call1]
theorem w_eqPilotCopyS_eq (l:List Cp) (hl:l.length≤1048576∧∀x,x∈l→x.Sz 1048576):w_eqPilotCopyS [.l (l.map Cp.e),.l (l.map Cp.e)]=some [.b true]:=by
 have h:=eq_loop (l:=l) (e:=Cp.e) (body:=ap3 w_eqPilotCopyS.d1)
  (fun i hi=>by
   simp only[apL,jC,jD,w_eqPilotCopyS.d1,C.I_i,C.L_l,jW,jY,getD_map' Cp.e hi,w1 hi (show l.length<big by simp only[big];omega)]
   have hx:=w_eqPilotCopy_eq l[i] (hl.2 _ (List.getElem_mem hi))
   simp only[Cp.e,jA,jB] at hx
   simp[hi,Cp.e,hx,call1])
  (by simp[w_eqPilotCopyS.d1]) l.length 0 rfl
 rw[Int.ofNat_zero] at h
 simp[w_eqPilotCopyS,w_eqPilotCopyS.d3,h,w_eqPilotCopyS.d2]
theorem w_eqPilotFleet_eq (f:Fl) (h:f.Sz 1048576):w_eqPilotFleet (f.e++f.e)=some [.b true]:=by
 have h1:=w_eqPilotBerthS_eq f.bts h.1
 have h2:=w_eqPilotServiceS_eq f.svs ⟨h.2.1.1,fun _ _=>trivial⟩
 have h3:=w_eqPilotCopyS_eq f.cps h.2.2
 simp[w_eqPilotFleet,w_eqPilotFleet.d1,Fl.e,h1,h2,h3,call1]
end Go.Ev
namespace Go.Ev
def within (a b c:Int):Bool:=decide (b≤a)&&decide (a≤c)
theorem s_l1In_eq (a b c:Int):s_l1In [.i a,.i b,.i c]=some [.b (within a b c)]:=by
 simp only[s_l1In,s_l1In.d1,apL,jC,jD,C.I_i,within]
 cases h:decide (a≥b)<;>simp at h<;>simp[h]<;>omega
theorem i_within_eq (a b c:Int):i_within [.i a,.i b,.i c]=some [.b (within a b c)]:=by
 simp only[i_within,i_within.d1,apL,jC,jD,C.I_i,within]
 cases h:decide (a≥b)<;>simp at h<;>simp[h]<;>omega
def lettI (n:Int):Bool:=(decide (n≥97)&&decide (n≤122))||(decide (n≥48)&&decide (n≤57))||n==45||n==95
def lett (x:UInt8):Bool:=lettI (x.toNat:Int)
theorem s_l1Letter_eq (n:Int):s_l1Letter [.i n]=some [.b (lettI n)]:=by
 simp only[s_l1Letter,s_l1Letter.d1,apL,jC,C.I_i,lettI]
 cases decide (n≥97)<;>cases decide (n≤122)<;>cases decide (n≥48)<;>cases decide (n≤57)<;>cases n==45<;>simp
theorem i_pByte_eq (n:Int):i_pByte [.i n]=some [.b (lettI n)]:=s_l1Letter_eq n
def nameOk (s:Str):Bool:=within s.size 1 20&&s.data.toList.all lett
theorem sz_list (s:Str):s.size=s.data.toList.length:=Array.length_toList.symm
theorem arr_getD {s:Str} {i:Nat} (h:i<s.data.toList.length):s.data.getD i 0=s.data.toList[i]:=by
 have:i<s.data.size:=by simpa using h
 simp only[Array.getD,dif_pos this,Array.getInternal_eq_getElem,Array.getElem_toList]
theorem loopL_all {α:Type} (p:α→Bool) (b:Nat) (ys:List C) (K:List C→R):∀(l:List α) (n:Nat),bindBlk b (some (loopL (fun _ s (_:Unit)=>bif p s then .inl () else .inr (.ret [.b false])) (fun _=>.brk b ys) l n ())) K=bif l.all p then K ys else some (.ret [.b false])
 |[],n=>by simp[loopL]
 |x::r,n=>by
  simp only[loopL,List.all_cons]
  cases p x with
  |true=>simp only[jR,Bool.true_and];exact loopL_all p b ys K r (n+1)
  |false=>simp
theorem s_l1NameOk_eq (s:Str) (hl:s.size≤1048576):s_l1NameOk [.s s]=some [.b (nameOk s)]:=by
 have hsz:=sz_list s
 have h:=lim_list (l:=s.data.toList) (S:=fun i (_:Unit)=>[.s s,.i (i:Nat)]) (body:=ap2 s_l1NameOk.d1)
  (fun _ _=>True) (fun i b _=>bif lett b then .inl () else .inr (.ret [.b false])) (fun _=>.brk 0 [])
  (fun i _ hi _=>by
   have hi':i<s.size:=by omega
   cases hb:lett s.data.toList[i]<;>simp only[lett] at hb
   ·exact ⟨by simp only[apL,jC,jD,s_l1NameOk.d1,C.I_i,C.S_s,jY,arr_getD hi,s_l1Letter_eq,hb,call1];simp[hi'],trivial⟩
   ·exact ⟨by simp only[apL,jC,jD,s_l1NameOk.d1,C.I_i,C.S_s,jY,arr_getD hi,s_l1Letter_eq,hb,call1,w1 hi' (show s.size<big by simp only[big];omega)];simp[hi'],trivial⟩)
  (fun _ _=>⟨by rw[←hsz];simp[s_l1NameOk.d1],trivial⟩) _ 0 () rfl trivial
 simp only[Int.ofNat_zero,List.drop_zero] at h
 simp only[s_l1NameOk,s_l1NameOk.d3,apL,jC,C.S_s,s_l1In_eq,call1,jI,C.B_b,nameOk]
 cases hw:within s.size 1 20 with
 |false=>simp
 |true=>
  simp only[jZ,jS]
  erw[h,loopL_all]
  cases (s.data.toList.all lett)<;>simp[s_l1NameOk.d2]
theorem i_pName_eq (s:Str) (hl:s.size≤1048576):i_pName [.s s]=some [.b (nameOk s)]:=by
 have hsz:=sz_list s
 have h:=lim_list (l:=s.data.toList) (S:=fun i (_:Unit)=>[.s s,.i (s.size:Nat),.i (i:Nat)]) (body:=ap3 i_pName.d1)
  (fun _ _=>True) (fun i b _=>bif lett b then .inl () else .inr (.ret [.b false])) (fun _=>.brk 0 [])
  (fun i _ hi _=>by
   have hi':i<s.size:=by omega
   cases hb:lett s.data.toList[i]<;>simp only[lett] at hb
   ·exact ⟨by simp only[apL,jC,jD,i_pName.d1,C.I_i,C.S_s,jY,arr_getD hi,i_pByte_eq,hb,call1];simp[hi'],trivial⟩
   ·exact ⟨by simp only[apL,jC,jD,i_pName.d1,C.I_i,C.S_s,jY,arr_getD hi,i_pByte_eq,hb,call1,w1 hi' (show s.size<big by simp only[big];omega)];simp[hi'],trivial⟩)
  (fun _ _=>⟨by rw[←hsz];simp[i_pName.d1],trivial⟩) _ 0 () rfl trivial
 simp only[Int.ofNat_zero,List.drop_zero] at h
 simp only[i_pName,i_pName.d3,apL,jC,C.S_s,nameOk,within]
 by_cases q1:(s.size:Int)<1
 ·have:¬(1:Int)≤s.size:=by omega
  simp[q1,this]
 by_cases q2:(s.size:Int)>20
 ·have:¬(s.size:Int)≤20:=by omega
  simp only[q1,q2,this];simp
 ·have e1:(1:Int)≤s.size:=by omega
  have e2:(s.size:Int)≤20:=by omega
  simp only[q1,q2,e1,e2,decide_true,decide_false,ja,jR,jS,Bool.true_and]
  erw[h,loopL_all]
  cases (s.data.toList.all lett)<;>simp[i_pName.d2]
end Go.Ev
namespace Go.Ev
def mkS (l:List UInt8):Str:=⟨l.toArray⟩
theorem mkS_data (l:List UInt8):(mkS l).data.toList=l:=rfl
theorem mkS_size (l:List UInt8):(mkS l).size=l.length:=rfl
theorem mkS_of (s:Str):mkS s.data.toList=s:=rfl
theorem ext_mkS (s:Str) (i j:Nat):s.extract i j=mkS ((s.data.toList.take j).drop i):=by
 have:(s.extract i j).data=((s.data.toList.take j).drop i).toArray:=by
  rw[ByteArray.data_extract]
  apply Array.toList_inj.1
  simp only[Array.toList_extract,List.extract_eq_take_drop]
  rw[List.drop_take]
 cases h:s.extract i j with
 |mk d=>rw[h] at this;simp only at this;subst this;rfl
def sEq (a b:Str):Bool:=a.toList==b.toList
theorem toList_data' (s:Str):s.toList=s.data.toList:=ByteArray.toList_eq s
theorem sEq_iff (a b:Str):sEq a b=true↔a=b:=by
 unfold sEq
 rw[toList_data',toList_data',beq_iff_eq]
 constructor
 ·intro h
  cases a;cases b
  simp only at h
  exact congrArg _ (Array.toList_inj.1 h)
 ·rintro rfl;rfl
theorem sEq_mk (a b:List UInt8):sEq (mkS a) (mkS b)=(a==b):=by
 unfold sEq;rw[toList_data',toList_data',mkS_data,mkS_data]
theorem take_run {α:Type} (p:α→Bool):∀l:List α,l.take (l.takeWhile p).length=l.takeWhile p
 |[]=>rfl
 |x::r=>by
  rw[List.takeWhile_cons]
  cases p x with
  |true=>simp[take_run p r]
  |false=>simp
theorem drop_run {α:Type} (p:α→Bool):∀l:List α,l.drop (l.takeWhile p).length=l.dropWhile p
 |[]=>rfl
 |x::r=>by
  rw[List.takeWhile_cons,List.dropWhile_cons]
  cases p x with
  |true=>simp[drop_run p r]
  |false=>simp
theorem part_drop {α:Type} (l:List α) (i k:Nat):(l.take (i+k)).drop i=(l.drop i).take k:=by rw[List.drop_take];congr 1;omega
theorem run_len {α:Type} (p:α→Bool) (l:List α):(l.takeWhile p).length≤l.length:=(List.takeWhile_prefix p).length_le
theorem drop_cons {α:Type} {l r:List α} {i:Nat} {c:α} (h:l.drop i=c::r):∃hi:i<l.length,l[i]=c∧l.drop (i+1)=r:=by
 have hi:i<l.length:=by
  rcases Nat.lt_or_ge i l.length with h'|h'
  ·exact h'
  ·rw[List.drop_eq_nil_of_le h'] at h;simp at h
 rw[List.drop_eq_getElem_cons hi] at h
 simp only[List.cons.injEq] at h
 exact ⟨hi,h.1,h.2⟩
def lexT:List UInt8→List (List UInt8)
 |[]=>[]
 |c::r=>if c=32 then lexT r else if lett c then (c::r.takeWhile lett)::lexT (r.dropWhile lett) else [c]::lexT r
termination_by l=>l.length
decreasing_by
 ·simp
 ·have:=(List.dropWhile_suffix (l:=r) lett).length_le;simp;omega
 ·simp
def sym (c:UInt8):Bool:=c==124||c==38||c==33||c==40||c==41||c==61
def legal (c:UInt8):Bool:=c==32||lett c||sym c
theorem bn (c x:UInt8) (m:Int) (h:m=(x.toNat:Int)):(((c.toNat:Nat):Int)==m)=(c==x):=by
 subst h
 rw[Bool.eq_iff_iff,beq_iff_eq,beq_iff_eq]
 constructor
 ·intro h
  exact UInt8.toNat_inj.1 (by exact_mod_cast h)
 ·rintro rfl;rfl
theorem tokrun (s:Str) (hl:s.size≤1048576) (i:Nat) (o:C):∀(k n:Nat),k=s.data.toList.length-n→n≤s.data.toList.length→
  lim (ap4 s_l1Tokens.d1) [.s s,.i i,.i n,.l o.L]=some (.brk 2 [.s s,.i i,.i (n+((s.data.toList.drop n).takeWhile lett).length:Nat),.l o.L])
 |0,n,hk,hn=>by
  have e:n=s.size:=by rw[sz_list];omega
  have e2:s.data.toList.drop n=[]:=List.drop_eq_nil_of_le (by omega)
  rw[e2]
  refine lim_brk ?_
  simp[s_l1Tokens.d1,e]
 |k+1,n,hk,hn=>by
  have hi:n<s.data.toList.length:=by omega
  have hi':n<s.size:=by rw[sz_list];omega
  have e2:=List.drop_eq_getElem_cons hi
  rw[e2,List.takeWhile_cons]
  cases hb:lett s.data.toList[n] with
  |false=>
   refine lim_brk ?_
   simp only[lett] at hb
   simp only[apL,jC,jD,s_l1Tokens.d1,C.I_i,C.S_s,jY,arr_getD hi,s_l1Letter_eq,hb,call1]
   simp[hi']
  |true=>
   have h:ap4 s_l1Tokens.d1 [.s s,.i i,.i n,.l o.L]=some (.again [.s s,.i i,.i (n+1:Nat),.l o.L]):=by
    simp only[lett] at hb
    simp only[apL,jC,jD,s_l1Tokens.d1,C.I_i,C.S_s,jY,arr_getD hi,s_l1Letter_eq,hb,call1,w1 hi' (show s.size<big by simp only[big];omega)]
    simp[hi']
   rw[lim_again h,tokrun s hl i o k (n+1) (by omega) (by omega)]
   have:n+1+(List.takeWhile lett (s.data.toList.drop (n+1))).length=n+(s.data.toList[n]::List.takeWhile lett (s.data.toList.drop (n+1))).length:=by
    simp only[List.length_cons];omega
   simp only[if_true,this]
def tk (t:List UInt8):List C:=[.s (mkS t)]
theorem toks (s:Str) (hl:s.size≤1048576):∀(k i:Nat) (out:List (List C)),s.data.toList.length-i≤k→i≤s.data.toList.length→out.length≤i→
  (((s.data.toList.drop i).all legal=true∧lim (ap3 s_l1Tokens.d5) [.s s,.i i,.l out]=some (.brk 0 [.l (out++(lexT (s.data.toList.drop i)).map tk)]))∨
   ((s.data.toList.drop i).all legal=false∧∃o,lim (ap3 s_l1Tokens.d5) [.s s,.i i,.l out]=some (.ret [.b false,.l o])))
 |k,i,out,hk,hi,ho=>by
  cases hd:s.data.toList.drop i with
  |nil=>
   have:s.data.toList.length≤i:=by simpa using hd
   have e:i=s.size:=by rw[sz_list];omega
   left
   refine ⟨rfl,lim_brk ?_⟩
   simp[s_l1Tokens.d5,e,lexT]
  |cons c r=>
   obtain ⟨hi',hc,hr⟩:=drop_cons hd
   have his:i<s.size:=by rw[sz_list];exact hi'
   obtain ⟨k,rfl⟩:∃k',k=k'+1:=⟨k-1,by omega⟩
   have hw:=w1 his (show s.size<big by simp only[big];omega)
   have e32:=bn c 32 32 rfl
   by_cases h32:c=32
   ·subst h32
    have h:ap3 s_l1Tokens.d5 [.s s,.i i,.l out]=some (.again [.s s,.i (i+1:Nat),.l out]):=by
     simp only[apL,jC,jD,s_l1Tokens.d5,C.I_i,C.S_s,C.L_l,jY,arr_getD hi',hc,hw]
     simp[his,s_l1Tokens.d4]
    have ih:=toks s hl k (i+1) out (by omega) (by omega) (by omega)
    rw[lim_again h]
    rw[hr] at ih
    simpa [legal,lexT] using ih
   ·have hrun:=tokrun s hl i (.l out) _ i rfl hi
    rw[hd] at hrun
    simp only[C.L_l] at hrun
    have hne:(((c.toNat:Nat):Int)==32)=false:=by
     rw[e32,beq_eq_false_iff_ne];exact h32
    cases hlt:lett c with
    |true=>
     have hrl:=run_len lett r
     have hrlen:r.length=s.data.toList.length-(i+1):=by rw[←hr];simp
     have h:ap3 s_l1Tokens.d5 [.s s,.i i,.l out]=some (.again [.s s,.i (i+1+(r.takeWhile lett).length:Nat),.l (out++[tk (c::r.takeWhile lett)])]):=by
      have hext:s.extract i (i+1+(r.takeWhile lett).length)=mkS (c::r.takeWhile lett):=by
       rw[ext_mkS,Nat.add_assoc,part_drop,hd,Nat.add_comm 1,List.take_succ_cons,take_run]
      have e1:(((i+1+(r.takeWhile lett).length:Nat):Int)==(i:Int))=false:=by
       rw[beq_eq_false_iff_ne];omega
      have e2:(i:Int)≤((i+1+(r.takeWhile lett).length:Nat):Int):=by omega
      have e3:((i+1+(r.takeWhile lett).length:Nat):Int)≤(s.size:Int):=by rw[sz_list];omega
      have e4:out.length+1≤4294967296:=by omega
      have e0:i+(List.takeWhile lett (c::r)).length=i+1+(r.takeWhile lett).length:=by
       rw[List.takeWhile_cons,hlt];simp;omega
      rw[e0] at hrun
      simp only[apL,jC,jD,s_l1Tokens.d5,C.I_i,C.S_s,C.L_l,jY,arr_getD hi',hc,hne,hrun,bindBlk_self]
      simp only[s_l1Tokens.d3,C.I_i,C.S_s,C.L_l,e1,jY,hext]
      simp only[e2,e3,e4,his,decide_true,jR,jS,jX,rows,List.length_cons,List.length_nil,bindBlk_self,s_l1Tokens.d4,C.L_l,tk]
      simp[his,e4,s_l1Tokens.d4]
     have ih:=toks s hl k (i+1+(r.takeWhile lett).length) (out++[tk (c::r.takeWhile lett)]) (by omega) (by omega) (by simp;omega)
     rw[lim_again h]
     have hdr:s.data.toList.drop (i+1+(r.takeWhile lett).length)=r.dropWhile lett:=by
      rw[←List.drop_drop,hr,drop_run]
     rw[hdr] at ih
     have hall:(c::r).all legal=(r.dropWhile lett).all legal:=by
      have e1:∀r:List UInt8,r.all legal=(r.dropWhile lett).all legal:=by
       intro r
       induction r with
       |nil=>rfl
       |cons x r ih=>
        rw[List.dropWhile_cons]
        cases hx:lett x with
        |true=>simp[legal,hx,←ih]
        |false=>simp
      have:legal c=true:=by simp[legal,hlt]
      rw[List.all_cons,this,Bool.true_and];exact e1 r
     rw[hall]
     have hlex:lexT (c::r)=(c::r.takeWhile lett)::lexT (r.dropWhile lett):=by
      rw[lexT,if_neg h32,if_pos hlt]
     rw[hlex]
     simpa using ih
    |false=>
     have e0:i+(List.takeWhile lett (c::r)).length=i:=by
      rw[List.takeWhile_cons,hlt];simp
     rw[e0] at hrun
     have s1:=bn c 124 124 rfl
     have s2:=bn c 38 38 rfl
     have s3:=bn c 33 33 rfl
     have s4:=bn c 40 40 rfl
     have s5:=bn c 41 41 rfl
     have s6:=bn c 61 61 rfl
     have hsym:s_l1Tokens.d3 (.s s) (.i i) (.i i) (.l out)=s_l1Tokens.d2 (.s s) (.i i) (.i i) (.b (!sym c)) (.l out):=by
      simp only[s_l1Tokens.d3,C.I_i,C.S_s,C.L_l,jY,arr_getD hi',hc,bne,s1,s2,s3,s4,s5,s6,sym]
      cases (c==124)<;>cases (c==38)<;>cases (c==33)<;>cases (c==40)<;>cases (c==41)<;>cases (c==61)<;>simp[his]
     have hd2:s_l1Tokens.d2 (.s s) (.i i) (.i i) (.b (!sym c)) (.l out)=if sym c=true then some (.brk 1 [.s s,.i (i+1:Nat),.l (out++[tk [c]])]) else some (.ret [.b false,.l out]):=by
      have hext:s.extract i (i+1)=mkS [c]:=by
       rw[ext_mkS,part_drop,hd];rfl
      have e2:(i:Int)≤((i+1:Nat):Int):=by omega
      have e3:((i+1:Nat):Int)≤(s.size:Int):=by rw[sz_list];omega
      have e4:out.length+1≤4294967296:=by omega
      cases hs:sym c with
      |false=>simp[s_l1Tokens.d2]
      |true=>
       simp only[s_l1Tokens.d2,C.I_i,C.S_s,C.L_l,C.B_b,hw,jY,hext,e2,e3,decide_true,jR,jS,jX,rows,List.length_cons,List.length_nil,jZ,if_true,tk]
       simp[e4]
     have h0:ap3 s_l1Tokens.d5 [.s s,.i i,.l out]=bindBlk 1 (if sym c=true then some (.brk 1 [.s s,.i (i+1:Nat),.l (out++[tk [c]])]) else some (.ret [.b false,.l out])) (ap3 s_l1Tokens.d4):=by
      rw[←hd2,←hsym]
      simp only[apL,jC,jD,s_l1Tokens.d5,C.I_i,C.S_s,C.L_l,jY,arr_getD hi',hc,hne,hrun,bindBlk_self]
      simp[his]
     cases hs:sym c with
     |false=>
      right
      rw[hs] at h0
      refine ⟨by simp[legal,hlt,hs,h32],out,lim_ret (by rw[h0];simp)⟩
     |true=>
      rw[hs] at h0
      have h:ap3 s_l1Tokens.d5 [.s s,.i i,.l out]=some (.again [.s s,.i (i+1:Nat),.l (out++[tk [c]])]):=by rw[h0];simp[s_l1Tokens.d4]
      rw[lim_again h]
      have ih:=toks s hl k (i+1) (out++[tk [c]]) (by omega) (by omega) (by simp;omega)
      rw[hr] at ih
      have hlex:lexT (c::r)=[c]::lexT r:=by rw[lexT,if_neg h32,if_neg (by rw[hlt];simp)]
      have hall:(c::r).all legal=r.all legal:=by simp[legal,hs]
      rw[hlex,hall]
      simpa using ih
theorem s_l1Tokens_eq (s:Str) (hl:s.size≤1048576):
  (s.data.toList.all legal=true∧s_l1Tokens [.s s]=some [.b true,.l ((lexT s.data.toList).map tk)])∨(s.data.toList.all legal=false∧∃o,s_l1Tokens [.s s]=some [.b false,.l o]):=by
 have h:=toks s hl _ 0 [] (Nat.le_refl _) (by omega) (by simp)
 simp only[List.drop_zero,jB,Int.ofNat_zero] at h
 simp only[s_l1Tokens,s_l1Tokens.d7,apL,jC,nils]
 rcases h with ⟨h1,h2⟩|⟨h1,o,h2⟩
 ·exact .inl ⟨h1,by rw[h2];simp[s_l1Tokens.d6]⟩
 ·exact .inr ⟨h1,o,by rw[h2];simp⟩
end Go.Ev
namespace Go.Ev
abbrev Tok:=List UInt8
inductive Tr where
 |lf (k:Nat) (n v:Tok)
 |un (t:Tr)
 |bn (k:Nat) (a b:Tr)
def node (k:Nat) (n v:Tok) (m:Nat):List C:=[.i (k:Nat),.s (mkS n),.s (mkS v),.i (m:Nat)]
def Tr.flat:Tr→List (List C)
 |.lf k n v=>[node k n v 0]
 |.un t=>t.flat++[node 3 [] [] 1]
 |.bn k a b=>a.flat++b.flat++[node k [] [] 2]
def opL (f:List Tok→Option (Tr×List Tok)) (op:Tok) (kd:Nat):Nat→Tr→List Tok→Option (Tr×List Tok)
 |0,t,r=>some (t,r)
 |m+1,t,r=>match r with
  |[]=>some (t,[])
  |x::r'=>if x=op then match f r' with
    |none=>none
    |some (t',r'')=>opL f op kd m (.bn kd t t') r''
   else some (t,x::r')
def prs:Nat→Nat→List Tok→Option (Tr×List Tok)
 |0,_,_=>none
 |k+1,c,l=>match c with
  |0=>match prs k 1 l with
   |none=>none
   |some (t,r)=>opL (prs k 1) [124] 5 r.length t r
  |1=>match prs k 2 l with
   |none=>none
   |some (t,r)=>opL (prs k 2) [38] 4 r.length t r
  |_=>match l with
   |[]=>none
   |x::r=>if x=[33] then match prs k 2 r with
     |none=>none
     |some (t,r')=>some (.un t,r')
    else if x=[40] then match prs k 0 r with
     |some (t,y::r')=>if y=[41] then some (t,r') else none
     |_=>none
    else if nameOk (mkS x)=true then match r with
     |y::r'=>if y=[61] then match r' with
       |v::r''=>if nameOk (mkS v)=true then some (.lf 2 x v,r'') else none
       |[]=>none
      else some (.lf 1 x [],r)
     |[]=>some (.lf 1 x [],[])
    else none
theorem bs_nil:bs #[]=mkS []:=rfl
theorem s_over2 (k n:Int) (x y:List (List C)) (h:x.length+y.length≤1048576):
  s_l1Over [.i k,.i n,.l [[.l x],[.l y]]]=some [.l [[.l x],[.l y]],.l (x++y++[[.i k,.s (mkS []),.s (mkS []),.i n]])]:=by
 have b1:x.length≤4294967296:=by omega
 have b2:x.length+y.length≤4294967296:=by omega
 have b3:x.length+y.length+1≤4294967296:=by omega
 have b4:x.length+(y.length+1)≤4294967296:=by omega
 have w0:w64 1=1:=w64_of (by omega) (by omega)
 have w1:w64 2=2:=w64_of (by omega) (by omega)
 have h0:ap5 s_l1Over.d1 [.i k,.i n,.i 0,.l [[.l x],[.l y]],.l []]=some (.again [.i k,.i n,.i 1,.l [[.l x],[.l y]],.l x]):=by
  simp[s_l1Over.d1,b1,w0]
 have h1:ap5 s_l1Over.d1 [.i k,.i n,.i 1,.l [[.l x],[.l y]],.l x]=some (.again [.i k,.i n,.i 2,.l [[.l x],[.l y]],.l (x++y)]):=by
  have e:(1:Int)<2:=by omega
  simp[s_l1Over.d1,b2,w1,e]
 have h2:ap5 s_l1Over.d1 [.i k,.i n,.i 2,.l [[.l x],[.l y]],.l (x++y)]=some (.brk 0 [.i k,.i n,.l [[.l x],[.l y]],.l (x++y)]):=by
  simp[s_l1Over.d1]
 simp only[s_l1Over,s_l1Over.d3,apL,jC,jD,C.L_l,nils]
 rw[lim_again h0,lim_again h1,lim_brk h2,bindBlk_self]
 simp[s_l1Over.d2,b3,b4,bs_nil]
theorem s_over1 (k n:Int) (x:List (List C)) (h:x.length≤1048576):
  s_l1Over [.i k,.i n,.l [[.l x]]]=some [.l [[.l x]],.l (x++[[.i k,.s (mkS []),.s (mkS []),.i n]])]:=by
 have b1:x.length≤4294967296:=by omega
 have b3:x.length+1≤4294967296:=by omega
 have w0:w64 1=1:=w64_of (by omega) (by omega)
 have h0:ap5 s_l1Over.d1 [.i k,.i n,.i 0,.l [[.l x]],.l []]=some (.again [.i k,.i n,.i 1,.l [[.l x]],.l x]):=by
  simp[s_l1Over.d1,b1,w0]
 have h2:ap5 s_l1Over.d1 [.i k,.i n,.i 1,.l [[.l x]],.l x]=some (.brk 0 [.i k,.i n,.l [[.l x]],.l x]):=by
  simp[s_l1Over.d1]
 simp only[s_l1Over,s_l1Over.d3,apL,jC,jD,C.L_l,nils]
 rw[lim_again h0,lim_brk h2,bindBlk_self]
 simp[s_l1Over.d2,b3,bs_nil]
section
variable {T:List Tok} (hl:T.length≤1048576)
include hl
theorem s_take_eq (op:Tok) (a:Nat) (bad:Bool) (ha:a≤T.length):s_l1Parser_take [.s (mkS op),.l (T.map tk),.i a,.b bad]=
  match T.drop a with
  |[]=>some [.b false,.l (T.map tk),.i a,.b bad]
  |x::_=>if x=op then some [.b true,.l (T.map tk),.i (a+1:Nat),.b bad] else some [.b false,.l (T.map tk),.i a,.b bad]:=by
 simp only[s_l1Parser_take,s_l1Parser_take.d1,s_l1Parser_is,s_l1Parser_is.d1,apL,jC,jD,C.isP_p,C.P_p,C.I_i,C.L_l,jW,jY,jR]
 cases hd:T.drop a with
 |nil=>
  have:T.length≤a:=by simpa using hd
  have e:a=T.length:=by omega
  subst e
  simp[call1]
 |cons x r=>
  obtain ⟨hi,hx,_⟩:=drop_cons hd
  have hw:=w1 hi (show T.length<big by simp only[big];omega)
  rw[getD_map' tk hi,hx]
  have hq:((mkS x).toList==(mkS op).toList)=(x==op):=sEq_mk x op
  simp only[tk,jC,C.S_s,hq,hw]
  by_cases he:x=op
  ·subst he;simp[hi,call1]
  ·have hb:(x==op)=false:=by rw[beq_eq_false_iff_ne];exact he
   simp[hi,call1,hb,he]
theorem s_name_eq (hs:∀t,t∈T→t.length≤1048576) (a:Nat) (bad:Bool) (ha:a≤T.length):s_l1Parser_name [.l (T.map tk),.i a,.b bad]=
  match T.drop a with
  |[]=>some [.s (mkS []),.l (T.map tk),.i a,.b true]
  |x::_=>if nameOk (mkS x)=true then some [.s (mkS x),.l (T.map tk),.i (a+1:Nat),.b bad] else some [.s (mkS []),.l (T.map tk),.i a,.b true]:=by
 simp only[s_l1Parser_name,s_l1Parser_name.d1,apL,jC,jD,C.I_i,C.L_l,jW,jY]
 cases hd:T.drop a with
 |nil=>
  have:T.length≤a:=by simpa using hd
  have e:a=T.length:=by omega
  subst e
  simp[bs_nil]
 |cons x r=>
  obtain ⟨hi,hx,_⟩:=drop_cons hd
  have hw:=w1 hi (show T.length<big by simp only[big];omega)
  have hw2:w64 (((a+1:Nat):Int)-1)=a:=by rw[w64_of (by omega) (by omega)];omega
  rw[getD_map' tk hi,hx]
  have hxs:(mkS x).size≤1048576:=by rw[mkS_size];exact hs x (by rw[←hx];exact List.getElem_mem hi)
  have hge:¬T.length≤a:=by omega
  simp only[tk,jC,s_l1NameOk_eq _ hxs,call1,jI,C.B_b,hw,hw2,jY,getD_map' tk hi,hx]
  cases hn:nameOk (mkS x)<;>simp[hi,hge,bs_nil]
end
def Res (T:List Tok) (a:Nat) (p:Option (Tr×List Tok)) (nodes:List (List C)) (a':Nat) (bad:Bool):Prop:=
 a≤a'∧a'≤T.length∧nodes.length≤2*(a'-a)+1∧match p with
  |some (t,r)=>bad=false∧nodes=t.flat∧T.drop a'=r∧a<a'
  |none=>bad=true
def SP (T:List Tok) (G:List C→Option (List C)) (f:List Tok→Option (Tr×List Tok)) (a:Nat):Prop:=
 ∃nodes a' bad,G [.l (T.map tk),.i a,.b false]=some [.l nodes,.l (T.map tk),.i (a':Nat),.b bad]∧Res T a (f (T.drop a)) nodes a' bad
end Go.Ev
namespace Go.Ev
section
variable {T:List Tok} (hl:T.length≤1048576/4) (hs:∀t,t∈T→t.length≤1048576)
include hl
theorem s_loop (G:List C→Option (List C)) (f:List Tok→Option (Tr×List Tok)) (op:Tok) (kd:Nat) (body:C→C→C→C→R) (lo:Nat)
  (hb:∀a b c d,body a b c d=(bif (!d.B) then (call4 (s_l1Parser_take [.s (mkS op),b,c,d]) fun e f g h=>(bif e.B then (call4 (G [f,g,h]) fun i j k l=>(call2 (s_l1Over [.i (kd:Nat),.i 2,.l (rows [[a],[i]])]) fun m n=>(some (.again [.l n.L,j,k,l])))) else (some (.brk 0 [a,f,g,h])))) else (some (.brk 0 [a,b,c,d]))))
  (hG:∀a,lo≤a→a≤T.length→SP T G f a):
  ∀(m a:Nat) (t:Tr),T.length-a≤m→lo≤a+1→a≤T.length→t.flat.length≤2*a+1→
   ∃nodes a' bad,lim (ap4 body) [.l t.flat,.l (T.map tk),.i a,.b false]=some (.brk 0 [.l nodes,.l (T.map tk),.i (a':Nat),.b bad])∧
    a≤a'∧a'≤T.length∧nodes.length≤2*(a'-a)+t.flat.length∧match opL f op kd m t (T.drop a) with
     |some (u,r)=>bad=false∧nodes=u.flat∧T.drop a'=r
     |none=>bad=true
 |0,a,t,hm,hlo,ha,ht=>by
  have hd:T.drop a=[]:=List.drop_eq_nil_of_le (by omega)
  refine ⟨t.flat,a,false,lim_brk ?_,Nat.le_refl _,ha,by omega,?_⟩
  ·simp only[apL,jC,jD,hb,C.B_b,ja,jR]
   rw[s_take_eq (by omega) op a false ha,hd]
   simp[call4]
  ·simp[opL]
 |m+1,a,t,hm,hlo,ha,ht=>by
  have hstep:ap4 body [.l t.flat,.l (T.map tk),.i a,.b false]=(call4 (s_l1Parser_take [.s (mkS op),.l (T.map tk),.i a,.b false]) fun e f g h=>(bif e.B then (call4 (G [f,g,h]) fun i j k l=>(call2 (s_l1Over [.i (kd:Nat),.i 2,.l (rows [[.l t.flat],[i]])]) fun m n=>(some (.again [.l n.L,j,k,l])))) else (some (.brk 0 [.l t.flat,f,g,h])))):=by
   simp only[apL,jC,jD,hb,C.B_b,ja,jR]
  rw[s_take_eq (by omega) op a false ha] at hstep
  cases hd:T.drop a with
  |nil=>
   rw[hd] at hstep
   refine ⟨t.flat,a,false,lim_brk ?_,Nat.le_refl _,ha,by omega,?_⟩
   ·rw[hstep];simp[call4]
   ·simp[opL,hd]
  |cons x r=>
   rw[hd] at hstep
   obtain ⟨hi,hx,hr⟩:=drop_cons hd
   by_cases he:x=op
   ·simp only[if_pos he,call4,jI,jC,jD,C.B_b,jR] at hstep
    obtain ⟨nodes,a',bad,hg,h1,h2,h3,h4⟩:=hG (a+1) (by omega) (by omega)
    rw[hr] at h4
    rw[hg] at hstep
    have hsum:t.flat.length+nodes.length≤1048576:=by omega
    simp only[jI,jC,jD,rows,s_over2 (kd:Nat) 2 t.flat nodes hsum,call2,C.L_l] at hstep
    have hnd:t.flat++nodes++[[C.i (kd:Nat),.s (mkS []),.s (mkS []),.i 2]]=t.flat++nodes++[node kd [] [] 2]:=rfl
    rw[hnd] at hstep
    cases hf:f r with
    |none=>
     rw[hf] at h4
     simp only at h4
     subst h4
     have hend:ap4 body [.l (t.flat++nodes++[node kd [] [] 2]),.l (T.map tk),.i (a':Nat),.b true]=some (.brk 0 [.l (t.flat++nodes++[node kd [] [] 2]),.l (T.map tk),.i (a':Nat),.b true]):=by
      simp[hb]
     refine ⟨_,a',true,by rw[lim_again hstep];exact lim_brk hend,by omega,h2,by simp;omega,?_⟩
     simp[opL,hd,he,hf]
    |some p=>
     obtain ⟨u,r'⟩:=p
     rw[hf] at h4
     obtain ⟨rfl,rfl,h5,h6⟩:=h4
     have e:t.flat++u.flat++[node kd [] [] 2]=(Tr.bn kd t u).flat:=rfl
     rw[e] at hstep
     have hlen:(Tr.bn kd t u).flat.length=t.flat.length+u.flat.length+1:=by simp[Tr.flat];omega
     obtain ⟨nodes2,a2,bad2,q1,q2,q3,q4,q5⟩:=s_loop G f op kd body lo hb hG m a' (.bn kd t u) (by omega) (by omega) h2 (by omega)
     refine ⟨nodes2,a2,bad2,by rw[lim_again hstep];exact q1,by omega,q3,by omega,?_⟩
     simp only[opL,hd,if_pos he,hf]
     rw[h5] at q5
     exact q5
   ·simp only[if_neg he,call4,jI,jC,jD,C.B_b,jS] at hstep
    refine ⟨t.flat,a,false,lim_brk hstep,Nat.le_refl _,ha,by omega,?_⟩
    simp[opL,hd,he]
end
end Go.Ev
namespace Go.Ev
section
variable {T:List Tok} (hl:T.length≤1048576/4) (hs:∀t,t∈T→t.length≤1048576)
include hl hs
theorem s_ops (G:List C→Option (List C)) (f:List Tok→Option (Tr×List Tok)) (op:Tok) (kd:Nat) (body:C→C→C→C→R) (d2:C→C→C→C→R) (a:Nat) (ha:a≤T.length)
  (hb:∀a b c d,body a b c d=(bif (!d.B) then (call4 (s_l1Parser_take [.s (mkS op),b,c,d]) fun e f g h=>(bif e.B then (call4 (G [f,g,h]) fun i j k l=>(call2 (s_l1Over [.i (kd:Nat),.i 2,.l (rows [[a],[i]])]) fun m n=>(some (.again [.l n.L,j,k,l])))) else (some (.brk 0 [a,f,g,h])))) else (some (.brk 0 [a,b,c,d]))))
  (h2:∀a b c d,d2 a b c d=some (.ret [a,b,c,d])) (hG:∀b,a≤b→b≤T.length→SP T G f b):
  ∃nodes a' bad,finR (call4 (G [.l (T.map tk),.i a,.b false]) fun d e f g=>(bindBlk 0 (lim (ap4 body) [d,e,f,g]) (ap4 d2)))=some [.l nodes,.l (T.map tk),.i (a':Nat),.b bad]∧
   Res T a (match f (T.drop a) with
   |none=>none
   |some (t,r)=>opL f op kd r.length t r) nodes a' bad:=by
 obtain ⟨nodes,a',bad,hg,q1,q2,q3,q4⟩:=hG a (Nat.le_refl _) ha
 rw[hg]
 simp only[call4,jI,jC,jD]
 cases hf:f (T.drop a) with
 |none=>
  rw[hf] at q4
  simp only at q4
  subst q4
  refine ⟨nodes,a',true,?_,q1,q2,q3,rfl⟩
  rw[lim_brk (ys:=[.l nodes,.l (T.map tk),.i (a':Nat),.b true]) (i:=0) (by simp[hb])]
  simp[h2]
 |some p=>
  obtain ⟨t,r⟩:=p
  rw[hf] at q4
  obtain ⟨rfl,rfl,q5,q6⟩:=q4
  have hrl:r.length=T.length-a':=by rw[←q5];simp
  obtain ⟨n2,a2,b2,p1,p2,p3,p4,p5⟩:=s_loop hl G f op kd body a hb (fun b h1 h2=>hG b h1 h2) r.length a' t (by omega) (by omega) q2 (by omega)
  rw[p1]
  rw[q5] at p5
  have hres:Res T a (opL f op kd r.length t r) n2 a2 b2:=by
   refine ⟨by omega,p3,by omega,?_⟩
   cases ho:opL f op kd r.length t r with
   |none=>rw[ho] at p5;exact p5
   |some z=>
    obtain ⟨u,z⟩:=z
    rw[ho] at p5
    exact ⟨p5.1,p5.2.1,p5.2.2,by omega⟩
  exact ⟨n2,a2,b2,by simp[h2],hres⟩
theorem s_prs:∀(j c k a:Nat),c≤2→a≤T.length→3*(T.length-a)+(3-c)≤j→j≤k→SP T (s_l1Parser_or.g k c) (prs j c) a
 |0,c,k,a,hc,ha,hj,hk=>by omega
 |j+1,c,k,a,hc,ha,hj,hk=>by
  obtain ⟨k,rfl⟩:∃k',k=k'+1:=⟨k-1,by omega⟩
  have ih:=s_prs j
  rcases (show c=0∨c=1∨c=2 by omega) with rfl|rfl|rfl
  ·obtain ⟨nodes,a',bad,h1,h2⟩:=s_ops hl hs (s_l1Parser_or.g k 1) (prs j 1) [124] 5 (s_l1Parser_or.d1 (s_l1Parser_or.g k 0) (s_l1Parser_or.g k 1) (s_l1Parser_or.g k 2)) (s_l1Parser_or.d2 (s_l1Parser_or.g k 0) (s_l1Parser_or.g k 1) (s_l1Parser_or.g k 2)) a ha
    (fun _ _ _ _=>rfl) (fun _ _ _ _=>rfl) (fun b h1 h2=>ih 1 k b (by omega) h2 (by omega) (by omega))
   exact ⟨nodes,a',bad,h1,h2⟩
  ·obtain ⟨nodes,a',bad,h1,h2⟩:=s_ops hl hs (s_l1Parser_or.g k 2) (prs j 2) [38] 4 (s_l1Parser_and.d1 (s_l1Parser_or.g k 0) (s_l1Parser_or.g k 1) (s_l1Parser_or.g k 2)) (s_l1Parser_and.d2 (s_l1Parser_or.g k 0) (s_l1Parser_or.g k 1) (s_l1Parser_or.g k 2)) a ha
    (fun _ _ _ _=>rfl) (fun _ _ _ _=>rfl) (fun b h1 h2=>ih 2 k b (by omega) h2 (by omega) (by omega))
   exact ⟨nodes,a',bad,h1,h2⟩
  ·have hT:T.length≤1048576:=by omega
   have hstep:s_l1Parser_or.g (k+1) 2 [.l (T.map tk),.i a,.b false]=finR (s_l1Parser_not.d1 (s_l1Parser_or.g k 0) (s_l1Parser_or.g k 1) (s_l1Parser_or.g k 2) (.l (T.map tk)) (.i a) (.b false)):=rfl
   unfold SP
   rw[hstep]
   have e33:bs #[33]=mkS [33]:=rfl
   have e40:bs #[40]=mkS [40]:=rfl
   have e41:bs #[41]=mkS [41]:=rfl
   have e61:bs #[61]=mkS [61]:=rfl
   simp only[s_l1Parser_not.d1,C.B_b,jS,e33,e40,e41,e61,s_take_eq hT [33] a false ha]
   cases hd:T.drop a with
   |nil=>
    simp only[call4,jI,jC,jD,C.B_b,jS,s_take_eq hT [40] a false ha,s_name_eq hT hs a false ha,hd]
    simp only[jZ,jS,rows,bs_nil,jV]
    exact ⟨_,a,true,rfl,Nat.le_refl _,ha,by simp,by simp[prs]⟩
   |cons x r=>
    obtain ⟨hi,hx,hr⟩:=drop_cons hd
    have hsx:=hs x (by rw[←hx];exact List.getElem_mem hi)
    by_cases x33:x=[33]
    ·obtain ⟨nodes,a',bad,hg,q1,q2,q3,q4⟩:=ih 2 k (a+1) (by omega) (by omega) (by omega) (by omega)
     rw[hr] at q4
     simp only[if_pos x33,call4,jI,jC,jD,C.B_b,jR,hg,rows,call2]
     rw[show (3:Int)=((3:Nat):Int) from rfl,s_over1 _ _ nodes (by omega)]
     simp only[jI,jC,jD,C.L_l,jV]
     have hnd:nodes++[[C.i ((3:Nat):Int),.s (mkS []),.s (mkS []),.i 1]]=nodes++[node 3 [] [] 1]:=rfl
     rw[hnd]
     refine ⟨_,a',bad,rfl,by omega,q2,by simp;omega,?_⟩
     simp only[prs,x33,if_true]
     cases hf:prs j 2 r with
     |none=>rw[hf] at q4;exact q4
     |some p=>
      rw[hf] at q4
      obtain ⟨rfl,rfl,q5,q6⟩:=q4
      exact ⟨rfl,rfl,q5,by omega⟩
    simp only[if_neg x33,call4,jI,jC,jD,C.B_b,jS,s_take_eq hT [40] a false ha,hd]
    by_cases x40:x=[40]
    ·obtain ⟨nodes,a',bad,hg,q1,q2,q3,q4⟩:=ih 0 k (a+1) (by omega) (by omega) (by omega) (by omega)
     rw[hr] at q4
     simp only[if_pos x40,jI,jC,jD,C.B_b,jR,hg,s_take_eq hT [41] a' bad q2]
     have hp:prs (j+1) 2 (x::r)=match prs j 0 r with
       |some (t,y::r')=>if y=[41] then some (t,r') else none
       |_=>none:=by
      simp only[prs,if_neg x33,if_pos x40]<;>rcases prs j 0 r with _|⟨t,_|⟨y,r'⟩⟩<;>rfl
     rw[hp]
     cases hd2:T.drop a' with
     |nil=>
      simp only[jI,jC,jD,C.B_b,ja,jR,jV]
      refine ⟨_,a',true,rfl,by omega,q2,by omega,?_⟩
      cases hf:prs j 0 r with
      |none=>rfl
      |some p=>
       rw[hf] at q4
       obtain ⟨_,_,q5,_⟩:=q4
       obtain ⟨t,r'⟩:=p
       simp only at q5
       rw[hd2] at q5
       subst q5
       rfl
     |cons y r'=>
      obtain ⟨hi2,hx2,hr2⟩:=drop_cons hd2
      by_cases y41:y=[41]
      ·simp only[if_pos y41,jI,jC,jD,C.B_b,jZ,jS,jV]
       refine ⟨_,a'+1,bad,rfl,by omega,by omega,by omega,?_⟩
       cases hf:prs j 0 r with
       |none=>rw[hf] at q4;exact q4
       |some p=>
        rw[hf] at q4
        obtain ⟨q5,q6,q7,_⟩:=q4
        obtain ⟨t,z⟩:=p
        simp only at q7 q6
        rw[hd2] at q7
        subst q7
        simp only[if_pos y41]
        exact ⟨q5,q6,hr2,by omega⟩
      ·simp only[if_neg y41,jI,jC,jD,C.B_b,ja,jR,jV]
       refine ⟨_,a',true,rfl,by omega,q2,by omega,?_⟩
       cases hf:prs j 0 r with
       |none=>rfl
       |some p=>
        rw[hf] at q4
        obtain ⟨_,_,q7,_⟩:=q4
        obtain ⟨t,z⟩:=p
        simp only at q7
        rw[hd2] at q7
        subst q7
        simp only[if_neg y41]
    simp only[if_neg x40,jI,jC,jD,C.B_b,jS,s_name_eq hT hs a false ha,hd]
    cases hn:nameOk (mkS x) with
    |false=>
     simp only[Bool.false_eq_true,if_false,jI,jC,jD,C.B_b,jZ,jS,rows,jV]
     refine ⟨_,a,true,rfl,Nat.le_refl _,ha,by simp,?_⟩
     simp[prs,x33,x40,hn]
    |true=>
     simp only[if_true,jI,jC,jD,C.B_b,ja,jR,s_take_eq hT [61] (a+1) false (by omega),hr]
     cases r with
     |nil=>
      simp only[jI,jC,jD,C.B_b,jS,rows,bs_nil,jV]
      refine ⟨_,a+1,false,rfl,by omega,by omega,by simp,?_⟩
      simp only[prs,if_neg x33,if_neg x40,hn,if_true]
      exact ⟨by simp,rfl,hr,by omega⟩
     |cons y r'=>
      obtain ⟨hi2,hx2,hr2⟩:=drop_cons hr
      by_cases y61:y=[61]
      ·simp only[if_pos y61,jI,jC,jD,C.B_b,jR,s_name_eq hT hs (a+1+1) false (by omega),hr2]
       cases r' with
       |nil=>
        simp only[jI,jC,jD,rows,jV]
        refine ⟨_,a+1+1,true,rfl,by omega,by omega,by simp,?_⟩
        simp[prs,x33,x40,hn,y61]
       |cons v r''=>
        obtain ⟨hi3,hx3,hr3⟩:=drop_cons hr2
        cases hv:nameOk (mkS v) with
        |false=>
         simp only[hv,Bool.false_eq_true,if_false,jI,jC,jD,rows,jV]
         refine ⟨_,a+1+1,true,rfl,by omega,by omega,by simp,?_⟩
         simp[prs,x33,x40,hn,y61,hv]
        |true=>
         simp only[hv,if_true,jI,jC,jD,rows,jV]
         refine ⟨_,a+1+1+1,false,rfl,by omega,by omega,by simp,?_⟩
         simp only[prs,if_neg x33,if_neg x40,hn,if_true,y61,hv]
         exact ⟨by simp,rfl,hr3,by omega⟩
      ·simp only[if_neg y61,jI,jC,jD,C.B_b,jS,rows,bs_nil,jV]
       refine ⟨_,a+1,false,rfl,by omega,by omega,by simp,?_⟩
       simp only[prs,if_neg x33,if_neg x40,hn,if_true,if_neg y61]
       exact ⟨by simp,rfl,hr,by omega⟩
end
end Go.Ev
namespace Go.Ev
def sp (c:UInt8):Bool:=c==32
theorem lexT_gap:∀l:List UInt8,lexT (l.dropWhile sp)=lexT l
 |[]=>rfl
 |c::r=>by
  rw[List.dropWhile_cons]
  by_cases h:c=32
  ·subst h
   have:sp 32=true:=rfl
   rw[if_pos this,lexT_gap r]
   rw[lexT.eq_2,if_pos rfl]
  ·have:sp c=false:=by simp[sp,h]
   rw[this];simp
theorem gap_head {l r:List UInt8} {c:UInt8} (h:l.dropWhile sp=c::r):c≠32:=by
 have:=List.head?_dropWhile_not sp l
 rw[h] at this
 simp[sp] at this
 exact this
section
variable {s:Str} (hl:s.size≤1048576)
include hl
theorem i_gap_eq:∀(k i:Nat) (ok:Bool),s.data.toList.length-i≤k→i≤s.data.toList.length→
  lim (ap3 i_pParser_gap.d1) [.s s,.i i,.b ok]=some (.brk 0 [.s s,.i (i+((s.data.toList.drop i).takeWhile sp).length:Nat),.b ok])
 |k,i,ok,hk,hi=>by
  cases hd:s.data.toList.drop i with
  |nil=>
   have:s.data.toList.length≤i:=by simpa using hd
   have e:i=s.size:=by rw[sz_list];omega
   refine lim_brk ?_
   simp[i_pParser_gap.d1,e]
  |cons c r=>
   obtain ⟨hi',hc,hr⟩:=drop_cons hd
   have his:i<s.size:=by rw[sz_list];exact hi'
   obtain ⟨k,rfl⟩:∃k',k=k'+1:=⟨k-1,by omega⟩
   have hw:=w1 his (show s.size<big by simp only[big];omega)
   have e32:=bn c 32 32 rfl
   rw[List.takeWhile_cons]
   cases hs:sp c with
   |true=>
    have h:ap3 i_pParser_gap.d1 [.s s,.i i,.b ok]=some (.again [.s s,.i (i+1:Nat),.b ok]):=by
     simp only[sp] at hs
     simp only[apL,jC,jD,i_pParser_gap.d1,C.I_i,C.S_s,jY,arr_getD hi',hc,e32,hs,hw]
     simp[his]
    rw[lim_again h,i_gap_eq k (i+1) ok (by omega) (by omega),hr]
    simp only[if_true,List.length_cons]
    rw[show i+1+(List.takeWhile sp r).length=i+((List.takeWhile sp r).length+1) by omega]
   |false=>
    refine lim_brk ?_
    simp only[sp] at hs
    simp only[apL,jC,jD,i_pParser_gap.d1,C.I_i,C.S_s,jY,arr_getD hi',hc,e32,hs]
    simp[his]
def gp (s:Str) (i:Nat):Nat:=i+((s.data.toList.drop i).takeWhile sp).length
omit hl in
theorem gp_drop (i:Nat):s.data.toList.drop (gp s i)=(s.data.toList.drop i).dropWhile sp:=by
 rw[gp,←List.drop_drop,drop_run]
omit hl in
theorem gp_le {i:Nat} (hi:i≤s.data.toList.length):gp s i≤s.data.toList.length:=by
 have:=run_len sp (s.data.toList.drop i)
 rw[List.length_drop] at this
 unfold gp;omega
theorem i_gap (i:Nat) (ok:Bool) (hi:i≤s.data.toList.length):i_pParser_gap [.s s,.i i,.b ok]=some [.s s,.i (gp s i:Nat),.b ok]:=by
 simp only[i_pParser_gap,i_pParser_gap.d3,apL,jC,jD,i_gap_eq hl _ i ok (Nat.le_refl _) hi]
 simp[i_pParser_gap.d2,gp]
theorem i_take (c:UInt8) (hc:lett c=false) (hc2:c≠32) (i:Nat) (ok:Bool) (hi:i≤s.data.toList.length):∃i',i'≤s.data.toList.length∧∃b,i_pParser_take [.i (c.toNat:Nat),.s s,.i i,.b ok]=some [.b b,.s s,.i (i':Nat),.b ok]∧
  match lexT (s.data.toList.drop i) with
  |[]=>b=false∧lexT (s.data.toList.drop i')=[]
  |x::r=>if x=[c] then b=true∧lexT (s.data.toList.drop i')=r else b=false∧lexT (s.data.toList.drop i')=x::r:=by
 have hg:=gp_drop (s:=s) i
 have hle:=gp_le hi
 have hlex:=lexT_gap (s.data.toList.drop i)
 simp only[i_pParser_take,i_pParser_take.d1,apL,jC,jD,i_gap hl i ok hi,call3,jI,C.I_i,C.S_s,jY]
 rw[←hlex]
 cases hd:(s.data.toList.drop i).dropWhile sp with
 |nil=>
  rw[hd] at hg
  have:s.data.toList.length≤gp s i:=by simpa using hg
  have e:gp s i=s.size:=by rw[sz_list];omega
  refine ⟨gp s i,hle,false,by simp[e],?_⟩
  rw[hg]
  simp[lexT]
 |cons x r=>
  rw[hd] at hg
  obtain ⟨hi',hx,hr⟩:=drop_cons hg
  have his:gp s i<s.size:=by rw[sz_list];exact hi'
  have hw:=w1 his (show s.size<big by simp only[big];omega)
  have hne:=gap_head hd
  simp only[arr_getD hi',hx,bn x c _ rfl,hw]
  by_cases he:x=c
  ·subst he
   refine ⟨gp s i+1,by omega,true,by simp[his],?_⟩
   rw[lexT.eq_2,if_neg hne,if_neg (by rw[hc];simp),hr]
   simp
  ·have hb:(x==c)=false:=by rw[beq_eq_false_iff_ne];exact he
   refine ⟨gp s i,hle,false,by simp[his,hb],?_⟩
   rw[hg]
   have hneq:∀y r',lexT (x::r)=y::r'→y≠[c]:=by
    intro y r' h1 h2
    subst h2
    rw[lexT.eq_2,if_neg hne] at h1
    split at h1
    ·simp at h1;exact he h1.1.1
    ·simp at h1;exact he h1.1
   have hnn:lexT (x::r)≠[]:=by
    rw[lexT.eq_2,if_neg hne];split<;>simp
   cases hq:lexT (x::r) with
   |nil=>exact absurd hq hnn
   |cons y r'=>
    simp only
    rw[if_neg (hneq y r' hq)]
    exact ⟨trivial,trivial⟩
theorem i_run (o:Nat) (ok:Bool):∀(k i:Nat),s.data.toList.length-i≤k→i≤s.data.toList.length→
  lim (ap4 i_pParser_name.d1) [.i o,.s s,.i i,.b ok]=some (.brk 0 [.i o,.s s,.i (i+((s.data.toList.drop i).takeWhile lett).length:Nat),.b ok])
 |k,i,hk,hi=>by
  cases hd:s.data.toList.drop i with
  |nil=>
   have:s.data.toList.length≤i:=by simpa using hd
   have e:i=s.size:=by rw[sz_list];omega
   refine lim_brk ?_
   simp[i_pParser_name.d1,e]
  |cons c r=>
   obtain ⟨hi',hc,hr⟩:=drop_cons hd
   have his:i<s.size:=by rw[sz_list];exact hi'
   obtain ⟨k,rfl⟩:∃k',k=k'+1:=⟨k-1,by omega⟩
   have hw:=w1 his (show s.size<big by simp only[big];omega)
   rw[List.takeWhile_cons]
   cases hs:lett c with
   |true=>
    have h:ap4 i_pParser_name.d1 [.i o,.s s,.i i,.b ok]=some (.again [.i o,.s s,.i (i+1:Nat),.b ok]):=by
     simp only[lett] at hs
     simp only[apL,jC,jD,i_pParser_name.d1,C.I_i,C.S_s,jY,arr_getD hi',hc,i_pByte_eq,hs,hw,call1]
     simp[his]
    rw[lim_again h,i_run o ok k (i+1) (by omega) (by omega),hr]
    simp only[if_true,List.length_cons]
    rw[show i+1+(List.takeWhile lett r).length=i+((List.takeWhile lett r).length+1) by omega]
   |false=>
    refine lim_brk ?_
    simp only[lett] at hs
    simp only[apL,jC,jD,i_pParser_name.d1,C.I_i,C.S_s,jY,arr_getD hi',hc,i_pByte_eq,hs,call1]
    simp[his]
theorem i_name (i:Nat) (ok:Bool) (hi:i≤s.data.toList.length):∃i',i'≤s.data.toList.length∧∃z b,i_pParser_name [.s s,.i i,.b ok]=some [.s z,.s s,.i (i':Nat),.b b]∧
  match lexT (s.data.toList.drop i) with
  |[]=>b=false
  |x::r=>if nameOk (mkS x)=true then b=ok∧z=mkS x∧lexT (s.data.toList.drop i')=r else b=false:=by
 have hg:=gp_drop (s:=s) i
 have hle:=gp_le hi
 have hlex:=lexT_gap (s.data.toList.drop i)
 have hrun:=i_run hl (gp s i) ok _ (gp s i) (Nat.le_refl _) hle
 rw[hg] at hrun
 have hlen:=run_len lett ((s.data.toList.drop i).dropWhile sp)
 rw[←hg,List.length_drop] at hlen
 rw[hg] at hlen
 have hext:s.extract (gp s i) (gp s i+(((s.data.toList.drop i).dropWhile sp).takeWhile lett).length)=mkS (((s.data.toList.drop i).dropWhile sp).takeWhile lett):=by
  rw[ext_mkS,part_drop,hg,take_run]
 have hsz:(mkS (((s.data.toList.drop i).dropWhile sp).takeWhile lett)).size≤1048576:=by
  rw[mkS_size];rw[sz_list] at hl;omega
 have hres:i_pParser_name [.s s,.i i,.b ok]=some [.s (mkS (((s.data.toList.drop i).dropWhile sp).takeWhile lett)),.s s,.i (gp s i+(((s.data.toList.drop i).dropWhile sp).takeWhile lett).length:Nat),.b (nameOk (mkS (((s.data.toList.drop i).dropWhile sp).takeWhile lett))&&ok)]:=by
  have e1:gp s i+(((s.data.toList.drop i).dropWhile sp).takeWhile lett).length≤s.size:=by rw[sz_list];omega
  have e2:(gp s i:Int)≤((gp s i+(((s.data.toList.drop i).dropWhile sp).takeWhile lett).length:Nat):Int):=by omega
  have e3:((gp s i+(((s.data.toList.drop i).dropWhile sp).takeWhile lett).length:Nat):Int)≤(s.size:Int):=by omega
  simp only[i_pParser_name,i_pParser_name.d3,apL,jC,jD,i_gap hl i ok hi,call3,jI,hrun,bindBlk_self]
  simp only[i_pParser_name.d2,C.I_i,C.S_s,jY,hext,jX,e2,e3,decide_true,jR,i_pName_eq _ hsz,call1,jI,jC,C.B_b]
  cases nameOk (mkS (((s.data.toList.drop i).dropWhile sp).takeWhile lett))<;>rfl
 refine ⟨_,by omega,_,_,hres,?_⟩
 rw[←hlex,←List.drop_drop,hg,drop_run]
 have hnil:nameOk (mkS [])=false:=rfl
 cases hd:(s.data.toList.drop i).dropWhile sp with
 |nil=>simp[lexT,hnil]
 |cons x r=>
  have hne:=gap_head hd
  rw[lexT.eq_2,if_neg hne]
  cases hs:lett x with
  |true=>
   rw[if_pos rfl,List.takeWhile_cons,hs,List.dropWhile_cons,hs]
   simp only[if_true]
   cases nameOk (mkS (x::List.takeWhile lett r))<;>simp
  |false=>
   rw[if_neg (by simp),List.takeWhile_cons,hs]
   have h1:nameOk (mkS [x])=false:=by simp[nameOk,mkS_data,hs]
   simp[h1,hnil]
end
end Go.Ev
namespace Go.Ev
def Tr.enc:Tr→C
 |.lf k n v=>.p [.i (k:Nat),.s (mkS n),.s (mkS v),.l []]
 |.un t=>.p [.i 3,.s (mkS []),.s (mkS []),.l [[t.enc]]]
 |.bn k a b=>.p [.i (k:Nat),.s (mkS []),.s (mkS []),.l [[a.enc],[b.enc]]]
def IRes (s:Str) (n:Nat) (p:Option (Tr×List Tok)) (c:C) (i':Nat) (ok:Bool):Prop:=
 i'≤s.data.toList.length∧match p with
  |some (t,r)=>ok=true∧c=t.enc∧lexT (s.data.toList.drop i')=r∧r.length<n
  |none=>ok=false
def IP (s:Str) (G:List C→Option (List C)) (f:List Tok→Option (Tr×List Tok)) (i:Nat):Prop:=
 ∃c i' ok,G [.s s,.i i,.b true]=some [c,.s s,.i (i':Nat),.b ok]∧IRes s (lexT (s.data.toList.drop i)).length (f (lexT (s.data.toList.drop i))) c i' ok
section
variable {s:Str} (hl:s.size≤1048576)
include hl
theorem i_loop (G:List C→Option (List C)) (f:List Tok→Option (Tr×List Tok)) (op:UInt8) (kd:Nat) (body:C→C→C→C→R) (lo:Nat) (h1:lett op=false) (h2:op≠32)
  (hb:∀a b c d,body a b c d=(bif d.B then (call4 (i_pParser_take [.i (op.toNat:Nat),b,c,d]) fun e f g h=>(bif e.B then (call4 (G [f,g,h]) fun i j k l=>(some (.again [.p [.i (kd:Nat),.s (bs #[]),.s (bs #[]),.l (rows [[a],[i]])],j,k,l]))) else (some (.brk 0 [a,f,g,h])))) else (some (.brk 0 [a,b,c,d]))))
  (hG:∀i,i≤s.data.toList.length→(lexT (s.data.toList.drop i)).length≤lo→IP s G f i):
  ∀(m i:Nat) (t:Tr),(lexT (s.data.toList.drop i)).length≤m→(lexT (s.data.toList.drop i)).length≤lo+1→i≤s.data.toList.length→
   ∃c i' ok,lim (ap4 body) [t.enc,.s s,.i i,.b true]=some (.brk 0 [c,.s s,.i (i':Nat),.b ok])∧i'≤s.data.toList.length∧
    match opL f [op] kd m t (lexT (s.data.toList.drop i)) with
     |some (u,r)=>ok=true∧c=u.enc∧lexT (s.data.toList.drop i')=r∧r.length≤(lexT (s.data.toList.drop i)).length
     |none=>ok=false
 |m,i,t,hm,hlo,hi=>by
  obtain ⟨i',hi',b,ht,hm2⟩:=i_take hl op h1 h2 i true hi
  have hstep:ap4 body [t.enc,.s s,.i i,.b true]=(bif b then (call4 (G [.s s,.i (i':Nat),.b true]) fun i j k l=>(some (.again [.p [.i (kd:Nat),.s (mkS []),.s (mkS []),.l [[t.enc],[i]]],j,k,l]))) else (some (.brk 0 [t.enc,.s s,.i (i':Nat),.b true]))):=by
   simp only[apL,jC,jD,hb,C.B_b,jR,ht,call4,jI,bs_nil,rows]
  cases hd:lexT (s.data.toList.drop i) with
  |nil=>
   rw[hd] at hm2
   simp only at hm2
   obtain ⟨rfl,hm3⟩:=hm2
   refine ⟨t.enc,i',true,lim_brk hstep,hi',?_⟩
   cases m<;>simp[opL,hm3]
  |cons x r=>
   rw[hd] at hm2 hm hlo
   simp only[List.length_cons] at hm hlo
   obtain ⟨m,rfl⟩:∃m',m=m'+1:=⟨m-1,by omega⟩
   by_cases he:x=[op]
   ·simp only[if_pos he] at hm2
    obtain ⟨rfl,hm3⟩:=hm2
    obtain ⟨c,i2,ok,hg,q1,q2⟩:=hG i' hi' (by rw[hm3];omega)
    rw[hm3] at q2
    simp only[jR,hg,call4,jI,jC,jD] at hstep
    rw[lim_again hstep]
    simp only[opL,if_pos he]
    cases hf:f r with
    |none=>
     rw[hf] at q2
     simp only at q2
     subst q2
     exact ⟨.p [.i (kd:Nat),.s (mkS []),.s (mkS []),.l [[t.enc],[c]]],i2,false,lim_brk (by simp only[apL,jC,jD,hb,C.B_b,jS]),q1,rfl⟩
    |some p=>
     obtain ⟨u,r'⟩:=p
     rw[hf] at q2
     obtain ⟨rfl,rfl,q3,q4⟩:=q2
     obtain ⟨c3,i3,ok3,p1,p2,p3⟩:=i_loop G f op kd body lo h1 h2 hb hG m i2 (.bn kd t u) (by rw[q3];omega) (by rw[q3];omega) q1
     refine ⟨c3,i3,ok3,p1,p2,?_⟩
     rw[q3] at p3
     simp only
     cases ho:opL f [op] kd m (.bn kd t u) r' with
     |none=>rw[ho] at p3;exact p3
     |some z=>
      rw[ho] at p3
      exact ⟨p3.1,p3.2.1,p3.2.2.1,by simp only[List.length_cons];have:=p3.2.2.2;omega⟩
   ·simp only[if_neg he] at hm2
    obtain ⟨rfl,hm3⟩:=hm2
    refine ⟨t.enc,i',true,lim_brk hstep,hi',?_⟩
    simp[opL,he,hm3]
theorem i_ops (G:List C→Option (List C)) (f:List Tok→Option (Tr×List Tok)) (op:UInt8) (kd:Nat) (body:C→C→C→C→R) (d2:C→C→C→C→R) (i:Nat) (hi:i≤s.data.toList.length) (h1:lett op=false) (h2:op≠32)
  (hb:∀a b c d,body a b c d=(bif d.B then (call4 (i_pParser_take [.i (op.toNat:Nat),b,c,d]) fun e f g h=>(bif e.B then (call4 (G [f,g,h]) fun i j k l=>(some (.again [.p [.i (kd:Nat),.s (bs #[]),.s (bs #[]),.l (rows [[a],[i]])],j,k,l]))) else (some (.brk 0 [a,f,g,h])))) else (some (.brk 0 [a,b,c,d]))))
  (h3:∀a b c d,d2 a b c d=some (.ret [a,b,c,d])) (hG:∀i2,i2≤s.data.toList.length→(lexT (s.data.toList.drop i2)).length≤(lexT (s.data.toList.drop i)).length→IP s G f i2):
  ∃c i' ok,finR (call4 (G [.s s,.i i,.b true]) fun d e f g=>(bindBlk 0 (lim (ap4 body) [d,e,f,g]) (ap4 d2)))=some [c,.s s,.i (i':Nat),.b ok]∧
   IRes s (lexT (s.data.toList.drop i)).length (match f (lexT (s.data.toList.drop i)) with
   |none=>none
   |some (t,r)=>opL f [op] kd r.length t r) c i' ok:=by
 obtain ⟨c,i',ok,hg,q1,q2⟩:=hG i hi (Nat.le_refl _)
 rw[hg]
 simp only[call4,jI,jC,jD]
 cases hf:f (lexT (s.data.toList.drop i)) with
 |none=>
  rw[hf] at q2
  simp only at q2
  subst q2
  refine ⟨c,i',false,?_,q1,rfl⟩
  rw[lim_brk (ys:=[c,.s s,.i (i':Nat),.b false]) (i:=0) (by simp[hb])]
  simp[h3]
 |some p=>
  obtain ⟨t,r⟩:=p
  rw[hf] at q2
  obtain ⟨rfl,rfl,q3,q4⟩:=q2
  obtain ⟨c2,i2,ok2,p1,p2,p3⟩:=i_loop hl G f op kd body (lexT (s.data.toList.drop i)).length h1 h2 hb hG r.length i' t (by rw[q3];omega) (by rw[q3];omega) q1
  rw[p1]
  rw[q3] at p3
  have hres:IRes s (lexT (s.data.toList.drop i)).length (opL f [op] kd r.length t r) c2 i2 ok2:=by
   refine ⟨p2,?_⟩
   cases ho:opL f [op] kd r.length t r with
   |none=>rw[ho] at p3;exact p3
   |some z=>
    rw[ho] at p3
    exact ⟨p3.1,p3.2.1,p3.2.2.1,by have:=p3.2.2.2;omega⟩
  exact ⟨c2,i2,ok2,by simp[h3],hres⟩
theorem i_prs:∀(j c k i:Nat),c≤2→i≤s.data.toList.length→3*(lexT (s.data.toList.drop i)).length+(3-c)≤j→j≤k→IP s (i_pParser_or.g k c) (prs j c) i
 |0,c,k,i,hc,hi,hj,hk=>by omega
 |j+1,c,k,i,hc,hi,hj,hk=>by
  obtain ⟨k,rfl⟩:∃k',k=k'+1:=⟨k-1,by omega⟩
  have ih:=i_prs j
  rcases (show c=0∨c=1∨c=2 by omega) with rfl|rfl|rfl
  ·obtain ⟨c,i',ok,h1,h2⟩:=i_ops hl (i_pParser_or.g k 1) (prs j 1) 124 5 (i_pParser_or.d1 (i_pParser_or.g k 0) (i_pParser_or.g k 1) (i_pParser_or.g k 2)) (i_pParser_or.d2 (i_pParser_or.g k 0) (i_pParser_or.g k 1) (i_pParser_or.g k 2)) i hi rfl (by decide)
    (fun _ _ _ _=>rfl) (fun _ _ _ _=>rfl) (fun b h1 h2=>ih 1 k b (by omega) h1 (by omega) (by omega))
   exact ⟨c,i',ok,h1,h2⟩
  ·obtain ⟨c,i',ok,h1,h2⟩:=i_ops hl (i_pParser_or.g k 2) (prs j 2) 38 4 (i_pParser_and.d1 (i_pParser_or.g k 0) (i_pParser_or.g k 1) (i_pParser_or.g k 2)) (i_pParser_and.d2 (i_pParser_or.g k 0) (i_pParser_or.g k 1) (i_pParser_or.g k 2)) i hi rfl (by decide)
    (fun _ _ _ _=>rfl) (fun _ _ _ _=>rfl) (fun b h1 h2=>ih 2 k b (by omega) h1 (by omega) (by omega))
   exact ⟨c,i',ok,h1,h2⟩
  ·have hstep:i_pParser_or.g (k+1) 2 [.s s,.i i,.b true]=finR (i_pParser_not.d1 (i_pParser_or.g k 0) (i_pParser_or.g k 1) (i_pParser_or.g k 2) (.s s) (.i i) (.b true)):=rfl
   unfold IP
   rw[hstep]
   obtain ⟨i1,hi1,b1,ht1,hm1⟩:=i_take hl 33 rfl (by decide) i true hi
   have ht1:i_pParser_take [.i 33,.s s,.i i,.b true]=_:=ht1
   simp only[i_pParser_not.d1,C.B_b,jZ,jS,ht1,call4,jI,jC,jD]
   cases hd:lexT (s.data.toList.drop i) with
   |nil=>
    rw[hd] at hm1
    simp only at hm1
    obtain ⟨rfl,hm1⟩:=hm1
    obtain ⟨i2,hi2,b2,ht2,hm2⟩:=i_take hl 40 rfl (by decide) i1 true hi1
    have ht2:i_pParser_take [.i 40,.s s,.i i1,.b true]=_:=ht2
    rw[hm1] at hm2
    simp only at hm2
    obtain ⟨rfl,hm2⟩:=hm2
    obtain ⟨i3,hi3,z,b3,hn3,hm3⟩:=i_name hl i2 true hi2
    rw[hm2] at hm3
    simp only at hm3
    subst hm3
    simp only[jS,ht2,hn3,jI,jC,jD,C.B_b,jV]
    exact ⟨_,_,_,rfl,hi3,by simp[prs]⟩
   |cons x r=>
    rw[hd] at hm1 hj
    simp only[List.length_cons] at hj
    by_cases x33:x=[33]
    ·simp only[if_pos x33] at hm1
     obtain ⟨rfl,hm1⟩:=hm1
     obtain ⟨c,i2,ok,hg,q1,q2⟩:=ih 2 k i1 (by omega) hi1 (by rw[hm1];omega) (by omega)
     rw[hm1] at q2
     simp only[jR,hg,jI,jC,jD,rows,bs_nil,jV]
     refine ⟨_,_,_,rfl,q1,?_⟩
     simp only[prs,x33,if_true]
     cases hf:prs j 2 r with
     |none=>rw[hf] at q2;exact q2
     |some p=>
      rw[hf] at q2
      obtain ⟨rfl,rfl,q3,q4⟩:=q2
      exact ⟨rfl,rfl,q3,by simp only[List.length_cons];omega⟩
    simp only[if_neg x33] at hm1
    obtain ⟨rfl,hm1⟩:=hm1
    obtain ⟨i2,hi2,b2,ht2,hm2⟩:=i_take hl 40 rfl (by decide) i1 true hi1
    have ht2:i_pParser_take [.i 40,.s s,.i i1,.b true]=_:=ht2
    rw[hm1] at hm2
    simp only at hm2
    simp only[jS,ht2,jI,jC,jD,C.B_b]
    by_cases x40:x=[40]
    ·simp only[if_pos x40] at hm2
     obtain ⟨rfl,hm2⟩:=hm2
     obtain ⟨c,i3,ok,hg,q1,q2⟩:=ih 0 k i2 (by omega) hi2 (by rw[hm2];omega) (by omega)
     rw[hm2] at q2
     have hp:prs (j+1) 2 (x::r)=match prs j 0 r with
       |some (t,y::r')=>if y=[41] then some (t,r') else none
       |_=>none:=by
      simp only[prs,if_neg x33,if_pos x40]<;>rcases prs j 0 r with _|⟨t,_|⟨y,r'⟩⟩<;>rfl
     rw[hp]
     simp only[jR,hg,jI,jC,jD,C.B_b]
     cases hf:prs j 0 r with
     |none=>
      rw[hf] at q2
      simp only at q2
      subst q2
      simp only[jS,jV]
      exact ⟨_,_,_,rfl,q1,rfl⟩
     |some p=>
      obtain ⟨t,z⟩:=p
      rw[hf] at q2
      obtain ⟨rfl,rfl,q3,q4⟩:=q2
      obtain ⟨i4,hi4,b4,ht4,hm4⟩:=i_take hl 41 rfl (by decide) i3 true q1
      have ht4:i_pParser_take [.i 41,.s s,.i i3,.b true]=_:=ht4
      rw[q3] at hm4
      simp only[jR,ht4,jI,jC,jD,C.B_b,jV]
      refine ⟨_,_,_,rfl,hi4,?_⟩
      cases z with
      |nil=>exact hm4.1
      |cons y r'=>
       simp only at hm4⊢
       by_cases y41:y=[41]
       ·simp only[if_pos y41] at hm4⊢
        simp only[List.length_cons] at q4⊢
        exact ⟨hm4.1,trivial,hm4.2,by omega⟩
       ·simp only[if_neg y41] at hm4⊢
        exact hm4.1
    simp only[if_neg x40] at hm2
    obtain ⟨rfl,hm2⟩:=hm2
    obtain ⟨i3,hi3,z,b3,hn3,hm3⟩:=i_name hl i2 true hi2
    rw[hm2] at hm3
    simp only at hm3
    simp only[jS,hn3,jI,jC,jD,C.B_b]
    cases hn:nameOk (mkS x) with
    |false=>
     rw[hn] at hm3
     simp only[Bool.false_eq_true,if_false] at hm3
     subst hm3
     simp only[jS,jV]
     exact ⟨_,_,_,rfl,hi3,by simp[prs,x33,x40,hn]⟩
    |true=>
     rw[hn] at hm3
     simp only[if_true] at hm3
     obtain ⟨rfl,rfl,hm3⟩:=hm3
     obtain ⟨i4,hi4,b4,ht4,hm4⟩:=i_take hl 61 rfl (by decide) i3 true hi3
     have ht4:i_pParser_take [.i 61,.s s,.i i3,.b true]=_:=ht4
     rw[hm3] at hm4
     simp only[jR,ht4,jI,jC,jD,C.B_b]
     cases r with
     |nil=>
      simp only at hm4
      obtain ⟨rfl,hm4⟩:=hm4
      simp only[jS,rows,nils,bs_nil,jV]
      refine ⟨_,_,_,rfl,hi4,?_⟩
      simp only[prs,if_neg x33,if_neg x40,hn,if_true]
      exact ⟨trivial,rfl,hm4,by simp⟩
     |cons y r'=>
      simp only at hm4
      by_cases y61:y=[61]
      ·simp only[if_pos y61] at hm4
       obtain ⟨rfl,hm4⟩:=hm4
       obtain ⟨i5,hi5,z5,b5,hn5,hm5⟩:=i_name hl i4 true hi4
       rw[hm4] at hm5
       simp only[jR,hn5,jI,jC,jD,rows,nils,jV]
       refine ⟨_,_,_,rfl,hi5,?_⟩
       cases r' with
       |nil=>
        simp only at hm5
        subst hm5
        simp[prs,x33,x40,hn,y61]
       |cons v r''=>
        simp only at hm5
        cases hv:nameOk (mkS v) with
        |false=>
         rw[hv] at hm5
         simp only[Bool.false_eq_true,if_false] at hm5
         subst hm5
         simp[prs,x33,x40,hn,y61,hv]
        |true=>
         rw[hv] at hm5
         simp only[if_true] at hm5
         obtain ⟨rfl,rfl,hm5⟩:=hm5
         simp only[prs,if_neg x33,if_neg x40,hn,if_true,y61,hv]
         exact ⟨trivial,rfl,hm5,by simp only[List.length_cons];omega⟩
      ·simp only[if_neg y61] at hm4
       obtain ⟨rfl,hm4⟩:=hm4
       simp only[jS,rows,nils,bs_nil,jV]
       refine ⟨_,_,_,rfl,hi4,?_⟩
       simp only[prs,if_neg x33,if_neg x40,hn,if_true,if_neg y61]
       exact ⟨trivial,rfl,hm4,by simp⟩
end
end Go.Ev
namespace Go.Ev
def Tr.Wf:Tr→Prop
 |.lf k n v=>nameOk (mkS n)=true∧((k=1∧v=[])∨(k=2∧nameOk (mkS v)=true))
 |.un t=>t.Wf
 |.bn k a b=>(k=4∨k=5)∧a.Wf∧b.Wf
def Tr.sz:Tr→Nat
 |.lf _ _ _=>1
 |.un t=>t.sz+1
 |.bn _ a b=>a.sz+b.sz+1
def Tr.depth:Tr→Nat
 |.lf _ _ _=>0
 |.un t=>t.depth+1
 |.bn _ a b=>max a.depth b.depth+1
theorem Tr.sz_pos:∀t:Tr,0<t.sz
 |.lf _ _ _=>by simp[Tr.sz]
 |.un t=>by simp[Tr.sz]
 |.bn _ a b=>by simp[Tr.sz]
theorem Tr.depth_lt:∀t:Tr,t.depth<t.sz
 |.lf _ _ _=>by simp[Tr.sz,Tr.depth]
 |.un t=>by have:=t.depth_lt;simp[Tr.sz,Tr.depth];exact this
 |.bn _ a b=>by have:=a.depth_lt;have:=b.depth_lt;simp only[Tr.sz,Tr.depth];omega
theorem Tr.flat_len:∀t:Tr,t.flat.length=t.sz
 |.lf _ _ _=>rfl
 |.un t=>by simp[Tr.flat,Tr.sz,t.flat_len]
 |.bn _ a b=>by simp[Tr.flat,Tr.sz,a.flat_len,b.flat_len];omega
def okTok (x:Tok):Prop:=nameOk (mkS x)=true∨x=[33]∨x=[40]∨x=[41]∨x=[61]∨x=[124]∨x=[38]
def Pre (l:List Tok) (t:Tr) (r:List Tok):Prop:=∃p,l=p++r∧(∀x,x∈p→okTok x)∧t.sz≤p.length∧t.Wf
theorem opL_wf (f:List Tok→Option (Tr×List Tok)) (op:Tok) (kd:Nat) (hop:okTok op) (hk:kd=4∨kd=5) (hf:∀l t r,f l=some (t,r)→Pre l t r):∀(m:Nat) (t:Tr) (l:List Tok) (u:Tr) (r l0:List Tok),
  Pre l0 t l→opL f op kd m t l=some (u,r)→Pre l0 u r
 |0,t,l,u,r,l0,h0,h=>by
  simp only[opL,Option.some.injEq,Prod.mk.injEq] at h
  obtain ⟨rfl,rfl⟩:=h;exact h0
 |m+1,t,[],u,r,l0,h0,h=>by
  simp only[opL,Option.some.injEq,Prod.mk.injEq] at h
  obtain ⟨rfl,rfl⟩:=h;exact h0
 |m+1,t,x::l,u,r,l0,h0,h=>by
  simp only[opL] at h
  split at h
  ·rename_i hx
   split at h
   ·simp at h
   ·rename_i t' r'' hq
    refine opL_wf f op kd hop hk hf m _ _ u r l0 ?_ h
    obtain ⟨p,rfl,q2,q3,q4⟩:=h0
    obtain ⟨p',rfl,q2',q3',q4'⟩:=hf _ _ _ hq
    refine ⟨p++x::p',by simp,fun y hy=>?_,by simp[Tr.sz];omega,hk,q4,q4'⟩
    rcases List.mem_append.1 hy with hy|hy
    ·exact q2 y hy
    ·rcases List.mem_cons.1 hy with rfl|hy
     ·rw[hx];exact hop
     ·exact q2' y hy
  ·simp only[Option.some.injEq,Prod.mk.injEq] at h
   obtain ⟨rfl,rfl⟩:=h;exact h0
theorem prs_wf:∀(j c:Nat) (l:List Tok) (t:Tr) (r:List Tok),prs j c l=some (t,r)→Pre l t r
 |0,c,l,t,r,h=>by simp[prs] at h
 |j+1,0,l,t,r,h=>by
  simp only[prs] at h
  split at h
  ·simp at h
  ·rename_i t' r' hq
   exact opL_wf (prs j 1) [124] 5 (by simp[okTok]) (.inr rfl) (fun l t r=>prs_wf j 1 l t r) _ _ _ _ _ l (prs_wf j 1 _ _ _ hq) h
 |j+1,1,l,t,r,h=>by
  simp only[prs] at h
  split at h
  ·simp at h
  ·rename_i t' r' hq
   exact opL_wf (prs j 2) [38] 4 (by simp[okTok]) (.inl rfl) (fun l t r=>prs_wf j 2 l t r) _ _ _ _ _ l (prs_wf j 2 _ _ _ hq) h
 |j+1,c+2,[],t,r,h=>by simp[prs] at h
 |j+1,c+2,x::l,t,r,h=>by
  simp only[prs] at h
  split at h
  ·rename_i hx
   split at h
   ·simp at h
   ·rename_i t' r' hq
    simp only[Option.some.injEq,Prod.mk.injEq] at h
    obtain ⟨rfl,rfl⟩:=h
    obtain ⟨p,rfl,q2,q3,q4⟩:=prs_wf j 2 _ _ _ hq
    refine ⟨x::p,rfl,fun y hy=>?_,by simp[Tr.sz];omega,q4⟩
    rcases List.mem_cons.1 hy with rfl|hy
    ·rw[hx];simp[okTok]
    ·exact q2 y hy
  ·split at h
   ·rename_i hx
    split at h
    ·rename_i t' y r' hq
     split at h
     ·rename_i hy41
      simp only[Option.some.injEq,Prod.mk.injEq] at h
      obtain ⟨rfl,rfl⟩:=h
      obtain ⟨p,hp,q2,q3,q4⟩:=prs_wf j 0 _ _ _ hq
      refine ⟨x::(p++[y]),by rw[hp];simp,fun z hz=>?_,by simp;omega,q4⟩
      rcases List.mem_cons.1 hz with rfl|hz
      ·rw[hx];simp[okTok]
      ·rcases List.mem_append.1 hz with hz|hz
       ·exact q2 z hz
       ·simp at hz;subst hz;rw[hy41];simp[okTok]
     ·simp at h
    ·simp at h
   ·split at h
    ·rename_i hn
     split at h
     ·rename_i y r'
      split at h
      ·rename_i hy61
       split at h
       ·rename_i v r''
        split at h
        ·rename_i hv
         simp only[Option.some.injEq,Prod.mk.injEq] at h
         obtain ⟨rfl,rfl⟩:=h
         refine ⟨[x,y,v],rfl,fun z hz=>?_,by simp[Tr.sz],hn,.inr ⟨rfl,hv⟩⟩
         simp at hz
         rcases hz with rfl|rfl|rfl
         ·exact .inl hn
         ·rw[hy61];simp[okTok]
         ·exact .inl hv
        ·simp at h
       ·simp at h
      ·simp only[Option.some.injEq,Prod.mk.injEq] at h
       obtain ⟨rfl,rfl⟩:=h
       refine ⟨[x],rfl,fun z hz=>?_,by simp[Tr.sz],hn,.inl ⟨rfl,rfl⟩⟩
       simp at hz;subst hz;exact .inl hn
     ·simp only[Option.some.injEq,Prod.mk.injEq] at h
      obtain ⟨rfl,rfl⟩:=h
      refine ⟨[x],rfl,fun z hz=>?_,by simp[Tr.sz],hn,.inl ⟨rfl,rfl⟩⟩
      simp at hz;subst hz;exact .inl hn
    ·simp at h
theorem legal_run:∀r:List UInt8,r.all legal=(r.dropWhile lett).all legal
 |[]=>rfl
 |x::r=>by
  rw[List.dropWhile_cons]
  cases hx:lett x with
  |true=>simp only[if_true,List.all_cons];rw[legal_run r];simp[legal,hx]
  |false=>simp
theorem lex_legal:∀(n:Nat) (l:List UInt8),l.length≤n→(∀x,x∈lexT l→okTok x)→l.all legal=true
 |n,[],hn,h=>rfl
 |0,c::r,hn,h=>by simp at hn
 |n+1,c::r,hn,h=>by
  simp only[List.length_cons] at hn
  rw[lexT.eq_2] at h
  split at h
  ·rename_i h32
   subst h32
   have:=lex_legal n r (by omega) h
   simp[legal] at this⊢
   exact this
  ·rename_i h32
   split at h
   ·rename_i hc
    have hdl:=(List.dropWhile_suffix (l:=r) lett).length_le
    have:=lex_legal n (r.dropWhile lett) (by omega) fun x hx=>h x (by simp[hx])
    rw[List.all_cons,legal_run r,this]
    simp[legal,hc]
   ·rename_i hc
    have h1:=h [c] (by simp)
    have:=lex_legal n r (by omega) fun x hx=>h x (by simp[hx])
    rw[List.all_cons,this]
    have hn1:nameOk (mkS [c])=false:=by simp[nameOk,mkS_data,hc]
    rcases h1 with h1|h1|h1|h1|h1|h1|h1
    ·rw[hn1] at h1;simp at h1
    all_goals (simp at h1;subst h1;rfl)
theorem lex_len:∀(n:Nat) (l:List UInt8),l.length≤n→(lexT l).length≤l.length∧∀x,x∈lexT l→x.length≤l.length
 |n,[],hn=>by simp[lexT]
 |0,c::r,hn=>by simp at hn
 |n+1,c::r,hn=>by
  simp only[List.length_cons] at hn⊢
  rw[lexT.eq_2]
  split
  ·obtain ⟨h1,h2⟩:=lex_len n r (by omega)
   exact ⟨by omega,fun x hx=>by have:=h2 x hx;omega⟩
  ·split
   ·have hdl:=(List.dropWhile_suffix (l:=r) lett).length_le
    have htl:=run_len lett r
    obtain ⟨h1,h2⟩:=lex_len n (r.dropWhile lett) (by omega)
    refine ⟨by simp;omega,fun x hx=>?_⟩
    rcases List.mem_cons.1 hx with rfl|hx
    ·simp;omega
    ·have:=h2 x hx;omega
   ·obtain ⟨h1,h2⟩:=lex_len n r (by omega)
    refine ⟨by simp;omega,fun x hx=>?_⟩
    rcases List.mem_cons.1 hx with rfl|hx
    ·simp
    ·have:=h2 x hx;omega
end Go.Ev
namespace Go.Ev
theorem w64n {n:Nat} (h:n<big):w64 ((n:Int)+1)=((n+1:Nat):Int):=by
 simp only[big] at h;rw[w64_of (by omega) (by omega)];rfl
theorem i_depth:∀(k:Nat) (t:Tr),t.depth<k→t.depth<big→i_pSel_depth.g k 0 [t.enc]=some [.i (t.depth:Nat)]
 |0,t,h,_=>by omega
 |k+1,t,h,hb=>by
  have hs:∀x,i_pSel_depth.g (k+1) 0 x=i_pSel_depth.step (i_pSel_depth.g k 0) x:=fun _=>rfl
  rw[hs]
  have w0:w64 1=1:=w64_of (by omega) (by omega)
  have w2:w64 2=2:=w64_of (by omega) (by omega)
  cases t with
  |lf kd n v=>
   have h0:ap4 (i_pSel_depth.d1 (i_pSel_depth.g k 0)) [.i 0,.l [],.i 0,.i 0]=some (.brk 0 [.i 0]):=by simp[i_pSel_depth.d1]
   simp only[i_pSel_depth.step,i_pSel_depth.d3,apL,jC,jD,Tr.enc,C.isP_p,jR,C.P_p,C.L_l,List.length_nil,Int.ofNat_zero,Int.natCast_zero]
   rw[lim_brk h0]
   simp[i_pSel_depth.d2,Tr.depth]
  |un t=>
   simp only[Tr.depth] at h hb
   have ih:=i_depth k t (by omega) (by omega)
   have h0:ap4 (i_pSel_depth.d1 (i_pSel_depth.g k 0)) [.i 0,.l [[t.enc]],.i 1,.i 0]=some (.again [.i (t.depth+1:Nat),.l [[t.enc]],.i 1,.i 1]):=by
    have hgt:(((t.depth+1:Nat):Int))>0:=by omega
    simp[i_pSel_depth.d1,ih,call1,w64n (show t.depth<big by omega),w0]
   have h1:ap4 (i_pSel_depth.d1 (i_pSel_depth.g k 0)) [.i (t.depth+1:Nat),.l [[t.enc]],.i 1,.i 1]=some (.brk 0 [.i (t.depth+1:Nat)]):=by simp[i_pSel_depth.d1]
   simp only[i_pSel_depth.step,i_pSel_depth.d3,apL,jC,jD,Tr.enc,C.isP_p,jR,C.P_p,C.L_l,List.length_cons,List.length_nil]
   erw[lim_again h0,lim_brk h1]
   simp[i_pSel_depth.d2,Tr.depth]
  |bn kd a b=>
   simp only[Tr.depth] at h hb
   have iha:=i_depth k a (by omega) (by omega)
   have ihb:=i_depth k b (by omega) (by omega)
   have h0:ap4 (i_pSel_depth.d1 (i_pSel_depth.g k 0)) [.i 0,.l [[a.enc],[b.enc]],.i 2,.i 0]=some (.again [.i (a.depth+1:Nat),.l [[a.enc],[b.enc]],.i 2,.i 1]):=by
    simp[i_pSel_depth.d1,iha,call1,w64n (show a.depth<big by omega),w0]
   have h1:ap4 (i_pSel_depth.d1 (i_pSel_depth.g k 0)) [.i (a.depth+1:Nat),.l [[a.enc],[b.enc]],.i 2,.i 1]=some (.again [.i (max a.depth b.depth+1:Nat),.l [[a.enc],[b.enc]],.i 2,.i 2]):=by
    have e:(1:Int)<2:=by omega
    simp only[apL,jC,jD,i_pSel_depth.d1,C.I_i,C.L_l,e,decide_true,jR,List.length_cons,List.length_nil,Int.toNat_one,ihb,call1,jI,w64n (show b.depth<big by omega)]
    have w2':w64 (1+1)=2:=w2
    rw[w2']
    simp
    split<;>omega
   have h2:ap4 (i_pSel_depth.d1 (i_pSel_depth.g k 0)) [.i (max a.depth b.depth+1:Nat),.l [[a.enc],[b.enc]],.i 2,.i 2]=some (.brk 0 [.i (max a.depth b.depth+1:Nat)]):=by simp[i_pSel_depth.d1]
   simp only[i_pSel_depth.step,i_pSel_depth.d3,apL,jC,jD,Tr.enc,C.isP_p,jR,C.P_p,C.L_l,List.length_cons,List.length_nil]
   erw[lim_again h0,lim_again h1,lim_brk h2]
   simp[i_pSel_depth.d2,Tr.depth]
def Tr.kids:Tr→Nat→List (List C)
 |.lf _ _ _,o=>[[.l []]]
 |.un t,o=>t.kids o++[[.l [[.i (o+t.sz-1:Nat)]]]]
 |.bn _ a b,o=>a.kids o++b.kids (o+a.sz)++[[.l [[.i (o+a.sz-1:Nat)],[.i (o+a.sz+b.sz-1:Nat)]]]]
theorem Tr.kids_len:∀(t:Tr) (o:Nat),(t.kids o).length=t.sz
 |.lf _ _ _,o=>rfl
 |.un t,o=>by simp[Tr.kids,Tr.sz,t.kids_len]
 |.bn _ a b,o=>by simp[Tr.kids,Tr.sz,a.kids_len,b.kids_len];omega
theorem kid_step {N:List (List C)} {o m:Nat} {kd:Nat} {n v:Tok} {out stk:List (List C)} (hN:N.length≤1048576) (ho:o<N.length) (hn:N[o]=node kd n v m) (h1:m≤stk.length) (h2:stk.length≤o) (h3:out.length≤o):
  ap4 s_l1Kids.d1 [.i o,.l N,.l out,.l stk]=some (.again [.i (o+1:Nat),.l N,.l (out++[[.l (stk.drop (stk.length-m))]]),.l (stk.take (stk.length-m)++[[.i (o:Nat)]])]):=by
 have hg:N.getD o []=node kd n v m:=by rw[List.getD_eq_getElem?_getD,List.getElem?_eq_getElem ho,hn];rfl
 have hw:w64 ((stk.length:Int)-(m:Int))=((stk.length-m:Nat):Int):=by rw[w64_of (by omega) (by omega)];omega
 have hw1:=w1 ho (show N.length<big by simp only[big];omega)
 have e1:¬((m:Int)<0):=by omega
 have e2:¬((m:Int)>(stk.length:Int)):=by omega
 have e3:((stk.length-m:Nat):Int)≤(stk.length:Int):=by omega
 have e4:(stk.drop (stk.length-m)).length≤4294967296:=by rw[List.length_drop];omega
 have e5:out.length+1≤4294967296:=by omega
 have e6:(stk.take (stk.length-m)).length+1≤4294967296:=by rw[List.length_take];omega
 simp only[apL,jC,jD,s_l1Kids.d1,C.I_i,C.L_l,jY,hg,node,hw,hw1,List.take_length,List.drop_zero,nils,rows,jB,List.length_nil,List.length_cons,Nat.zero_add,e1,e2,e3,e4,e5,e6,decide_true,decide_false,jR,jS,ja,jX,Int.le_refl]
 simp[ho]
theorem drop_at {α:Type} {N l r:List α} {o:Nat} {x:α} (h:N.drop o=l++x::r):∃h:o+l.length<N.length,N[o+l.length]=x:=by
 have h2:N.drop (o+l.length)=x::r:=by rw[←List.drop_drop,h];simp
 obtain ⟨h3,h4,_⟩:=drop_cons h2
 exact ⟨h3,h4⟩
theorem s_kids {N:List (List C)} (hN:N.length≤1048576):∀(t:Tr) (o:Nat) (out stk r:List (List C)),N.drop o=t.flat++r→stk.length≤o→out.length≤o→
  lim (ap4 s_l1Kids.d1) [.i o,.l N,.l out,.l stk]=lim (ap4 s_l1Kids.d1) [.i (o+t.sz:Nat),.l N,.l (out++t.kids o),.l (stk++[[.i (o+t.sz-1:Nat)]])]
 |.lf kd n v,o,out,stk,r,h,hs,ho=>by
  obtain ⟨h1,h2,_⟩:=drop_cons (show N.drop o=node kd n v 0::r from h)
  rw[lim_again (kid_step hN h1 h2 (Nat.zero_le _) hs ho)]
  simp[Tr.sz,Tr.kids]
 |.un t,o,out,stk,r,h,hs,ho=>by
  have h':N.drop o=t.flat++(node 3 [] [] 1::r):=by rw[h];simp[Tr.flat]
  rw[s_kids hN t o out stk _ h' hs ho]
  obtain ⟨h1,h2⟩:=drop_at h'
  rw[t.flat_len] at h1
  have h2:N[o+t.sz]=node 3 [] [] 1:=by simp only[t.flat_len] at h2;exact h2
  rw[lim_again (kid_step hN h1 h2 (by simp) (by have:=t.sz_pos;simp;omega) (by simp[t.kids_len];omega))]
  have e1:(stk++[[C.i (o+t.sz-1:Nat)]]).length-1=stk.length:=by simp
  rw[e1,List.drop_left',List.take_left']<;>simp[Tr.sz,Tr.kids]
  rfl
 |.bn kd a b,o,out,stk,r,h,hs,ho=>by
  have h':N.drop o=a.flat++(b.flat++(node kd [] [] 2::r)):=by rw[h];simp[Tr.flat]
  have h'':N.drop (o+a.sz)=b.flat++(node kd [] [] 2::r):=by rw[←List.drop_drop,h',←a.flat_len];simp
  have ha:=a.sz_pos
  have hb:=b.sz_pos
  rw[s_kids hN a o out stk _ h' hs ho,s_kids hN b (o+a.sz) _ _ _ h'' (by simp;omega) (by simp[a.kids_len];omega)]
  obtain ⟨h1,h2⟩:=drop_at h''
  rw[b.flat_len] at h1
  have h2:N[o+a.sz+b.sz]=node kd [] [] 2:=by simp only[b.flat_len] at h2;exact h2
  rw[lim_again (kid_step hN h1 h2 (by simp) (by simp;omega) (by simp[a.kids_len,b.kids_len];omega))]
  have e1:(stk++[[C.i (o+a.sz-1:Nat)]]++[[C.i (o+a.sz+b.sz-1:Nat)]]).length-2=stk.length:=by simp
  have e2:stk++[[C.i (o+a.sz-1:Nat)]]++[[C.i (o+a.sz+b.sz-1:Nat)]]=stk++[[C.i (o+a.sz-1:Nat)],[C.i (o+a.sz+b.sz-1:Nat)]]:=by simp
  rw[e1,e2,List.drop_left',List.take_left']
  ·have e3:o+(Tr.bn kd a b).sz=o+a.sz+b.sz+1:=by simp only[Tr.sz];omega
   rw[e3]
   simp[Tr.kids]
  ·rfl
  ·rfl
theorem s_l1Kids_eq (t:Tr) (ht:t.sz≤1048576):s_l1Kids [.l t.flat]=some [.b true,.l (t.kids 0)]:=by
 have hN:t.flat.length≤1048576:=by rw[t.flat_len];exact ht
 have h:=s_kids hN t 0 [] [] [] (by simp) (by simp) (by simp)
 have he:ap4 s_l1Kids.d1 [.i (0+t.sz:Nat),.l t.flat,.l ([]++t.kids 0),.l ([]++[[.i (0+t.sz-1:Nat)]])]=some (.brk 0 [.l (t.kids 0),.l [[.i (t.sz-1:Nat)]]]):=by
  simp[s_l1Kids.d1,t.flat_len]
 rw[lim_brk he] at h
 simp only[s_l1Kids,s_l1Kids.d3,apL,jC,nils]
 erw[h]
 simp[s_l1Kids.d2]
end Go.Ev
namespace Go.Ev
section
variable {K:List (List C)} (hK:K.length≤1048576)
include hK
theorem nest_step (G:List C→Option (List C)) {ix:Nat} (hi:ix<K.length) {l:List (List C)} (hr:K[ix]=[.l l]) {d c e:Nat} (hd:d<l.length) (hl:l.length≤2) {kid:Nat} (hk:l[d]=[.i (kid:Nat)])
  (hG:G [.l K,.i (kid:Nat)]=some [.i (e:Nat)]) (he:e<big):
  ap4 (s_l1Nest.d1 G) [.l K,.i (ix:Nat),.i (c:Nat),.i (d:Nat)]=some (.again [.l K,.i (ix:Nat),.i (max c (e+1):Nat),.i (d+1:Nat)]):=by
 have hg:K.getD ix []=[.l l]:=by rw[List.getD_eq_getElem?_getD,List.getElem?_eq_getElem hi,hr];rfl
 have hgd:l.getD d []=[.i (kid:Nat)]:=by rw[List.getD_eq_getElem?_getD,List.getElem?_eq_getElem hd,hk];rfl
 have hw:=w64n he
 have hwd:w64 ((d:Int)+1)=((d+1:Nat):Int):=w64n (by simp only[big];omega)
 simp only[apL,jC,jD,s_l1Nest.d1,C.I_i,C.L_l,jY,hg,hgd,hG,call1,jI,hw,hwd,jX,decide_true,jR]
 have e1:((ix:Int)<(K.length:Int)):=by omega
 have e2:((d:Int)<(l.length:Int)):=by omega
 simp only[e1,e2,decide_true,jR]
 by_cases h:((e+1:Nat):Int)>(c:Int)
 ·have:max c (e+1)=e+1:=by omega
  simp only[h,decide_true,jR,this]
 ·have:max c (e+1)=c:=by omega
  simp only[h,decide_false,jS,this]
theorem nest_end (G:List C→Option (List C)) {ix:Nat} (hi:ix<K.length) {l:List (List C)} (hr:K[ix]=[.l l]) {c:Nat}:
  ap4 (s_l1Nest.d1 G) [.l K,.i (ix:Nat),.i (c:Nat),.i (l.length:Nat)]=some (.brk 0 [.i (c:Nat)]):=by
 have hg:K.getD ix []=[.l l]:=by rw[List.getD_eq_getElem?_getD,List.getElem?_eq_getElem hi,hr];rfl
 simp only[apL,jC,jD,s_l1Nest.d1,C.I_i,C.L_l,jY,hg]
 simp[hi]
theorem s_nest:∀(k:Nat) (t:Tr) (o:Nat) (r:List (List C)),t.depth<k→t.depth<big→K.drop o=t.kids o++r→s_l1Nest.g k 0 [.l K,.i (o+t.sz-1:Nat)]=some [.i (t.depth:Nat)]
 |0,t,o,r,h,_,_=>by omega
 |k+1,t,o,r,h,hb,hd=>by
  have hs:∀x,s_l1Nest.g (k+1) 0 x=s_l1Nest.step (s_l1Nest.g k 0) x:=fun _=>rfl
  rw[hs]
  simp only[s_l1Nest.step,s_l1Nest.d3,apL,jC,jD]
  cases t with
  |lf kd n v=>
   obtain ⟨h1,h2,_⟩:=drop_cons (show K.drop o=[.l []]::r from hd)
   have:=lim_brk (nest_end hK (s_l1Nest.g k 0) h1 h2 (c:=0))
   simp only[List.length_nil,Int.ofNat_zero,Int.natCast_zero] at this
   have e:o+(Tr.lf kd n v).sz-1=o:=by simp[Tr.sz]
   rw[e,this]
   simp[s_l1Nest.d2,Tr.depth]
  |un t=>
   simp only[Tr.depth] at h hb
   have h':K.drop o=t.kids o++([.l [[.i (o+t.sz-1:Nat)]]]::r):=by rw[hd];simp[Tr.kids]
   have ih:=s_nest k t o _ (by omega) (by omega) h'
   obtain ⟨h1,h2⟩:=drop_at h'
   rw[t.kids_len] at h1
   have h2:K[o+t.sz]=[.l [[.i (o+t.sz-1:Nat)]]]:=by simp only[t.kids_len] at h2;exact h2
   have e:o+(Tr.un t).sz-1=o+t.sz:=by simp[Tr.sz]
   have s1:=nest_step hK (s_l1Nest.g k 0) h1 h2 (d:=0) (c:=0) (by simp) (by simp) (kid:=o+t.sz-1) rfl ih (by omega)
   have s2:=nest_end hK (s_l1Nest.g k 0) h1 h2 (c:=max 0 (t.depth+1))
   simp only[Int.natCast_zero,Nat.zero_max,List.length_cons,List.length_nil,Nat.zero_add] at s1 s2
   rw[e,lim_again s1,lim_brk s2]
   simp[s_l1Nest.d2,Tr.depth]
  |bn kd a b=>
   simp only[Tr.depth] at h hb
   have h':K.drop o=a.kids o++(b.kids (o+a.sz)++([.l [[.i (o+a.sz-1:Nat)],[.i (o+a.sz+b.sz-1:Nat)]]]::r)):=by rw[hd];simp[Tr.kids]
   have h'':K.drop (o+a.sz)=b.kids (o+a.sz)++([.l [[.i (o+a.sz-1:Nat)],[.i (o+a.sz+b.sz-1:Nat)]]]::r):=by
    rw[←List.drop_drop,h',←a.kids_len o];simp
   have iha:=s_nest k a o _ (by omega) (by omega) h'
   have ihb:=s_nest k b (o+a.sz) _ (by omega) (by omega) h''
   obtain ⟨h1,h2⟩:=drop_at h''
   rw[b.kids_len] at h1
   have h2:K[o+a.sz+b.sz]=[.l [[.i (o+a.sz-1:Nat)],[.i (o+a.sz+b.sz-1:Nat)]]]:=by simp only[b.kids_len] at h2;exact h2
   have e:o+(Tr.bn kd a b).sz-1=o+a.sz+b.sz:=by simp only[Tr.sz];omega
   have s1:=nest_step hK (s_l1Nest.g k 0) h1 h2 (d:=0) (c:=0) (by simp) (by simp) (kid:=o+a.sz-1) rfl iha (by omega)
   have s2:=nest_step hK (s_l1Nest.g k 0) h1 h2 (d:=1) (c:=max 0 (a.depth+1)) (by simp) (by simp) (kid:=o+a.sz+b.sz-1) rfl ihb (by omega)
   have s3:=nest_end hK (s_l1Nest.g k 0) h1 h2 (c:=max (max 0 (a.depth+1)) (b.depth+1))
   simp only[Int.natCast_zero,List.length_cons,List.length_nil,Nat.zero_add,Nat.reduceAdd] at s1 s2 s3
   rw[e,lim_again s1,lim_again s2,lim_brk s3]
   have e2:max (max 0 (a.depth+1)) (b.depth+1)=max a.depth b.depth+1:=by omega
   rw[e2]
   simp[s_l1Nest.d2,Tr.depth]
end
inductive OkN:List C→Prop
 |n1 (n:Tok) (h:nameOk (mkS n)=true):OkN (node 1 n [] 0)
 |n2 (n v:Tok) (h:nameOk (mkS n)=true) (h2:nameOk (mkS v)=true):OkN (node 2 n v 0)
 |n3:OkN (node 3 [] [] 1)
 |n4:OkN (node 4 [] [] 2)
 |n5:OkN (node 5 [] [] 2)
theorem Tr.okN:∀(t:Tr),t.Wf→∀r,r∈t.flat→OkN r
 |.lf k n v,h,r,hr=>by
  simp only[Tr.flat,List.mem_singleton] at hr
  subst hr
  rcases h with ⟨h1,⟨rfl,rfl⟩|⟨rfl,h2⟩⟩
  ·exact .n1 n h1
  ·exact .n2 n v h1 h2
 |.un t,h,r,hr=>by
  simp only[Tr.flat,List.mem_append,List.mem_singleton] at hr
  rcases hr with hr|rfl
  ·exact t.okN h r hr
  ·exact .n3
 |.bn k a b,h,r,hr=>by
  simp only[Tr.flat,List.mem_append,List.mem_singleton] at hr
  rcases hr with (hr|hr)|rfl
  ·exact a.okN h.2.1 r hr
  ·exact b.okN h.2.2 r hr
  ·rcases h.1 with rfl|rfl
   ·exact .n4
   ·exact .n5
theorem nameOk_size {s:Str} (h:nameOk s=true):s.size≤1048576:=by
 simp only[nameOk,within,Bool.and_eq_true,decide_eq_true_eq] at h
 omega
theorem emp:(mkS []).toList=[]:=toList_data' _
theorem tree_step {N:List (List C)} (hN:N.length≤1048576) {i:Nat} (hi:i<N.length) (ho:OkN N[i]):
  ap2 s_l1Tree.d4 [.i i,.l N]=some (.again [.i (i+1:Nat),.l N]):=by
 have hw1:=w1 hi (show N.length<big by simp only[big];omega)
 have hg:N.getD i []=N[i]:=by rw[List.getD_eq_getElem?_getD,List.getElem?_eq_getElem hi];rfl
 have e0:((i:Int)<(N.length:Int)):=by omega
 have key:∀r,OkN r→N.getD i []=r→ap2 s_l1Tree.d4 [.i i,.l N]=some (.again [.i (i+1:Nat),.l N]):=by
  intro r hr hgr
  have z1:within 1 0 5=true:=rfl
  have z2:within 2 0 5=true:=rfl
  have z3:within 3 0 5=true:=rfl
  have z4:within 4 0 5=true:=rfl
  have z5:within 5 0 5=true:=rfl
  have t2:Int.toNat 2=2:=rfl
  have t3:Int.toNat 3=3:=rfl
  have t4:Int.toNat 4=4:=rfl
  have t5:Int.toNat 5=5:=rfl
  cases hr with
  |n1 n h=>
   simp only[apL,jC,jD,s_l1Tree.d4,C.I_i,C.L_l,jY,hgr,node]
   simp[s_l1Tree.d3,s_l1Tree.d2,s_l1Tree.d1,s_l1In_eq,z1,call1,s_l1NameOk_eq _ (nameOk_size h),h,emp,bs_nil,hw1,hi]
  |n2 n v h h2=>
   simp only[apL,jC,jD,s_l1Tree.d4,C.I_i,C.L_l,jY,hgr,node]
   simp[s_l1Tree.d3,s_l1Tree.d2,s_l1Tree.d1,s_l1In_eq,z2,t2,call1,s_l1NameOk_eq _ (nameOk_size h),s_l1NameOk_eq _ (nameOk_size h2),h,h2,emp,bs_nil,hw1,hi]
  |n3=>
   simp only[apL,jC,jD,s_l1Tree.d4,C.I_i,C.L_l,jY,hgr,node]
   simp[s_l1Tree.d3,s_l1Tree.d2,s_l1Tree.d1,s_l1In_eq,z3,t3,call1,emp,bs_nil,hw1,hi]
  |n4=>
   simp only[apL,jC,jD,s_l1Tree.d4,C.I_i,C.L_l,jY,hgr,node]
   simp[s_l1Tree.d3,s_l1Tree.d2,s_l1Tree.d1,s_l1In_eq,z4,t4,call1,emp,bs_nil,hw1,hi]
  |n5=>
   simp only[apL,jC,jD,s_l1Tree.d4,C.I_i,C.L_l,jY,hgr,node]
   simp[s_l1Tree.d3,s_l1Tree.d2,s_l1Tree.d1,s_l1In_eq,z5,t5,call1,emp,bs_nil,hw1,hi]
 exact key _ ho hg
theorem s_l1Tree_eq (t:Tr) (ht:t.sz≤400) (hw:t.Wf):s_l1Tree [.l t.flat]=some [.b true]:=by
 have hN:t.flat.length≤1048576:=by rw[t.flat_len];omega
 have hloop:∀(k i:Nat),t.flat.length-i≤k→i≤t.flat.length→lim (ap2 s_l1Tree.d4) [.i i,.l t.flat]=some (.brk 0 []):=by
  intro k
  induction k with
  |zero=>
   intro i hk hi
   have:i=t.flat.length:=by omega
   subst this
   exact lim_brk (by simp[s_l1Tree.d4])
  |succ k ih=>
   intro i hk hi
   rcases Nat.lt_or_ge i t.flat.length with h|h
   ·rw[lim_again (tree_step hN h (t.okN hw _ (List.getElem_mem h)))]
    exact ih (i+1) (by omega) (by omega)
   ·have:i=t.flat.length:=by omega
    subst this
    exact lim_brk (by simp[s_l1Tree.d4])
 have h0:=hloop _ 0 (Nat.le_refl _) (Nat.zero_le _)
 simp only[Int.natCast_zero] at h0
 have e:¬((t.flat.length:Int)>400):=by rw[t.flat_len];omega
 simp only[s_l1Tree,s_l1Tree.d6,apL,jC,C.L_l,e,decide_false,jS,s_l1Kids_eq t (by omega),call2,jI,C.B_b,jZ,h0]
 simp[s_l1Tree.d5]
theorem s_l1Valid_eq (t:Tr) (ht:t.sz≤400) (hw:t.Wf):s_l1Valid [.l t.flat]=some [.b (decide (t.depth≤20))]:=by
 have hd:=t.depth_lt
 have hp:=t.sz_pos
 have hF:=FUEL_ge
 have hw1:w64 ((t.flat.length:Int)-1)=((0+t.sz-1:Nat):Int):=by rw[t.flat_len,w64_of (by omega) (by omega)];omega
 have hn:s_l1Nest [.l (t.kids 0),.i (0+t.sz-1:Nat)]=some [.i (t.depth:Nat)]:=
  s_nest (K:=t.kids 0) (by rw[t.kids_len];omega) FUEL t 0 [] (by omega) (by simp only[big];omega) (by simp)
 simp only[s_l1Valid,s_l1Valid.d1,apL,jC,jD,s_l1Tree_eq t ht hw,call1,call2,jI,C.B_b,jZ,jS,s_l1Kids_eq t (by omega),C.L_l,hw1,hn,C.I_i,jV]
 have:decide ((t.depth:Int)≤20)=decide (t.depth≤20):=by
  rw[decide_eq_decide];omega
 rw[this]
end Go.Ev
namespace Go.Ev
theorem lex_nil:∀l:List UInt8,(lexT l=[])↔l.all sp=true
 |[]=>by simp[lexT]
 |c::r=>by
  rw[lexT.eq_2]
  by_cases h:c=32
  ·subst h
   rw[if_pos rfl,List.all_cons,lex_nil r]
   simp[sp]
  ·rw[if_neg h]
   have:sp c=false:=by simp[sp,h]
   split<;>simp[this]
theorem i_trimR (s0:Str):∀(n:Nat) (l:List UInt8),l.length≤n→n≤1048576→∃q,lim (ap2 strings_trimRightByte.d1) [.s (mkS l),.i 32]=some (.brk 0 [.s (mkS q)])∧q.length≤l.length∧q.all sp=l.all sp
 |n,l,hn,hb=>by
  rcases List.eq_nil_or_concat l with rfl|⟨p,c,rfl⟩
  ·exact ⟨[],lim_brk (by simp[strings_trimRightByte.d1,mkS_size]),Nat.le_refl _,rfl⟩
  ·simp only[List.concat_eq_append] at hn⊢
   obtain ⟨n,rfl⟩:∃n',n=n'+1:=⟨n-1,by simp at hn;omega⟩
   have hsz:(mkS (p++[c])).size=p.length+1:=by rw[mkS_size];simp
   have hw:w64 (((p.length+1:Nat):Int)-1)=(p.length:Nat):=by simp at hn;rw[w64_of (by omega) (by omega)];omega
   have hgd:(mkS (p++[c])).data.getD p.length 0=c:=by
    rw[arr_getD (by rw[mkS_data];simp)]
    simp[mkS_data]
   have hext:(mkS (p++[c])).extract 0 p.length=mkS p:=by
    rw[ext_mkS,mkS_data];simp
   have e1:((p.length+1:Nat):Int)>0:=by omega
   have e2:(p.length:Int)<((p.length+1:Nat):Int):=by omega
   have e3:(p.length:Int)≤((p.length+1:Nat):Int):=by omega
   cases hc:sp c with
   |true=>
    have h:ap2 strings_trimRightByte.d1 [.s (mkS (p++[c])),.i 32]=some (.again [.s (mkS p),.i 32]):=by
     simp only[sp] at hc
     simp only[apL,jC,jD,strings_trimRightByte.d1,C.S_s,C.I_i,hsz,hw,jY,hgd,bn c 32 32 rfl,hc,hext,e1,e2,e3,decide_true,jR,jX]
    rw[lim_again h]
    obtain ⟨q,h1,h2,h3⟩:=i_trimR s0 n p (by simp at hn;omega) (by omega)
    exact ⟨q,h1,by simp;omega,by rw[h3];simp[hc]⟩
   |false=>
    refine ⟨p++[c],lim_brk ?_,Nat.le_refl _,rfl⟩
    simp only[sp] at hc
    simp only[apL,jC,jD,strings_trimRightByte.d1,C.S_s,C.I_i,hsz,hw,jY,hgd,bn c 32 32 rfl,hc,e1,e2,decide_true,jR,jS,jX]
theorem i_trimL:∀(l:List UInt8),l.length≤1048576→lim (ap2 strings_trimLeftByte.d1) [.s (mkS l),.i 32]=some (.brk 0 [.s (mkS (l.dropWhile sp))])
 |[],hn=>lim_brk (by simp[strings_trimLeftByte.d1,mkS_size])
 |c::r,hn=>by
  have hsz:(mkS (c::r)).size=r.length+1:=rfl
  have hgd:(mkS (c::r)).data.getD 0 0=c:=by
   rw[arr_getD (by rw[mkS_data];simp)]
   simp[mkS_data]
  have hext:(mkS (c::r)).extract 1 (r.length+1)=mkS r:=by
   rw[ext_mkS,mkS_data];simp
  have e1:((r.length+1:Nat):Int)>0:=by omega
  have e2:(1:Int)≤((r.length+1:Nat):Int):=by omega
  rw[List.dropWhile_cons]
  cases hc:sp c with
  |true=>
   have h:ap2 strings_trimLeftByte.d1 [.s (mkS (c::r)),.i 32]=some (.again [.s (mkS r),.i 32]):=by
    simp only[sp] at hc
    have e1':(0:Int)<((r.length+1:Nat):Int):=by omega
    simp only[apL,jC,jD,strings_trimLeftByte.d1,C.S_s,C.I_i,hsz,jY,hgd,bn c 32 32 rfl,hc,hext,e1,e1',e2,decide_true,jR,Int.le_refl]
   rw[lim_again h]
   simp only[List.length_cons] at hn
   simpa using i_trimL r (by omega)
  |false=>
   refine lim_brk ?_
   simp only[sp] at hc
   have e1':(0:Int)<((r.length+1:Nat):Int):=by omega
   simp only[apL,jC,jD,strings_trimLeftByte.d1,C.S_s,C.I_i,hsz,jY,hgd,bn c 32 32 rfl,hc,e1,e1',decide_true,jR,jS]
   rfl
theorem all_dropWhile (l:List UInt8):l.dropWhile sp=[]↔l.all sp=true:=by
 induction l with
 |nil=>simp
 |cons c r ih=>
  rw[List.dropWhile_cons,List.all_cons]
  cases hc:sp c<;>simp[ih]
theorem i_Trim (s:Str) (hl:s.size≤1048576):∃z,strings_Trim [.s s,.s (bs #[32])]=some [.s z]∧(z.toList==(bs #[]).toList)=s.data.toList.all sp:=by
 have hb32:bs #[32]=mkS [32]:=rfl
 simp only[strings_Trim,strings_Trim.d2,apL,jC,jD,C.S_s]
 cases hq:(s.toList==(bs #[]).toList) with
 |true=>
  have:s=mkS []:=(sEq_iff s (bs #[])).1 hq
  subst this
  refine ⟨mkS [],?_,?_⟩
  ·simp
  ·rw[hq];rfl
 |false=>
  have h32:((bs #[32]).toList==(bs #[]).toList)=false:=by
   rw[hb32,toList_data',bs_nil,toList_data'];rfl
  have hsz:(bs #[32]).size=1:=rfl
  have hgd:(bs #[32]).data.getD 0 0=32:=rfl
  obtain ⟨q,h1,h2,h3⟩:=i_trimR s s.data.toList.length s.data.toList (Nat.le_refl _) (by rw[←sz_list];exact hl)
  rw[mkS_of] at h1
  have h4:=i_trimL q (by rw[←sz_list] at h2;omega)
  refine ⟨mkS (q.dropWhile sp),?_,?_⟩
  ·have e1:(((32:UInt8).toNat:Nat):Int)=32:=rfl
   have e2:((1:Nat):Int)=1:=rfl
   simp only[ja,jR,h32,jS,hsz,hgd,e1,e2,strings_trimRightByte,strings_trimRightByte.d3,strings_trimLeftByte,strings_trimLeftByte.d3,apL,jC,jD,h1,bindBlk_self,strings_trimRightByte.d2,jV,call1,jI]
   simp[h4,strings_trimLeftByte.d2]
  ·rw[←h3,toList_data',bs_nil,toList_data',mkS_data,mkS_data]
   cases hall:q.all sp with
   |true=>rw[(all_dropWhile q).2 hall];rfl
   |false=>
    cases hd:q.dropWhile sp with
    |nil=>rw[(all_dropWhile q).1 hd] at hall;simp at hall
    |cons c r=>rfl
inductive PR where
 |err (n:Nat)
 |all
 |tree (t:Tr)
def pp (s:Str):PR:=
 if 200<s.size then .err 1
 else if s.data.toList.all sp=true then .all
 else match prs 1000 0 (lexT s.data.toList) with
  |some (t,[])=>if t.depth≤20 then .tree t else .err 3
  |_=>.err 2
def PR.nodes:PR→List (List C)
 |.err _=>[]
 |.all=>[node 0 [] [] 0]
 |.tree t=>t.flat
def PR.code:PR→Nat
 |.err n=>n
 |_=>0
def PR.ptr:PR→C
 |.err _=>.nil
 |.all=>.p [.i 0,.s (mkS []),.s (mkS []),.l []]
 |.tree t=>t.enc
theorem pp_tree {s:Str} {t:Tr} (h:pp s=.tree t):t.Wf∧t.sz≤200∧t.depth≤20:=by
 unfold pp at h
 split at h
 ·simp at h
 ·rename_i hs
  split at h
  ·simp at h
  ·split at h
   ·rename_i u hq
    split at h
    ·rename_i hd
     simp only[PR.tree.injEq] at h
     subst h
     obtain ⟨p,h1,h2,h3,h4⟩:=prs_wf _ _ _ _ _ hq
     have:=(lex_len _ s.data.toList (Nat.le_refl _)).1
     rw[h1] at this
     rw[←sz_list] at this
     simp at this
     exact ⟨h4,by omega,hd⟩
    ·simp at h
   ·simp at h
theorem s_PilotParse_eq (s:Str) (hl:s.size≤1048576):s_PilotParse [.s s]=some [.l (pp s).nodes,.i ((pp s).code:Nat)]:=by
 have hF:=FUEL_ge
 simp only[s_PilotParse,s_PilotParse.d1,apL,jC,C.S_s]
 by_cases hs:(s.size:Int)>200
 ·have h200:200<s.size:=by omega
  simp[hs,pp,h200,PR.nodes,PR.code]
 have h200:¬200<s.size:=by omega
 simp only[hs,decide_false,jS]
 have hlen:=lex_len _ s.data.toList (Nat.le_refl _)
 rw[←sz_list] at hlen
 rcases s_l1Tokens_eq s hl with ⟨hg,ht⟩|⟨hg,o,ht⟩
 ·simp only[ht,call2,jI,jC,jD,C.B_b,jZ,jS,C.L_l,jW]
  cases hall:s.data.toList.all sp with
  |true=>
   have:lexT s.data.toList=[]:=(lex_nil _).2 hall
   rw[this]
   simp[pp,h200,hall,PR.nodes,PR.code,node,bs_nil]
  |false=>
   have hne:lexT s.data.toList≠[]:=fun h=>by rw[(lex_nil _).1 h] at hall;simp at hall
   have hlp:0<(lexT s.data.toList).length:=List.length_pos_iff.2 hne
   have hz:(((lexT s.data.toList).length:Int)==0)=false:=by rw[beq_eq_false_iff_ne];omega
   obtain ⟨nodes,a',bad,hgo,q1,q2,q3,q4⟩:=s_prs (T:=lexT s.data.toList) (by omega) (fun t ht=>by have:=hlen.2 t ht;omega) 1000 0 FUEL 0 (by omega) (by omega) (by omega) (by omega)
   have hgo:s_l1Parser_or [.l ((lexT s.data.toList).map tk),.i 0,.b false]=_:=hgo
   simp only[hz,jS,hgo,call4,jI,jC,jD,C.B_b,C.I_i]
   simp only[List.drop_zero] at q4
   simp only[pp,if_neg h200,hall,Bool.false_eq_true,if_false]
   cases hp:prs 1000 0 (lexT s.data.toList) with
   |none=>
    rw[hp] at q4
    simp only at q4
    subst q4
    simp[PR.nodes,PR.code]
   |some z=>
    obtain ⟨t,r⟩:=z
    rw[hp] at q4
    obtain ⟨rfl,rfl,q5,q6⟩:=q4
    simp only[ja,jR]
    have hrl:r.length=(lexT s.data.toList).length-a':=by rw[←q5];simp
    cases r with
    |cons x r=>
     simp only[List.length_cons] at hrl
     have:(a':Int)<((lexT s.data.toList).length:Int):=by omega
     simp[this,PR.nodes,PR.code]
    |nil=>
     simp only[List.length_nil] at hrl
     have:¬(a':Int)<((lexT s.data.toList).length:Int):=by omega
     obtain ⟨p,h1,h2,h3,h4⟩:=prs_wf _ _ _ _ _ hp
     have h5:t.sz≤400:=by
      have:=hlen.1
      rw[h1] at this
      simp at this
      omega
     simp only[this,decide_false,jS,s_l1Valid_eq t h5 h4,call1,jI,jC,C.B_b]
     by_cases hd:t.depth≤20<;>simp[hd,PR.nodes,PR.code]
 ·simp only[ht,call2,jI,jC,jD,C.B_b,ja,jR,jV,nils]
  have hcode:pp s=.err 2:=by
   unfold pp
   rw[if_neg h200,if_neg]
   ·split
    ·rename_i t hq
     obtain ⟨p,h1,h2,h3,h4⟩:=prs_wf _ _ _ _ _ hq
     have:=lex_legal _ s.data.toList (Nat.le_refl _) (fun x hx=>h2 x (by rw[h1] at hx;simpa using hx))
     rw[this] at hg;simp at hg
    ·rfl
   ·intro hall
    have:s.data.toList.all legal=true:=by
     rw[List.all_eq_true] at hall⊢
     intro x hx
     have:=hall x hx
     simp only[sp] at this
     simp[legal,this]
    rw[this] at hg;simp at hg
  rw[hcode]
  rfl
theorem i_pParse_eq (s:Str) (hl:s.size≤1048576):i_pParse [.s s]=some [(pp s).ptr,.i ((pp s).code:Nat)]:=by
 have hF:=FUEL_ge
 simp only[i_pParse,i_pParse.d1,apL,jC,C.S_s]
 by_cases hs:(s.size:Int)>200
 ·have h200:200<s.size:=by omega
  simp[hs,pp,h200,PR.ptr,PR.code]
 have h200:¬200<s.size:=by omega
 have hlen:=lex_len _ s.data.toList (Nat.le_refl _)
 rw[←sz_list] at hlen
 obtain ⟨z,hz,hz2⟩:=i_Trim s hl
 simp only[hs,decide_false,jS,hz,call1,jI,jC,C.S_s,hz2]
 cases hall:s.data.toList.all sp with
 |true=>simp[pp,h200,hall,PR.ptr,PR.code,bs_nil]
 |false=>
  obtain ⟨c,i',ok,hgo,q1,q2⟩:=i_prs (s:=s) hl 1000 0 FUEL 0 (by omega) (by omega) (by simp only[List.drop_zero];omega) (by omega)
  have hgo:i_pParser_or [.s s,.i 0,.b true]=_:=hgo
  simp only[List.drop_zero] at q2
  simp only[jS,hgo,call4,jI,jC,jD,i_gap hl i' ok q1,call3,C.B_b,C.I_i]
  simp only[pp,if_neg h200,hall,Bool.false_eq_true,if_false]
  cases hp:prs 1000 0 (lexT s.data.toList) with
  |none=>
   rw[hp] at q2
   simp only at q2
   subst q2
   simp[PR.ptr,PR.code]
  |some y=>
   obtain ⟨t,r⟩:=y
   rw[hp] at q2
   obtain ⟨rfl,rfl,q3,q4⟩:=q2
   have hgd:=gp_drop (s:=s) i'
   have hlt:=lexT_gap (s.data.toList.drop i')
   rw[q3,←hgd] at hlt
   simp only[jZ,ja,jR,jS]
   cases r with
   |cons x r=>
    have:(gp s i':Int)<(s.size:Int):=by
     rcases Nat.lt_or_ge (gp s i') s.size with h|h
     ·omega
     ·rw[sz_list] at h
      rw[List.drop_eq_nil_of_le h] at hlt
      simp[lexT] at hlt
    simp[this,PR.ptr,PR.code]
   |nil=>
    have:¬(gp s i':Int)<(s.size:Int):=by
     intro h
     have h:gp s i'<s.data.toList.length:=by rw[←sz_list];omega
     have h1:=(lex_nil _).1 hlt
     rw[hgd] at h1
     have h2:((s.data.toList.drop i').dropWhile sp).length=s.data.toList.length-gp s i':=by rw[←hgd];simp
     cases hq:(s.data.toList.drop i').dropWhile sp with
     |nil=>rw[hq] at h2;simp at h2;omega
     |cons x r=>
      have:=gap_head hq
      rw[hq] at h1
      simp[sp] at h1
      exact this h1.1
    obtain ⟨p,h1,h2,h3,h4⟩:=prs_wf _ _ _ _ _ hp
    have h5:t.sz≤400:=by
     have:=hlen.1
     rw[h1] at this
     simp at this
     omega
    have hdl:=t.depth_lt
    have hdep:i_pSel_depth [t.enc]=some [.i (t.depth:Nat)]:=i_depth FUEL t (by omega) (by simp only[big];omega)
    simp only[this,decide_false,jS,hdep,call1,jI,jC,C.I_i]
    by_cases hd:t.depth≤20
    ·have hd':¬(t.depth:Int)>20:=by omega
     simp only[hd',decide_false,jS,jV]
     simp[hd,PR.ptr,PR.code]
    ·have hd':(t.depth:Int)>20:=by omega
     simp only[hd',decide_true,jR,jV]
     simp[hd,PR.ptr,PR.code]
end Go.Ev
namespace Go.Ev
def findIx {α:Type} (p:α→Bool):List α→Nat→Int
 |[],_=>-1
 |x::r,n=>bif p x then n else findIx p r (n+1)
def allFrom (p:Nat→Bool):Nat→Nat→Bool
 |_,0=>true
 |i,k+1=>p i&&allFrom p (i+1) k
theorem allFrom_iff (p:Nat→Bool):∀(k i:Nat),allFrom p i k=true↔∀j,i≤j→j<i+k→p j=true
 |0,i=>by simp[allFrom];omega
 |k+1,i=>by
  simp only[allFrom,Bool.and_eq_true,allFrom_iff p k (i+1)]
  constructor
  ·rintro ⟨h1,h2⟩ j hj hk
   rcases Nat.lt_or_eq_of_le hj with h|rfl
   ·exact h2 j h (by omega)
   ·exact h1
  ·intro h
   exact ⟨h i (Nat.le_refl _) (by omega),fun j h1 h2=>h j (by omega) (by omega)⟩
theorem chk_loop {body:List C→R} {S:Nat→List C} {p:Nat→Bool} {n b:Nat} {ys r:List C} (hs:∀i,i<n→body (S i)=bif p i then some (.again (S (i+1))) else some (.ret r)) (he:body (S n)=some (.brk b ys)):
  ∀k i,k+i=n→lim body (S i)=bif allFrom p i k then some (.brk b ys) else some (.ret r)
 |0,i,h=>by
  have:i=n:=by omega
  subst this
  rw[lim_brk he];rfl
 |k+1,i,h=>by
  have h1:=hs i (by omega)
  simp only[allFrom]
  cases hp:p i with
  |true=>
   rw[hp] at h1
   rw[lim_again h1,chk_loop hs he k (i+1) (by omega)]
   simp
  |false=>
   rw[hp] at h1
   rw[lim_ret h1]
   simp
theorem run_loop {body:List C→R} {S:Nat→List C} {n b:Nat} {ys:List C} (hs:∀i,i<n→body (S i)=some (.again (S (i+1)))) (he:body (S n)=some (.brk b ys)):
  ∀k i,k+i=n→lim body (S i)=some (.brk b ys)
 |0,i,h=>by
  have:i=n:=by omega
  subst this
  exact lim_brk he
 |k+1,i,h=>by rw[lim_again (hs i (by omega))];exact run_loop hs he k (i+1) (by omega)
theorem find_loop {α:Type} {l:List α} {body:List C→R} {S:Nat→List C} {p:α→Bool} {b:Nat} (hs:∀i (h:i<l.length),body (S i)=bif p l[i] then some (.ret [.i (i:Nat)]) else some (.again (S (i+1)))) (he:body (S l.length)=some (.brk b [])):
  ∀k i,k+i=l.length→bindBlk b (lim body (S i)) (fun _=>some (.ret [.i (-1)]))=some (.ret [.i (findIx p (l.drop i) i)])
 |0,i,h=>by
  have:i=l.length:=by omega
  subst this
  rw[lim_brk he];simp[findIx]
 |k+1,i,h=>by
  have hi:i<l.length:=by omega
  have h1:=hs i hi
  rw[List.drop_eq_getElem_cons hi]
  simp only[findIx]
  cases hp:p l[i] with
  |true=>rw[hp] at h1;rw[lim_ret h1];simp
  |false=>rw[hp] at h1;rw[lim_again h1,find_loop hs he k (i+1) (by omega)];simp
def bIx (f:Fl) (nm:Str):Int:=findIx (fun x:Bt=>sEq x.name nm) f.bts 0
def sIx (f:Fl) (nm:Str):Int:=findIx (fun x:Sv=>sEq x.name nm) f.svs 0
def cIx (f:Fl) (nm:Str):Int:=findIx (fun x:Cp=>sEq x.name nm) f.cps 0
theorem s_l2Service_eq (f:Fl) (nm:Str) (hl:f.svs.length≤1048576):s_l2Service (f.e++[.s nm])=some [.i (sIx f nm)]:=by
 have h:=find_loop (l:=f.svs) (body:=ap6 s_l2Service.d1) (S:=fun i=>[.s nm,.i (i:Nat),.b f.pack,.l (f.bts.map Bt.e),.l (f.svs.map Sv.e),.l (f.cps.map Cp.e)]) (p:=fun x=>sEq x.name nm) (b:=0)
  (fun i hi=>by
   simp only[apL,jC,jD,s_l2Service.d1,C.I_i,C.L_l,C.S_s,jW,jY,getD_map' Sv.e hi,w1 hi (show f.svs.length<big by simp only[big];omega)]
   simp only[Sv.e,jC,C.S_s]
   cases hs:sEq f.svs[i].name nm<;>simp only[sEq] at hs<;>simp[hs,hi])
  (by simp[s_l2Service.d1]) f.svs.length 0 rfl
 simp only[s_l2Service,s_l2Service.d3,Fl.e,jA,jB,apL,jC,jD]
 rw[show (fun xs:List C=>s_l2Service.d2)=fun _=>some (.ret [.i (-1)]) from rfl]
 erw[h]
 rfl
theorem s_l2Berth_eq (f:Fl) (nm:Str) (hl:f.bts.length≤1048576):s_l2Berth (f.e++[.s nm])=some [.i (bIx f nm)]:=by
 have h:=find_loop (l:=f.bts) (body:=ap6 s_l2Berth.d1) (S:=fun i=>[.s nm,.i (i:Nat),.b f.pack,.l (f.bts.map Bt.e),.l (f.svs.map Sv.e),.l (f.cps.map Cp.e)]) (p:=fun x=>sEq x.name nm) (b:=0)
  (fun i hi=>by
   simp only[apL,jC,jD,s_l2Berth.d1,C.I_i,C.L_l,C.S_s,jW,jY,getD_map' Bt.e hi,w1 hi (show f.bts.length<big by simp only[big];omega)]
   simp only[Bt.e,jC,C.S_s]
   cases hs:sEq f.bts[i].name nm<;>simp only[sEq] at hs<;>simp[hs,hi])
  (by simp[s_l2Berth.d1]) f.bts.length 0 rfl
 simp only[s_l2Berth,s_l2Berth.d3,Fl.e,jA,jB,apL,jC,jD]
 rw[show (fun xs:List C=>s_l2Berth.d2)=fun _=>some (.ret [.i (-1)]) from rfl]
 erw[h]
 rfl
theorem s_l2Copy_eq (f:Fl) (nm:Str) (hl:f.cps.length≤1048576):s_l2Copy (f.e++[.s nm])=some [.i (cIx f nm)]:=by
 have h:=find_loop (l:=f.cps) (body:=ap6 s_l2Copy.d1) (S:=fun i=>[.s nm,.i (i:Nat),.b f.pack,.l (f.bts.map Bt.e),.l (f.svs.map Sv.e),.l (f.cps.map Cp.e)]) (p:=fun x=>sEq x.name nm) (b:=0)
  (fun i hi=>by
   simp only[apL,jC,jD,s_l2Copy.d1,C.I_i,C.L_l,C.S_s,jW,jY,getD_map' Cp.e hi,w1 hi (show f.cps.length<big by simp only[big];omega)]
   simp only[Cp.e,jC,C.S_s]
   cases hs:sEq f.cps[i].name nm<;>simp only[sEq] at hs<;>simp[hs,hi])
  (by simp[s_l2Copy.d1]) f.cps.length 0 rfl
 simp only[s_l2Copy,s_l2Copy.d3,Fl.e,jA,jB,apL,jC,jD]
 rw[show (fun xs:List C=>s_l2Copy.d2)=fun _=>some (.ret [.i (-1)]) from rfl]
 erw[h]
 rfl
theorem i_pBerthAt_eq (f:Fl) (nm:Str) (hl:f.bts.length≤1048576):i_pBerthAt (f.e++[.s nm])=some [.i (bIx f nm)]:=by
 have h:=find_loop (l:=f.bts) (body:=ap4 slices_IndexFunc_PilotBerth.d1) (S:=fun i=>[.l (f.bts.map Bt.e),.p [.s nm],.i (f.bts.length:Nat),.i (i:Nat)]) (p:=fun x=>sEq x.name nm) (b:=0)
  (fun i hi=>by
   simp only[apL,jC,jD,slices_IndexFunc_PilotBerth.d1,C.I_i,C.L_l,C.S_s,jW,jY,getD_map' Bt.e hi,w1 hi (show f.bts.length<big by simp only[big];omega)]
   simp only[Bt.e,jC,jD,i_pBerthAt_1,i_pBerthAt_1.d1,apL,C.S_s,C.isP_p,C.P_p,jR,jV,call1,jI,C.B_b]
   cases hs:sEq f.bts[i].name nm<;>simp only[sEq] at hs<;>simp[hs,hi])
  (by simp[slices_IndexFunc_PilotBerth.d1]) f.bts.length 0 rfl
 simp only[i_pBerthAt,i_pBerthAt.d1,slices_IndexFunc_PilotBerth,slices_IndexFunc_PilotBerth.d3,Fl.e,jA,jB,apL,jC,jD,C.L_l,jW]
 rw[show (fun xs:List C=>slices_IndexFunc_PilotBerth.d2)=fun _=>some (.ret [.i (-1)]) from rfl]
 erw[h]
 rfl
theorem i_pCopyAt_eq (f:Fl) (nm:Str) (hl:f.cps.length≤1048576):i_pCopyAt (f.e++[.s nm])=some [.i (cIx f nm)]:=by
 have h:=find_loop (l:=f.cps) (body:=ap4 slices_IndexFunc_PilotCopy.d1) (S:=fun i=>[.l (f.cps.map Cp.e),.p [.s nm],.i (f.cps.length:Nat),.i (i:Nat)]) (p:=fun x=>sEq x.name nm) (b:=0)
  (fun i hi=>by
   simp only[apL,jC,jD,slices_IndexFunc_PilotCopy.d1,C.I_i,C.L_l,C.S_s,jW,jY,getD_map' Cp.e hi,w1 hi (show f.cps.length<big by simp only[big];omega)]
   simp only[Cp.e,jC,jD,i_pCopyAt_1,i_pCopyAt_1.d1,apL,C.S_s,C.isP_p,C.P_p,jR,jV,call1,jI,C.B_b]
   cases hs:sEq f.cps[i].name nm<;>simp only[sEq] at hs<;>simp[hs,hi])
  (by simp[slices_IndexFunc_PilotCopy.d1]) f.cps.length 0 rfl
 simp only[i_pCopyAt,i_pCopyAt.d1,slices_IndexFunc_PilotCopy,slices_IndexFunc_PilotCopy.d3,Fl.e,jA,jB,apL,jC,jD,C.L_l,jW]
 rw[show (fun xs:List C=>slices_IndexFunc_PilotCopy.d2)=fun _=>some (.ret [.i (-1)]) from rfl]
 erw[h]
 rfl
def mkNm (s:Str):Str:=mkS (s.data.toList.takeWhile (· !=61))
def mkVal (s:Str):Str:=mkS (s.data.toList.dropWhile (· !=61)).tail
def mkOk (s:Str):Bool:=nameOk (mkNm s)&&((s.data.toList.dropWhile (· !=61)).isEmpty||nameOk (mkVal s))
theorem part_size {s:Str} {l:List UInt8} (hl:s.size≤1048576) (h:l.length≤s.data.toList.length):(mkS l).size≤1048576:=by
 rw[mkS_size];rw[sz_list] at hl;omega
theorem s_l1Mark_eq (s:Str) (hl:s.size≤1048576):s_l1Mark [.s s]=some [.s (mkNm s),.s (mkVal s),.b (mkOk s)]:=by
 have key:∀(k i:Nat),s.data.toList.length-i≤k→i≤s.data.toList.length→(s.data.toList.takeWhile (· !=61)).length=i+((s.data.toList.drop i).takeWhile (· !=61)).length→
   bindBlk 0 (lim (ap2 s_l1Mark.d1) [.s s,.i i]) (ap1 s_l1Mark.d2)=some (.ret [.s (mkNm s),.s (mkVal s),.b (mkOk s)]):=by
  intro k
  induction k with
  |zero=>
   intro i hk hi hr
   have e:i=s.data.toList.length:=by omega
   have hd:s.data.toList.drop i=[]:=List.drop_eq_nil_of_le (by omega)
   rw[hd] at hr
   simp only[List.takeWhile_nil,List.length_nil,Nat.add_zero] at hr
   have hdw:s.data.toList.dropWhile (· !=61)=[]:=by rw[←drop_run,hr];exact List.drop_eq_nil_of_le (by omega)
   have htw:s.data.toList.takeWhile (· !=61)=s.data.toList:=by
    have:=List.takeWhile_append_dropWhile (p:=fun x:UInt8=>x !=61) (l:=s.data.toList)
    rw[hdw,List.append_nil] at this;exact this
   rw[lim_brk (i:=0) (ys:=[.s s]) (by rw[e,←sz_list];simp[s_l1Mark.d1])]
   have h1:mkNm s=s:=by unfold mkNm;rw[htw];rfl
   have h2:mkVal s=mkS []:=by unfold mkVal;rw[hdw];rfl
   simp[s_l1Mark.d2,s_l1NameOk_eq s hl,call1,mkOk,h1,h2,hdw,bs_nil]
  |succ k ih=>
   intro i hk hi hr
   rcases Nat.lt_or_ge i s.data.toList.length with hlt|hge
   ·have his:i<s.size:=by rw[sz_list];exact hlt
    have hw:=w1 his (show s.size<big by simp only[big];omega)
    have hd:=List.drop_eq_getElem_cons hlt
    rw[hd,List.takeWhile_cons] at hr
    by_cases hc:s.data.toList[i]=61
    ·have hb:(s.data.toList[i] !=61)=false:=by rw[hc];rfl
     rw[hb] at hr
     simp only[Bool.false_eq_true,if_false,List.length_nil,Nat.add_zero] at hr
     have h1:s.extract 0 i=mkNm s:=by
      rw[ext_mkS,List.drop_zero];unfold mkNm;rw[←hr,take_run]
     have h2:s.extract (i+1) s.size=mkVal s:=by
      rw[ext_mkS,sz_list,List.take_length];unfold mkVal
      rw[←drop_run,hr,List.tail_drop]
     have hn1:(mkNm s).size≤1048576:=part_size hl (run_len _ _)
     have hn2:(mkVal s).size≤1048576:=part_size hl (by
      have:=(List.dropWhile_suffix (l:=s.data.toList) (· !=61)).length_le
      rw[List.length_tail];omega)
     have hdw:(s.data.toList.dropWhile (· !=61)).isEmpty=false:=by
      rw[←drop_run,hr,hd];rfl
     have e1:(i:Int)≤(s.size:Int):=by omega
     have e2:((i+1:Nat):Int)≤(s.size:Int):=by omega
     have hbn:=bn s.data.toList[i] 61 61 rfl
     have hbt:(s.data.toList[i]==61)=true:=by rw[hc];rfl
     have h:ap2 s_l1Mark.d1 [.s s,.i i]=some (.ret [.s (mkNm s),.s (mkVal s),.b (mkOk s)]):=by
      simp only[apL,jC,jD,s_l1Mark.d1,C.I_i,C.S_s,jY,arr_getD hlt,hw,hbn,hbt,h1,h2,s_l1NameOk_eq _ hn1,s_l1NameOk_eq _ hn2,call1,jI,C.B_b,e1,e2,decide_true,jR,jX,Int.le_refl,mkOk,hdw,Bool.false_or]
      cases nameOk (mkNm s)<;>simp[his]
     rw[lim_ret h];simp
    ·have hb:(s.data.toList[i] !=61)=true:=by rw[bne_iff_ne];exact hc
     rw[hb] at hr
     simp only[if_true,List.length_cons] at hr
     have hbn:=bn s.data.toList[i] 61 61 rfl
     have hbf:(s.data.toList[i]==61)=false:=by rw[beq_eq_false_iff_ne];exact hc
     have h:ap2 s_l1Mark.d1 [.s s,.i i]=some (.again [.s s,.i (i+1:Nat)]):=by
      simp only[apL,jC,jD,s_l1Mark.d1,C.I_i,C.S_s,jY,arr_getD hlt,hw,hbn,hbf]
      simp[his]
     rw[lim_again h]
     exact ih (i+1) (by omega) (by omega) (by omega)
   ·exact ih i (by omega) hi hr
 have:=key _ 0 (Nat.le_refl _) (Nat.zero_le _) (by simp)
 simp only[s_l1Mark,s_l1Mark.d3,apL,jC]
 erw[this]
 rfl
theorem indexByte_eq:∀l:List UInt8,Lib.indexByte l 61=if (l.dropWhile (· !=61)).isEmpty then-1 else ((l.takeWhile (· !=61)).length:Int)
 |[]=>rfl
 |c::r=>by
  simp only[Lib.indexByte,indexByte_eq r,List.dropWhile_cons,List.takeWhile_cons]
  by_cases hc:c=61
  ·subst hc;simp
  ·have hb:(c !=61)=true:=by simp[hc]
   have hb2:(c==61)=false:=by simp[hc]
   rw[hb,hb2]
   simp only[if_true,Bool.false_eq_true,if_false]
   cases (r.dropWhile (· !=61)).isEmpty with
   |true=>simp
   |false=>
    have:¬((((r.takeWhile (· !=61)).length:Int)==-1)=true):=by rw[beq_iff_eq];omega
    simp only[Bool.false_eq_true,if_false,if_neg this,List.length_cons]
    omega
theorem i_pMark_eq (s:Str) (hl:s.size≤1048576):i_pMark [.s s]=some [.s (mkNm s),.s (mkVal s),.b (mkOk s)]:=by
 have e1:(bs #[61]).size=1:=rfl
 have e2:(bs #[61]).data.getD 0 0=61:=rfl
 have hix:internal_stringslite_Index [.s s,.s (bs #[61])]=some [.i (Lib.indexByte s.data.toList 61)]:=by
  have e3:Nat.toUInt8 (((61:UInt8).toNat:Nat):Int).toNat=61:=rfl
  have e5:((((1:Nat):Int)==0))=false:=rfl
  have e6:((((1:Nat):Int)==1))=true:=rfl
  have e7:(0:Int)<((1:Nat):Int):=by omega
  simp only[internal_stringslite_Index,internal_stringslite_Index.d2,apL,jC,jD,C.S_s,e1,e5,ja,jR,jJ]
  cases hq:((bs #[61]).toList==s.toList) with
  |true=>
   have:bs #[61]=s:=(sEq_iff (bs #[61]) s).1 hq
   subst this
   simp[internal_stringslite_Index.d1]
   decide
  |false=>
   simp only[internal_stringslite_Index.d1,C.B_b,C.I_i,C.S_s,jS,jR,e1,e6,e7,decide_true,e2,internal_stringslite_IndexByte,ibF,jC,jD,e3,call1,jI,jV]
 rw[indexByte_eq] at hix
 have hn1:(mkNm s).size≤1048576:=part_size hl (run_len _ _)
 have hn2:(mkVal s).size≤1048576:=part_size hl (by
  have:=(List.dropWhile_suffix (l:=s.data.toList) (· !=61)).length_le
  rw[List.length_tail];omega)
 simp only[i_pMark,i_pMark.d1,strings_Cut,strings_Cut.d1,internal_stringslite_Cut,internal_stringslite_Cut.d1,apL,jC,jD,hix,call1,jI,C.I_i,C.S_s,e1]
 cases he:(s.data.toList.dropWhile (· !=61)).isEmpty with
 |true=>
  have hdw:s.data.toList.dropWhile (· !=61)=[]:=by simpa using he
  have htw:s.data.toList.takeWhile (· !=61)=s.data.toList:=by
   have:=List.takeWhile_append_dropWhile (p:=fun x:UInt8=>x !=61) (l:=s.data.toList)
   rw[hdw,List.append_nil] at this;exact this
  have h1:mkNm s=s:=by unfold mkNm;rw[htw];rfl
  have h2:mkVal s=mkS []:=by unfold mkVal;rw[hdw];rfl
  have e8:¬((-1:Int)≥0):=by omega
  simp only[if_true,e8,decide_false,jS,jV,call3,jI,jC,jD,C.B_b,i_pName_eq s hl,mkOk,he,Bool.true_or,Bool.and_true,h1,h2,bs_nil]
  cases nameOk s<;>simp
 |false=>
  have hlt:(s.data.toList.takeWhile (· !=61)).length<s.data.toList.length:=by
   have h:=congrArg List.length (List.takeWhile_append_dropWhile (p:=fun x:UInt8=>x !=61) (l:=s.data.toList))
   rw[List.length_append] at h
   cases hq:s.data.toList.dropWhile (· !=61) with
   |nil=>rw[hq] at he;simp at he
   |cons x r=>rw[hq] at h;simp only[List.length_cons] at h;omega
  have his:(s.data.toList.takeWhile (· !=61)).length<s.size:=by rw[sz_list];exact hlt
  have hw:=w1 his (show s.size<big by simp only[big];omega)
  have h1:s.extract 0 (s.data.toList.takeWhile (· !=61)).length=mkNm s:=by
   rw[ext_mkS,List.drop_zero];unfold mkNm;rw[take_run]
  have h2:s.extract ((s.data.toList.takeWhile (· !=61)).length+1) s.size=mkVal s:=by
   rw[ext_mkS,sz_list,List.take_length];unfold mkVal
   rw[←drop_run,List.tail_drop]
  have e3:(((s.data.toList.takeWhile (· !=61)).length:Int)≥0):=by omega
  have e4:((s.data.toList.takeWhile (· !=61)).length:Int)≤(s.size:Int):=by omega
  have e5:(((s.data.toList.takeWhile (· !=61)).length+1:Nat):Int)≤(s.size:Int):=by omega
  have e6:((1:Nat):Int)=1:=rfl
  simp only[Bool.false_eq_true,if_false,e6,hw,e3,e4,e5,decide_true,jR,jX,Int.le_refl,jY,h1,h2,jV,call3,jI,jC,jD,C.B_b,i_pName_eq _ hn1,i_pName_eq _ hn2,mkOk,he,Bool.false_or,jZ,ja]
  cases nameOk (mkNm s)<;>cases nameOk (mkVal s)<;>simp
end Go.Ev
namespace Go.Ev
def sLt (a b:Str):Bool:=Op.bytesLess a.toList b.toList
theorem bytesLess_not:∀(a b:List UInt8),(Op.bytesLess a b||a==b)=!Op.bytesLess b a
 |[],[]=>by simp[Op.bytesLess]
 |[],_::_=>by simp[Op.bytesLess]
 |_::_,[]=>by simp[Op.bytesLess]
 |x::a,y::b=>by
  have ih:=bytesLess_not a b
  simp only[Op.bytesLess]
  rcases Nat.lt_trichotomy x.toNat y.toNat with h|h|h
  ·have h1:x<y:=h
   have h2:¬y<x:=fun h'=>Nat.lt_asymm h h'
   have h3:¬y=x:=fun e=>by subst e;exact Nat.lt_irrefl _ h
   simp[h1,h2,h3]
  ·have e:x=y:=UInt8.toNat_inj.1 h
   subst e
   have:¬x<x:=Nat.lt_irrefl x.toNat
   simp only[this,decide_false,beq_self_eq_true,Bool.false_or,Bool.true_and]
   simpa using ih
  ·have h1:¬x<y:=fun h'=>Nat.lt_asymm h h'
   have h2:y<x:=h
   have h3:¬x=y:=fun e=>by subst e;exact Nat.lt_irrefl _ h
   simp[h1,h2,h3]
theorem sLt_not (a b:Str):(sLt a b||sEq a b)=!sLt b a:=bytesLess_not _ _
theorem mget_mset (z v:C) (k k':Str):∀es:List (List C),mget z k (mset k' v es)=bif sEq k k' then v else mget z k es
 |[]=>by simp[mset,mget,sEq]
 |r::es=>by
  simp only[mset]
  cases h:(k'.toList==(r.getD 0 .nil).S.toList) with
  |true=>
   have e:k'=(r.getD 0 .nil).S:=(sEq_iff _ _).1 h
   simp only[jR,mget,jC,jD,C.S_s]
   cases hk:sEq k k' with
   |true=>
    have h1:(k.toList==k'.toList)=true:=hk
    rw[h1];rfl
   |false=>
    have h1:(k.toList==k'.toList)=false:=hk
    have h2:(k.toList==(r.getD 0 .nil).S.toList)=false:=by rw[←e];exact hk
    rw[h1,h2];rfl
  |false=>
   simp only[jS,mget,mget_mset z v k k' es]
   cases h2:sEq k k' with
   |true=>
    have e:=(sEq_iff _ _).1 h2
    subst e
    rw[h];rfl
   |false=>simp
theorem sEq_comm (a b:Str):sEq a b=sEq b a:=by
 rw[Bool.eq_iff_iff,sEq_iff,sEq_iff];exact eq_comm
def sAt (ms:List Str) (i:Nat):Str:=ms.getD i (mkS [])
theorem sAt_get {ms:List Str} {i:Nat} (h:i<ms.length):sAt ms i=ms[i]:=by
 unfold sAt;rw[List.getD_eq_getElem?_getD,List.getElem?_eq_getElem h];rfl
def dupN (ms:List Str) (nm:Str) (i:Nat):Bool:=allFrom (fun k=>!sEq (mkNm (sAt ms k)) nm) 0 i
def markAt (ms:List Str) (i:Nat):Bool:=mkOk (sAt ms i)&&(i==0||sLt (sAt ms (i-1)) (sAt ms i))&&dupN ms (mkNm (sAt ms i)) i
def marksOk (ms:List Str):Bool:=decide (ms.length≤10)&&allFrom (markAt ms) 0 ms.length
theorem allFrom_succ (p:Nat→Bool):∀(k i:Nat),allFrom p i (k+1)=(allFrom p i k&&p (i+k))
 |0,i=>by simp[allFrom]
 |k+1,i=>by
  rw[allFrom,allFrom_succ p k (i+1),allFrom]
  rw[show i+1+k=i+(k+1) by omega,Bool.and_assoc]
section
variable {ms:List Str} (hz:SsSz 1048576 ms)
include hz
theorem s_dup (i:Nat) (hi:i≤ms.length) (nm:Str):∀k j,k+j=i→lim (ap4 s_l2MarksOk.d1) [.l (ms.map sE),.i (i:Nat),.s nm,.i (j:Nat)]=bif allFrom (fun k=>!sEq (mkNm (sAt ms k)) nm) j k then some (.brk 2 [.l (ms.map sE),.i (i:Nat),.s nm]) else some (.ret [.b false]):=by
 have hl:ms.length<big:=by have:=hz.1;simp only[big];omega
 refine chk_loop (S:=fun j=>[.l (ms.map sE),.i (i:Nat),.s nm,.i (j:Nat)]) (fun j hj=>?_) ?_
 ·have hjl:j<ms.length:=by omega
  have hsz:(sAt ms j).size≤1048576:=by rw[sAt_get hjl];exact hz.2 _ (List.getElem_mem hjl)
  have hjI:(j:Int)<(i:Int):=by omega
  simp only[apL,jC,jD,s_l2MarksOk.d1,C.I_i,C.L_l,jW,jY,getD_map' sE hjl,←sAt_get hjl,w1 hjl hl]
  simp only[sE,jC,s_l1Mark_eq _ hsz,call3,jI,C.S_s,jD]
  cases hq:sEq (mkNm (sAt ms j)) nm<;>simp only[sEq] at hq<;>simp[hq,hj,hjl]
 ·simp[s_l2MarksOk.d1]
theorem s_l2MarksOk_eq:s_l2MarksOk [.l (ms.map sE)]=some [.b (marksOk ms)]:=by
 have hl:ms.length<big:=by have:=hz.1;simp only[big];omega
 have h:=chk_loop (body:=ap3 s_l2MarksOk.d4) (S:=fun i=>[.l (ms.map sE),.s (bif i==0 then mkS [] else mkNm (sAt ms (i-1))),.i (i:Nat)]) (p:=markAt ms) (n:=ms.length) (b:=0) (ys:=[]) (r:=[.b false])
  (fun i hi=>by
   have hsz:(sAt ms i).size≤1048576:=by rw[sAt_get hi];exact hz.2 _ (List.getElem_mem hi)
   have hd3:∀nm:Str,s_l2MarksOk.d3 (.l (ms.map sE)) (.i (i:Nat)) (.s nm)=bif dupN ms nm i then some (.again [.l (ms.map sE),.s nm,.i (i+1:Nat)]) else some (.ret [.b false]):=fun nm=>by
    have:=s_dup hz i (by omega) nm i 0 (by omega)
    simp only[Int.natCast_zero] at this
    simp only[s_l2MarksOk.d3,this,dupN]
    cases allFrom (fun k=>!sEq (mkNm (sAt ms k)) nm) 0 i<;>simp[s_l2MarksOk.d2,w1 hi hl]
   simp only[apL,jC,jD,s_l2MarksOk.d4,C.I_i,C.L_l,jW,jY,getD_map' sE hi,←sAt_get hi]
   simp only[sE,jC,s_l1Mark_eq _ hsz,call3,jI,C.S_s,jD,C.B_b,Nat.add_sub_cancel]
   rcases Nat.eq_zero_or_pos i with h0|h0
   ·subst h0
    cases hok:mkOk (sAt ms 0) with
    |false=>simp[hok,markAt,hi]
    |true=>
     have:=hd3 (mkNm (sAt ms 0))
     simp only[Int.natCast_zero] at this
     simp[hok,markAt,hi,this,dupN,allFrom]
   ·have hi1:i-1<ms.length:=by omega
    have hw:w64 ((i:Int)-1)=((i-1:Nat):Int):=by rw[w64_of (by omega) (by simp only[big] at hl;omega)];omega
    have e1:((i:Int)>0):=by omega
    have e2:(((i-1:Nat):Int)<(ms.length:Int)):=by omega
    have e3:((i:Int)<(ms.length:Int)):=by omega
    have e4:(i==0)=false:=by simp;omega
    have e5:(i+1==0)=false:=by simp
    simp only[hw,jY,getD_map' sE hi1,←sAt_get hi1,e1,e2,e3,e4,e5,decide_true,jR,jS,jX,sE,jC,C.S_s,markAt,Bool.false_or]
    show (bindNrm (bif (!(!mkOk (sAt ms i))) then (bif (!(!sLt (sAt ms (i-1)) (sAt ms i))) then (bif sEq (mkNm (sAt ms i)) (mkNm (sAt ms (i-1))) then _ else _) else _) else _) _)=_
    cases hok:mkOk (sAt ms i) with
    |false=>simp
    |true=>
     cases hlt:sLt (sAt ms (i-1)) (sAt ms i) with
     |false=>simp
     |true=>
      cases hq:sEq (mkNm (sAt ms i)) (mkNm (sAt ms (i-1))) with
      |false=>simp[hd3]
      |true=>
       have:dupN ms (mkNm (sAt ms i)) i=false:=by
        cases hdu:dupN ms (mkNm (sAt ms i)) i with
        |false=>rfl
        |true=>
         have:=(allFrom_iff _ _ _).1 hdu (i-1) (by omega) (by omega)
         simp only[Bool.not_eq_true'] at this
         rw[(sEq_iff _ _).1 hq] at this
         have h2:=(sEq_iff (mkNm (sAt ms (i-1))) (mkNm (sAt ms (i-1)))).2 rfl
         rw[h2] at this;simp at this
       simp[this])
  (by simp[s_l2MarksOk.d4]) ms.length 0 rfl
 simp only[Int.natCast_zero] at h
 have h:lim (ap3 s_l2MarksOk.d4) [.l (ms.map sE),.s (bs #[]),.i 0]=_:=h
 simp only[s_l2MarksOk,s_l2MarksOk.d6,apL,jC,C.L_l,jW,h,marksOk]
 by_cases h10:(ms.length:Int)>10
 ·have:¬ms.length≤10:=by omega
  simp[h10,this]
 ·have:ms.length≤10:=by omega
  simp only[h10,this,decide_true,decide_false,jS,Bool.true_and]
  cases allFrom (markAt ms) 0 ms.length<;>simp[s_l2MarksOk.d5]
def mapN (ms:List Str):Nat→List (List C)
 |0=>[]
 |i+1=>mset (mkNm (sAt ms i)) (.b true) (mapN ms i)
omit hz in
theorem mapN_get (nm:Str):∀i,(mget (.b false) nm (mapN ms i)).B=!dupN ms nm i
 |0=>rfl
 |i+1=>by
  have hd:dupN ms nm (i+1)=(dupN ms nm i&&!sEq (mkNm (sAt ms i)) nm):=by
   unfold dupN;rw[allFrom_succ];simp
  rw[mapN,mget_mset,hd,sEq_comm]
  have ih:=mapN_get nm i
  cases h:sEq (mkNm (sAt ms i)) nm<;>simp[ih]
omit hz in
theorem prev_not (a b:Str):((Op.bytesLess b.toList a.toList)||(b.toList==a.toList))=!sLt a b:=by
 have:=sLt_not b a
 exact this
theorem i_marks (name zone:Str) (room hold:Int) (shut:Bool):lim (ap10 i_pBerthOk.d1) [.l (ms.map sE),.i (ms.length:Nat),.i 0,.s name,.s zone,.l (ms.map sE),.i room,.i hold,.b shut,.l []]=
  bif allFrom (markAt ms) 0 ms.length then some (.brk 0 []) else some (.ret [.b false]):=by
 have h:=fun hl:ms.length<big=>chk_loop (body:=ap10 i_pBerthOk.d1) (S:=fun i=>[.l (ms.map sE),.i (ms.length:Nat),.i (i:Nat),.s name,.s zone,.l (ms.map sE),.i room,.i hold,.b shut,.l (mapN ms i)]) (p:=markAt ms) (n:=ms.length) (b:=0) (ys:=[]) (r:=[.b false])
  (fun i hi=>by
   have hsz:(sAt ms i).size≤1048576:=by rw[sAt_get hi];exact hz.2 _ (List.getElem_mem hi)
   have e3:((i:Int)<(ms.length:Int)):=by omega
   simp only[apL,jC,jD,i_pBerthOk.d1,C.I_i,C.L_l,jW,jY,getD_map' sE hi,←sAt_get hi,w1 hi hl,e3,decide_true,jR,jX]
   simp only[sE,jC,i_pMark_eq _ hsz,call3,jI,C.S_s,jD,C.B_b,mapN_get,Bool.not_not,markAt]
   cases hok:mkOk (sAt ms i) with
   |false=>simp
   |true=>
    cases hdu:dupN ms (mkNm (sAt ms i)) i with
    |false=>simp
    |true=>
     rcases Nat.eq_zero_or_pos i with h0|h0
     ·subst h0;simp[mapN]
     ·have hi1:i-1<ms.length:=by omega
      have hw:w64 ((i:Int)-1)=((i-1:Nat):Int):=by rw[w64_of (by omega) (by simp only[big] at hl;omega)];omega
      have e1:((i:Int)>0):=by omega
      have e2:(((i-1:Nat):Int)<(ms.length:Int)):=by omega
      have e4:(i==0)=false:=by simp;omega
      simp only[hw,jY,getD_map' sE hi1,←sAt_get hi1,e1,e2,e4,decide_true,jR,jX,sE,jC,C.S_s,prev_not,Bool.false_or,jZ,ja,jS,Bool.true_and,Bool.and_true]
      cases sLt (sAt ms (i-1)) (sAt ms i)<;>simp[mapN])
  (by simp[i_pBerthOk.d1]) ms.length 0 rfl
 have h:=h (by have:=hz.1;simp only[big];omega)
 simpa [mapN] using h
end
def berthOk (b:Bt):Bool:=nameOk b.name&&(nameOk b.zone&&(marksOk b.marks&&(within b.room 0 1000&&within b.hold 0 1000)))
theorem s_l2BerthOk_eq (b:Bt) (hz:b.Sz 1048576):s_l2BerthOk b.e=some [.b (berthOk b)]:=by
 simp only[s_l2BerthOk,s_l2BerthOk.d1,Bt.e,apL,jC,jD,s_l1NameOk_eq _ hz.1,s_l1NameOk_eq _ hz.2.1,s_l2MarksOk_eq hz.2.2,s_l1In_eq,call1,jI,C.B_b,berthOk]
 cases nameOk b.name<;>cases nameOk b.zone<;>cases marksOk b.marks<;>cases within b.room 0 1000<;>simp
theorem i_pBerthOk_eq (b:Bt) (hz:b.Sz 1048576):i_pBerthOk b.e=some [.b (berthOk b)]:=by
 have hm:=i_marks (ms:=b.marks) hz.2.2 b.name b.zone b.room b.hold b.shut
 simp only[i_pBerthOk,i_pBerthOk.d3,Bt.e,apL,jC,jD,i_pName_eq _ hz.1,i_pName_eq _ hz.2.1,i_within_eq,call1,jI,C.B_b,C.L_l,jW,nils,hm,berthOk,marksOk]
 by_cases h10:(b.marks.length:Int)>10
 ·have:¬b.marks.length≤10:=by omega
  simp only[h10,this,decide_true,decide_false]
  cases nameOk b.name<;>cases nameOk b.zone<;>simp
 ·have:b.marks.length≤10:=by omega
  simp only[h10,this,decide_true,decide_false]
  cases nameOk b.name<;>cases nameOk b.zone<;>cases within b.room 0 1000<;>cases within b.hold 0 1000<;>cases allFrom (markAt b.marks) 0 b.marks.length<;>simp[i_pBerthOk.d2]
end Go.Ev
namespace Go.Ev
def selOk (s:Str):Bool:=(pp s).code==0
def likeOk (x:Lk):Bool:=selOk x.sel&&within x.w (-9) 9
def noneOr (s:Str):Bool:=sEq s (mkS [])||nameOk s
def copyOk (c:Cp):Bool:=
 nameOk c.name&&(within c.rank 0 100&&(within c.born 0 1000000&&(within c.room 0 1000&&(within c.hold 0 1000&&(decide (c.likes.length≤5)&&(within c.apart 0 2&&(noneOr c.near&&(noneOr c.fixed&&(selOk c.sel&&c.likes.all likeOk)))))))))
theorem s_l2SelectOk_eq (s:Str) (hl:s.size≤1048576):s_l2SelectOk [.s s]=some [.b (selOk s)]:=by
 simp only[s_l2SelectOk,s_l2SelectOk.d1,apL,jC,s_PilotParse_eq s hl,call2,jI,jD,C.I_i,jV,selOk]
 have:(((pp s).code:Int)==0)=((pp s).code==0):=by
  rw[Bool.eq_iff_iff,beq_iff_eq,beq_iff_eq];omega
 rw[this]
def likeP (l:List Lk) (i:Nat):Bool:=match l[i]? with|some x=>likeOk x|none=>true
theorem likeP_all (l:List Lk):allFrom (likeP l) 0 l.length=l.all likeOk:=by
 rw[Bool.eq_iff_iff,allFrom_iff,List.all_eq_true]
 constructor
 ·intro h x hx
  obtain ⟨i,hi,rfl⟩:=List.getElem_of_mem hx
  have:=h i (Nat.zero_le _) (by omega)
  simpa [likeP,hi] using this
 ·intro h i _ hi
  have hi:i<l.length:=by omega
  simpa [likeP,hi] using h _ (List.getElem_mem hi)
theorem s_likes (c:Cp) (hz:c.Sz 1048576) (K:List C→R):bindBlk 0 (lim (ap13 s_l2CopyOk.d1) ([.i 0]++c.e)) K=bif c.likes.all likeOk then K [] else some (.ret [.b false]):=by
 have hl:c.likes.length<big:=by have:=hz.2.2.2.2.2.2.1;simp only[big];omega
 have h:=chk_loop (body:=ap13 s_l2CopyOk.d1) (S:=fun i=>[.i (i:Nat)]++c.e) (p:=likeP c.likes) (n:=c.likes.length) (b:=0) (ys:=[]) (r:=[.b false])
  (fun i hi=>by
   have hsz:=hz.2.2.2.2.2.2.2 _ (List.getElem_mem hi)
   have e3:((i:Int)<(c.likes.length:Int)):=by omega
   have hp:likeP c.likes i=likeOk c.likes[i]:=by simp[likeP,hi]
   simp only[Cp.e,jA,jB,apL,jC,jD,s_l2CopyOk.d1,C.I_i,C.L_l,jW,jY,getD_map' Lk.e hi,w1 hi hl,e3,decide_true,jR,jX,hp,likeOk]
   simp only[Lk.e,jC,jD,s_l2SelectOk_eq _ hsz,s_l1In_eq,call1,jI,C.B_b]
   cases selOk c.likes[i].sel<;>cases within c.likes[i].w (-9) 9<;>simp)
  (by simp[s_l2CopyOk.d1,Cp.e]) c.likes.length 0 rfl
 simp only[Int.natCast_zero] at h
 rw[h,likeP_all]
 cases c.likes.all likeOk<;>simp
theorem s_l2CopyOk_eq (c:Cp) (hz:c.Sz 1048576):s_l2CopyOk c.e=some [.b (nameOk c.svc&&copyOk c)]:=by
 obtain ⟨z1,z2,z3,z4,z5,z6,z7,z8⟩:=hz
 have hlp:=s_likes c ⟨z1,z2,z3,z4,z5,z6,z7,z8⟩ (fun xs=>s_l2CopyOk.d2)
 simp only[Cp.e,jA,jB] at hlp
 have q1:(c.near.toList==(bs #[]).toList)=sEq c.near (mkS []):=rfl
 have q2:(c.fixed.toList==(bs #[]).toList)=sEq c.fixed (mkS []):=rfl
 simp only[s_l2CopyOk,s_l2CopyOk.d4,Cp.e,apL,jC,jD,s_l1NameOk_eq _ z1,s_l1NameOk_eq _ z2,s_l1NameOk_eq _ z4,s_l1NameOk_eq _ z5,s_l1In_eq,s_l2SelectOk_eq _ z3,call1,jI,C.B_b,C.L_l,C.S_s,jW,copyOk,noneOr,q1,q2]
 have e5:decide ((c.likes.length:Int)>5)=!decide (c.likes.length≤5):=by
  by_cases h:c.likes.length≤5
  ·have:¬((c.likes.length:Int)>5):=by omega
   simp[h,this]
  ·have:((c.likes.length:Int)>5):=by omega
   simp[h,this]
 rw[e5]
 cases nameOk c.name with
 |false=>simp
 |true=>
 cases nameOk c.svc with
 |false=>simp
 |true=>
 cases within c.rank 0 100 with
 |false=>simp
 |true=>
 cases within c.born 0 1000000 with
 |false=>simp
 |true=>
 cases within c.room 0 1000 with
 |false=>simp
 |true=>
 cases within c.hold 0 1000 with
 |false=>simp
 |true=>
 simp only[jZ,ja,jR,jS,Bool.true_and]
 cases selOk c.sel with
 |false=>simp[s_l2CopyOk.d3]
 |true=>
 cases decide (c.likes.length≤5) with
 |false=>simp[s_l2CopyOk.d3]
 |true=>
 cases within c.apart 0 2 with
 |false=>simp[s_l2CopyOk.d3]
 |true=>
 simp only[jZ,ja,jR,jS,Bool.true_and]
 cases sEq c.near (mkS [])<;>cases nameOk c.near<;>cases sEq c.fixed (mkS [])<;>cases nameOk c.fixed<;>simp[s_l2CopyOk.d3,hlp]<;>cases c.likes.all likeOk<;>simp[s_l2CopyOk.d2]
theorem i_likes (l:List Lk) (hz:l.length≤1048576∧∀x,x∈l→x.sel.size≤1048576) (K:List C→R):bindBlk 0 (lim (ap3 i_pCopyOk.d1) [.l (l.map Lk.e),.i (l.length:Nat),.i 0]) K=bif l.all likeOk then K [] else some (.ret [.b false]):=by
 have hl:l.length<big:=by have:=hz.1;simp only[big];omega
 have h:=chk_loop (body:=ap3 i_pCopyOk.d1) (S:=fun i=>[.l (l.map Lk.e),.i (l.length:Nat),.i (i:Nat)]) (p:=likeP l) (n:=l.length) (b:=0) (ys:=[]) (r:=[.b false])
  (fun i hi=>by
   have hsz:=hz.2 _ (List.getElem_mem hi)
   have e3:((i:Int)<(l.length:Int)):=by omega
   have hp:likeP l i=likeOk l[i]:=by simp[likeP,hi]
   have hc:(((pp l[i].sel).code:Int) !=0)=!selOk l[i].sel:=by
    unfold selOk bne
    congr 1
    rw[Bool.eq_iff_iff,beq_iff_eq,beq_iff_eq];omega
   simp only[apL,jC,jD,i_pCopyOk.d1,C.I_i,C.L_l,jW,jY,getD_map' Lk.e hi,w1 hi hl,e3,decide_true,jR,jX,hp,likeOk]
   simp only[Lk.e,jC,jD,i_pParse_eq _ hsz,i_within_eq,call1,call2,jI,C.B_b,C.I_i,hc]
   cases selOk l[i].sel<;>cases within l[i].w (-9) 9<;>simp)
  (by simp[i_pCopyOk.d1]) l.length 0 rfl
 simp only[Int.natCast_zero] at h
 rw[h,likeP_all]
 cases l.all likeOk<;>simp
theorem i_pCopyOk_eq (c:Cp) (hz:c.Sz 1048576):i_pCopyOk c.e=some [.b (copyOk c)]:=by
 obtain ⟨z1,z2,z3,z4,z5,z6,z7⟩:=hz
 have hlp:=i_likes c.likes z7 (fun xs=>i_pCopyOk.d2)
 have q1:(c.near.toList==(bs #[]).toList)=sEq c.near (mkS []):=rfl
 have q2:(c.fixed.toList==(bs #[]).toList)=sEq c.fixed (mkS []):=rfl
 have hc:(((pp c.sel).code:Int) !=0)=!selOk c.sel:=by
  unfold selOk bne
  congr 1
  rw[Bool.eq_iff_iff,beq_iff_eq,beq_iff_eq];omega
 simp only[i_pCopyOk,i_pCopyOk.d4,Cp.e,apL,jC,jD,i_pName_eq _ z1,i_pName_eq _ z4,i_pName_eq _ z5,i_within_eq,call1,jI,C.B_b,C.L_l,C.S_s,jW,copyOk,noneOr,q1,q2]
 have e5:decide ((c.likes.length:Int)>5)=!decide (c.likes.length≤5):=by
  by_cases h:c.likes.length≤5
  ·have:¬((c.likes.length:Int)>5):=by omega
   simp[h,this]
  ·have:((c.likes.length:Int)>5):=by omega
   simp[h,this]
 rw[e5]
 have hd3:∀b:Bool,i_pCopyOk.d3 (.b b) (.s c.name) (.s c.svc) (.i c.rank) (.i c.born) (.i c.room) (.i c.hold) (.s c.sel) (.l (c.likes.map Lk.e)) (.i c.apart) (.s c.near) (.s c.fixed) (.s c.at_)=bif b then some (.ret [.b false]) else bif selOk c.sel&&c.likes.all likeOk then some (.ret [.b true]) else some (.ret [.b false]):=fun b=>by
  simp only[i_pCopyOk.d3,C.B_b,i_pParse_eq _ z3,call2,jI,jC,jD,C.I_i,hc,C.L_l,jW,hlp]
  cases b<;>cases selOk c.sel<;>cases c.likes.all likeOk<;>simp[i_pCopyOk.d2]
 cases nameOk c.name with
 |false=>simp[hd3]
 |true=>
 cases within c.rank 0 100 with
 |false=>simp[hd3]
 |true=>
 cases within c.born 0 1000000 with
 |false=>simp[hd3]
 |true=>
 cases within c.room 0 1000 with
 |false=>simp[hd3]
 |true=>
 cases within c.hold 0 1000 with
 |false=>simp[hd3]
 |true=>
 simp only[jZ,ja,jR,jS,Bool.true_and]
 cases decide (c.likes.length≤5) with
 |false=>simp[hd3]
 |true=>
 cases within c.apart 0 2 with
 |false=>simp[hd3]
 |true=>
 simp only[jZ,ja,jR,jS,Bool.true_and]
 cases sEq c.near (mkS [])<;>cases nameOk c.near<;>cases sEq c.fixed (mkS [])<;>cases nameOk c.fixed<;>simp[hd3]<;>cases selOk c.sel&&c.likes.all likeOk<;>simp
def usedR (l:List Cp) (nm:Str):Nat→Int
 |0=>0
 |i+1=>match l[i]? with
  |some c=>bif sEq c.at_ nm then w64 (usedR l nm i+c.room) else usedR l nm i
  |none=>usedR l nm i
def usedH (l:List Cp) (nm:Str):Nat→Int
 |0=>0
 |i+1=>match l[i]? with
  |some c=>bif sEq c.at_ nm then w64 (usedH l nm i+c.hold) else usedH l nm i
  |none=>usedH l nm i
def used (f:Fl) (nm:Str):Int×Int:=bif sEq nm (mkS [])||decide (bIx f nm<0) then (0,0) else (usedR f.cps nm f.cps.length,usedH f.cps nm f.cps.length)
theorem s_PilotUsed_eq (f:Fl) (nm:Str) (hz:f.Sz 1048576):s_PilotUsed (f.e++[.s nm])=some [.i (used f nm).1,.i (used f nm).2]:=by
 have hl:f.cps.length<big:=by have:=hz.2.2.1;simp only[big];omega
 have hb:=s_l2Berth_eq f nm hz.1.1
 have q1:(nm.toList==(bs #[]).toList)=sEq nm (mkS []):=rfl
 simp only[Fl.e,jA,jB] at hb
 simp only[s_PilotUsed,s_PilotUsed.d4,Fl.e,jA,jB,apL,jC,jD,hb,call1,jI,C.I_i,used]
 cases hlt:decide (bIx f nm<0) with
 |true=>simp
 |false=>
  simp only[jS,Bool.or_false]
  cases he:sEq nm (mkS []) with
  |true=>
   have h:=run_loop (body:=ap8 s_PilotUsed.d2) (S:=fun i=>[.s nm,.i 0,.i 0,.i (i:Nat),.b f.pack,.l (f.bts.map Bt.e),.l (f.svs.map Sv.e),.l (f.cps.map Cp.e)]) (n:=f.cps.length) (b:=0) (ys:=[.i 0,.i 0])
    (fun i hi=>by
     have e3:((i:Int)<(f.cps.length:Int)):=by omega
     simp only[apL,jC,jD,s_PilotUsed.d2,s_PilotUsed.d1,C.I_i,C.L_l,C.S_s,jW,q1,he,e3,decide_true,jR,jZ,jS,jJ,C.B_b,w1 hi hl])
    (by simp[s_PilotUsed.d2]) f.cps.length 0 rfl
   simp only[Int.natCast_zero] at h
   rw[h]
   simp[s_PilotUsed.d3]
  |false=>
   have h:=run_loop (body:=ap8 s_PilotUsed.d2) (S:=fun i=>[.s nm,.i (usedR f.cps nm i),.i (usedH f.cps nm i),.i (i:Nat),.b f.pack,.l (f.bts.map Bt.e),.l (f.svs.map Sv.e),.l (f.cps.map Cp.e)]) (n:=f.cps.length) (b:=0) (ys:=[.i (usedR f.cps nm f.cps.length),.i (usedH f.cps nm f.cps.length)])
    (fun i hi=>by
     have e3:((i:Int)<(f.cps.length:Int)):=by omega
     simp only[apL,jC,jD,s_PilotUsed.d2,s_PilotUsed.d1,C.I_i,C.L_l,C.S_s,jW,jY,getD_map' Cp.e hi,q1,he,e3,decide_true,jR,ja,jX,jJ,C.B_b,w1 hi hl,usedR,usedH,List.getElem?_eq_getElem hi]
     simp only[Cp.e,jC,jD,C.S_s,C.I_i]
     show (bif sEq f.cps[i].at_ nm then _ else _)=_
     cases sEq f.cps[i].at_ nm<;>simp)
    (by simp[s_PilotUsed.d2]) f.cps.length 0 rfl
   simp only[Int.natCast_zero,usedR,usedH] at h
   rw[h]
   simp[s_PilotUsed.d3]
theorem i_PilotUsed_eq (f:Fl) (nm:Str) (hz:f.Sz 1048576):i_PilotUsed (f.e++[.s nm])=some [.i (used f nm).1,.i (used f nm).2]:=by
 have hl:f.cps.length<big:=by have:=hz.2.2.1;simp only[big];omega
 have hb:=i_pBerthAt_eq f nm hz.1.1
 have q1:(nm.toList==(bs #[]).toList)=sEq nm (mkS []):=rfl
 simp only[Fl.e,jA,jB] at hb
 simp only[i_PilotUsed,i_PilotUsed.d3,Fl.e,jA,jB,apL,jC,jD,C.S_s,q1,hb,call1,jI,C.I_i,C.L_l,jW,used]
 cases he:sEq nm (mkS []) with
 |true=>simp
 |false=>
  simp only[ja,jR,Bool.false_or]
  cases hlt:decide (bIx f nm<0) with
  |true=>simp
  |false=>
   have h:=run_loop (body:=ap6 i_PilotUsed.d1) (S:=fun i=>[.s nm,.i (usedR f.cps nm i),.i (usedH f.cps nm i),.l (f.cps.map Cp.e),.i (f.cps.length:Nat),.i (i:Nat)]) (n:=f.cps.length) (b:=0) (ys:=[.i (usedR f.cps nm f.cps.length),.i (usedH f.cps nm f.cps.length)])
    (fun i hi=>by
     have e3:((i:Int)<(f.cps.length:Int)):=by omega
     simp only[apL,jC,jD,i_PilotUsed.d1,C.I_i,C.L_l,C.S_s,jW,jY,getD_map' Cp.e hi,e3,decide_true,jR,jX,w1 hi hl,usedR,usedH,List.getElem?_eq_getElem hi]
     simp only[Cp.e,jC,jD,C.S_s,C.I_i]
     show (bif sEq f.cps[i].at_ nm then _ else _)=_
     cases sEq f.cps[i].at_ nm<;>simp)
    (by simp[i_PilotUsed.d1]) f.cps.length 0 rfl
   simp only[Int.natCast_zero,usedR,usedH] at h
   rw[h]
   simp[i_PilotUsed.d2]
end Go.Ev
namespace Go.Ev
theorem findIx_any {α:Type} (p:α→Bool):∀(l:List α) (n:Nat),decide (findIx p l n<0)=!l.any p
 |[],n=>by simp[findIx]
 |x::r,n=>by
  cases hx:p x with
  |true=>
   have:¬((n:Int)<0):=by omega
   simp[findIx,hx,this]
  |false=>simp[findIx,hx,findIx_any p r (n+1)]
def standC (l:List Cp) (nm:Str):Nat→Nat
 |0=>0
 |i+1=>match l[i]? with
  |some c=>bif sEq c.at_ nm then standC l nm i+1 else standC l nm i
  |none=>standC l nm i
theorem standC_le (l:List Cp) (nm:Str):∀i,standC l nm i≤i
 |0=>Nat.le_refl _
 |i+1=>by
  have:=standC_le l nm i
  simp only[standC]
  split
  ·rename_i c _
   cases sEq c.at_ nm<;>simp<;>omega
  ·omega
theorem s_l2Stand_eq (f:Fl) (nm:Str) (hz:f.Sz 1048576):s_l2Stand (f.e++[.s nm])=some [.i (standC f.cps nm f.cps.length:Nat)]:=by
 have hl:f.cps.length<big:=by have:=hz.2.2.1;simp only[big];omega
 have h:=run_loop (body:=ap7 s_l2Stand.d1) (S:=fun i=>[.s nm,.i (standC f.cps nm i:Nat),.i (i:Nat),.b f.pack,.l (f.bts.map Bt.e),.l (f.svs.map Sv.e),.l (f.cps.map Cp.e)]) (n:=f.cps.length) (b:=0) (ys:=[.i (standC f.cps nm f.cps.length:Nat)])
  (fun i hi=>by
   have e3:((i:Int)<(f.cps.length:Int)):=by omega
   have hw:=w64n (n:=standC f.cps nm i) (by have:=standC_le f.cps nm i;omega)
   simp only[apL,jC,jD,s_l2Stand.d1,C.I_i,C.L_l,C.S_s,jW,jY,getD_map' Cp.e hi,e3,decide_true,jR,jX,w1 hi hl,hw,standC,List.getElem?_eq_getElem hi]
   simp only[Cp.e,jC,jD,C.S_s]
   show (bif sEq f.cps[i].at_ nm then _ else _)=_
   cases sEq f.cps[i].at_ nm<;>simp)
  (by simp[s_l2Stand.d1]) f.cps.length 0 rfl
 simp only[Int.natCast_zero,standC] at h
 simp only[s_l2Stand,s_l2Stand.d3,Fl.e,jA,jB,apL,jC,jD]
 rw[h]
 simp[s_l2Stand.d2]
def svA (f:Fl) (i:Nat):Bool:=match f.svs[i]? with
 |some s=>nameOk s.name&&((i==0||match f.svs[i-1]? with|some q=>sLt q.name s.name|none=>true)&&within s.spare 0 60)
 |none=>true
def cpA (f:Fl) (i:Nat):Bool:=match f.cps[i]? with
 |some c=>copyOk c&&(f.svs.any (fun s=>sEq s.name c.svc)&&((i==0||match f.cps[i-1]? with|some q=>sLt q.name c.name|none=>true)&&(sEq c.at_ (mkS [])||f.bts.any (fun b=>sEq b.name c.at_))))
 |none=>true
def btA (f:Fl) (i:Nat):Bool:=match f.bts[i]? with
 |some b=>berthOk b&&(i==0||match f.bts[i-1]? with|some q=>sLt q.name b.name|none=>true)
 |none=>true
def fitA (f:Fl) (i:Nat):Bool:=match f.bts[i]? with
 |some b=>decide ((used f b.name).1≤b.room)&&(decide ((used f b.name).2≤b.hold)&&decide (standC f.cps b.name f.cps.length≤10))
 |none=>true
def validF (f:Fl):Bool:=decide (f.bts.length≤12)&&(decide (f.svs.length≤30)&&(decide (f.cps.length≤60)&&(allFrom (svA f) 0 f.svs.length&&(allFrom (cpA f) 0 f.cps.length&&(allFrom (btA f) 0 f.bts.length&&allFrom (fitA f) 0 f.bts.length)))))
section
variable {f:Fl} (hz:f.Sz 1048576)
include hz
theorem s_V1 (K:List C→R):bindBlk 0 (lim (ap5 s_PilotValid.d1) ([.i 0]++f.e)) K=bif allFrom (svA f) 0 f.svs.length then K f.e else some (.ret [.b false]):=by
 have hl:f.svs.length<big:=by have:=hz.2.1.1;simp only[big];omega
 have h:=chk_loop (body:=ap5 s_PilotValid.d1) (S:=fun i=>[.i (i:Nat)]++f.e) (p:=svA f) (n:=f.svs.length) (b:=0) (ys:=f.e) (r:=[.b false])
  (fun i hi=>by
   have hsz:=hz.2.1.2 _ (List.getElem_mem hi)
   have e3:((i:Int)<(f.svs.length:Int)):=by omega
   have hp:svA f i=(nameOk f.svs[i].name&&((i==0||match f.svs[i-1]? with|some q=>sLt q.name f.svs[i].name|none=>true)&&within f.svs[i].spare 0 60)):=by simp[svA,hi]
   simp only[Fl.e,jA,jB,apL,jC,jD,s_PilotValid.d1,C.I_i,C.L_l,jW,jY,getD_map' Sv.e hi,w1 hi hl,e3,decide_true,jR,jX,hp]
   simp only[Sv.e,jC,jD,s_l1NameOk_eq _ hsz,s_l1In_eq,call1,jI,C.B_b,C.S_s]
   cases hn:nameOk f.svs[i].name with
   |false=>simp
   |true=>
    rcases Nat.eq_zero_or_pos i with h0|h0
    ·subst h0
     cases within f.svs[0].spare 0 60<;>simp
    ·have hi1:i-1<f.svs.length:=by omega
     have hw:w64 ((i:Int)-1)=((i-1:Nat):Int):=by rw[w64_of (by omega) (by simp only[big] at hl;omega)];omega
     have e1:((i:Int)>0):=by omega
     have e2:(((i-1:Nat):Int)<(f.svs.length:Int)):=by omega
     have e4:(i==0)=false:=by simp;omega
     simp only[hw,jY,getD_map' Sv.e hi1,e1,e2,e4,decide_true,jR,jX,List.getElem?_eq_getElem hi1,Bool.false_or,jZ,ja,Bool.true_and]
     simp only[Sv.e,jC,C.S_s]
     show (bif (!(!sLt f.svs[i-1].name f.svs[i].name)) then _ else _)=_
     cases sLt f.svs[i-1].name f.svs[i].name<;>cases within f.svs[i].spare 0 60<;>simp)
  (by simp[s_PilotValid.d1,Fl.e]) f.svs.length 0 rfl
 simp only[Int.natCast_zero] at h
 rw[h]
 cases allFrom (svA f) 0 f.svs.length<;>simp
theorem s_V2 (hn:∀s,s∈f.svs→nameOk s.name=true) (K:List C→R):bindBlk 2 (lim (ap5 s_PilotValid.d3) ([.i 0]++f.e)) K=bif allFrom (cpA f) 0 f.cps.length then K f.e else some (.ret [.b false]):=by
 have hl:f.cps.length<big:=by have:=hz.2.2.1;simp only[big];omega
 have h:=chk_loop (body:=ap5 s_PilotValid.d3) (S:=fun i=>[.i (i:Nat)]++f.e) (p:=cpA f) (n:=f.cps.length) (b:=2) (ys:=f.e) (r:=[.b false])
  (fun i hi=>by
   have hsz:=hz.2.2.2 _ (List.getElem_mem hi)
   have e3:((i:Int)<(f.cps.length:Int)):=by omega
   have hp:cpA f i=(copyOk f.cps[i]&&(f.svs.any (fun s=>sEq s.name f.cps[i].svc)&&((i==0||match f.cps[i-1]? with|some q=>sLt q.name f.cps[i].name|none=>true)&&(sEq f.cps[i].at_ (mkS [])||f.bts.any (fun b=>sEq b.name f.cps[i].at_))))):=by simp[cpA,hi]
   have hsv:=s_l2Service_eq f f.cps[i].svc hz.2.1.1
   have hbt:=s_l2Berth_eq f f.cps[i].at_ hz.1.1
   have hco:=s_l2CopyOk_eq f.cps[i] hsz
   have q1:(f.cps[i].at_.toList==(bs #[]).toList)=sEq f.cps[i].at_ (mkS []):=rfl
   have hs1:decide (sIx f f.cps[i].svc<0)=!f.svs.any (fun s=>sEq s.name f.cps[i].svc):=findIx_any _ _ _
   have hb1:decide (bIx f f.cps[i].at_<0)=!f.bts.any (fun b=>sEq b.name f.cps[i].at_):=findIx_any _ _ _
   have hany:f.svs.any (fun s=>sEq s.name f.cps[i].svc)=true→nameOk f.cps[i].svc=true:=fun h=>by
    obtain ⟨s,h1,h2⟩:=List.any_eq_true.1 h
    rw[←(sEq_iff _ _).1 h2];exact hn s h1
   simp only[Fl.e,jA,jB] at hsv hbt
   simp only[Cp.e] at hco
   simp only[Fl.e,jA,jB,apL,jC,jD,s_PilotValid.d3,C.I_i,C.L_l,jW,jY,getD_map' Cp.e hi,e3,decide_true,jR,jX,hp]
   simp only[Cp.e,jC,jD,hco,hsv,hbt,call1,jI,C.B_b,C.S_s,C.I_i,q1,hs1,hb1]
   have hd2:∀b:Bool,s_PilotValid.d2 (.i (i:Nat)) (.b b) (.b f.pack) (.l (f.bts.map Bt.e)) (.l (f.svs.map Sv.e)) (.l (f.cps.map Cp.e))=bif b then some (.ret [.b false]) else some (.again [.i (i+1:Nat),.b f.pack,.l (f.bts.map Bt.e),.l (f.svs.map Sv.e),.l (f.cps.map Cp.e)]):=fun b=>by
    simp only[s_PilotValid.d2,C.B_b,C.I_i,w1 hi hl]
   cases hany2:f.svs.any (fun s=>sEq s.name f.cps[i].svc) with
   |false=>
    have:∀a b:Bool,(a&&(false&&b))=false:=by decide
    rw[this]
    cases nameOk f.cps[i].svc&&copyOk f.cps[i] with
    |false=>simp[hd2]
    |true=>
     rcases Nat.eq_zero_or_pos i with h0|h0
     ·subst h0
      simp only[Int.natCast_zero] at hd2
      simp[hd2]
     ·have hi1:i-1<f.cps.length:=by omega
      have hw:w64 ((i:Int)-1)=((i-1:Nat):Int):=by rw[w64_of (by omega) (by simp only[big] at hl;omega)];omega
      have e1:((i:Int)>0):=by omega
      have e2:(((i-1:Nat):Int)<(f.cps.length:Int)):=by omega
      simp only[hw,jY,getD_map' Cp.e hi1,e1,e2,decide_true,jR,jX,jZ,ja,jS]
      cases (Op.bytesLess ((f.cps[i-1].e.getD 0 .nil).S).toList (f.cps[i].name).toList)<;>simp[hd2]
   |true=>
    rw[hany hany2,Bool.true_and,Bool.true_and]
    cases copyOk f.cps[i] with
    |false=>simp[hd2]
    |true=>
     rcases Nat.eq_zero_or_pos i with h0|h0
     ·subst h0
      simp only[Int.natCast_zero] at hd2
      cases sEq f.cps[0].at_ (mkS [])<;>cases f.bts.any (fun b=>sEq b.name f.cps[0].at_)<;>simp[hd2]
     ·have hi1:i-1<f.cps.length:=by omega
      have hw:w64 ((i:Int)-1)=((i-1:Nat):Int):=by rw[w64_of (by omega) (by simp only[big] at hl;omega)];omega
      have e1:((i:Int)>0):=by omega
      have e2:(((i-1:Nat):Int)<(f.cps.length:Int)):=by omega
      have e4:(i==0)=false:=by simp;omega
      simp only[hw,jY,getD_map' Cp.e hi1,e1,e2,e4,decide_true,jR,jX,List.getElem?_eq_getElem hi1,Bool.false_or,jZ,ja,jS,Bool.true_and]
      have hn0:(f.cps[i-1].e.getD 0 .nil).S=f.cps[i-1].name:=rfl
      rw[hn0]
      show bindNrm (bif (!(!sLt f.cps[i-1].name f.cps[i].name)) then _ else _) _=_
      cases sLt f.cps[i-1].name f.cps[i].name<;>cases sEq f.cps[i].at_ (mkS [])<;>cases f.bts.any (fun b=>sEq b.name f.cps[i].at_)<;>simp[hd2])
  (by simp[s_PilotValid.d3,Fl.e]) f.cps.length 0 rfl
 simp only[Int.natCast_zero] at h
 rw[h]
 cases allFrom (cpA f) 0 f.cps.length<;>simp
theorem s_V3 (K:List C→R):bindBlk 4 (lim (ap5 s_PilotValid.d4) ([.i 0]++f.e)) K=bif allFrom (fun i=>btA f i&&fitA f i) 0 f.bts.length then K [] else some (.ret [.b false]):=by
 have hl:f.bts.length<big:=by have:=hz.1.1;simp only[big];omega
 have h:=chk_loop (body:=ap5 s_PilotValid.d4) (S:=fun i=>[.i (i:Nat)]++f.e) (p:=fun i=>btA f i&&fitA f i) (n:=f.bts.length) (b:=4) (ys:=[]) (r:=[.b false])
  (fun i hi=>by
   have hsz:=hz.1.2 _ (List.getElem_mem hi)
   have e3:((i:Int)<(f.bts.length:Int)):=by omega
   have hp:btA f i=(berthOk f.bts[i]&&(i==0||match f.bts[i-1]? with|some q=>sLt q.name f.bts[i].name|none=>true)):=by simp[btA,hi]
   have hq:fitA f i=(decide ((used f f.bts[i].name).1≤f.bts[i].room)&&(decide ((used f f.bts[i].name).2≤f.bts[i].hold)&&decide (standC f.cps f.bts[i].name f.cps.length≤10))):=by simp[fitA,hi]
   have hu:=s_PilotUsed_eq f f.bts[i].name hz
   have hs:=s_l2Stand_eq f f.bts[i].name hz
   have hb:=s_l2BerthOk_eq f.bts[i] hsz
   have g1:decide ((used f f.bts[i].name).1>f.bts[i].room)=!decide ((used f f.bts[i].name).1≤f.bts[i].room):=by rw[←decide_not,decide_eq_decide];omega
   have g2:decide ((used f f.bts[i].name).2>f.bts[i].hold)=!decide ((used f f.bts[i].name).2≤f.bts[i].hold):=by rw[←decide_not,decide_eq_decide];omega
   have g3:decide ((standC f.cps f.bts[i].name f.cps.length:Int)>10)=!decide (standC f.cps f.bts[i].name f.cps.length≤10):=by rw[←decide_not,decide_eq_decide];omega
   simp only[Fl.e,jA,jB] at hu hs
   simp only[Bt.e] at hb
   simp only[Fl.e,jA,jB,apL,jC,jD,s_PilotValid.d4,C.I_i,C.L_l,jW,jY,getD_map' Bt.e hi,e3,decide_true,jR,jX,w1 hi hl]
   simp only[Bt.e,jC,jD,hu,hs,hb,call1,call2,jI,C.B_b,C.S_s,C.I_i,g1,g2,g3,hp,hq,Bool.not_not]
   cases berthOk f.bts[i] with
   |false=>simp
   |true=>
    rcases Nat.eq_zero_or_pos i with h0|h0
    ·subst h0
     cases decide ((used f f.bts[0].name).1≤f.bts[0].room)<;>cases decide ((used f f.bts[0].name).2≤f.bts[0].hold)<;>cases decide (standC f.cps f.bts[0].name f.cps.length≤10)<;>simp
    ·have hi1:i-1<f.bts.length:=by omega
     have hw:w64 ((i:Int)-1)=((i-1:Nat):Int):=by rw[w64_of (by omega) (by simp only[big] at hl;omega)];omega
     have e1:((i:Int)>0):=by omega
     have e2:(((i-1:Nat):Int)<(f.bts.length:Int)):=by omega
     have e4:(i==0)=false:=by simp;omega
     simp only[hw,jY,getD_map' Bt.e hi1,e1,e2,e4,decide_true,jR,jX,List.getElem?_eq_getElem hi1,Bool.false_or,jZ,ja,jS,Bool.true_and]
     have hn0:(f.bts[i-1].e.getD 0 .nil).S=f.bts[i-1].name:=rfl
     rw[hn0]
     show (bif sLt f.bts[i-1].name f.bts[i].name then _ else _)=_
     cases sLt f.bts[i-1].name f.bts[i].name<;>cases decide ((used f f.bts[i].name).1≤f.bts[i].room)<;>cases decide ((used f f.bts[i].name).2≤f.bts[i].hold)<;>cases decide (standC f.cps f.bts[i].name f.cps.length≤10)<;>simp)
  (by simp[s_PilotValid.d4,Fl.e]) f.bts.length 0 rfl
 simp only[Int.natCast_zero] at h
 rw[h]
 cases allFrom (fun i=>btA f i&&fitA f i) 0 f.bts.length<;>simp
omit hz in
theorem svs_names (h:allFrom (svA f) 0 f.svs.length=true):∀s,s∈f.svs→nameOk s.name=true:=by
 intro s hs
 obtain ⟨i,hi,rfl⟩:=List.getElem_of_mem hs
 have:=(allFrom_iff _ _ _).1 h i (Nat.zero_le _) (by omega)
 simp only[svA,List.getElem?_eq_getElem hi,Bool.and_eq_true] at this
 exact this.1
omit hz in
theorem allFrom_and (p q:Nat→Bool):∀k i,allFrom (fun i=>p i&&q i) i k=(allFrom p i k&&allFrom q i k)
 |0,i=>rfl
 |k+1,i=>by
  simp only[allFrom,allFrom_and p q k (i+1)]
  cases p i<;>cases q i<;>cases allFrom p (i+1) k<;>simp
theorem s_PilotValid_eq:s_PilotValid f.e=some [.b (validF f)]:=by
 have h1:=s_V1 hz (ap4 s_PilotValid.d7)
 have h3:=s_V3 hz (fun xs=>s_PilotValid.d5)
 simp only[Fl.e,jA,jB] at h1 h3
 have g1:decide ((f.bts.length:Int)>12)=!decide (f.bts.length≤12):=by rw[←decide_not,decide_eq_decide];omega
 have g2:decide ((f.svs.length:Int)>30)=!decide (f.svs.length≤30):=by rw[←decide_not,decide_eq_decide];omega
 have g3:decide ((f.cps.length:Int)>60)=!decide (f.cps.length≤60):=by rw[←decide_not,decide_eq_decide];omega
 simp only[s_PilotValid,s_PilotValid.d8,Fl.e,apL,jC,jD,C.L_l,jW,g1,g2,g3,Bool.not_not,h1,validF]
 cases decide (f.bts.length≤12) with
 |false=>simp
 |true=>
 cases decide (f.svs.length≤30) with
 |false=>simp
 |true=>
 cases decide (f.cps.length≤60) with
 |false=>simp
 |true=>
 cases hs:allFrom (svA f) 0 f.svs.length with
 |false=>simp
 |true=>
  have h2:=s_V2 hz (svs_names hs) (ap4 s_PilotValid.d6)
  simp only[Fl.e,jA,jB] at h2
  simp only[jR,jZ,jS,Bool.true_and,s_PilotValid.d7,apL,jC,jD,h2]
  cases allFrom (cpA f) 0 f.cps.length with
  |false=>simp
  |true=>
   simp only[jR,Bool.true_and,s_PilotValid.d6,apL,jC,jD,h3,allFrom_and]
   cases allFrom (btA f) 0 f.bts.length<;>cases allFrom (fitA f) 0 f.bts.length<;>simp[s_PilotValid.d5]
end
end Go.Ev
namespace Go.Ev
def mapS (l:List Sv):Nat→List (List C)
 |0=>[]
 |i+1=>match l[i]? with
  |some s=>mset s.name (.b true) (mapS l i)
  |none=>mapS l i
theorem mapS_get (l:List Sv) (nm:Str):∀i,i≤l.length→(mget (.b false) nm (mapS l i)).B=(l.take i).any (fun s=>sEq s.name nm)
 |0,_=>rfl
 |i+1,h=>by
  have hi:i<l.length:=h
  rw[mapS,List.getElem?_eq_getElem hi]
  simp only
  rw[mget_mset,List.take_succ_eq_append_getElem hi,List.any_append,sEq_comm]
  have ih:=mapS_get l nm i (by omega)
  cases hq:sEq l[i].name nm with
  |true=>simp[hq]
  |false=>simp[hq,ih]
def mapC (l:List Cp):Nat→List (List C)
 |0=>[]
 |i+1=>match l[i]? with
  |some c=>mset c.at_ (.i (w64 ((mget (.i 0) c.at_ (mapC l i)).I+1))) (mapC l i)
  |none=>mapC l i
theorem mapC_get (l:List Cp) (hl:l.length<big) (nm:Str):∀i,i≤l.length→mget (.i 0) nm (mapC l i)=.i (standC l nm i:Nat)
 |0,_=>rfl
 |i+1,h=>by
  have hi:i<l.length:=h
  have ih:=mapC_get l hl nm i (by omega)
  have ih2:=mapC_get l hl l[i].at_ i (by omega)
  rw[mapC,standC,List.getElem?_eq_getElem hi]
  simp only
  rw[mget_mset,ih,ih2,sEq_comm]
  have hw:=w64n (n:=standC l l[i].at_ i) (by have:=standC_le l l[i].at_ i;omega)
  cases hq:sEq l[i].at_ nm with
  |true=>
   have:=(sEq_iff _ _).1 hq
   subst this
   simp only[jR,C.I_i,hw]
  |false=>rfl
section
variable {f:Fl} (hz:f.Sz 1048576)
include hz
theorem i_V1 (K:List C→R):bindBlk 0 (lim (ap7 i_PilotValid.d1) ([.l (f.bts.map Bt.e),.i (f.bts.length:Nat),.i 0]++f.e)) K=bif allFrom (btA f) 0 f.bts.length then K f.e else some (.ret [.b false]):=by
 have hl:f.bts.length<big:=by have:=hz.1.1;simp only[big];omega
 have h:=chk_loop (body:=ap7 i_PilotValid.d1) (S:=fun i=>[.l (f.bts.map Bt.e),.i (f.bts.length:Nat),.i (i:Nat)]++f.e) (p:=btA f) (n:=f.bts.length) (b:=0) (ys:=f.e) (r:=[.b false])
  (fun i hi=>by
   have hsz:=hz.1.2 _ (List.getElem_mem hi)
   have e3:((i:Int)<(f.bts.length:Int)):=by omega
   have hp:btA f i=(berthOk f.bts[i]&&(i==0||match f.bts[i-1]? with|some q=>sLt q.name f.bts[i].name|none=>true)):=by simp only[btA,List.getElem?_eq_getElem hi]<;>rfl
   have hb:=i_pBerthOk_eq f.bts[i] hsz
   simp only[Bt.e] at hb
   simp only[Fl.e,jA,jB,apL,jC,jD,i_PilotValid.d1,C.I_i,C.L_l,jW,jY,getD_map' Bt.e hi,e3,decide_true,jR,jX,w1 hi hl]
   simp only[Bt.e,jC,jD,hb,call1,jI,C.B_b,C.S_s,hp]
   cases berthOk f.bts[i] with
   |false=>simp
   |true=>
    rcases Nat.eq_zero_or_pos i with h0|h0
    ·subst h0;simp
    ·have hi1:i-1<f.bts.length:=by omega
     have hw:w64 ((i:Int)-1)=((i-1:Nat):Int):=by rw[w64_of (by omega) (by simp only[big] at hl;omega)];omega
     have e1:((i:Int)>0):=by omega
     have e2:(((i-1:Nat):Int)<(f.bts.length:Int)):=by omega
     have e4:(i==0)=false:=by simp;omega
     have hn0:(f.bts[i-1].e.getD 0 .nil).S=f.bts[i-1].name:=rfl
     simp only[hw,jY,getD_map' Bt.e hi1,e1,e2,e4,decide_true,jR,jX,List.getElem?_eq_getElem hi1,Bool.false_or,jZ,ja,jS,Bool.true_and,hn0,prev_not]
     cases sLt f.bts[i-1].name f.bts[i].name<;>simp)
  (by simp[i_PilotValid.d1,Fl.e]) f.bts.length 0 rfl
 simp only[Int.natCast_zero] at h
 rw[h]
 cases allFrom (btA f) 0 f.bts.length<;>simp
theorem i_V2 (K:List C→R):bindBlk 2 (lim (ap8 i_PilotValid.d2) ([.l (f.svs.map Sv.e),.i (f.svs.length:Nat),.i 0]++f.e++[.l []])) K=bif allFrom (svA f) 0 f.svs.length then K (f.e++[.l (mapS f.svs f.svs.length)]) else some (.ret [.b false]):=by
 have hl:f.svs.length<big:=by have:=hz.2.1.1;simp only[big];omega
 have h:=chk_loop (body:=ap8 i_PilotValid.d2) (S:=fun i=>[.l (f.svs.map Sv.e),.i (f.svs.length:Nat),.i (i:Nat)]++f.e++[.l (mapS f.svs i)]) (p:=svA f) (n:=f.svs.length) (b:=2) (ys:=f.e++[.l (mapS f.svs f.svs.length)]) (r:=[.b false])
  (fun i hi=>by
   have hsz:=hz.2.1.2 _ (List.getElem_mem hi)
   have e3:((i:Int)<(f.svs.length:Int)):=by omega
   have hp:svA f i=(nameOk f.svs[i].name&&((i==0||match f.svs[i-1]? with|some q=>sLt q.name f.svs[i].name|none=>true)&&within f.svs[i].spare 0 60)):=by simp only[svA,List.getElem?_eq_getElem hi]<;>rfl
   simp only[Fl.e,jA,jB,apL,jC,jD,i_PilotValid.d2,C.I_i,C.L_l,jW,jY,getD_map' Sv.e hi,w1 hi hl,e3,decide_true,jR,jX,hp,mapS,List.getElem?_eq_getElem hi]
   simp only[Sv.e,jC,jD,i_pName_eq _ hsz,i_within_eq,call1,jI,C.B_b,C.S_s]
   cases hn:nameOk f.svs[i].name with
   |false=>simp
   |true=>
    cases within f.svs[i].spare 0 60 with
    |false=>simp
    |true=>
     rcases Nat.eq_zero_or_pos i with h0|h0
     ·subst h0;simp
     ·have hi1:i-1<f.svs.length:=by omega
      have hw:w64 ((i:Int)-1)=((i-1:Nat):Int):=by rw[w64_of (by omega) (by simp only[big] at hl;omega)];omega
      have e1:((i:Int)>0):=by omega
      have e2:(((i-1:Nat):Int)<(f.svs.length:Int)):=by omega
      have e4:(i==0)=false:=by simp;omega
      have hn0:(f.svs[i-1].e.getD 0 .nil).S=f.svs[i-1].name:=rfl
      simp only[hw,jY,getD_map' Sv.e hi1,e1,e2,e4,decide_true,jR,jX,List.getElem?_eq_getElem hi1,Bool.false_or,jZ,ja,jS,Bool.true_and,hn0,prev_not]
      cases sLt f.svs[i-1].name f.svs[i].name<;>simp)
  (by simp[i_PilotValid.d2,Fl.e]) f.svs.length 0 rfl
 simp only[Int.natCast_zero,mapS] at h
 rw[h]
 cases allFrom (svA f) 0 f.svs.length<;>simp
theorem i_V3 (K:List C→R):bindBlk 4 (lim (ap9 i_PilotValid.d4) ([.l (f.cps.map Cp.e),.i (f.cps.length:Nat),.i 0]++f.e++[.l (mapS f.svs f.svs.length),.l []])) K=bif allFrom (cpA f) 0 f.cps.length then K (f.e++[.l (mapC f.cps f.cps.length)]) else some (.ret [.b false]):=by
 have hl:f.cps.length<big:=by have:=hz.2.2.1;simp only[big];omega
 have h:=chk_loop (body:=ap9 i_PilotValid.d4) (S:=fun i=>[.l (f.cps.map Cp.e),.i (f.cps.length:Nat),.i (i:Nat)]++f.e++[.l (mapS f.svs f.svs.length),.l (mapC f.cps i)]) (p:=cpA f) (n:=f.cps.length) (b:=4) (ys:=f.e++[.l (mapC f.cps f.cps.length)]) (r:=[.b false])
  (fun i hi=>by
   have hsz:=hz.2.2.2 _ (List.getElem_mem hi)
   have e3:((i:Int)<(f.cps.length:Int)):=by omega
   have hp:cpA f i=(copyOk f.cps[i]&&(f.svs.any (fun s=>sEq s.name f.cps[i].svc)&&((i==0||match f.cps[i-1]? with|some q=>sLt q.name f.cps[i].name|none=>true)&&(sEq f.cps[i].at_ (mkS [])||f.bts.any (fun b=>sEq b.name f.cps[i].at_))))):=by simp only[cpA,List.getElem?_eq_getElem hi]<;>rfl
   have hbt:=i_pBerthAt_eq f f.cps[i].at_ hz.1.1
   have hco:=i_pCopyOk_eq f.cps[i] hsz
   have q1:(f.cps[i].at_.toList==(bs #[]).toList)=sEq f.cps[i].at_ (mkS []):=rfl
   have hb1:decide (bIx f f.cps[i].at_<0)=!f.bts.any (fun b=>sEq b.name f.cps[i].at_):=findIx_any _ _ _
   have hsm:=mapS_get f.svs f.cps[i].svc f.svs.length (Nat.le_refl _)
   rw[List.take_length] at hsm
   simp only[Fl.e,jA,jB] at hbt
   simp only[Cp.e] at hco
   simp only[Fl.e,jA,jB,apL,jC,jD,i_PilotValid.d4,C.I_i,C.L_l,jW,jY,getD_map' Cp.e hi,e3,decide_true,jR,jX,hp]
   simp only[Cp.e,jC,jD,hco,hbt,call1,jI,C.B_b,C.S_s,C.I_i,q1,hb1,hsm]
   have hd3:∀(b:Bool),i_PilotValid.d3 (.l (f.cps.map Cp.e)) (.i (f.cps.length:Nat)) (.i (i:Nat)) (.b b) (.b f.pack) (.l (f.bts.map Bt.e)) (.l (f.svs.map Sv.e)) (.l (f.cps.map Cp.e)) (.l (mapS f.svs f.svs.length)) (.l (mapC f.cps i)) (.s f.cps[i].name) (.s f.cps[i].svc) (.i f.cps[i].rank) (.i f.cps[i].born) (.i f.cps[i].room) (.i f.cps[i].hold) (.s f.cps[i].sel) (.l (f.cps[i].likes.map Lk.e)) (.i f.cps[i].apart) (.s f.cps[i].near) (.s f.cps[i].fixed) (.s f.cps[i].at_)=bif b then some (.ret [.b false]) else some (.again [.l (f.cps.map Cp.e),.i (f.cps.length:Nat),.i (i+1:Nat),.b f.pack,.l (f.bts.map Bt.e),.l (f.svs.map Sv.e),.l (f.cps.map Cp.e),.l (mapS f.svs f.svs.length),.l (mapC f.cps (i+1))]):=fun b=>by
    simp only[i_PilotValid.d3,C.B_b,C.I_i,C.L_l,C.S_s,w1 hi hl,mapC,List.getElem?_eq_getElem hi]
   cases copyOk f.cps[i] with
   |false=>simp[hd3]
   |true=>
    cases f.svs.any (fun s=>sEq s.name f.cps[i].svc) with
    |false=>simp[hd3]
    |true=>
     rcases Nat.eq_zero_or_pos i with h0|h0
     ·subst h0
      simp only[Int.natCast_zero] at hd3
      cases sEq f.cps[0].at_ (mkS [])<;>cases f.bts.any (fun b=>sEq b.name f.cps[0].at_)<;>simp[hd3]
     ·have hi1:i-1<f.cps.length:=by omega
      have hw:w64 ((i:Int)-1)=((i-1:Nat):Int):=by rw[w64_of (by omega) (by simp only[big] at hl;omega)];omega
      have e1:((i:Int)>0):=by omega
      have e2:(((i-1:Nat):Int)<(f.cps.length:Int)):=by omega
      have e4:(i==0)=false:=by simp;omega
      have hn0:(f.cps[i-1].e.getD 0 .nil).S=f.cps[i-1].name:=rfl
      simp only[hw,jY,getD_map' Cp.e hi1,e1,e2,e4,decide_true,jR,jX,List.getElem?_eq_getElem hi1,Bool.false_or,jZ,ja,jS,Bool.true_and,hn0,prev_not]
      cases sLt f.cps[i-1].name f.cps[i].name<;>cases sEq f.cps[i].at_ (mkS [])<;>cases f.bts.any (fun b=>sEq b.name f.cps[i].at_)<;>simp[hd3])
  (by simp[i_PilotValid.d4,Fl.e]) f.cps.length 0 rfl
 simp only[Int.natCast_zero,mapC] at h
 rw[h]
 cases allFrom (cpA f) 0 f.cps.length<;>simp
theorem i_V4 (K:List C→R):bindBlk 6 (lim (ap8 i_PilotValid.d5) ([.l (f.bts.map Bt.e),.i (f.bts.length:Nat),.i 0]++f.e++[.l (mapC f.cps f.cps.length)])) K=bif allFrom (fitA f) 0 f.bts.length then K [] else some (.ret [.b false]):=by
 have hl:f.bts.length<big:=by have:=hz.1.1;simp only[big];omega
 have hlc:f.cps.length<big:=by have:=hz.2.2.1;simp only[big];omega
 have h:=chk_loop (body:=ap8 i_PilotValid.d5) (S:=fun i=>[.l (f.bts.map Bt.e),.i (f.bts.length:Nat),.i (i:Nat)]++f.e++[.l (mapC f.cps f.cps.length)]) (p:=fitA f) (n:=f.bts.length) (b:=6) (ys:=[]) (r:=[.b false])
  (fun i hi=>by
   have e3:((i:Int)<(f.bts.length:Int)):=by omega
   have hq:fitA f i=(decide ((used f f.bts[i].name).1≤f.bts[i].room)&&(decide ((used f f.bts[i].name).2≤f.bts[i].hold)&&decide (standC f.cps f.bts[i].name f.cps.length≤10))):=by simp[fitA,hi]
   have hu:=i_PilotUsed_eq f f.bts[i].name hz
   have hmc:=mapC_get f.cps hlc f.bts[i].name f.cps.length (Nat.le_refl _)
   have g1:decide ((used f f.bts[i].name).1>f.bts[i].room)=!decide ((used f f.bts[i].name).1≤f.bts[i].room):=by rw[←decide_not,decide_eq_decide];omega
   have g2:decide ((used f f.bts[i].name).2>f.bts[i].hold)=!decide ((used f f.bts[i].name).2≤f.bts[i].hold):=by rw[←decide_not,decide_eq_decide];omega
   have g3:decide ((standC f.cps f.bts[i].name f.cps.length:Int)>10)=!decide (standC f.cps f.bts[i].name f.cps.length≤10):=by rw[←decide_not,decide_eq_decide];omega
   simp only[Fl.e,jA,jB] at hu
   simp only[Fl.e,jA,jB,apL,jC,jD,i_PilotValid.d5,C.I_i,C.L_l,jW,jY,getD_map' Bt.e hi,e3,decide_true,jR,jX,w1 hi hl]
   simp only[Bt.e,jC,jD,hu,call2,jI,C.S_s,C.I_i,hmc,g1,g2,g3,hq,Bool.not_not]
   cases decide ((used f f.bts[i].name).1≤f.bts[i].room)<;>cases decide ((used f f.bts[i].name).2≤f.bts[i].hold)<;>cases decide (standC f.cps f.bts[i].name f.cps.length≤10)<;>simp)
  (by simp[i_PilotValid.d5,Fl.e]) f.bts.length 0 rfl
 simp only[Int.natCast_zero] at h
 rw[h]
 cases allFrom (fitA f) 0 f.bts.length<;>simp
theorem i_PilotValid_eq:i_PilotValid f.e=some [.b (validF f)]:=by
 have h1:=i_V1 hz (ap4 i_PilotValid.d9)
 have h2:=i_V2 hz (ap5 i_PilotValid.d8)
 have h3:=i_V3 hz (ap5 i_PilotValid.d7)
 have h4:=i_V4 hz (fun xs=>i_PilotValid.d6)
 simp only[Fl.e,jA,jB] at h1 h2 h3 h4
 have g1:decide ((f.bts.length:Int)>12)=!decide (f.bts.length≤12):=by rw[←decide_not,decide_eq_decide];omega
 have g2:decide ((f.svs.length:Int)>30)=!decide (f.svs.length≤30):=by rw[←decide_not,decide_eq_decide];omega
 have g3:decide ((f.cps.length:Int)>60)=!decide (f.cps.length≤60):=by rw[←decide_not,decide_eq_decide];omega
 simp only[i_PilotValid,i_PilotValid.d10,Fl.e,apL,jC,jD,C.L_l,jW,g1,g2,g3,Bool.not_not,h1,validF]
 cases decide (f.bts.length≤12) with
 |false=>simp
 |true=>
 cases decide (f.svs.length≤30) with
 |false=>simp
 |true=>
 cases decide (f.cps.length≤60) with
 |false=>simp
 |true=>
 cases hb:allFrom (btA f) 0 f.bts.length with
 |false=>simp
 |true=>
 simp only[jR,jZ,jS,Bool.true_and,i_PilotValid.d9,apL,jC,jD,C.L_l,jW,nils,h2]
 cases hs:allFrom (svA f) 0 f.svs.length with
 |false=>simp
 |true=>
 simp only[jR,Bool.true_and,i_PilotValid.d8,apL,jC,jD,C.L_l,jW,nils,h3]
 cases hc:allFrom (cpA f) 0 f.cps.length with
 |false=>simp
 |true=>
 simp only[jR,Bool.true_and,i_PilotValid.d7,apL,jC,jD,C.L_l,jW,h4]
 cases allFrom (fitA f) 0 f.bts.length<;>simp[i_PilotValid.d6]
end
end Go.Ev
namespace Go.Ev
theorem findIx_at {α:Type} (p:α→Bool):∀(l:List α) (n:Nat),findIx p l n<0∨∃i,∃h:i<l.length,findIx p l n=((n+i:Nat):Int)∧p l[i]=true
 |[],n=>.inl (by simp[findIx])
 |x::r,n=>by
  cases hx:p x with
  |true=>exact .inr ⟨0,by simp,by simp[findIx,hx],by simpa using hx⟩
  |false=>
   rcases findIx_at p r (n+1) with h|⟨i,h,h1,h2⟩
   ·exact .inl (by simpa [findIx,hx] using h)
   ·exact .inr ⟨i+1,by simpa using h,by simp[findIx,hx,h1];omega,by simpa using h2⟩
theorem i_one_eq (b:Bool):i_one [.b b]=some [.i (bif b then 1 else 0)]:=by cases b<;>rfl
section
variable {f:Fl} {g:List Str} (hz:f.Sz 1048576) (hg:SsSz 1048576 g)
include hz hg
omit hz in
end
end Go.Ev
namespace Go.Ev
def markM (k:Nat) (n v:Tok) (m:Str):Bool:=mkOk m&&(sEq (mkNm m) (mkS n)&&(k==1||sEq (mkVal m) (mkS v)))
def Tr.meets (ms:List Str):Tr→Bool
 |.lf k n v=>k==0||ms.any (markM k n v)
 |.un t=>!t.meets ms
 |.bn k a b=>bif k==4 then a.meets ms&&b.meets ms else a.meets ms||b.meets ms
def Tr.Ok (t:Tr):Prop:=t.Wf∨t=.lf 0 [] []
theorem any_from (q:Nat→Bool):∀(k i:Nat),(!allFrom (fun j=>!q j) i k)=true↔∃j,i≤j∧j<i+k∧q j=true:=by
 intro k i
 rw[Bool.not_eq_true',←Bool.not_eq_true,allFrom_iff]
 constructor
 ·intro h
  apply Classical.byContradiction
  intro hn
  exact h fun j h1 h2=>by
   cases hq:q j with
   |false=>rfl
   |true=>exact absurd ⟨j,h1,h2,hq⟩ hn
 ·rintro ⟨j,h1,h2,h3⟩ h
  have:=h j h1 h2
  rw[h3] at this;simp at this
theorem any_list (p:Str→Bool) (ms:List Str):allFrom (fun j=>!p (sAt ms j)) 0 ms.length=!ms.any p:=by
 rw[←Bool.not_not (b:=allFrom _ _ _)]
 congr 1
 rw[Bool.eq_iff_iff,any_from,List.any_eq_true]
 constructor
 ·rintro ⟨j,_,h1,h2⟩
  have hj:j<ms.length:=by omega
  rw[sAt_get hj] at h2
  exact ⟨_,List.getElem_mem hj,h2⟩
 ·rintro ⟨x,hx,h⟩
  obtain ⟨j,hj,rfl⟩:=List.getElem_of_mem hx
  exact ⟨j,Nat.zero_le _,by omega,by rw[sAt_get hj];exact h⟩
section
variable {ms:List Str} (hz:SsSz 1048576 ms)
include hz
theorem s_leaf (G:List C→Option (List C)) (k:Nat) (n v:Tok) (c:C) (K:List C→R):bindBlk 1 (lim (ap6 (s_l1Meets.d2 G)) [.l (ms.map sE),.i 0,.i (k:Nat),.s (mkS n),.s (mkS v),c]) K=bif ms.any (markM k n v) then some (.ret [.b true]) else K []:=by
 have hl:ms.length<big:=by have:=hz.1;simp only[big];omega
 have h:=chk_loop (body:=ap6 (s_l1Meets.d2 G)) (S:=fun i=>[.l (ms.map sE),.i (i:Nat),.i (k:Nat),.s (mkS n),.s (mkS v),c]) (p:=fun j=>!markM k n v (sAt ms j)) (n:=ms.length) (b:=1) (ys:=[]) (r:=[.b true])
  (fun i hi=>by
   have hsz:(sAt ms i).size≤1048576:=by rw[sAt_get hi];exact hz.2 _ (List.getElem_mem hi)
   have e3:((i:Int)<(ms.length:Int)):=by omega
   have q1:((mkNm (sAt ms i)).toList==(mkS n).toList)=sEq (mkNm (sAt ms i)) (mkS n):=rfl
   have q2:((mkVal (sAt ms i)).toList==(mkS v).toList)=sEq (mkVal (sAt ms i)) (mkS v):=rfl
   have q3:(((k:Nat):Int)==1)=(k==1):=by rw[Bool.eq_iff_iff,beq_iff_eq,beq_iff_eq];omega
   simp only[apL,jC,jD,s_l1Meets.d2,s_l1Meets.d1,C.I_i,C.L_l,jW,jY,getD_map' sE hi,←sAt_get hi,w1 hi hl,e3,decide_true,jR,jX]
   simp only[sE,jC,s_l1Mark_eq _ hsz,call3,jI,C.S_s,jD,C.B_b,q1,q2,q3,markM]
   cases mkOk (sAt ms i)<;>cases sEq (mkNm (sAt ms i)) (mkS n)<;>cases k==1<;>cases sEq (mkVal (sAt ms i)) (mkS v)<;>simp[s_l1Meets.d1,w1 hi hl])
  (by simp[s_l1Meets.d2]) ms.length 0 rfl
 simp only[Int.natCast_zero,any_list] at h
 rw[h]
 cases ms.any (markM k n v)<;>simp
theorem i_leaf (G:List C→Option (List C)) (k:Nat) (n v:Tok) (l:C) (K:List C→R):bindBlk 1 (lim (ap4 (i_pSel_meets.d2 G)) [.p [.i (k:Nat),.s (mkS n),.s (mkS v),l],.l (ms.map sE),.i (ms.length:Nat),.i 0]) K=bif ms.any (markM k n v) then some (.ret [.b true]) else K []:=by
 have hl:ms.length<big:=by have:=hz.1;simp only[big];omega
 have h:=chk_loop (body:=ap4 (i_pSel_meets.d2 G)) (S:=fun i=>[.p [.i (k:Nat),.s (mkS n),.s (mkS v),l],.l (ms.map sE),.i (ms.length:Nat),.i (i:Nat)]) (p:=fun j=>!markM k n v (sAt ms j)) (n:=ms.length) (b:=1) (ys:=[]) (r:=[.b true])
  (fun i hi=>by
   have hsz:(sAt ms i).size≤1048576:=by rw[sAt_get hi];exact hz.2 _ (List.getElem_mem hi)
   have e3:((i:Int)<(ms.length:Int)):=by omega
   have q1:((mkNm (sAt ms i)).toList==(mkS n).toList)=sEq (mkNm (sAt ms i)) (mkS n):=rfl
   have q2:((mkVal (sAt ms i)).toList==(mkS v).toList)=sEq (mkVal (sAt ms i)) (mkS v):=rfl
   have q3:(((k:Nat):Int)==1)=(k==1):=by rw[Bool.eq_iff_iff,beq_iff_eq,beq_iff_eq];omega
   simp only[apL,jC,jD,i_pSel_meets.d2,i_pSel_meets.d1,C.I_i,C.L_l,jW,jY,getD_map' sE hi,←sAt_get hi,w1 hi hl,e3,decide_true,jR,jX]
   simp only[sE,jC,i_pMark_eq _ hsz,call3,jI,C.S_s,jD,C.B_b,C.isP_p,C.P_p,C.I_i,jR,q1,q2,q3,markM]
   cases mkOk (sAt ms i)<;>cases sEq (mkNm (sAt ms i)) (mkS n)<;>cases k==1<;>cases sEq (mkVal (sAt ms i)) (mkS v)<;>simp[i_pSel_meets.d1,w1 hi hl])
  (by simp[i_pSel_meets.d2]) ms.length 0 rfl
 simp only[Int.natCast_zero,any_list] at h
 rw[h]
 cases ms.any (markM k n v)<;>simp
theorem i_meets:∀(k:Nat) (t:Tr),t.depth<k→t.Ok→i_pSel_meets.g k 0 [t.enc,.l (ms.map sE)]=some [.b (t.meets ms)]
 |0,t,h,_=>by omega
 |k+1,t,h,hok=>by
  have hs:∀x,i_pSel_meets.g (k+1) 0 x=i_pSel_meets.step (i_pSel_meets.g k 0) x:=fun _=>rfl
  rw[hs]
  simp only[i_pSel_meets.step,i_pSel_meets.d5,apL,jC,jD]
  cases t with
  |lf kd n v=>
   have hlf:=i_leaf hz (i_pSel_meets.g k 0) kd n v (.l []) (fun xs=>i_pSel_meets.d3 (i_pSel_meets.g k 0))
   have hk:kd=0∨kd=1∨kd=2:=by
    rcases hok with h|h
    ·rcases h.2 with ⟨h,_⟩|⟨h,_⟩
     ·exact .inr (.inl h)
     ·exact .inr (.inr h)
    ·simp only[Tr.lf.injEq] at h;exact .inl h.1
   simp only[Tr.enc,C.isP_p,jR,C.P_p,jC,C.I_i,Tr.meets]
   rcases hk with rfl|rfl|rfl
   ·simp[i_pSel_meets.d4]
   ·simp only[i_pSel_meets.d4,jJ,apL,jC,jD,C.B_b,C.L_l,jW,hlf,show (((1:Nat):Int)==1)=true from rfl,jR]
    cases ms.any (markM 1 n v)<;>simp[i_pSel_meets.d3]
   ·simp only[i_pSel_meets.d4,jJ,apL,jC,jD,C.B_b,C.L_l,jW,hlf,show (((2:Nat):Int)==1)=false from rfl,show (((2:Nat):Int)==2)=true from rfl,jR,jS]
    cases ms.any (markM 2 n v)<;>simp[i_pSel_meets.d3]
  |un t=>
   simp only[Tr.depth] at h
   have hw:t.Ok:=by
    rcases hok with h|h
    ·exact .inl h
    ·simp at h
   have ih:=i_meets k t (by omega) hw
   simp[Tr.enc,i_pSel_meets.d4,ih,call1,Tr.meets]
  |bn kd a b=>
   simp only[Tr.depth] at h
   have hw:(kd=4∨kd=5)∧a.Ok∧b.Ok:=by
    rcases hok with h|h
    ·exact ⟨h.1,.inl h.2.1,.inl h.2.2⟩
    ·simp at h
   have iha:=i_meets k a (by omega) hw.2.1
   have ihb:=i_meets k b (by omega) hw.2.2
   rcases hw.1 with rfl|rfl
   ·cases ha:a.meets ms<;>simp[Tr.enc,i_pSel_meets.d4,iha,ihb,call1,Tr.meets,ha]
   ·cases ha:a.meets ms<;>simp[Tr.enc,i_pSel_meets.d4,iha,ihb,call1,Tr.meets,ha]
theorem s_meets {N K:List (List C)} (hN:N.length≤1048576) (hK:K.length≤1048576):∀(k:Nat) (t:Tr) (o:Nat) (r r':List (List C)),t.depth<k→t.Ok→N.drop o=t.flat++r→K.drop o=t.kids o++r'→
  s_l1Meets.g k 0 [.l N,.l K,.i (o+t.sz-1:Nat),.l (ms.map sE)]=some [.b (t.meets ms)]
 |0,t,o,r,r',h,_,_,_=>by omega
 |k+1,t,o,r,r',h,hok,hd,hd'=>by
  have hs:∀x,s_l1Meets.g (k+1) 0 x=s_l1Meets.step (s_l1Meets.g k 0) x:=fun _=>rfl
  rw[hs]
  simp only[s_l1Meets.step,s_l1Meets.d4,apL,jC,jD,C.I_i,C.L_l,jY]
  cases t with
  |lf kd n v=>
   obtain ⟨h1,h2,_⟩:=drop_cons (show N.drop o=node kd n v 0::r from hd)
   have hlf:=s_leaf hz (s_l1Meets.g k 0) kd n v (.i ((0:Nat):Int)) (fun xs=>s_l1Meets.d3 (s_l1Meets.g k 0))
   have e:o+(Tr.lf kd n v).sz-1=o:=by simp[Tr.sz]
   have hg:N.getD o []=node kd n v 0:=by rw[List.getD_eq_getElem?_getD,List.getElem?_eq_getElem h1,h2];rfl
   have e1:((o:Int)<(N.length:Int)):=by omega
   have hk:kd=0∨kd=1∨kd=2:=by
    rcases hok with h|h
    ·rcases h.2 with ⟨h,_⟩|⟨h,_⟩
     ·exact .inr (.inl h)
     ·exact .inr (.inr h)
    ·simp only[Tr.lf.injEq] at h;exact .inl h.1
   simp only[e,hg,node,jC,jD,C.I_i,e1,decide_true,jR,jX,Tr.meets]
   rcases hk with rfl|rfl|rfl
   ·simp
   ·simp only[show (((1:Nat):Int)==0)=false from rfl,show (((1:Nat):Int)==3)=false from rfl,show (((1:Nat):Int)==4)=false from rfl,show (((1:Nat):Int)==5)=false from rfl,jS,hlf]
    cases ms.any (markM 1 n v)<;>simp[s_l1Meets.d3]
   ·simp only[show (((2:Nat):Int)==0)=false from rfl,show (((2:Nat):Int)==3)=false from rfl,show (((2:Nat):Int)==4)=false from rfl,show (((2:Nat):Int)==5)=false from rfl,jS,hlf]
    cases ms.any (markM 2 n v)<;>simp[s_l1Meets.d3]
  |un t=>
   simp only[Tr.depth] at h
   have hw:t.Ok:=by
    rcases hok with h|h
    ·exact .inl h
    ·simp at h
   have hn:N.drop o=t.flat++(node 3 [] [] 1::r):=by rw[hd];simp[Tr.flat]
   have hk:K.drop o=t.kids o++([.l [[.i (o+t.sz-1:Nat)]]]::r'):=by rw[hd'];simp[Tr.kids]
   have ih:=s_meets hN hK k t o _ _ (by omega) hw hn hk
   obtain ⟨h1,h2⟩:=drop_at hn
   obtain ⟨h3,h4⟩:=drop_at hk
   rw[t.flat_len] at h1
   rw[t.kids_len] at h3
   have h2:N[o+t.sz]=node 3 [] [] 1:=by simp only[t.flat_len] at h2;exact h2
   have h4:K[o+t.sz]=[.l [[.i (o+t.sz-1:Nat)]]]:=by simp only[t.kids_len] at h4;exact h4
   have e:o+(Tr.un t).sz-1=o+t.sz:=by simp[Tr.sz]
   have hg:N.getD (o+t.sz) []=node 3 [] [] 1:=by rw[List.getD_eq_getElem?_getD,List.getElem?_eq_getElem h1,h2];rfl
   have hg':K.getD (o+t.sz) []=[.l [[.i (o+t.sz-1:Nat)]]]:=by rw[List.getD_eq_getElem?_getD,List.getElem?_eq_getElem h3,h4];rfl
   have e1:(((o+t.sz:Nat):Int)<(N.length:Int)):=by omega
   have e2:(((o+t.sz:Nat):Int)<(K.length:Int)):=by omega
   simp only[e,hg,hg',node,jC,jD,C.I_i,C.L_l,e1,e2,decide_true,jR,jX,ih,call1,jI,C.B_b,Tr.meets]
   simp
  |bn kd a b=>
   simp only[Tr.depth] at h
   have hw:(kd=4∨kd=5)∧a.Ok∧b.Ok:=by
    rcases hok with h|h
    ·exact ⟨h.1,.inl h.2.1,.inl h.2.2⟩
    ·simp at h
   have hn:N.drop o=a.flat++(b.flat++(node kd [] [] 2::r)):=by rw[hd];simp[Tr.flat]
   have hn2:N.drop (o+a.sz)=b.flat++(node kd [] [] 2::r):=by rw[←List.drop_drop,hn,←a.flat_len];simp
   have hk:K.drop o=a.kids o++(b.kids (o+a.sz)++([.l [[.i (o+a.sz-1:Nat)],[.i (o+a.sz+b.sz-1:Nat)]]]::r')):=by rw[hd'];simp[Tr.kids]
   have hk2:K.drop (o+a.sz)=b.kids (o+a.sz)++([.l [[.i (o+a.sz-1:Nat)],[.i (o+a.sz+b.sz-1:Nat)]]]::r'):=by
    rw[←List.drop_drop,hk,←a.kids_len o];simp
   have iha:=s_meets hN hK k a o _ _ (by omega) hw.2.1 hn hk
   have ihb:=s_meets hN hK k b (o+a.sz) _ _ (by omega) hw.2.2 hn2 hk2
   obtain ⟨h1,h2⟩:=drop_at hn2
   obtain ⟨h3,h4⟩:=drop_at hk2
   rw[b.flat_len] at h1
   rw[b.kids_len] at h3
   have h2:N[o+a.sz+b.sz]=node kd [] [] 2:=by simp only[b.flat_len] at h2;exact h2
   have h4:K[o+a.sz+b.sz]=[.l [[.i (o+a.sz-1:Nat)],[.i (o+a.sz+b.sz-1:Nat)]]]:=by simp only[b.kids_len] at h4;exact h4
   have e:o+(Tr.bn kd a b).sz-1=o+a.sz+b.sz:=by simp only[Tr.sz];omega
   have hg:N.getD (o+a.sz+b.sz) []=node kd [] [] 2:=by rw[List.getD_eq_getElem?_getD,List.getElem?_eq_getElem h1,h2];rfl
   have hg':K.getD (o+a.sz+b.sz) []=[.l [[.i (o+a.sz-1:Nat)],[.i (o+a.sz+b.sz-1:Nat)]]]:=by rw[List.getD_eq_getElem?_getD,List.getElem?_eq_getElem h3,h4];rfl
   have e1:(((o+a.sz+b.sz:Nat):Int)<(N.length:Int)):=by omega
   have e2:(((o+a.sz+b.sz:Nat):Int)<(K.length:Int)):=by omega
   simp only[e,hg,hg',node,jC,jD,C.I_i,C.L_l,e1,e2,decide_true,jR,jX,iha,ihb,call1,jI,C.B_b,Tr.meets]
   rcases hw.1 with rfl|rfl
   ·cases a.meets ms<;>simp
   ·cases a.meets ms<;>simp
end
end Go.Ev
namespace Go.Ev
def PR.tr:PR→Option Tr
 |.err _=>none
 |.all=>some (.lf 0 [] [])
 |.tree t=>some t
theorem PR.tr_some {p:PR} {t:Tr} (h:p.tr=some t):p.nodes=t.flat∧p.ptr=t.enc∧p.code=0:=by
 cases p with
 |err n=>simp[PR.tr] at h
 |all=>simp only[PR.tr,Option.some.injEq] at h;subst h;exact ⟨rfl,rfl,rfl⟩
 |tree u=>simp only[PR.tr,Option.some.injEq] at h;subst h;exact ⟨rfl,rfl,rfl⟩
theorem PR.tr_none {p:PR} (h:p.tr=none):∃n,p=.err n:=by
 cases p with
 |err n=>exact ⟨n,rfl⟩
 |all=>simp[PR.tr] at h
 |tree u=>simp[PR.tr] at h
theorem pp_code (s:Str) {n:Nat} (h:pp s=.err n):n≠0:=by
 unfold pp at h
 split at h
 ·simp at h;omega
 ·split at h
  ·simp at h
  ·split at h
   ·split at h
    ·simp at h
    ·simp at h;omega
   ·simp at h;omega
theorem pp_ok {s:Str} {t:Tr} (h:(pp s).tr=some t):t.Ok∧t.sz≤200∧t.depth≤20:=by
 cases hp:pp s with
 |err n=>rw[hp] at h;simp[PR.tr] at h
 |all=>
  rw[hp] at h
  simp only[PR.tr,Option.some.injEq] at h
  subst h
  exact ⟨.inr rfl,by simp[Tr.sz],by simp[Tr.depth]⟩
 |tree u=>
  rw[hp] at h
  simp only[PR.tr,Option.some.injEq] at h
  subst h
  obtain ⟨h1,h2,h3⟩:=pp_tree hp
  exact ⟨.inl h1,h2,h3⟩
theorem s_l1Tree0:s_l1Tree [.l (Tr.lf 0 [] []).flat]=some [.b true]:=by
 have w0:w64 1=1:=w64_of (by omega) (by omega)
 have z0:within 0 0 5=true:=rfl
 have h0:ap2 s_l1Tree.d4 [.i 0,.l (Tr.lf 0 [] []).flat]=some (.again [.i 1,.l (Tr.lf 0 [] []).flat]):=by
  simp[s_l1Tree.d4,s_l1Tree.d3,s_l1Tree.d2,s_l1Tree.d1,Tr.flat,node,s_l1In_eq,z0,call1,emp,bs_nil,w0]
 have h1:ap2 s_l1Tree.d4 [.i 1,.l (Tr.lf 0 [] []).flat]=some (.brk 0 []):=by
  simp[s_l1Tree.d4,Tr.flat]
 have hk:=s_l1Kids_eq (.lf 0 [] []) (by simp[Tr.sz])
 have e:¬(((Tr.lf 0 [] []).flat.length:Int)>400):=by simp[Tr.flat]
 simp only[s_l1Tree,s_l1Tree.d6,apL,jC,C.L_l,e,decide_false,jS,hk,call2,jI,C.B_b,jZ]
 rw[lim_again h0,lim_brk h1]
 simp[s_l1Tree.d5]
theorem s_l1Tree_Ok (t:Tr) (ht:t.sz≤400) (ho:t.Ok):s_l1Tree [.l t.flat]=some [.b true]:=by
 rcases ho with h|rfl
 ·exact s_l1Tree_eq t ht h
 ·exact s_l1Tree0
theorem s_l1Valid_Ok (t:Tr) (ht:t.sz≤400) (ho:t.Ok):s_l1Valid [.l t.flat]=some [.b (decide (t.depth≤20))]:=by
 have hd:=t.depth_lt
 have hp:=t.sz_pos
 have hF:=FUEL_ge
 have hw1:w64 ((t.flat.length:Int)-1)=((0+t.sz-1:Nat):Int):=by rw[t.flat_len,w64_of (by omega) (by omega)];omega
 have hn:s_l1Nest [.l (t.kids 0),.i (0+t.sz-1:Nat)]=some [.i (t.depth:Nat)]:=
  s_nest (K:=t.kids 0) (by rw[t.kids_len];omega) FUEL t 0 [] (by omega) (by simp only[big];omega) (by simp)
 simp only[s_l1Valid,s_l1Valid.d1,apL,jC,jD,s_l1Tree_Ok t ht ho,call1,call2,jI,C.B_b,jZ,jS,s_l1Kids_eq t (by omega),C.L_l,hw1,hn,C.I_i,jV]
 have:decide ((t.depth:Int)≤20)=decide (t.depth≤20):=by
  rw[decide_eq_decide];omega
 rw[this]
def zoneS (z:Str):Str:=bs #[122,111,110,101,61]++z
def marksB (b:Bt):List Str:=b.marks++[zoneS b.zone]
def selM (s:Str) (b:Bt):Bool:=match (pp s).tr with
 |some t=>t.meets (marksB b)
 |none=>false
theorem zone_size (z:Str):(zoneS z).size=5+z.size:=by
 unfold zoneS
 rw[ByteArray.size_append];rfl
theorem berthOk_sz {b:Bt} (hb:berthOk b=true):b.marks.length≤10∧b.zone.size≤20:=by
 simp only[berthOk,marksOk,nameOk,within,Bool.and_eq_true,decide_eq_true_eq] at hb
 omega
theorem marksB_sz {b:Bt} (hz:b.Sz 1048576) (hb:berthOk b=true):SsSz 1048576 (marksB b):=by
 obtain ⟨h1,h2⟩:=berthOk_sz hb
 refine ⟨by simp[marksB];omega,fun s hs=>?_⟩
 rcases List.mem_append.1 hs with hs|hs
 ·exact hz.2.2.2 s hs
 ·simp at hs;subst hs;rw[zone_size];omega
theorem s_PilotMeets_eq (t:Tr) (ht:t.sz≤400) (ho:t.Ok) (hd:t.depth≤20) {ms:List Str} (hz:SsSz 1048576 ms):s_PilotMeets [.l t.flat,.l (ms.map sE)]=some [.b (t.meets ms)]:=by
 have hF:=FUEL_ge
 have hp:=t.sz_pos
 have hw1:w64 ((t.flat.length:Int)-1)=((0+t.sz-1:Nat):Int):=by rw[t.flat_len,w64_of (by omega) (by omega)];omega
 have hm:s_l1Meets [.l t.flat,.l (t.kids 0),.i (0+t.sz-1:Nat),.l (ms.map sE)]=some [.b (t.meets ms)]:=
  s_meets hz (by rw[t.flat_len];omega) (by rw[t.kids_len];omega) FUEL t 0 [] [] (by omega) ho (by simp) (by simp)
 simp only[s_PilotMeets,s_PilotMeets.d1,apL,jC,jD,s_l1Valid_Ok t ht ho,hd,decide_true,call1,call2,jI,C.B_b,jZ,jS,s_l1Kids_eq t (by omega),C.L_l,hw1,hm,jV]
theorem s_l3Select_eq (s:Str) (b:Bt) (hs:s.size≤1048576) (hz:b.Sz 1048576) (hb:berthOk b=true):s_l3Select (.s s::b.e)=some [.b (selM s b)]:=by
 obtain ⟨z1,z2⟩:=berthOk_sz hb
 have hm:s_l3Marks b.e=some [.l ((marksB b).map sE)]:=by
  have e1:b.marks.length≤4294967296:=by omega
  have e2:(bs #[122,111,110,101,61]).size+b.zone.size≤4294967296:=by
   have:(bs #[122,111,110,101,61]).size=5:=rfl
   omega
  have e3:b.marks.length+1≤4294967296:=by omega
  simp[s_l3Marks,s_l3Marks.d1,Bt.e,e1,e2,e3,marksB,zoneS,sE]
 simp only[Bt.e] at hm
 simp only[s_l3Select,s_l3Select.d1,Bt.e,apL,jC,jD,s_PilotParse_eq s hs,call2,jI,C.I_i,selM]
 cases ht:(pp s).tr with
 |none=>
  obtain ⟨n,hn⟩:=PR.tr_none ht
  have hne:=pp_code s hn
  have e:((((PR.err n).code:Nat):Int)==0)=false:=by rw[beq_eq_false_iff_ne];simp only[PR.code];omega
  rw[hn]
  simp only[e,jS,jV]
 |some t=>
  obtain ⟨h1,h2,h3⟩:=PR.tr_some ht
  obtain ⟨o1,o2,o3⟩:=pp_ok ht
  have hp:=s_PilotMeets_eq t (by omega) o1 o3 (marksB_sz hz hb)
  rw[h1,h3]
  simp[hm,call1,hp]
theorem i_pMeets_eq (s:Str) (b:Bt) (hs:s.size≤1048576) (hz:b.Sz 1048576) (hb:berthOk b=true):i_pMeets (.s s::b.e)=some [.b (selM s b)]:=by
 obtain ⟨z1,z2⟩:=berthOk_sz hb
 have hF:=FUEL_ge
 have e1:b.marks.length≤4294967296:=by omega
 have e2:(bs #[122,111,110,101,61]).size+b.zone.size≤4294967296:=by
  have:(bs #[122,111,110,101,61]).size=5:=rfl
  omega
 have e3:b.marks.length+1≤4294967296:=by omega
 have hmb:b.marks.map sE++[[.s (bs #[122,111,110,101,61]++b.zone)]]=(marksB b).map sE:=by simp[marksB,zoneS,sE]
 simp only[i_pMeets,i_pMeets.d1,Bt.e,apL,jC,jD,i_pParse_eq s hs,call2,jI,C.I_i,C.L_l,C.S_s,jW,rows,hmb,selM]
 cases ht:(pp s).tr with
 |none=>
  obtain ⟨n,hn⟩:=PR.tr_none ht
  have hne:=pp_code s hn
  have e:((((PR.err n).code:Nat):Int)==0)=false:=by rw[beq_eq_false_iff_ne];simp only[PR.code];omega
  rw[hn]
  simp only[e,jS,jV]
 |some t=>
  obtain ⟨h1,h2,h3⟩:=PR.tr_some ht
  obtain ⟨o1,o2,o3⟩:=pp_ok ht
  have hm:i_pSel_meets [t.enc,.l ((marksB b).map sE)]=some [.b (t.meets (marksB b))]:=i_meets (marksB_sz hz hb) FUEL t (by omega) o1
  rw[h2,h3]
  simp[e1,e2,e3,hm,call1]
end Go.Ev
namespace Go.Ev
def zoneOf (f:Fl) (nm:Str):Str:=if bIx f nm<0 then mkS [] else match f.bts[(bIx f nm).toNat]? with
 |some b=>b.zone
 |none=>mkS []
theorem bIx_at (f:Fl) (nm:Str):bIx f nm<0∨∃k,∃h:k<f.bts.length,bIx f nm=(k:Nat)∧sEq f.bts[k].name nm=true:=by
 rcases findIx_at (fun x:Bt=>sEq x.name nm) f.bts 0 with h|⟨k,hk,h1,h2⟩
 ·exact .inl h
 ·exact .inr ⟨k,hk,by rw[←Nat.zero_add k];exact h1,h2⟩
theorem cIx_at (f:Fl) (nm:Str):cIx f nm<0∨∃k,∃h:k<f.cps.length,cIx f nm=(k:Nat)∧sEq f.cps[k].name nm=true:=by
 rcases findIx_at (fun x:Cp=>sEq x.name nm) f.cps 0 with h|⟨k,hk,h1,h2⟩
 ·exact .inl h
 ·exact .inr ⟨k,hk,by rw[←Nat.zero_add k];exact h1,h2⟩
theorem s_l3ZoneOf_eq (f:Fl) (nm:Str) (hz:f.Sz 1048576):s_l3ZoneOf (f.e++[.s nm])=some [.s (zoneOf f nm)]:=by
 have hb:=s_l2Berth_eq f nm hz.1.1
 simp only[Fl.e,jA,jB] at hb
 simp only[s_l3ZoneOf,s_l3ZoneOf.d1,Fl.e,jA,jB,apL,jC,jD,hb,call1,jI,C.I_i,C.L_l,jW,zoneOf]
 rcases bIx_at f nm with h|⟨k,hk,h1,_⟩
 ·simp[h,bs_nil]
 ·have e5:¬((k:Int)<0):=by omega
  have e6:((k:Int)<(f.bts.length:Int)):=by omega
  have hg:f.bts[k].e.getD 1 .nil=.s f.bts[k].zone:=rfl
  simp only[h1,e5,e6,decide_true,decide_false,jR,jS,jX,jY,getD_map' Bt.e hk,hg,if_false,List.getElem?_eq_getElem hk,jV]
theorem i_pZone_eq (f:Fl) (nm:Str) (hz:f.Sz 1048576):i_pZone (f.e++[.s nm])=some [.s (zoneOf f nm)]:=by
 have hb:=i_pBerthAt_eq f nm hz.1.1
 simp only[Fl.e,jA,jB] at hb
 simp only[i_pZone,i_pZone.d1,Fl.e,jA,jB,apL,jC,jD,hb,call1,jI,C.I_i,C.L_l,jW,zoneOf]
 rcases bIx_at f nm with h|⟨k,hk,h1,_⟩
 ·have e:¬(bIx f nm≥0):=by omega
  simp[h,e,bs_nil]
 ·have e5:¬((k:Int)<0):=by omega
  have e7:((k:Int)≥0):=by omega
  have e6:((k:Int)<(f.bts.length:Int)):=by omega
  have hg:f.bts[k].e.getD 1 .nil=.s f.bts[k].zone:=rfl
  simp only[h1,e5,e6,e7,decide_true,jR,jX,jY,getD_map' Bt.e hk,hg,if_false,List.getElem?_eq_getElem hk,jV]
def oth (c x:Cp):Bool:=!sEq x.name c.name&&!sEq x.at_ (mkS [])
def likeS (l:List Lk) (b:Bt):Nat→Int
 |0=>0
 |i+1=>match l[i]? with
  |some x=>bif selM x.sel b then w64 (likeS l b i+x.w) else likeS l b i
  |none=>likeS l b i
def zoneN (f:Fl) (c:Cp) (b:Bt):Nat→Nat
 |0=>0
 |i+1=>match f.cps[i]? with
  |some x=>bif oth c x&&(sEq x.svc c.svc&&sEq (zoneOf f x.at_) b.zone) then zoneN f c b i+1 else zoneN f c b i
  |none=>zoneN f c b i
def berthN (f:Fl) (c:Cp) (b:Bt):Nat→Nat
 |0=>0
 |i+1=>match f.cps[i]? with
  |some x=>bif oth c x&&(sEq x.svc c.svc&&sEq x.at_ b.name) then berthN f c b i+1 else berthN f c b i
  |none=>berthN f c b i
def leftN (f:Fl) (c:Cp) (b:Bt):Nat→Int
 |0=>w64 (b.room-c.room)
 |i+1=>match f.cps[i]? with
  |some x=>bif oth c x&&sEq x.at_ b.name then w64 (leftN f c b i-x.room) else leftN f c b i
  |none=>leftN f c b i
theorem zoneN_le (f:Fl) (c:Cp) (b:Bt):∀i,zoneN f c b i≤i
 |0=>Nat.le_refl _
 |i+1=>by
  have:=zoneN_le f c b i
  simp only[zoneN]
  split
  ·rename_i x _
   cases oth c x&&(sEq x.svc c.svc&&sEq (zoneOf f x.at_) b.zone)<;>simp<;>omega
  ·omega
theorem berthN_le (f:Fl) (c:Cp) (b:Bt):∀i,berthN f c b i≤i
 |0=>Nat.le_refl _
 |i+1=>by
  have:=berthN_le f c b i
  simp only[berthN]
  split
  ·rename_i x _
   cases oth c x&&(sEq x.svc c.svc&&sEq x.at_ b.name)<;>simp<;>omega
  ·omega
def scoreE (f:Fl) (c:Cp) (b:Bt):List C:=[.i (likeS c.likes b c.likes.length),.i (zoneN f c b f.cps.length:Nat),.i (berthN f c b f.cps.length:Nat),.i (leftN f c b f.cps.length)]
section
variable {f:Fl} (hz:f.Sz 1048576) {c:Cp} (hc:c.Sz 1048576) {b:Bt} (hb:b.Sz 1048576) (hbo:berthOk b=true)
include hz hc hb hbo
theorem s_l4Score_eq:s_l4Score (f.e++c.e++b.e)=some (scoreE f c b):=by
 have hl:c.likes.length<big:=by have:=hc.2.2.2.2.2.2.1;simp only[big];omega
 have hlc:f.cps.length<big:=by have:=hz.2.2.1;simp only[big];omega
 have L1:=run_loop (body:=ap31 s_l4Score.d1) (S:=fun i=>[C.i (i:Nat)]++f.e++c.e++b.e++[C.i 0,C.i 0,C.i 0,C.i 0,C.i (likeS c.likes b i),C.i 0,C.i 0,C.i (w64 (b.room-c.room))]) (n:=c.likes.length) (b:=0) (ys:=f.e++c.e++b.e++[C.i 0,C.i 0,C.i 0,C.i 0,C.i (likeS c.likes b c.likes.length),C.i 0,C.i 0,C.i (w64 (b.room-c.room))])
  (fun i hi=>by
   have hsz:=hc.2.2.2.2.2.2.2 _ (List.getElem_mem hi)
   have e3:((i:Int)<(c.likes.length:Int)):=by omega
   have hsel:=s_l3Select_eq c.likes[i].sel b hsz hb hbo
   simp only[Bt.e] at hsel
   have g0:c.likes[i].e.getD 0 .nil=.s c.likes[i].sel:=rfl
   have g1:c.likes[i].e.getD 1 .nil=.i c.likes[i].w:=rfl
   simp only[Fl.e,Cp.e,Bt.e,jA,jB,apL,jC,jD,s_l4Score.d1,C.I_i,C.L_l,jW,jY,getD_map' Lk.e hi,g0,g1,e3,decide_true,jR,jX,w1 hi hl,hsel,call1,jI,C.B_b,likeS,List.getElem?_eq_getElem hi]
   cases selM c.likes[i].sel b<;>simp)
  (by simp[s_l4Score.d1,Fl.e,Cp.e,Bt.e]) c.likes.length 0 rfl
 have L2:=run_loop (body:=ap31 s_l4Score.d5) (S:=fun i=>[C.i (i:Nat)]++f.e++c.e++b.e++[C.i 0,C.i 0,C.i 0,C.i 0,C.i (likeS c.likes b c.likes.length),C.i ((zoneN f c b i:Nat):Int),C.i ((berthN f c b i:Nat):Int),C.i (leftN f c b i)]) (n:=f.cps.length) (b:=2) (ys:=[C.i 0,C.i 0,C.i 0,C.i 0]++scoreE f c b)
  (fun i hi=>by
   have e3:((i:Int)<(f.cps.length:Int)):=by omega
   have hw1:=w64n (n:=zoneN f c b i) (by have:=zoneN_le f c b i;omega)
   have hw2:=w64n (n:=berthN f c b i) (by have:=berthN_le f c b i;omega)
   have hzo:=s_l3ZoneOf_eq f f.cps[i].at_ hz
   simp only[Fl.e,jA,jB] at hzo
   have q1:(f.cps[i].name.toList==c.name.toList)=sEq f.cps[i].name c.name:=rfl
   have q2:(f.cps[i].at_.toList==(bs #[]).toList)=sEq f.cps[i].at_ (mkS []):=rfl
   have q3:(f.cps[i].at_.toList==b.name.toList)=sEq f.cps[i].at_ b.name:=rfl
   have q4:(f.cps[i].svc.toList==c.svc.toList)=sEq f.cps[i].svc c.svc:=rfl
   have q5:((zoneOf f f.cps[i].at_).toList==b.zone.toList)=sEq (zoneOf f f.cps[i].at_) b.zone:=rfl
   simp only[Fl.e,Cp.e,Bt.e,jA,jB,apL,jC,jD,s_l4Score.d5,C.I_i,C.L_l,C.S_s,jW,jY,getD_map' Cp.e hi,e3,decide_true,jR,jX]
   simp only[Cp.e,jC,jD,C.S_s,C.I_i,q1,q2,q3,zoneN,berthN,leftN,List.getElem?_eq_getElem hi,oth]
   cases sEq f.cps[i].name c.name with
   |true=>simp[s_l4Score.d4,w1 hi hlc]
   |false=>
    cases sEq f.cps[i].at_ (mkS []) with
    |true=>simp[s_l4Score.d4,w1 hi hlc]
    |false=>
     cases h3:sEq f.cps[i].at_ b.name<;>cases h4:sEq f.cps[i].svc c.svc<;>cases h5:sEq (zoneOf f f.cps[i].at_) b.zone<;>
      simp only[ja,jZ,jR,jS,Bool.true_and,Bool.false_and,Bool.and_true,Bool.and_false,jJ,jC,jD,s_l4Score.d3,s_l4Score.d2,C.S_s,C.I_i,q3,q4,q5,h3,h4,h5,hzo,call1,jI,bindBlk_self,apL,s_l4Score.d4,w1 hi hlc,hw1,hw2])
  (by simp[s_l4Score.d5,Fl.e,Cp.e,Bt.e,scoreE]) f.cps.length 0 rfl
 simp only[Fl.e,Cp.e,Bt.e,jA,jB,Int.natCast_zero,likeS,zoneN,berthN,leftN,scoreE] at L1 L2
 simp only[s_l4Score,s_l4Score.d8,Fl.e,Cp.e,Bt.e,jA,jB,apL,jC,jD,C.I_i]
 rw[L1]
 simp only[bindBlk_self,apL,jC,jD,s_l4Score.d7]
 rw[L2]
 simp[s_l4Score.d6,scoreE]
end
end Go.Ev
namespace Go.Ev
theorem valid_bts0 {f:Fl} (h:validF f=true):∀b,b∈f.bts→berthOk b=true:=by
 intro b hb
 obtain ⟨i,hi,rfl⟩:=List.getElem_of_mem hb
 simp only[validF,Bool.and_eq_true] at h
 have:=(allFrom_iff _ _ _).1 h.2.2.2.2.2.1 i (Nat.zero_le _) (by omega)
 simp only[btA,List.getElem?_eq_getElem hi,Bool.and_eq_true] at this
 exact this.1
theorem valid_cps {f:Fl} (h:validF f=true):∀c,c∈f.cps→copyOk c=true:=by
 intro b hb
 obtain ⟨i,hi,rfl⟩:=List.getElem_of_mem hb
 simp only[validF,Bool.and_eq_true] at h
 have:=(allFrom_iff _ _ _).1 h.2.2.2.2.1 i (Nat.zero_le _) (by omega)
 simp only[cpA,List.getElem?_eq_getElem hi,Bool.and_eq_true] at this
 exact this.1
structure VB (f:Fl):Prop where
 n60:f.cps.length≤60
 cb:∀x,x∈f.cps→(0≤x.room∧x.room≤1000)∧(0≤x.hold∧x.hold≤1000)∧(0≤x.apart∧x.apart≤2)∧(0≤x.rank∧x.rank≤100)∧(0≤x.born∧x.born≤1000000)
 bb:∀b,b∈f.bts→berthOk b=true
theorem valid_bts {f:Fl} (h:VB f):∀b,b∈f.bts→berthOk b=true:=h.bb
theorem vb_of {f:Fl} (h:validF f=true):VB f:=by
 refine ⟨?_,fun x hx=>?_,valid_bts0 h⟩
 ·simp only[validF,Bool.and_eq_true,decide_eq_true_eq] at h
  exact h.2.2.1
 ·have:=valid_cps h x hx
  simp only[copyOk,within,Bool.and_eq_true,decide_eq_true_eq] at this
  exact ⟨this.2.2.2.1,this.2.2.2.2.1,this.2.2.2.2.2.2.1,this.2.1,this.2.2.1⟩
section
variable {f:Fl} (hz:f.Sz 1048576) {c:Cp} (hc:c.Sz 1048576) {b:Bt} (hb:b.Sz 1048576) (hbo:berthOk b=true)
include hz hc hb hbo
theorem i_pScore_eq:i_pScore (f.e++c.e++b.e)=some (scoreE f c b):=by
 have hl:c.likes.length<big:=by have:=hc.2.2.2.2.2.2.1;simp only[big];omega
 have hlc:f.cps.length<big:=by have:=hz.2.2.1;simp only[big];omega
 have L1:=run_loop (body:=ap33 i_pScore.d1) (S:=fun i=>[C.l (c.likes.map Lk.e),C.i ((c.likes.length:Nat):Int),C.i (i:Nat)]++f.e++c.e++b.e++[C.i 0,C.i 0,C.i 0,C.i 0,C.i (likeS c.likes b i),C.i 0,C.i 0,C.i (w64 (b.room-c.room))]) (n:=c.likes.length) (b:=0) (ys:=f.e++c.e++b.e++[C.i 0,C.i 0,C.i 0,C.i 0,C.i (likeS c.likes b c.likes.length),C.i 0,C.i 0,C.i (w64 (b.room-c.room))])
  (fun i hi=>by
   have hsz:=hc.2.2.2.2.2.2.2 _ (List.getElem_mem hi)
   have e3:((i:Int)<(c.likes.length:Int)):=by omega
   have hsel:=i_pMeets_eq c.likes[i].sel b hsz hb hbo
   simp only[Bt.e] at hsel
   have g0:c.likes[i].e.getD 0 .nil=.s c.likes[i].sel:=rfl
   have g1:c.likes[i].e.getD 1 .nil=.i c.likes[i].w:=rfl
   simp only[Fl.e,Cp.e,Bt.e,jA,jB,apL,jC,jD,i_pScore.d1,C.I_i,C.L_l,jW,jY,getD_map' Lk.e hi,g0,g1,e3,decide_true,jR,jX,w1 hi hl,hsel,call1,jI,C.B_b,likeS,List.getElem?_eq_getElem hi]
   cases selM c.likes[i].sel b<;>simp)
  (by simp[i_pScore.d1,Fl.e,Cp.e,Bt.e]) c.likes.length 0 rfl
 have L2:=run_loop (body:=ap33 i_pScore.d3) (S:=fun i=>[C.l (f.cps.map Cp.e),C.i ((f.cps.length:Nat):Int),C.i (i:Nat)]++f.e++c.e++b.e++[C.i 0,C.i 0,C.i 0,C.i 0,C.i (likeS c.likes b c.likes.length),C.i ((zoneN f c b i:Nat):Int),C.i ((berthN f c b i:Nat):Int),C.i (leftN f c b i)]) (n:=f.cps.length) (b:=2) (ys:=[C.i 0,C.i 0,C.i 0,C.i 0]++scoreE f c b)
  (fun i hi=>by
   have e3:((i:Int)<(f.cps.length:Int)):=by omega
   have hw1:=w64n (n:=zoneN f c b i) (by have:=zoneN_le f c b i;omega)
   have hw2:=w64n (n:=berthN f c b i) (by have:=berthN_le f c b i;omega)
   have hv1:w64 (((zoneN f c b i:Nat):Int)+0)=((zoneN f c b i:Nat):Int):=by have:=zoneN_le f c b i;simp only[big] at hlc;rw[w64_of (by omega) (by omega)];omega
   have hv2:w64 (((berthN f c b i:Nat):Int)+0)=((berthN f c b i:Nat):Int):=by have:=berthN_le f c b i;simp only[big] at hlc;rw[w64_of (by omega) (by omega)];omega
   have hzo:=i_pZone_eq f f.cps[i].at_ hz
   simp only[Fl.e,jA,jB] at hzo
   have q1:(f.cps[i].name.toList==c.name.toList)=sEq f.cps[i].name c.name:=rfl
   have q2:(f.cps[i].at_.toList==(bs #[]).toList)=sEq f.cps[i].at_ (mkS []):=rfl
   have q3:(f.cps[i].at_.toList==b.name.toList)=sEq f.cps[i].at_ b.name:=rfl
   have q4:(f.cps[i].svc.toList==c.svc.toList)=sEq f.cps[i].svc c.svc:=rfl
   have q5:((zoneOf f f.cps[i].at_).toList==b.zone.toList)=sEq (zoneOf f f.cps[i].at_) b.zone:=rfl
   simp only[Fl.e,Cp.e,Bt.e,jA,jB,apL,jC,jD,i_pScore.d3,C.I_i,C.L_l,C.S_s,jW,jY,getD_map' Cp.e hi,e3,decide_true,jR,jX]
   simp only[Cp.e,jC,jD,C.S_s,C.I_i,q1,q2,q3,q4,hzo,zoneN,berthN,leftN,List.getElem?_eq_getElem hi,oth]
   cases sEq f.cps[i].name c.name with
   |true=>simp[i_pScore.d2,w1 hi hlc]
   |false=>
    cases sEq f.cps[i].at_ (mkS []) with
    |true=>simp[i_pScore.d2,w1 hi hlc]
    |false=>
     cases h3:sEq f.cps[i].at_ b.name<;>cases h4:sEq f.cps[i].svc c.svc<;>cases h5:sEq (zoneOf f f.cps[i].at_) b.zone<;>
      simp only[ja,jZ,jR,jS,Bool.true_and,Bool.false_and,Bool.and_true,Bool.and_false,i_one_eq,call1,jI,jC,jD,C.S_s,C.I_i,q5,h5,bindBlk_self,apL,i_pScore.d2,w1 hi hlc,hw1,hw2,hv1,hv2])
  (by simp[i_pScore.d3,Fl.e,Cp.e,Bt.e,scoreE]) f.cps.length 0 rfl
 simp only[Fl.e,Cp.e,Bt.e,jA,jB,Int.natCast_zero,likeS,zoneN,berthN,leftN,scoreE] at L1 L2
 simp only[i_pScore,i_pScore.d6,Fl.e,Cp.e,Bt.e,jA,jB,apL,jC,jD,C.I_i,C.L_l,jW]
 rw[L1]
 simp only[bindBlk_self,apL,jC,jD,i_pScore.d5,C.L_l,jW]
 rw[L2]
 simp[i_pScore.d4,scoreE]
end
section
variable {f:Fl} (hz:f.Sz 1048576) (cn bn_:Str)
include hz
end
end Go.Ev
namespace Go.Ev
def at_P {α:Type} (p:α→Bool) (l:List α) (j:Nat):Bool:=match l[j]? with|some x=>p x|none=>false
theorem at_P_lt {α:Type} (p:α→Bool) {l:List α} {j:Nat} (h:j<l.length):at_P p l j=p l[j]:=by simp[at_P,h]
theorem any_P {α:Type} (p:α→Bool) (l:List α):allFrom (fun j=>!at_P p l j) 0 l.length=!l.any p:=by
 rw[←Bool.not_not (b:=allFrom _ _ _)]
 congr 1
 rw[Bool.eq_iff_iff,any_from,List.any_eq_true]
 constructor
 ·rintro ⟨j,_,h1,h2⟩
  have hj:j<l.length:=by omega
  rw[at_P_lt p hj] at h2
  exact ⟨_,List.getElem_mem hj,h2⟩
 ·rintro ⟨x,hx,h⟩
  obtain ⟨j,hj,rfl⟩:=List.getElem_of_mem hx
  exact ⟨j,Nat.zero_le _,by omega,by rw[at_P_lt p hj];exact h⟩
def anyN {α:Type} (p:α→Bool) (l:List α) (i:Nat):Bool:=(l.take i).any p
theorem anyN_succ {α:Type} (p:α→Bool) {l:List α} {i:Nat} (h:i<l.length):anyN p l (i+1)=(anyN p l i||p l[i]):=by
 unfold anyN
 rw[List.take_succ_eq_append_getElem h,List.any_append]
 simp only[List.any_cons,List.any_nil,Bool.or_false]
theorem anyN_all {α:Type} (p:α→Bool) (l:List α):anyN p l l.length=l.any p:=by simp[anyN]
def cntN {α:Type} (p:α→Bool) (l:List α) (i:Nat):Nat:=(l.take i).countP p
theorem cntN_succ {α:Type} (p:α→Bool) {l:List α} {i:Nat} (h:i<l.length):cntN p l (i+1)=cntN p l i+(bif p l[i] then 1 else 0):=by
 simp only[cntN,List.take_succ_eq_append_getElem h,List.countP_append,List.countP_cons,List.countP_nil]
 cases p l[i]<;>simp
theorem cntN_le {α:Type} (p:α→Bool) (l:List α) (i:Nat):cntN p l i≤i:=by
 have:=List.countP_le_length (p:=p) (l:=l.take i)
 simp only[cntN,List.length_take] at*
 omega
def sumN {α:Type} (p:α→Bool) (g:α→Int) (l:List α) (i:Nat):Int:=((l.take i).map fun x=>bif p x then g x else 0).sum
theorem sumN_succ {α:Type} (p:α→Bool) (g:α→Int) {l:List α} {i:Nat} (h:i<l.length):sumN p g l (i+1)=sumN p g l i+(bif p l[i] then g l[i] else 0):=by
 unfold sumN
 rw[List.take_succ_eq_append_getElem h,List.map_append,List.sum_append]
 simp only[List.map_cons,List.map_nil,List.sum_cons,List.sum_nil,Int.add_zero]
theorem sumN_le {α:Type} (p:α→Bool) (g:α→Int) {l:List α} (hl:∀x,x∈l→0≤g x∧g x≤1000):∀i,i≤l.length→0≤sumN p g l i∧sumN p g l i≤1000*i
 |0,_=>by simp[sumN]
 |i+1,h=>by
  have ih:=sumN_le p g hl i (by omega)
  have h2:=hl _ (List.getElem_mem (show i<l.length by omega))
  rw[sumN_succ p g (by omega)]
  cases p l[i]<;>simp only[jR,jS]<;>omega
def togP (f:Fl) (c:Cp) (b:Bt) (x:Cp):Bool:=oth c x&&(sEq x.svc c.svc&&(sEq x.at_ b.name&&(x.apart !=0||c.apart !=0)||sEq (zoneOf f x.at_) b.zone&&(x.apart==2||c.apart==2)))
def nearP (f:Fl) (c:Cp) (b:Bt) (x:Cp):Bool:=oth c x&&(sEq x.svc c.near&&sEq (zoneOf f x.at_) b.zone)
def svcP (c:Cp) (s:Str) (x:Cp):Bool:=oth c x&&sEq x.svc s
def farB (f:Fl) (c:Cp) (b:Bt):Bool:=!sEq c.near (mkS [])&&(!f.cps.any (nearP f c b)&&(f.cps.any (svcP c c.near)||!sEq c.near c.svc))
def onP (c:Cp) (b:Bt) (x:Cp):Bool:=oth c x&&sEq x.at_ b.name
def fitsN (f:Fl) (c:Cp) (b:Bt) (o:Bool):Nat:=
 bif b.shut&&!o then 1 else bif !sEq c.fixed (mkS [])&&!sEq c.fixed b.name then 2 else bif !selM c.sel b then 3 else bif f.cps.any (togP f c b) then 4 else bif farB f c b then 5 else
 bif decide (10≤cntN (onP c b) f.cps f.cps.length) then 6 else bif decide (b.room<sumN (onP c b) Cp.room f.cps f.cps.length+c.room) then 7 else bif decide (b.hold<sumN (onP c b) Cp.hold f.cps f.cps.length+c.hold) then 8 else 0
theorem name_ne {b:Bt} (h:berthOk b=true) (s:Str) (hs:sEq s b.name=true):sEq s (mkS [])=false:=by
 cases h0:sEq s (mkS []) with
 |false=>rfl
 |true=>
  have e1:s=b.name:=by rw[sEq_iff] at hs;exact hs
  have e2:s=mkS []:=by rw[sEq_iff] at h0;exact h0
  rw[e2] at e1
  simp only[berthOk,Bool.and_eq_true] at h
  have h:=h.1
  rw[←e1] at h
  exact absurd h (by decide)
theorem cp_room {f:Fl} (h:VB f):∀x,x∈f.cps→0≤x.room∧x.room≤1000:=fun x hx=>(h.cb x hx).1
theorem cp_hold {f:Fl} (h:VB f):∀x,x∈f.cps→0≤x.hold∧x.hold≤1000:=fun x hx=>(h.cb x hx).2.1
theorem cp_apart {f:Fl} (h:VB f):∀x,x∈f.cps→0≤x.apart∧x.apart≤2:=fun x hx=>(h.cb x hx).2.2.1
theorem cps_60 {f:Fl} (h:VB f):f.cps.length≤60:=h.n60
end Go.Ev
namespace Go.Ev
section
variable {f:Fl} (hz:f.Sz 1048576) {c:Cp} (hc:c.Sz 1048576) {b:Bt} (hb:b.Sz 1048576) (hbo:berthOk b=true)
include hz hc hb hbo
theorem s_l3Together_eq:s_l3Together (f.e++c.e++b.e)=some [.b (f.cps.any (togP f c b))]:=by
 have hlc:f.cps.length<big:=by have:=hz.2.2.1;simp only[big];omega
 have h:=chk_loop (body:=ap23 s_l3Together.d3) (S:=fun i=>[C.i (i:Nat)]++f.e++c.e++b.e) (p:=fun j=>!at_P (togP f c b) f.cps j) (n:=f.cps.length) (b:=0) (ys:=[]) (r:=[.b true])
  (fun i hi=>by
   have e3:((i:Int)<(f.cps.length:Int)):=by omega
   have hzo:=s_l3ZoneOf_eq f f.cps[i].at_ hz
   simp only[Fl.e,jA,jB] at hzo
   have q1:(f.cps[i].name.toList==c.name.toList)=sEq f.cps[i].name c.name:=rfl
   have q2:(f.cps[i].at_.toList==(bs #[]).toList)=sEq f.cps[i].at_ (mkS []):=rfl
   have q3:(f.cps[i].at_.toList==b.name.toList)=sEq f.cps[i].at_ b.name:=rfl
   have q4:(f.cps[i].svc.toList==c.svc.toList)=sEq f.cps[i].svc c.svc:=rfl
   have q5:((zoneOf f f.cps[i].at_).toList==b.zone.toList)=sEq (zoneOf f f.cps[i].at_) b.zone:=rfl
   simp only[at_P_lt _ hi,togP,oth]
   simp only[Fl.e,Cp.e,Bt.e,jA,jB,apL,jC,jD,s_l3Together.d3,C.I_i,C.L_l,C.S_s,jW,jY,getD_map' Cp.e hi,e3,decide_true,jR,jX]
   simp only[Cp.e,jC,jD,C.S_s,C.I_i,q1,q2,q3,q4]
   cases sEq f.cps[i].name c.name with
   |true=>simp[s_l3Together.d2,w1 hi hlc]
   |false=>
    cases sEq f.cps[i].svc c.svc with
    |false=>simp[s_l3Together.d2,w1 hi hlc]
    |true=>
     cases sEq f.cps[i].at_ (mkS []) with
     |true=>simp[s_l3Together.d2,w1 hi hlc]
     |false=>
      cases h3:sEq f.cps[i].at_ b.name<;>cases h4:f.cps[i].apart !=0<;>cases h5:c.apart !=0<;>cases h6:sEq (zoneOf f f.cps[i].at_) b.zone<;>cases h7:f.cps[i].apart==2<;>cases h8:c.apart==2<;>
       simp only[ja,jZ,jR,jS,Bool.true_and,Bool.false_and,Bool.and_true,Bool.and_false,Bool.or_true,Bool.or_false,Bool.false_or,Bool.true_or,jJ,bindNrm_ret,bindBlk_ret,jC,jD,s_l3Together.d1,C.S_s,C.I_i,q5,h6,h7,h8,hzo,call1,jI,bindBlk_self,apL,s_l3Together.d2,w1 hi hlc])
  (by simp[s_l3Together.d3,Fl.e,Cp.e,Bt.e]) f.cps.length 0 rfl
 simp only[Fl.e,Cp.e,Bt.e,jA,jB,Int.natCast_zero,any_P] at h
 simp only[s_l3Together,s_l3Together.d5,Fl.e,Cp.e,Bt.e,jA,jB,apL,jC,jD]
 rw[h]
 cases f.cps.any (togP f c b)<;>simp[s_l3Together.d4]
theorem s_l3Far_eq:s_l3Far (f.e++c.e++b.e)=some [.b (farB f c b)]:=by
 have hlc:f.cps.length<big:=by have:=hz.2.2.1;simp only[big];omega
 have h:=chk_loop (body:=ap24 s_l3Far.d2) (S:=fun i=>[C.b (anyN (svcP c c.near) f.cps i),C.i (i:Nat)]++f.e++c.e++b.e) (p:=fun j=>!at_P (nearP f c b) f.cps j) (n:=f.cps.length) (b:=0) (ys:=.b (anyN (svcP c c.near) f.cps f.cps.length)::c.e) (r:=[.b false])
  (fun i hi=>by
   have e3:((i:Int)<(f.cps.length:Int)):=by omega
   have hzo:=s_l3ZoneOf_eq f f.cps[i].at_ hz
   simp only[Fl.e,jA,jB] at hzo
   have q1:(f.cps[i].name.toList==c.name.toList)=sEq f.cps[i].name c.name:=rfl
   have q2:(f.cps[i].at_.toList==(bs #[]).toList)=sEq f.cps[i].at_ (mkS []):=rfl
   have q4:(f.cps[i].svc.toList==c.near.toList)=sEq f.cps[i].svc c.near:=rfl
   have q5:((zoneOf f f.cps[i].at_).toList==b.zone.toList)=sEq (zoneOf f f.cps[i].at_) b.zone:=rfl
   simp only[at_P_lt _ hi,nearP,oth,anyN_succ _ hi]
   generalize anyN (svcP c c.near) f.cps i=q
   simp only[Fl.e,Cp.e,Bt.e,jA,jB,apL,jC,jD,s_l3Far.d2,C.I_i,C.L_l,C.S_s,jW,jY,getD_map' Cp.e hi,e3,decide_true,jR,jX,svcP,oth]
   simp only[Cp.e,jC,jD,C.S_s,C.I_i,q1,q2,q4]
   cases sEq f.cps[i].name c.name with
   |true=>simp[s_l3Far.d1,w1 hi hlc]
   |false=>
    cases sEq f.cps[i].svc c.near with
    |false=>simp[s_l3Far.d1,w1 hi hlc]
    |true=>
     cases sEq f.cps[i].at_ (mkS []) with
     |true=>simp[s_l3Far.d1,w1 hi hlc]
     |false=>cases h6:sEq (zoneOf f f.cps[i].at_) b.zone<;>simp[s_l3Far.d1,w1 hi hlc,hzo,call1,q5,h6])
  (by simp[s_l3Far.d2,Fl.e,Cp.e,Bt.e]) f.cps.length 0 rfl
 have h0:anyN (svcP c c.near) f.cps 0=false:=by simp[anyN]
 have q0:(c.near.toList==(bs #[]).toList)=sEq c.near (mkS []):=rfl
 have q1:(c.near.toList==c.svc.toList)=sEq c.near c.svc:=rfl
 simp only[Fl.e,Cp.e,Bt.e,jA,jB,Int.natCast_zero,any_P,h0,anyN_all] at h
 simp only[s_l3Far,s_l3Far.d4,Fl.e,Cp.e,Bt.e,jA,jB,apL,jC,jD,C.S_s,q0,farB]
 rw[h]
 cases sEq c.near (mkS [])<;>cases f.cps.any (nearP f c b)<;>cases f.cps.any (svcP c c.near)<;>simp[s_l3Far.d3,q1]
theorem s_l3Fits_eq (hv:VB f) (hr:0≤c.room∧c.room≤1000) (hh:0≤c.hold∧c.hold≤1000) (o:Bool):s_l3Fits (f.e++c.e++b.e++[.b o])=some [.i (fitsN f c b o:Nat)]:=by
 have hlc:f.cps.length<big:=by have:=hz.2.2.1;simp only[big];omega
 have h60:=cps_60 hv
 have h:=run_loop (body:=ap27 s_l3Fits.d2) (S:=fun i=>[C.b o,C.i (sumN (onP c b) Cp.room f.cps i+c.room),C.i (sumN (onP c b) Cp.hold f.cps i+c.hold),C.i (cntN (onP c b) f.cps i:Nat),C.i (i:Nat)]++f.e++c.e++b.e) (n:=f.cps.length) (b:=0)
  (ys:=[C.b o,C.i (sumN (onP c b) Cp.room f.cps f.cps.length+c.room),C.i (sumN (onP c b) Cp.hold f.cps f.cps.length+c.hold),C.i (cntN (onP c b) f.cps f.cps.length:Nat)]++f.e++c.e++b.e)
  (fun i hi=>by
   have e3:((i:Int)<(f.cps.length:Int)):=by omega
   have q1:(f.cps[i].name.toList==c.name.toList)=sEq f.cps[i].name c.name:=rfl
   have q3:(f.cps[i].at_.toList==b.name.toList)=sEq f.cps[i].at_ b.name:=rfl
   have b1:=sumN_le (onP c b) Cp.room (cp_room hv) i (by omega)
   have b2:=sumN_le (onP c b) Cp.hold (cp_hold hv) i (by omega)
   have b3:=cntN_le (onP c b) f.cps i
   have b4:=cp_room hv _ (List.getElem_mem hi)
   have b5:=cp_hold hv _ (List.getElem_mem hi)
   have w2:w64 (sumN (onP c b) Cp.room f.cps i+c.room+f.cps[i].room)=sumN (onP c b) Cp.room f.cps i+f.cps[i].room+c.room:=by rw[w64_of (by omega) (by omega)];omega
   have w3:w64 (sumN (onP c b) Cp.hold f.cps i+c.hold+f.cps[i].hold)=sumN (onP c b) Cp.hold f.cps i+f.cps[i].hold+c.hold:=by rw[w64_of (by omega) (by omega)];omega
   have w4:=w64n (n:=cntN (onP c b) f.cps i) (by omega)
   have hon:onP c b f.cps[i]=(!sEq f.cps[i].name c.name&&sEq f.cps[i].at_ b.name):=by
    unfold onP oth
    cases h3:sEq f.cps[i].at_ b.name with
    |true=>rw[name_ne hbo _ h3];simp
    |false=>simp
   simp only[Fl.e,Cp.e,Bt.e,jA,jB,apL,jC,jD,s_l3Fits.d2,C.I_i,C.L_l,C.S_s,jW,jY,getD_map' Cp.e hi,e3,decide_true,jR,jX,sumN_succ _ _ hi,cntN_succ _ hi,hon]
   simp only[Cp.e,jC,jD,C.S_s,C.I_i,q1,q3]
   cases sEq f.cps[i].name c.name<;>cases sEq f.cps[i].at_ b.name<;>simp[s_l3Fits.d1,w1 hi hlc,w2,w3,w4])
  (by simp[s_l3Fits.d2,Fl.e,Cp.e,Bt.e]) f.cps.length 0 rfl
 have z1:sumN (onP c b) Cp.room f.cps 0=0:=by simp[sumN]
 have z2:sumN (onP c b) Cp.hold f.cps 0=0:=by simp[sumN]
 have z3:cntN (onP c b) f.cps 0=0:=by simp[cntN]
 have hsel:=s_l3Select_eq c.sel b hc.2.2.1 hb hbo
 have hT:=s_l3Together_eq hz hc hb hbo
 have hF:=s_l3Far_eq hz hc hb hbo
 have q0:(c.fixed.toList==(bs #[]).toList)=sEq c.fixed (mkS []):=rfl
 have q1:(c.fixed.toList==b.name.toList)=sEq c.fixed b.name:=rfl
 simp only[Fl.e,Cp.e,Bt.e,jA,jB,Int.natCast_zero,z1,z2,z3,Int.zero_add] at h hsel hT hF
 simp only[s_l3Fits,s_l3Fits.d6,Fl.e,Cp.e,Bt.e,jA,jB,apL,jC,jD]
 rw[h]
 have e6:(10:Int)≤((cntN (onP c b) f.cps f.cps.length:Nat):Int)↔10≤cntN (onP c b) f.cps f.cps.length:=by omega
 simp only[bindBlk_self,apL,jC,jD,s_l3Fits.d5,C.B_b,fitsN]
 have fin:∀e:Bool,s_l3Fits.d3 (.i (sumN (onP c b) Cp.room f.cps f.cps.length+c.room)) (.i (sumN (onP c b) Cp.hold f.cps f.cps.length+c.hold)) (.i (cntN (onP c b) f.cps f.cps.length:Nat)) (.b e) (.b f.pack) (.l (f.bts.map Bt.e)) (.l (f.svs.map Sv.e)) (.l (f.cps.map Cp.e))
   (.s c.name) (.s c.svc) (.i c.rank) (.i c.born) (.i c.room) (.i c.hold) (.s c.sel) (.l (c.likes.map Lk.e)) (.i c.apart) (.s c.near) (.s c.fixed) (.s c.at_) (.s b.name) (.s b.zone) (.l (b.marks.map sE)) (.i b.room) (.i b.hold) (.b b.shut)=
   some (.ret [.i (((bif e then 2 else bif !selM c.sel b then 3 else bif f.cps.any (togP f c b) then 4 else bif farB f c b then 5 else
 bif decide (10≤cntN (onP c b) f.cps f.cps.length) then 6 else bif decide (b.room<sumN (onP c b) Cp.room f.cps f.cps.length+c.room) then 7 else bif decide (b.hold<sumN (onP c b) Cp.hold f.cps f.cps.length+c.hold) then 8 else 0:Nat):Nat):Int)]):=by
  intro e
  simp only[s_l3Fits.d3,C.B_b,C.I_i,hsel,hT,hF,call1,jI,jC,ge_iff_le,e6,gt_iff_lt]
  cases e
  ·simp only[jS]
   cases selM c.sel b
   ·rfl
   ·simp only[jZ,jS]
    cases f.cps.any (togP f c b)
    ·simp only[jS]
     cases farB f c b
     ·simp only[jS]
      cases decide (10≤cntN (onP c b) f.cps f.cps.length)
      ·simp only[jS]
       cases decide (b.room<sumN (onP c b) Cp.room f.cps f.cps.length+c.room)
       ·simp only[jS]
        cases decide (b.hold<sumN (onP c b) Cp.hold f.cps f.cps.length+c.hold)<;>rfl
       ·rfl
      ·rfl
     ·rfl
    ·rfl
  ·rfl
 generalize (bif !selM c.sel b then 3 else bif f.cps.any (togP f c b) then 4 else bif farB f c b then 5 else
 bif decide (10≤cntN (onP c b) f.cps f.cps.length) then 6 else bif decide (b.room<sumN (onP c b) Cp.room f.cps f.cps.length+c.room) then 7 else bif decide (b.hold<sumN (onP c b) Cp.hold f.cps f.cps.length+c.hold) then 8 else 0:Nat)=N at fin⊢
 cases hs:b.shut<;>rw[hs] at fin<;>cases o<;>cases h1:sEq c.fixed (mkS [])<;>cases h2:sEq c.fixed b.name<;>
  simp only[s_l3Fits.d4,q0,q1,h1,h2,fin,C.B_b,C.S_s,jR,jS,jZ,ja,Bool.and_true,Bool.and_false,Bool.true_and,Bool.false_and,jJ,apL,jC,jD,jV]<;>rfl
end
end Go.Ev
namespace Go.Ev
section
variable {f:Fl} (hz:f.Sz 1048576) {c:Cp} (hc:c.Sz 1048576) {b:Bt} (hb:b.Sz 1048576) (hbo:berthOk b=true)
include hz hc hb hbo
theorem i_fits_loop (hv:VB f) (hr:0≤c.room∧c.room≤1000) (hh:0≤c.hold∧c.hold≤1000) (ha:0≤c.apart∧c.apart≤2):lim (ap31 i_pFits.d4) ([C.b false,C.b false,C.i 0,C.i 0,C.i 0,C.b false,C.l (f.cps.map Cp.e),C.i ((f.cps.length:Nat):Int),C.i 0]++f.e++c.e++b.e)=
  some (.brk 0 ([C.b (anyN (nearP f c b) f.cps f.cps.length),C.b (anyN (svcP c c.svc) f.cps f.cps.length),C.i (cntN (onP c b) f.cps f.cps.length:Nat),C.i (sumN (onP c b) Cp.room f.cps f.cps.length),C.i (sumN (onP c b) Cp.hold f.cps f.cps.length),C.b (anyN (togP f c b) f.cps f.cps.length)]++c.e++b.e)):=by
 have hlc:f.cps.length<big:=by have:=hz.2.2.1;simp only[big];omega
 have h60:=cps_60 hv
 have h:=run_loop (body:=ap31 i_pFits.d4) (S:=fun i=>[C.b (anyN (nearP f c b) f.cps i),C.b (anyN (svcP c c.svc) f.cps i),C.i (cntN (onP c b) f.cps i:Nat),C.i (sumN (onP c b) Cp.room f.cps i),C.i (sumN (onP c b) Cp.hold f.cps i),C.b (anyN (togP f c b) f.cps i),C.l (f.cps.map Cp.e),C.i ((f.cps.length:Nat):Int),C.i (i:Nat)]++f.e++c.e++b.e) (n:=f.cps.length) (b:=0)
  (ys:=[C.b (anyN (nearP f c b) f.cps f.cps.length),C.b (anyN (svcP c c.svc) f.cps f.cps.length),C.i (cntN (onP c b) f.cps f.cps.length:Nat),C.i (sumN (onP c b) Cp.room f.cps f.cps.length),C.i (sumN (onP c b) Cp.hold f.cps f.cps.length),C.b (anyN (togP f c b) f.cps f.cps.length)]++c.e++b.e)
  (fun i hi=>by
   have e3:((i:Int)<(f.cps.length:Int)):=by omega
   have hzo:=i_pZone_eq f f.cps[i].at_ hz
   simp only[Fl.e,jA,jB] at hzo
   have q1:(f.cps[i].name.toList==c.name.toList)=sEq f.cps[i].name c.name:=rfl
   have q2:(f.cps[i].at_.toList==(bs #[]).toList)=sEq f.cps[i].at_ (mkS []):=rfl
   have q3:(f.cps[i].at_.toList==b.name.toList)=sEq f.cps[i].at_ b.name:=rfl
   have q4:(f.cps[i].svc.toList==c.svc.toList)=sEq f.cps[i].svc c.svc:=rfl
   have q6:(f.cps[i].svc.toList==c.near.toList)=sEq f.cps[i].svc c.near:=rfl
   have q5:((zoneOf f f.cps[i].at_).toList==b.zone.toList)=sEq (zoneOf f f.cps[i].at_) b.zone:=rfl
   have b1:=sumN_le (onP c b) Cp.room (cp_room hv) i (by omega)
   have b2:=sumN_le (onP c b) Cp.hold (cp_hold hv) i (by omega)
   have b3:=cntN_le (onP c b) f.cps i
   have b4:=cp_room hv _ (List.getElem_mem hi)
   have b5:=cp_hold hv _ (List.getElem_mem hi)
   have b6:=cp_apart hv _ (List.getElem_mem hi)
   have w2:w64 (sumN (onP c b) Cp.room f.cps i+f.cps[i].room)=sumN (onP c b) Cp.room f.cps i+f.cps[i].room:=by rw[w64_of (by omega) (by omega)]
   have w3:w64 (sumN (onP c b) Cp.hold f.cps i+f.cps[i].hold)=sumN (onP c b) Cp.hold f.cps i+f.cps[i].hold:=by rw[w64_of (by omega) (by omega)]
   have w4:=w64n (n:=cntN (onP c b) f.cps i) (by omega)
   have w5:decide (w64 (c.apart+f.cps[i].apart)>0)=(f.cps[i].apart !=0||c.apart !=0):=by
    rw[w64_of (by omega) (by omega),Bool.eq_iff_iff,decide_eq_true_eq,Bool.or_eq_true,bne_iff_ne,bne_iff_ne];omega
   simp only[anyN_succ _ hi,sumN_succ _ _ hi,cntN_succ _ hi]
   generalize anyN (nearP f c b) f.cps i=A1
   generalize anyN (svcP c c.svc) f.cps i=A2
   generalize anyN (togP f c b) f.cps i=A3
   generalize sumN (onP c b) Cp.room f.cps i=A4 at w2
   generalize sumN (onP c b) Cp.hold f.cps i=A5 at w3
   generalize cntN (onP c b) f.cps i=A6 at w4
   simp only[Fl.e,Cp.e,Bt.e,jA,jB,apL,jC,jD,i_pFits.d4,C.I_i,C.L_l,C.S_s,jW,jY,getD_map' Cp.e hi,e3,decide_true,jR,jX,nearP,svcP,togP,onP,oth]
   simp only[Cp.e,jC,jD,C.S_s,C.I_i,C.B_b,q1,q2,q3,q4,q5,w5,hzo,call1,jI]
   cases sEq f.cps[i].name c.name with
   |true=>simp[i_pFits.d3,w1 hi hlc]
   |false=>
    cases sEq f.cps[i].at_ (mkS []) with
    |true=>simp[i_pFits.d3,w1 hi hlc]
    |false=>
     simp only[ja,jR,jS,Bool.true_and]
     have fin:∀(t:Bool) (n:Bool),bindBlk 1 (i_pFits.d2 (.b A1) (.b n) (.i (A6:Nat)) (.i A4) (.i A5) (.b t) (.b (sEq (zoneOf f f.cps[i].at_) b.zone)) (.l (f.cps.map Cp.e)) (.i (f.cps.length:Nat)) (.i (i:Nat)) (.b f.pack) (.l (f.bts.map Bt.e)) (.l (f.svs.map Sv.e)) (.l (f.cps.map Cp.e))
       (.s c.name) (.s c.svc) (.i c.rank) (.i c.born) (.i c.room) (.i c.hold) (.s c.sel) (.l (c.likes.map Lk.e)) (.i c.apart) (.s c.near) (.s c.fixed) (.s c.at_) (.s b.name) (.s b.zone) (.l (b.marks.map sE)) (.i b.room) (.i b.hold) (.b b.shut)
       (.s f.cps[i].name) (.s f.cps[i].svc) (.i f.cps[i].rank) (.i f.cps[i].born) (.i f.cps[i].room) (.i f.cps[i].hold) (.s f.cps[i].sel) (.l (f.cps[i].likes.map Lk.e)) (.i f.cps[i].apart) (.s f.cps[i].near) (.s f.cps[i].fixed) (.s f.cps[i].at_)) (ap31 i_pFits.d3)=
       some (.again [.b (A1||(sEq f.cps[i].svc c.near&&sEq (zoneOf f f.cps[i].at_) b.zone)),.b n,.i ((A6+(bif sEq f.cps[i].at_ b.name then 1 else 0):Nat):Int),.i (A4+(bif sEq f.cps[i].at_ b.name then f.cps[i].room else 0)),.i (A5+(bif sEq f.cps[i].at_ b.name then f.cps[i].hold else 0)),.b t,.l (f.cps.map Cp.e),.i (f.cps.length:Nat),.i ((i+1:Nat):Int),.b f.pack,.l (f.bts.map Bt.e),.l (f.svs.map Sv.e),.l (f.cps.map Cp.e),
       .s c.name,.s c.svc,.i c.rank,.i c.born,.i c.room,.i c.hold,.s c.sel,.l (c.likes.map Lk.e),.i c.apart,.s c.near,.s c.fixed,.s c.at_,.s b.name,.s b.zone,.l (b.marks.map sE),.i b.room,.i b.hold,.b b.shut]):=by
      intro t n
      simp only[i_pFits.d2,C.B_b,C.S_s,q6]
      cases A1<;>cases sEq f.cps[i].svc c.near<;>cases sEq (zoneOf f f.cps[i].at_) b.zone<;>cases h3:sEq f.cps[i].at_ b.name<;>
       simp only[ja,jZ,jR,jS,jJ,jC,jD,i_pFits.d1,C.S_s,C.I_i,q3,h3,bindBlk_self,apL,i_pFits.d3,w1 hi hlc,w2,w3,w4,Bool.or_true,Bool.or_false,Bool.and_true,Bool.and_false,Bool.true_and,Bool.false_and,Int.add_zero,Nat.add_zero]
     cases h4:sEq f.cps[i].svc c.svc with
     |false=>simp only[jS,Bool.false_and,Bool.or_false,jJ,jC,jD,fin]
     |true=>
      have fin':=fun t:Bool=>fin t true
      cases A3<;>cases h3:sEq f.cps[i].at_ b.name<;>rw[h3] at fin'<;>cases hA:(f.cps[i].apart !=0||c.apart !=0)<;>cases h6:sEq (zoneOf f f.cps[i].at_) b.zone<;>rw[h6] at fin'<;>cases h8:c.apart==2<;>
       simp only[ja,jZ,jR,jS,Bool.true_and,Bool.false_and,Bool.and_true,Bool.and_false,Bool.or_true,Bool.or_false,Bool.false_or,Bool.true_or,jJ,jC,jD,fin'])
  (by simp[i_pFits.d4,Fl.e,Cp.e,Bt.e]) f.cps.length 0 rfl
 have z1:sumN (onP c b) Cp.room f.cps 0=0:=by simp[sumN]
 have z2:sumN (onP c b) Cp.hold f.cps 0=0:=by simp[sumN]
 have z3:cntN (onP c b) f.cps 0=0:=by simp[cntN]
 have z4:∀p:Cp→Bool,anyN p f.cps 0=false:=by simp[anyN]
 simp only[Int.natCast_zero,z1,z2,z3,z4] at h
 exact h
theorem i_pFits_eq (hv:VB f) (hr:0≤c.room∧c.room≤1000) (hh:0≤c.hold∧c.hold≤1000) (ha:0≤c.apart∧c.apart≤2) (o:Bool):i_pFits (f.e++c.e++b.e++[.b o])=some [.i (fitsN f c b (!o):Nat)]:=by
 have h60:=cps_60 hv
 have h:=i_fits_loop hz hc hb hbo hv hr hh ha
 have hsel:=i_pMeets_eq c.sel b hc.2.2.1 hb hbo
 have q0:(c.fixed.toList==(bs #[]).toList)=sEq c.fixed (mkS []):=rfl
 have q1:(c.fixed.toList==b.name.toList)=sEq c.fixed b.name:=rfl
 have q2:(c.near.toList==(bs #[]).toList)=sEq c.near (mkS []):=rfl
 have q3:(c.near.toList==c.svc.toList)=sEq c.near c.svc:=rfl
 have b1:=sumN_le (onP c b) Cp.room (cp_room hv) f.cps.length (by omega)
 have b2:=sumN_le (onP c b) Cp.hold (cp_hold hv) f.cps.length (by omega)
 have w2:w64 (sumN (onP c b) Cp.room f.cps f.cps.length+c.room)=sumN (onP c b) Cp.room f.cps f.cps.length+c.room:=by rw[w64_of (by omega) (by omega)]
 have w3:w64 (sumN (onP c b) Cp.hold f.cps f.cps.length+c.hold)=sumN (onP c b) Cp.hold f.cps f.cps.length+c.hold:=by rw[w64_of (by omega) (by omega)]
 have e6:(10:Int)≤((cntN (onP c b) f.cps f.cps.length:Nat):Int)↔10≤cntN (onP c b) f.cps f.cps.length:=by omega
 simp only[Fl.e,Cp.e,Bt.e,jA,jB,anyN_all] at h hsel
 have far:(!sEq c.near (mkS [])&&(!f.cps.any (nearP f c b)&&!(sEq c.near c.svc&&!f.cps.any (svcP c c.svc))))=farB f c b:=by
  unfold farB
  cases hn:sEq c.near c.svc with
  |true=>rw[(sEq_iff _ _).1 hn];simp
  |false=>simp
 have fin:i_pFits.d7 (.b f.pack) (.l (f.bts.map Bt.e)) (.l (f.svs.map Sv.e)) (.l (f.cps.map Cp.e))
   (.s c.name) (.s c.svc) (.i c.rank) (.i c.born) (.i c.room) (.i c.hold) (.s c.sel) (.l (c.likes.map Lk.e)) (.i c.apart) (.s c.near) (.s c.fixed) (.s c.at_) (.s b.name) (.s b.zone) (.l (b.marks.map sE)) (.i b.room) (.i b.hold) (.b b.shut)=
   some (.ret [.i (((bif !selM c.sel b then 3 else bif f.cps.any (togP f c b) then 4 else bif farB f c b then 5 else
 bif decide (10≤cntN (onP c b) f.cps f.cps.length) then 6 else bif decide (b.room<sumN (onP c b) Cp.room f.cps f.cps.length+c.room) then 7 else bif decide (b.hold<sumN (onP c b) Cp.hold f.cps f.cps.length+c.hold) then 8 else 0:Nat):Nat):Int)]):=by
  simp only[i_pFits.d7,hsel,call1,jI,jC,C.B_b,C.L_l,jW]
  cases selM c.sel b
  ·rfl
  simp only[jZ,jS]
  rw[h]
  simp only[bindBlk_self,apL,jC,jD,i_pFits.d6,C.B_b]
  cases f.cps.any (togP f c b)
  ·simp only[jS]
   have d5:∀e:Bool,i_pFits.d5 (.i (cntN (onP c b) f.cps f.cps.length:Nat)) (.i (sumN (onP c b) Cp.room f.cps f.cps.length)) (.i (sumN (onP c b) Cp.hold f.cps f.cps.length)) (.b e)
     (.s c.name) (.s c.svc) (.i c.rank) (.i c.born) (.i c.room) (.i c.hold) (.s c.sel) (.l (c.likes.map Lk.e)) (.i c.apart) (.s c.near) (.s c.fixed) (.s c.at_) (.s b.name) (.s b.zone) (.l (b.marks.map sE)) (.i b.room) (.i b.hold) (.b b.shut)=
     some (.ret [.i (((bif e then 5 else bif decide (10≤cntN (onP c b) f.cps f.cps.length) then 6 else bif decide (b.room<sumN (onP c b) Cp.room f.cps f.cps.length+c.room) then 7 else bif decide (b.hold<sumN (onP c b) Cp.hold f.cps f.cps.length+c.hold) then 8 else 0:Nat):Nat):Int)]):=by
    intro e
    simp only[i_pFits.d5,C.B_b,C.I_i,w2,w3,ge_iff_le,gt_iff_lt,e6]
    cases e
    ·simp only[jS]
     cases decide (10≤cntN (onP c b) f.cps f.cps.length)
     ·simp only[jS]
      cases decide (b.room<sumN (onP c b) Cp.room f.cps f.cps.length+c.room)
      ·simp only[jS]
       cases decide (b.hold<sumN (onP c b) Cp.hold f.cps f.cps.length+c.hold)<;>rfl
      ·rfl
     ·rfl
    ·rfl
   rw[←far]
   generalize (bif decide (10≤cntN (onP c b) f.cps f.cps.length) then 6 else bif decide (b.room<sumN (onP c b) Cp.room f.cps f.cps.length+c.room) then 7 else bif decide (b.hold<sumN (onP c b) Cp.hold f.cps f.cps.length+c.hold) then 8 else 0:Nat)=N at d5⊢
   simp only[C.S_s,q2,q3]
   cases sEq c.near (mkS [])<;>cases f.cps.any (nearP f c b)<;>cases sEq c.near c.svc<;>cases f.cps.any (svcP c c.svc)<;>
    simp only[jR,jS,jZ,ja,jJ,apL,jC,jD,d5,Bool.and_true,Bool.and_false,Bool.true_and,Bool.false_and]
  ·rfl
 simp only[i_pFits,i_pFits.d9,Fl.e,Cp.e,Bt.e,jA,jB,apL,jC,jD,C.B_b,fitsN]
 generalize (bif !selM c.sel b then 3 else bif f.cps.any (togP f c b) then 4 else bif farB f c b then 5 else
 bif decide (10≤cntN (onP c b) f.cps f.cps.length) then 6 else bif decide (b.room<sumN (onP c b) Cp.room f.cps f.cps.length+c.room) then 7 else bif decide (b.hold<sumN (onP c b) Cp.hold f.cps f.cps.length+c.hold) then 8 else 0:Nat)=N at fin⊢
 cases hs:b.shut<;>rw[hs] at fin<;>cases o<;>cases h1:sEq c.fixed (mkS [])<;>cases h2:sEq c.fixed b.name<;>
  simp only[i_pFits.d8,q0,q1,h1,h2,fin,C.B_b,C.S_s,jR,jS,jZ,ja,Bool.and_true,Bool.and_false,Bool.true_and,Bool.false_and,jJ,bindNrm_ret,apL,jC,jD,jV]<;>rfl
end
end Go.Ev
namespace Go.Ev
section
variable {f:Fl} (hz:f.Sz 1048576) (cn bn_:Str)
include hz
end
def better (p:Bool) (a b:Int×Int×Int×Int):Bool:=bif a.1 !=b.1 then decide (a.1>b.1) else bif a.2.1 !=b.2.1 then decide (a.2.1<b.2.1) else bif a.2.2.1 !=b.2.2.1 then decide (a.2.2.1<b.2.2.1) else bif p then decide (a.2.2.2<b.2.2.2) else decide (a.2.2.2>b.2.2.2)
def sc4 (a:Int×Int×Int×Int):List C:=[.i a.1,.i a.2.1,.i a.2.2.1,.i a.2.2.2]
def scoreN (f:Fl) (c:Cp) (b:Bt):Int×Int×Int×Int:=(likeS c.likes b c.likes.length,(zoneN f c b f.cps.length:Nat),(berthN f c b f.cps.length:Nat),leftN f c b f.cps.length)
theorem s_PilotBetter_eq (a b:Int×Int×Int×Int) (p:Bool):s_PilotBetter (sc4 a++sc4 b++[.b p])=some [.b (better p a b)]:=by
 simp only[s_PilotBetter,s_PilotBetter.d1,sc4,jA,jB,apL,jC,jD,C.I_i,C.B_b,better]
 cases a.1 !=b.1<;>cases a.2.1 !=b.2.1<;>cases a.2.2.1 !=b.2.2.1<;>cases p<;>rfl
theorem i_PilotBetter_eq (a b:Int×Int×Int×Int) (p:Bool):i_PilotBetter (sc4 a++sc4 b++[.b p])=some [.b (better p a b)]:=by
 simp only[i_PilotBetter,i_PilotBetter.d1,sc4,jA,jB,apL,jC,jD,C.I_i,C.B_b,better]
 cases a.1 !=b.1<;>cases a.2.1 !=b.2.1<;>cases a.2.2.1 !=b.2.2.1<;>cases p<;>rfl
def wins (f:Fl) (c:Cp) (i:Int) (b:Bt):Bool:=decide (i<0)||match f.bts[i.toNat]? with|some y=>better f.pack (scoreN f c b) (scoreN f c y)|none=>true
def bestIx (f:Fl) (c:Cp):Nat→Int
 |0=>-1
 |i+1=>match f.bts[i]? with
  |some b=>bif fitsN f c b false==0&&wins f c (bestIx f c i) b then i else bestIx f c i
  |none=>bestIx f c i
theorem bestIx_at (f:Fl) (c:Cp):∀i,i≤f.bts.length→bestIx f c i=-1∨∃k,∃h:k<f.bts.length,bestIx f c i=(k:Nat)
 |0,_=>.inl rfl
 |i+1,h=>by
  have hi:i<f.bts.length:=by omega
  have ih:=bestIx_at f c i (by omega)
  simp only[bestIx,List.getElem?_eq_getElem hi]
  generalize (fitsN f c f.bts[i] false==0&&_)=q
  cases q with
  |true=>exact .inr ⟨i,hi,rfl⟩
  |false=>exact ih
def chooseB (f:Fl) (c:Cp):Str:=match f.bts[(bestIx f c f.bts.length).toNat]? with
 |some b=>if bestIx f c f.bts.length<0 then mkS [] else b.name
 |none=>mkS []
section
variable {f:Fl} (hz:f.Sz 1048576) {c:Cp} (hc:c.Sz 1048576) (hv:VB f) (hr:0≤c.room∧c.room≤1000) (hh:0≤c.hold∧c.hold≤1000) (ha:0≤c.apart∧c.apart≤2)
include hz hc hv hr hh ha
theorem s_l4Choose_eq:s_l4Choose (f.e++c.e)=some [.s (chooseB f c)]:=by
 have hlc:f.bts.length<big:=by have:=hz.1.1;simp only[big];omega
 have h:=run_loop (body:=ap18 s_l4Choose.d2) (S:=fun i=>[C.i (bestIx f c i),C.i (i:Nat)]++f.e++c.e) (n:=f.bts.length) (b:=0) (ys:=[C.i (bestIx f c f.bts.length)]++f.e)
  (fun i hi=>by
   have e3:((i:Int)<(f.bts.length:Int)):=by omega
   have m:=List.getElem_mem hi
   have F1:=s_l3Fits_eq hz hc (hz.1.2 _ m) (valid_bts hv _ m) hv hr hh false
   have S1:=s_l4Score_eq hz hc (hz.1.2 _ m) (valid_bts hv _ m)
   have S1:s_l4Score (f.e++c.e++f.bts[i].e)=some (sc4 (scoreN f c f.bts[i])):=S1
   have i1:(-1:Int)<0:=by omega
   have fe:(((fitsN f c f.bts[i] false:Nat):Int)==0)=(fitsN f c f.bts[i] false==0):=by rw[Bool.eq_iff_iff,beq_iff_eq,beq_iff_eq];omega
   simp only[bestIx,List.getElem?_eq_getElem hi]
   simp only[Fl.e,Cp.e,Bt.e,jA,jB] at F1 S1
   simp only[Fl.e,Cp.e,jA,jB,apL,jC,jD,s_l4Choose.d2,C.I_i,C.L_l,C.B_b,jW,jY,getD_map' Bt.e hi,e3,decide_true,jR,jX]
   simp only[Bt.e,jC,jD,F1,S1,call1,jI,C.I_i,fe]
   cases fitsN f c f.bts[i] false==0 with
   |false=>simp[s_l4Choose.d1,w1 hi hlc]
   |true=>
    rcases bestIx_at f c i (by omega) with h|⟨k,hk,h⟩
    ·simp[h,s_l4Choose.d1,w1 hi hlc,wins]
    ·have n1:¬((k:Int)<0):=by omega
     have n2:((k:Int)<(f.bts.length:Int)):=by omega
     have m2:=List.getElem_mem hk
     have S2:s_l4Score (f.e++c.e++f.bts[k].e)=some (sc4 (scoreN f c f.bts[k])):=s_l4Score_eq hz hc (hz.1.2 _ m2) (valid_bts hv _ m2)
     have B:=s_PilotBetter_eq (scoreN f c f.bts[i]) (scoreN f c f.bts[k]) f.pack
     simp only[Fl.e,Cp.e,Bt.e,sc4,jA,jB] at S2 B
     simp only[h,n1,n2,wins,decide_true,decide_false,ja,jR,jX,jY,getD_map' Bt.e hk,List.getElem?_eq_getElem hk,Bool.true_and,Bool.false_or,sc4,call4,jI,jC,jD]
     simp only[Bt.e,jC,jD,S2,jI,B,C.B_b]
     cases better f.pack (scoreN f c f.bts[i]) (scoreN f c f.bts[k])<;>simp[s_l4Choose.d1,w1 hi hlc])
  (by simp[s_l4Choose.d2,Fl.e,Cp.e]) f.bts.length 0 rfl
 simp only[Fl.e,Cp.e,jA,jB,Int.natCast_zero,show bestIx f c 0=-1 from rfl] at h
 simp only[s_l4Choose,s_l4Choose.d4,Fl.e,Cp.e,jA,jB,apL,jC,jD,chooseB]
 rw[h]
 simp only[bindBlk_self,apL,jC,jD,s_l4Choose.d3,C.I_i,C.L_l,jW]
 rcases bestIx_at f c f.bts.length (Nat.le_refl _) with h|⟨k,hk,h⟩
 ·simp[h]
  split<;>rfl
 ·have n1:¬((k:Int)<0):=by omega
  have n2:((k:Int)<(f.bts.length:Int)):=by omega
  simp only[h,n1,n2,decide_true,decide_false,jR,jS,jX,jY,getD_map' Bt.e hk,List.getElem?_eq_getElem hk,if_false,Bt.e,jC,jV]
end
end Go.Ev
namespace Go.Ev
def bestNm (f:Fl) (c:Cp) (i:Nat):Str:=if bestIx f c i<0 then mkS [] else match f.bts[(bestIx f c i).toNat]? with|some b=>b.name|none=>mkS []
def bestSc (f:Fl) (c:Cp) (i:Nat):Int×Int×Int×Int:=if bestIx f c i<0 then (0,0,0,0) else match f.bts[(bestIx f c i).toNat]? with|some b=>scoreN f c b|none=>(0,0,0,0)
theorem bname_ne {b:Bt} (h:berthOk b=true):sEq b.name (mkS [])=false:=name_ne h _ ((sEq_iff _ _).2 rfl)
section
variable {f:Fl} (hz:f.Sz 1048576) {c:Cp} (hc:c.Sz 1048576) (hv:VB f) (hr:0≤c.room∧c.room≤1000) (hh:0≤c.hold∧c.hold≤1000) (ha:0≤c.apart∧c.apart≤2)
include hz hc hv hr hh ha
theorem i_pChoose_eq:i_pChoose (f.e++c.e)=some [.s (chooseB f c)]:=by
 have hlc:f.bts.length<big:=by have:=hz.1.1;simp only[big];omega
 have h:=run_loop (body:=ap24 i_pChoose.d2) (S:=fun i=>[C.s (bestNm f c i),C.l (f.bts.map Bt.e),C.i ((f.bts.length:Nat):Int),C.i (i:Nat)]++f.e++c.e++sc4 (bestSc f c i)) (n:=f.bts.length) (b:=0) (ys:=[C.s (bestNm f c f.bts.length)])
  (fun i hi=>by
   have e3:((i:Int)<(f.bts.length:Int)):=by omega
   have m:=List.getElem_mem hi
   have F1:=i_pFits_eq hz hc (hz.1.2 _ m) (valid_bts hv _ m) hv hr hh ha true
   have S1:i_pScore (f.e++c.e++f.bts[i].e)=some (sc4 (scoreN f c f.bts[i])):=i_pScore_eq hz hc (hz.1.2 _ m) (valid_bts hv _ m)
   have fe:(((fitsN f c f.bts[i] false:Nat):Int) !=0)=!(fitsN f c f.bts[i] false==0):=by rw[Bool.eq_iff_iff,bne_iff_ne,Bool.not_eq_true',beq_eq_false_iff_ne];omega
   have B:=i_PilotBetter_eq (scoreN f c f.bts[i]) (bestSc f c i) f.pack
   have q0:((bestNm f c i).toList==(bs #[]).toList)=sEq (bestNm f c i) (mkS []):=rfl
   have i0:¬((i:Int)<0):=by omega
   have st:(sEq (bestNm f c i) (mkS [])=true∧(bestIx f c i<0))∨(sEq (bestNm f c i) (mkS [])=false∧¬bestIx f c i<0∧∃y,f.bts[(bestIx f c i).toNat]?=some y∧bestSc f c i=scoreN f c y):=by
    rcases bestIx_at f c i (by omega) with h|⟨k,hk,h⟩
    ·exact .inl ⟨by simp[bestNm,h,sEq],by omega⟩
    ·have n1:¬((k:Int)<0):=by omega
     refine .inr ⟨?_,by omega,f.bts[k],by simp[h,hk],by simp[bestSc,h,n1,hk]⟩
     simp only[bestNm,h,n1,if_false,jY,List.getElem?_eq_getElem hk]
     exact bname_ne (valid_bts hv _ (List.getElem_mem hk))
   have nx:∀q:Bool,(fitsN f c f.bts[i] false==0&&wins f c (bestIx f c i) f.bts[i])=q→
     bestNm f c (i+1)=(bif q then f.bts[i].name else bestNm f c i)∧bestSc f c (i+1)=(bif q then scoreN f c f.bts[i] else bestSc f c i):=by
    intro q hq
    simp only[bestNm,bestSc,bestIx,List.getElem?_eq_getElem hi,hq]
    cases q<;>simp[i0,hi]
   simp only[Fl.e,Cp.e,Bt.e,sc4,jA,jB,jZ] at F1 S1 B
   simp only[Fl.e,Cp.e,sc4,jA,jB,apL,jC,jD,i_pChoose.d2,C.I_i,C.L_l,C.S_s,C.B_b,jW,jY,getD_map' Bt.e hi,e3,decide_true,jR,jX]
   simp only[Bt.e,jC,jD,F1,S1,call1,call4,jI,C.I_i,fe,q0]
   cases hf:fitsN f c f.bts[i] false==0 with
   |false=>
    obtain ⟨g1,g2⟩:=nx false (by simp only[hf,Bool.false_and])
    simp only[g1,g2,jS]
    simp[i_pChoose.d1,w1 hi hlc]
   |true=>
    rcases st with ⟨s1,s2⟩|⟨s1,s2,y,s3,s4⟩
    ·obtain ⟨g1,g2⟩:=nx true (by simp only[hf,s2,wins,decide_true,Bool.true_and,Bool.true_or])
     simp only[g1,g2,jR,s1]
     simp[i_pChoose.d1,w1 hi hlc]
    ·obtain ⟨g1,g2⟩:=nx (better f.pack (scoreN f c f.bts[i]) (bestSc f c i)) (by simp only[hf,s2,s3,s4,wins,decide_false,Bool.true_and,Bool.false_or])
     simp only[g1,g2,s1,jZ,ja,jR,jS,B,jI,C.B_b,jC]
     cases better f.pack (scoreN f c f.bts[i]) (bestSc f c i)<;>simp[i_pChoose.d1,w1 hi hlc])
  (by simp[i_pChoose.d2,Fl.e,Cp.e,sc4]) f.bts.length 0 rfl
 have e0:bestNm f c 0=bs #[]:=rfl
 have e1:bestSc f c 0=(0,0,0,0):=rfl
 simp only[Fl.e,Cp.e,sc4,jA,jB,Int.natCast_zero,e0,e1] at h
 simp only[i_pChoose,i_pChoose.d4,Fl.e,Cp.e,jA,jB,apL,jC,jD,C.L_l,jW]
 rw[h]
 have:bestNm f c f.bts.length=chooseB f c:=by
  unfold bestNm chooseB
  rcases bestIx_at f c f.bts.length (Nat.le_refl _) with h|⟨k,hk,h⟩
  ·simp[h];split<;>rfl
  ·have n1:¬((k:Int)<0):=by omega
   simp[h,n1,hk]
 simp[i_pChoose.d3,this]
end
section
variable {f:Fl} (hz:f.Sz 1048576) (cn:Str)
include hz
end
end Go.Ev
namespace Go.Ev
theorem findIx_neg {α:Type} (p:α→Bool):∀(l:List α) (n:Nat),findIx p l n<0→l.any p=false
 |[],_,_=>rfl
 |x::r,n,h=>by
  simp only[findIx] at h
  cases hp:p x with
  |true=>rw[hp,jR] at h;omega
  |false=>rw[hp,jS] at h;simp[hp,findIx_neg p r (n+1) h]
section
variable {f:Fl} (hz:f.Sz 1048576)
include hz
end
end Go.Ev
namespace Go.Ev
def mkAll {α:Type} (mk:α→Int→α×Int):List α→Int→List α×Int
 |[],k=>([],k)
 |x::r,k=>((mk x k).1::(mkAll mk r (mk x k).2).1,(mkAll mk r (mk x k).2).2)
theorem mkAll_len {α:Type} (mk:α→Int→α×Int):∀(l:List α) (k:Int),(mkAll mk l k).1.length=l.length
 |[],_=>rfl
 |x::r,k=>by simp[mkAll,mkAll_len mk r]
theorem mkAll_up {α:Type} (mk:α→Int→α×Int) (D:Nat):∀(l:List α) (k:Int),(∀x,x∈l→∀k,k≤(mk x k).2∧(mk x k).2≤k+D)→k≤(mkAll mk l k).2∧(mkAll mk l k).2≤k+(l.length*D:Nat)
 |[],k,_=>by simp[mkAll]
 |x::r,k,h=>by
  have h1:=h x (by simp) k
  have h2:=mkAll_up mk D r (mk x k).2 fun y hy=>h y (by simp[hy])
  simp only[mkAll,List.length_cons,Nat.succ_mul]
  omega
theorem mark_loop {α:Type} {e:α→List C} {P:α→Prop} {K:Int} (mk:α→Int→α×Int) (D:Nat) {body:List C→R} {n:Nat} (hn:n≤1048576) (hD:D≤4294967296)
  (hb:∀(i:Nat) (x:α) (c:List (List C)) (k:Int),P x→i<n→c.length=n→c.getD i []=e x→0≤k→k≤K→body [.i k,.i i,.l c]=some (.again [.i (mk x k).2,.i (i+1:Nat),.l (c.set i (e (mk x k).1))]))
  (he:∀(k:Int) (c:List (List C)),c.length=n→body [.i k,.i n,.l c]=some (.brk 0 [.i k,.l c])):
  ∀(r:List α) (p:List (List C)) (k:Int),p.length+r.length=n→(∀x,x∈r→P x)→(∀x,x∈r→∀k,k≤(mk x k).2∧(mk x k).2≤k+D)→0≤k→k+(r.length*D:Nat)≤K→
   lim body [.i k,.i p.length,.l (p++r.map e)]=some (.brk 0 [.i (mkAll mk r k).2,.l (p++(mkAll mk r k).1.map e)])
 |[],p,k,h,_,_,_,_=>by
  simp only[List.length_nil,Nat.add_zero] at h
  have:=he k (p++([]:List α).map e) (by simp[h])
  rw[h]
  exact lim_brk this
 |x::r,p,k,h,hp,hm,k0,k1=>by
  simp only[List.length_cons,Nat.succ_mul] at h k1
  have hx:=hm x (by simp) k
  have hc:(p++(x::r).map e).length=n:=by simp;omega
  have hg:(p++(x::r).map e).getD p.length []=e x:=by
   rw[List.getD_eq_getElem?_getD,List.getElem?_append_right (Nat.le_refl _),Nat.sub_self];rfl
  have h1:=hb p.length x _ k (hp x (by simp)) (by omega) hc hg k0 (by omega)
  rw[lim_again h1]
  have hs:(p++(x::r).map e).set p.length (e (mk x k).1)=(p++[e (mk x k).1])++r.map e:=by
   rw[List.set_append_right _ _ (Nat.le_refl _),Nat.sub_self,List.map_cons,List.set_cons_zero,List.append_assoc];rfl
  have ih:=mark_loop mk D hn hD hb he r (p++[e (mk x k).1]) (mk x k).2 (by simp;omega) (fun y hy=>hp y (by simp[hy])) (fun y hy=>hm y (by simp[hy])) (by omega) (by omega)
  rw[List.length_append,List.length_singleton] at ih
  rw[hs,ih]
  simp[mkAll]
end Go.Ev
namespace Go.Ev
theorem mkBy1 (x:C):(mkBy [[x]]).size=1:=rfl
theorem mt_loop:∀(d:Nat) (k:Int) (o:Str),0≤k→k<10^d→k≤9000000000000000000→o.size+d≤1000→∃s:Str,lim (ap2 w_markText.d1) [.i k,.s o]=some (.brk 0 [.s s])∧s.size≤o.size+d
 |0,k,o,h0,h1,_,h2=>by
  have:k=0:=by simp at h1;omega
  subst this
  exact ⟨o,lim_brk (by simp[w_markText.d1]),by omega⟩
 |d+1,k,o,h0,h1,h3,h2=>by
  by_cases hk:k>0
  ·have e1:w64 (k.tdiv 10)=k/10:=by
    have:k.tdiv 10=k/10:=Int.tdiv_eq_ediv_of_nonneg h0
    rw[this,w64_of (by omega) (by omega)]
   have hs:((mkBy [[C.i (IntKind.wrap .u8 (w64 (48+k.tmod 10)))]])++o).size=1+o.size:=by rw[ByteArray.size_append,mkBy1]
   obtain ⟨s,h4,h5⟩:=mt_loop d (k/10) ((mkBy [[C.i (IntKind.wrap .u8 (w64 (48+k.tmod 10)))]])++o) (by omega) (by rw[Int.pow_succ] at h1;omega) (by omega) (by omega)
   refine ⟨s,?_,by omega⟩
   rw[←h4]
   refine lim_again ?_
   have:(mkBy [[C.i (IntKind.wrap .u8 (w64 (48+k.tmod 10)))]]).size+o.size≤4294967296:=by rw[mkBy1];omega
   simp only[w_markText.d1,apL,jC,jD,C.I_i,C.S_s,hk,decide_true,jR,e1,this]
  ·have:k=0:=by omega
   subst this
   exact ⟨o,lim_brk (by simp[w_markText.d1]),by omega⟩
noncomputable def mtx (k:Int):Str:=match w_markText [.i k] with|some [.s s]=>s|_=>mkS []
theorem mtx_eq {k:Int} (h0:0≤k) (h1:k≤9000000000000000000):w_markText [.i k]=some [.s (mtx k)]:=by
 have key:∃s,w_markText [.i k]=some [.s s]:=by
  by_cases hk:k≤0
  ·exact ⟨bs #[109,48],by simp only[w_markText,w_markText.d3,apL,jC,C.I_i,hk,decide_true,jR,jV]⟩
  ·obtain ⟨s,h2,h3⟩:=mt_loop 19 k (bs #[]) h0 (by omega) h1 (by decide)
   have h3:s.size≤19:=by have e:(bs #[]).size=0:=rfl;omega
   have:(bs #[109]).size+s.size≤4294967296:=by have:(bs #[109]).size=1:=rfl;omega
   exact ⟨bs #[109]++s,by simp only[w_markText,w_markText.d3,apL,jC,C.I_i,hk,decide_false,jS,h2,bindBlk_self,w_markText.d2,C.S_s,this,decide_true,jR,jV]⟩
 obtain ⟨s,h⟩:=key
 rw[h]
 simp[mtx,h]
end Go.Ev
namespace Go.Ev
noncomputable def mkStr (_:Str) (k:Int):Str×Int:=(mtx k,k+1)
theorem w_markStringS_eq (l:List Str) (k:Int) (hl:l.length≤1048576) (h0:0≤k) (h1:k≤8000000000000000000):
  w_markStringS [.i k,.l (l.map sE)]=some [.i (mkAll mkStr l k).2,.l ((mkAll mkStr l k).1.map sE)]:=by
 have h:=mark_loop (K:=8500000000000000000) (P:=fun _=>True) (e:=sE) mkStr 1 (body:=ap3 w_markStringS.d1) (n:=l.length) hl (by omega)
  (fun i x c k _ hi hc hg k0 k1=>by
   have e3:((i:Int)<(c.length:Int)):=by omega
   have e4:w64 (k+1)=k+1:=w64_of (by omega) (by omega)
   simp only[apL,jC,jD,w_markStringS.d1,C.I_i,C.L_l,e3,decide_true,jR,mtx_eq k0 (show k≤9000000000000000000 by omega),call1,jI,jX,jY,hg,e4,w1 hi (show l.length<big by simp only[big];omega)]
   simp[sE,setCs,mkStr])
  (fun k c hc=>by simp[w_markStringS.d1,hc]) l [] k (by simp) (fun _ _=>trivial) (fun x _ k=>by simp only[mkStr];omega) h0 (by simp;omega)
 simp only[List.length_nil,jB,Int.natCast_zero] at h
 simp only[w_markStringS,w_markStringS.d3,apL,jC,jD,C.L_l]
 rw[h]
 simp[w_markStringS.d2]
theorem held_loop {α:Type} {e:α→List C} {P:α→Prop} (mk:α→Int→α×Int) (D:Nat) {body:List C→R} {n:Nat} {L:List (List C)} {K:Int} (hn:n≤1048576) (hD:D≤4294967296)
  (hb:∀(i:Nat) (x:α) (k:Int),P x→i<n→L.getD i []=e (mk x k).1→0≤k→k≤K→body [.l L,.i k,.i i]=some (.again [.l L,.i (mk x k).2,.i (i+1:Nat)]))
  (he:∀(k:Int),body [.l L,.i k,.i n]=some (.brk 0 [.i k])):
  ∀(r:List α) (p:List (List C)) (k:Int),L=p++(mkAll mk r k).1.map e→p.length+r.length=n→(∀x,x∈r→P x)→(∀x,x∈r→∀k,k≤(mk x k).2∧(mk x k).2≤k+D)→0≤k→k+(r.length*D:Nat)≤K→
   lim body [.l L,.i k,.i p.length]=some (.brk 0 [.i (mkAll mk r k).2])
 |[],p,k,_,h,_,_,_,_=>by
  simp only[List.length_nil,Nat.add_zero] at h
  rw[h]
  exact lim_brk (he k)
 |x::r,p,k,hL,h,hp,hm,k0,k1=>by
  simp only[List.length_cons,Nat.succ_mul] at h k1
  have hx:=hm x (by simp) k
  have hg:L.getD p.length []=e (mk x k).1:=by
   rw[hL,List.getD_eq_getElem?_getD,List.getElem?_append_right (Nat.le_refl _),Nat.sub_self];rfl
  rw[lim_again (hb p.length x k (hp x (by simp)) (by omega) hg k0 (by omega))]
  have ih:=held_loop mk D hn hD hb he r (p++[e (mk x k).1]) (mk x k).2 (by rw[hL];simp[mkAll]) (by simp;omega) (fun y hy=>hp y (by simp[hy])) (fun y hy=>hm y (by simp[hy])) (by omega) (by omega)
  rw[List.length_append,List.length_singleton] at ih
  rw[ih]
  simp[mkAll]
theorem w_heldStringS_eq (l:List Str) (k:Int) (hl:l.length≤1048576) (h0:0≤k) (h1:k≤8000000000000000000):
  w_heldStringS [.l ((mkAll mkStr l k).1.map sE),.i k]=some [.i (mkAll mkStr l k).2]:=by
 have hlen:((mkAll mkStr l k).1.map sE).length=l.length:=by rw[jW,mkAll_len]
 have h:=held_loop (K:=8500000000000000000) (P:=fun _=>True) (e:=sE) mkStr 1 (body:=ap3 w_heldStringS.d1) (n:=l.length) (L:=(mkAll mkStr l k).1.map sE) hl (by omega)
  (fun i x k _ hi hg k0 k1=>by
   have e3:((i:Int)<(l.length:Int)):=by omega
   have e4:w64 (k+1)=k+1:=w64_of (by omega) (by omega)
   simp only[apL,jC,jD,w_heldStringS.d1,C.I_i,C.L_l,hlen,e3,decide_true,jR,mtx_eq k0 (show k≤9000000000000000000 by omega),call1,jI,jX,jY,hg,e4,w1 hi (show l.length<big by simp only[big];omega)]
   simp[sE,mkStr])
  (fun k=>by simp[w_heldStringS.d1,mkAll_len]) l [] k rfl (by simp) (fun _ _=>trivial) (fun x _ k=>by simp only[mkStr];omega) h0 (by simp;omega)
 simp only[List.length_nil,Int.natCast_zero] at h
 simp only[w_heldStringS,w_heldStringS.d3,apL,jC,jD,C.L_l]
 rw[h]
 simp[w_heldStringS.d2]
end Go.Ev
namespace Go.Ev
theorem set_get {α:Type} {c:List (List α)} {i:Nat} (h:i<c.length) (r:List α):(c.set i r).getD i []=r:=by
 rw[List.getD_eq_getElem?_getD,List.getElem?_set_self h];rfl
noncomputable def mkSv (_:Sv) (k:Int):Sv×Int:=(⟨mtx k,k+1⟩,k+2)
noncomputable def mkLk (_:Lk) (k:Int):Lk×Int:=(⟨mtx k,k+1⟩,k+2)
theorem w_markPilotServiceS_eq (l:List Sv) (k:Int) (hl:l.length≤1048576) (h0:0≤k) (h1:k≤8000000000000000000):
  w_markPilotServiceS [.i k,.l (l.map Sv.e)]=some [.i (mkAll mkSv l k).2,.l ((mkAll mkSv l k).1.map Sv.e)]:=by
 have h:=mark_loop (K:=8500000000000000000) (P:=fun _=>True) (e:=Sv.e) mkSv 2 (body:=ap3 w_markPilotServiceS.d1) (n:=l.length) hl (by omega)
  (fun i x c k _ hi hc hg k0 k1=>by
   have hic:i<c.length:=by omega
   have e3:((i:Int)<(c.length:Int)):=by omega
   have e4:w64 (k+1)=k+1:=w64_of (by omega) (by omega)
   have e5:w64 (k+1+1)=k+2:=by rw[w64_of (by omega) (by omega)];omega
   simp only[apL,jC,jD,w_markPilotServiceS.d1,C.I_i,C.L_l,e3,decide_true,jR,mtx_eq k0 (show k≤9000000000000000000 by omega),call1,jI,jX,jY,hg,e4,e5,w1 hi (show l.length<big by simp only[big];omega),List.length_set,set_get hic,List.set_set]
   simp[Sv.e,setCs,mkSv])
  (fun k c hc=>by simp[w_markPilotServiceS.d1,hc]) l [] k (by simp) (fun _ _=>trivial) (fun x _ k=>by simp only[mkSv];omega) h0 (by simp;omega)
 simp only[List.length_nil,jB,Int.natCast_zero] at h
 simp only[w_markPilotServiceS,w_markPilotServiceS.d3,apL,jC,jD,C.L_l]
 rw[h]
 simp[w_markPilotServiceS.d2]
theorem w_markPilotLikeS_eq (l:List Lk) (k:Int) (hl:l.length≤1048576) (h0:0≤k) (h1:k≤8000000000000000000):
  w_markPilotLikeS [.i k,.l (l.map Lk.e)]=some [.i (mkAll mkLk l k).2,.l ((mkAll mkLk l k).1.map Lk.e)]:=by
 have h:=mark_loop (K:=8500000000000000000) (P:=fun _=>True) (e:=Lk.e) mkLk 2 (body:=ap3 w_markPilotLikeS.d1) (n:=l.length) hl (by omega)
  (fun i x c k _ hi hc hg k0 k1=>by
   have hic:i<c.length:=by omega
   have e3:((i:Int)<(c.length:Int)):=by omega
   have e4:w64 (k+1)=k+1:=w64_of (by omega) (by omega)
   have e5:w64 (k+1+1)=k+2:=by rw[w64_of (by omega) (by omega)];omega
   simp only[apL,jC,jD,w_markPilotLikeS.d1,C.I_i,C.L_l,e3,decide_true,jR,mtx_eq k0 (show k≤9000000000000000000 by omega),call1,jI,jX,jY,hg,e4,e5,w1 hi (show l.length<big by simp only[big];omega),List.length_set,set_get hic,List.set_set]
   simp[Lk.e,setCs,mkLk])
  (fun k c hc=>by simp[w_markPilotLikeS.d1,hc]) l [] k (by simp) (fun _ _=>trivial) (fun x _ k=>by simp only[mkLk];omega) h0 (by simp;omega)
 simp only[List.length_nil,jB,Int.natCast_zero] at h
 simp only[w_markPilotLikeS,w_markPilotLikeS.d3,apL,jC,jD,C.L_l]
 rw[h]
 simp[w_markPilotLikeS.d2]
end Go.Ev
namespace Go.Ev
theorem w64_up {k:Int} (h0:0≤k) (h1:k≤9000000000000000000):w64 (k+1)=k+1:=w64_of (by omega) (by omega)
theorem setCs_s (a:C) (l:List C) (n:Nat) (m:List C):setCs (a::l) (n+1) m=a::setCs l n m:=by
 have e:n+1+m.length=n+m.length+1:=by omega
 simp only[setCs,List.take_succ_cons,jA,e,List.drop_succ_cons]
theorem setCs_z (a x:C) (l:List C):setCs (a::l) 0 [x]=x::l:=rfl
noncomputable def mkBt (b:Bt) (k:Int):Bt×Int:=
 (⟨mtx k,mtx (k+1),(mkAll mkStr b.marks (k+1+1)).1,(mkAll mkStr b.marks (k+1+1)).2,(mkAll mkStr b.marks (k+1+1)).2+1,((mkAll mkStr b.marks (k+1+1)).2+1+1).tmod 3==0⟩,(mkAll mkStr b.marks (k+1+1)).2+1+1+1)
theorem mkStr_up (l:List Str) (k:Int):k≤(mkAll mkStr l k).2∧(mkAll mkStr l k).2≤k+(l.length:Nat):=by
 have:=mkAll_up mkStr 1 l k (fun x _ k=>by simp only[mkStr];omega)
 omega
theorem mkLk_up (l:List Lk) (k:Int):k≤(mkAll mkLk l k).2∧(mkAll mkLk l k).2≤k+(l.length*2:Nat):=
 mkAll_up mkLk 2 l k (fun x _ k=>by simp only[mkLk];omega)
theorem w_markPilotBerthS_eq (l:List Bt) (k:Int) (hl:l.length≤1048576) (hm:∀b,b∈l→b.marks.length≤1048576) (h0:0≤k) (h1:k≤7000000000000000000):
  w_markPilotBerthS [.i k,.l (l.map Bt.e)]=some [.i (mkAll mkBt l k).2,.l ((mkAll mkBt l k).1.map Bt.e)]:=by
 have h:=mark_loop (K:=7900000000000000000) (P:=fun b:Bt=>b.marks.length≤1048576) (e:=Bt.e) mkBt 1048581 (body:=ap3 w_markPilotBerthS.d3) (n:=l.length) hl (by omega)
  (fun i x c k hx hi hc hg k0 k1=>by
   have hic:i<c.length:=by omega
   have e3:((i:Int)<(c.length:Int)):=by omega
   have hk:=mkStr_up x.marks (k+1+1)
   have hs:=w_markStringS_eq x.marks (k+1+1) hx (by omega) (by omega)
   simp (disch:=omega) only[apL,jC,jD,w_markPilotBerthS.d3,w_markPilotBerthS.d2,w_markPilotBerthS.d1,C.I_i,C.L_l,e3,decide_true,jR,mtx_eq,call1,call2,jI,jJ,jX,jY,hg,w64_up,List.length_set,set_get,List.set_set,Bt.e,setCs_s,setCs_z,hs]
   simp (disch:=omega) [Bt.e,setCs,mkBt,hs,w1,w64_up])
  (fun k c hc=>by simp[w_markPilotBerthS.d3,hc]) l [] k (by simp) hm (fun x hx k=>by have:=mkStr_up x.marks (k+1+1);have:=hm x hx;simp only[mkBt];omega) h0 (by simp;omega)
 simp only[List.length_nil,jB,Int.natCast_zero] at h
 simp only[w_markPilotBerthS,w_markPilotBerthS.d5,apL,jC,jD,C.L_l]
 rw[h]
 simp[w_markPilotBerthS.d4]
noncomputable def mkCp (c:Cp) (k:Int):Cp×Int:=
 (⟨mtx k,mtx (k+1),k+1+1,k+1+1+1,k+1+1+1+1,k+1+1+1+1+1,mtx (k+1+1+1+1+1+1),(mkAll mkLk c.likes (k+1+1+1+1+1+1+1)).1,(mkAll mkLk c.likes (k+1+1+1+1+1+1+1)).2,mtx ((mkAll mkLk c.likes (k+1+1+1+1+1+1+1)).2+1),mtx ((mkAll mkLk c.likes (k+1+1+1+1+1+1+1)).2+1+1),mtx ((mkAll mkLk c.likes (k+1+1+1+1+1+1+1)).2+1+1+1)⟩,(mkAll mkLk c.likes (k+1+1+1+1+1+1+1)).2+1+1+1+1)
theorem w_markPilotCopyS_eq (l:List Cp) (k:Int) (hl:l.length≤1048576) (hm:∀c,c∈l→c.likes.length≤1048576) (h0:0≤k) (h1:k≤7000000000000000000):
  w_markPilotCopyS [.i k,.l (l.map Cp.e)]=some [.i (mkAll mkCp l k).2,.l ((mkAll mkCp l k).1.map Cp.e)]:=by
 have h:=mark_loop (K:=7900000000000000000) (P:=fun c:Cp=>c.likes.length≤1048576) (e:=Cp.e) mkCp 2097170 (body:=ap3 w_markPilotCopyS.d5) (n:=l.length) hl (by omega)
  (fun i x c k hx hi hc hg k0 k1=>by
   have hic:i<c.length:=by omega
   have e3:((i:Int)<(c.length:Int)):=by omega
   have hk:=mkLk_up x.likes (k+1+1+1+1+1+1+1)
   have hs:=w_markPilotLikeS_eq x.likes (k+1+1+1+1+1+1+1) hx (by omega) (by omega)
   simp (disch:=omega) only[apL,jC,jD,w_markPilotCopyS.d5,w_markPilotCopyS.d4,w_markPilotCopyS.d3,w_markPilotCopyS.d2,w_markPilotCopyS.d1,C.I_i,C.L_l,e3,decide_true,jR,mtx_eq,call1,call2,jI,jJ,jX,jY,hg,w64_up,List.length_set,set_get,List.set_set,Cp.e,setCs_s,setCs_z,hs]
   simp (disch:=omega) [mkCp,w1,w64_up])
  (fun k c hc=>by simp[w_markPilotCopyS.d5,hc]) l [] k (by simp) hm (fun x hx k=>by have:=mkLk_up x.likes (k+1+1+1+1+1+1+1);have:=hm x hx;simp only[mkCp];omega) h0 (by simp;omega)
 simp only[List.length_nil,jB,Int.natCast_zero] at h
 simp only[w_markPilotCopyS,w_markPilotCopyS.d7,apL,jC,jD,C.L_l]
 rw[h]
 simp[w_markPilotCopyS.d6]
noncomputable def mkFl (f:Fl) (k:Int):Fl×Int:=
 (⟨f.pack,(mkAll mkBt f.bts k).1,(mkAll mkSv f.svs (mkAll mkBt f.bts k).2).1,(mkAll mkCp f.cps (mkAll mkSv f.svs (mkAll mkBt f.bts k).2).2).1⟩,(mkAll mkCp f.cps (mkAll mkSv f.svs (mkAll mkBt f.bts k).2).2).2)
theorem mkFl_up {f:Fl} (hz:f.Sz 1048576) {k:Int} (h0:0≤k):(k≤(mkAll mkBt f.bts k).2∧(mkAll mkBt f.bts k).2≤k+1099528000000)∧((mkAll mkBt f.bts k).2≤(mkAll mkSv f.svs (mkAll mkBt f.bts k).2).2∧(mkAll mkSv f.svs (mkAll mkBt f.bts k).2).2≤k+1099628000000)∧((mkAll mkSv f.svs (mkAll mkBt f.bts k).2).2≤(mkFl f k).2∧(mkFl f k).2≤k+9999999999999):=by
 have a:=mkAll_up mkBt 1048581 f.bts k (fun x hx k=>by have:=mkStr_up x.marks (k+1+1);have:=(hz.1.2 x hx).2.2.1;simp only[mkBt];omega)
 have b:=mkAll_up mkSv 2 f.svs (mkAll mkBt f.bts k).2 (fun x hx k=>by simp only[mkSv];omega)
 have c:=mkAll_up mkCp 2097170 f.cps (mkAll mkSv f.svs (mkAll mkBt f.bts k).2).2 (fun x hx k=>by have:=mkLk_up x.likes (k+1+1+1+1+1+1+1);have:=(hz.2.2.2 x hx).2.2.2.2.2.2.1;simp only[mkCp];omega)
 have:=hz.1.1;have:=hz.2.1.1;have:=hz.2.2.1
 have e1:f.bts.length*1048581≤1048576*1048581:=Nat.mul_le_mul_right _ hz.1.1
 have e3:f.cps.length*2097170≤1048576*2097170:=Nat.mul_le_mul_right _ hz.2.2.1
 simp only[mkFl]
 omega
theorem w_markPilotFleet_eq {f:Fl} (hz:f.Sz 1048576) {k:Int} (h0:0≤k) (h1:k≤1000000000000000000):
  w_markPilotFleet [.b f.pack,.i k,.l (f.bts.map Bt.e),.l (f.svs.map Sv.e),.l (f.cps.map Cp.e)]=some ([.i (mkFl f k).2,.l ((mkFl f k).1.bts.map Bt.e),.l ((mkFl f k).1.svs.map Sv.e),.l ((mkFl f k).1.cps.map Cp.e)]):=by
 obtain ⟨u1,u2,u3⟩:=mkFl_up hz h0
 have a:=w_markPilotBerthS_eq f.bts k hz.1.1 (fun x hx=>(hz.1.2 x hx).2.2.1) h0 (by omega)
 have b:=w_markPilotServiceS_eq f.svs (mkAll mkBt f.bts k).2 hz.2.1.1 (by omega) (by omega)
 have c:=w_markPilotCopyS_eq f.cps (mkAll mkSv f.svs (mkAll mkBt f.bts k).2).2 hz.2.2.1 (fun x hx=>(hz.2.2.2 x hx).2.2.2.2.2.2.1) (by omega) (by omega)
 simp only[w_markPilotFleet,w_markPilotFleet.d1,apL,jC,jD,C.L_l,a,b,c,call2,jI,jV,mkFl]
end Go.Ev
namespace Go.Ev
end Go.Ev
namespace Go.Ev
theorem add11 (k:Int):k+1+1=k+2:=by omega
theorem ltL {i n:Nat} (h:i<n):decide ((i:Int)<(n:Int))=true:=by simp;omega
theorem w_heldPilotServiceS_eq (l:List Sv) (k:Int) (hl:l.length≤1048576) (h0:0≤k) (h1:k≤8000000000000000000):
  w_heldPilotServiceS [.l ((mkAll mkSv l k).1.map Sv.e),.i k]=some [.i (mkAll mkSv l k).2]:=by
 have hlen:((mkAll mkSv l k).1.map Sv.e).length=l.length:=by rw[jW,mkAll_len]
 have h:=held_loop (K:=8500000000000000000) (P:=fun _=>True) (e:=Sv.e) mkSv 2 (body:=ap3 w_heldPilotServiceS.d1) (n:=l.length) (L:=(mkAll mkSv l k).1.map Sv.e) hl (by omega)
  (fun i x k _ hi hg k0 k1=>by
   simp (disch:=omega) only[apL,jC,jD,w_heldPilotServiceS.d1,C.I_i,C.L_l,hlen,ltL hi,jR,jS,mtx_eq,call1,jI,jX,decide_true,jY,hg,w64_up,Sv.e,mkSv,C.S_s,beq_self_eq_true,bne_self_eq_false,jZ,Int.natCast_add,Int.natCast_one]
   rw[add11])
  (fun k=>by simp[w_heldPilotServiceS.d1,mkAll_len]) l [] k rfl (by simp) (fun _ _=>trivial) (fun x _ k=>by simp only[mkSv];omega) h0 (by simp;omega)
 simp only[List.length_nil,Int.natCast_zero] at h
 simp only[w_heldPilotServiceS,w_heldPilotServiceS.d3,apL,jC,jD,C.L_l]
 rw[h]
 simp[w_heldPilotServiceS.d2]
theorem w_heldPilotLikeS_eq (l:List Lk) (k:Int) (hl:l.length≤1048576) (h0:0≤k) (h1:k≤8000000000000000000):
  w_heldPilotLikeS [.l ((mkAll mkLk l k).1.map Lk.e),.i k]=some [.i (mkAll mkLk l k).2]:=by
 have hlen:((mkAll mkLk l k).1.map Lk.e).length=l.length:=by rw[jW,mkAll_len]
 have h:=held_loop (K:=8500000000000000000) (P:=fun _=>True) (e:=Lk.e) mkLk 2 (body:=ap3 w_heldPilotLikeS.d1) (n:=l.length) (L:=(mkAll mkLk l k).1.map Lk.e) hl (by omega)
  (fun i x k _ hi hg k0 k1=>by
   simp (disch:=omega) only[apL,jC,jD,w_heldPilotLikeS.d1,C.I_i,C.L_l,hlen,ltL hi,jR,jS,mtx_eq,call1,jI,jX,decide_true,jY,hg,w64_up,Lk.e,mkLk,C.S_s,beq_self_eq_true,bne_self_eq_false,jZ,Int.natCast_add,Int.natCast_one]
   rw[add11])
  (fun k=>by simp[w_heldPilotLikeS.d1,mkAll_len]) l [] k rfl (by simp) (fun _ _=>trivial) (fun x _ k=>by simp only[mkLk];omega) h0 (by simp;omega)
 simp only[List.length_nil,Int.natCast_zero] at h
 simp only[w_heldPilotLikeS,w_heldPilotLikeS.d3,apL,jC,jD,C.L_l]
 rw[h]
 simp[w_heldPilotLikeS.d2]
theorem w_heldPilotBerthS_eq (l:List Bt) (k:Int) (hl:l.length≤1048576) (hm:∀b,b∈l→b.marks.length≤1048576) (h0:0≤k) (h1:k≤7000000000000000000):
  w_heldPilotBerthS [.l ((mkAll mkBt l k).1.map Bt.e),.i k]=some [.i (mkAll mkBt l k).2]:=by
 have hlen:((mkAll mkBt l k).1.map Bt.e).length=l.length:=by rw[jW,mkAll_len]
 have h:=held_loop (K:=7900000000000000000) (P:=fun b:Bt=>b.marks.length≤1048576) (e:=Bt.e) mkBt 1048581 (body:=ap3 w_heldPilotBerthS.d1) (n:=l.length) (L:=(mkAll mkBt l k).1.map Bt.e) hl (by omega)
  (fun i x k hx hi hg k0 k1=>by
   have hk:=mkStr_up x.marks (k+1+1)
   have hs:=w_heldStringS_eq x.marks (k+1+1) hx (by omega) (by omega)
   have hn:¬(mkAll mkStr x.marks (k+1+1)).2<0:=by omega
   simp (disch:=omega) only[apL,jC,jD,w_heldPilotBerthS.d1,C.I_i,C.L_l,hlen,ltL hi,jR,jS,mtx_eq,call1,jI,jX,decide_true,decide_false,jY,hg,w64_up,Bt.e,mkBt,C.S_s,C.B_b,beq_self_eq_true,bne_self_eq_false,jZ,Int.natCast_add,Int.natCast_one,hs,hn])
  (fun k=>by simp[w_heldPilotBerthS.d1,mkAll_len]) l [] k rfl (by simp) hm (fun x hx k=>by have:=mkStr_up x.marks (k+1+1);have:=hm x hx;simp only[mkBt];omega) h0 (by simp;omega)
 simp only[List.length_nil,Int.natCast_zero] at h
 simp only[w_heldPilotBerthS,w_heldPilotBerthS.d3,apL,jC,jD,C.L_l]
 rw[h]
 simp[w_heldPilotBerthS.d2]
theorem w_heldPilotCopyS_eq (l:List Cp) (k:Int) (hl:l.length≤1048576) (hm:∀c,c∈l→c.likes.length≤1048576) (h0:0≤k) (h1:k≤7000000000000000000):
  w_heldPilotCopyS [.l ((mkAll mkCp l k).1.map Cp.e),.i k]=some [.i (mkAll mkCp l k).2]:=by
 have hlen:((mkAll mkCp l k).1.map Cp.e).length=l.length:=by rw[jW,mkAll_len]
 have h:=held_loop (K:=7900000000000000000) (P:=fun c:Cp=>c.likes.length≤1048576) (e:=Cp.e) mkCp 2097170 (body:=ap3 w_heldPilotCopyS.d1) (n:=l.length) (L:=(mkAll mkCp l k).1.map Cp.e) hl (by omega)
  (fun i x k hx hi hg k0 k1=>by
   have hk:=mkLk_up x.likes (k+1+1+1+1+1+1+1)
   have hs:=w_heldPilotLikeS_eq x.likes (k+1+1+1+1+1+1+1) hx (by omega) (by omega)
   have hn:¬(mkAll mkLk x.likes (k+1+1+1+1+1+1+1)).2<0:=by omega
   simp (disch:=omega) only[apL,jC,jD,w_heldPilotCopyS.d1,C.I_i,C.L_l,hlen,ltL hi,jR,jS,mtx_eq,call1,jI,jX,decide_true,decide_false,jY,hg,w64_up,Cp.e,mkCp,C.S_s,C.B_b,beq_self_eq_true,bne_self_eq_false,jZ,Int.natCast_add,Int.natCast_one,hs,hn])
  (fun k=>by simp[w_heldPilotCopyS.d1,mkAll_len]) l [] k rfl (by simp) hm (fun x hx k=>by have:=mkLk_up x.likes (k+1+1+1+1+1+1+1);have:=hm x hx;simp only[mkCp];omega) h0 (by simp;omega)
 simp only[List.length_nil,Int.natCast_zero] at h
 simp only[w_heldPilotCopyS,w_heldPilotCopyS.d3,apL,jC,jD,C.L_l]
 rw[h]
 simp[w_heldPilotCopyS.d2]
theorem w_heldPilotFleet_eq {f:Fl} (hz:f.Sz 1048576) {k:Int} (h0:0≤k) (h1:k≤1000000000000000000):
  w_heldPilotFleet [.b f.pack,.l ((mkFl f k).1.bts.map Bt.e),.l ((mkFl f k).1.svs.map Sv.e),.l ((mkFl f k).1.cps.map Cp.e),.i k]=some [.i (mkFl f k).2]:=by
 obtain ⟨u1,u2,u3⟩:=mkFl_up hz h0
 have a:=w_heldPilotBerthS_eq f.bts k hz.1.1 (fun x hx=>(hz.1.2 x hx).2.2.1) h0 (by omega)
 have b:=w_heldPilotServiceS_eq f.svs (mkAll mkBt f.bts k).2 hz.2.1.1 (by omega) (by omega)
 have c:=w_heldPilotCopyS_eq f.cps (mkAll mkSv f.svs (mkAll mkBt f.bts k).2).2 hz.2.2.1 (fun x hx=>(hz.2.2.2 x hx).2.2.2.2.2.2.1) (by omega) (by omega)
 have n1:¬(mkAll mkBt f.bts k).2<0:=by omega
 have n2:¬(mkAll mkSv f.svs (mkAll mkBt f.bts k).2).2<0:=by omega
 simp only[mkFl] at u3
 have n3:¬(mkAll mkCp f.cps (mkAll mkSv f.svs (mkAll mkBt f.bts k).2).2).2<0:=by omega
 simp only[w_heldPilotFleet,w_heldPilotFleet.d1,apL,jC,jD,C.L_l,C.I_i,a,b,c,n1,n2,n3,decide_false,jS,call1,jI,jV,mkFl]
end Go.Ev
namespace Go.Ev
theorem snoc_take {α:Type} (e:α→List C) {l:List α} {i:Nat} (h:i<l.length):(l.take i).map e++[e l[i]]=(l.take (i+1)).map e:=by
 rw[List.take_succ_eq_append_getElem h,List.map_append];rfl
theorem i_pCloneBerth_eq {b:Bt} (h:b.marks.length≤1048576):i_pCloneBerth b.e=some b.o:=by
 have:b.marks.length≤4294967296:=by omega
 simp[i_pCloneBerth,i_pCloneBerth.d1,Bt.e,Bt.o,this]
theorem s_l2BerthOf_eq {b:Bt} (h:b.marks.length≤1048576):s_l2BerthOf b.e=some b.o:=by
 have:b.marks.length≤4294967296:=by omega
 simp[s_l2BerthOf,s_l2BerthOf.d1,Bt.e,Bt.o,this]
theorem i_pCloneCopy_eq {c:Cp} (h:c.likes.length≤1048576):i_pCloneCopy c.e=some c.o:=by
 have:c.likes.length≤4294967296:=by omega
 simp[i_pCloneCopy,i_pCloneCopy.d1,Cp.e,Cp.o,this]
theorem s_l2CopyOf_eq {c:Cp} (h:c.likes.length≤1048576):s_l2CopyOf c.e=some c.o:=by
 have:c.likes.length≤4294967296:=by omega
 simp[s_l2CopyOf,s_l2CopyOf.d1,Cp.e,Cp.o,this]
section
variable {f:Fl} (hz:f.Sz 1048576)
include hz
theorem i_pClone_eq:i_pClone f.e=some f.e:=by
 have hlb:f.bts.length<big:=by have:=hz.1.1;simp only[big];omega
 have hlc:f.cps.length<big:=by have:=hz.2.2.1;simp only[big];omega
 have h1:=run_loop (body:=ap15 i_pClone.d1) (S:=fun i=>[C.l (f.bts.map Bt.e),C.i (f.bts.length:Nat),C.i (i:Nat)]++f.e++[C.b false,C.b f.pack,.l nils,.l nils,.l nils,C.l ((f.bts.take i).map Bt.e),C.l (f.svs.map Sv.e),.l nils]) (n:=f.bts.length) (b:=0) (ys:=f.e++[C.b false,C.b f.pack,.l nils,.l nils,.l nils,C.l ((f.bts.take f.bts.length).map Bt.e),C.l (f.svs.map Sv.e),.l nils])
  (fun i hi=>by
   have hc:=i_pCloneBerth_eq (hz.1.2 _ (List.getElem_mem hi)).2.2.1
   have hn:(f.bts.take i).length+1≤4294967296:=by rw[List.length_take];have:=hz.1.1;omega
   have sn:=snoc_take Bt.e hi
   simp only[Bt.e,Bt.o] at hc
   simp only[Fl.e,jA,jB,apL,jC,jD,i_pClone.d1,C.I_i,C.L_l,jW,jY,getD_map' Bt.e hi,ltL hi,decide_true,jR,jX,w1 hi hlb]
   simp only[Bt.e] at sn
   simp only[Bt.e,jC,jD,hc,call6,jI,C.L_l,rows,List.length_cons,List.length_nil,Nat.zero_add,hn,decide_true,jR,sn])
  (by simp[i_pClone.d1,Fl.e]) f.bts.length 0 rfl
 have h2:=run_loop (body:=ap11 i_pClone.d2) (S:=fun i=>[C.l (f.cps.map Cp.e),C.i (f.cps.length:Nat),C.i (i:Nat)]++[C.b false,C.b f.pack,.l nils,.l nils,.l nils,C.l (f.bts.map Bt.e),C.l (f.svs.map Sv.e),C.l ((f.cps.take i).map Cp.e)]) (n:=f.cps.length) (b:=2) (ys:=[C.b false,C.b f.pack,.l nils,.l nils,.l nils,C.l (f.bts.map Bt.e),C.l (f.svs.map Sv.e),C.l ((f.cps.take f.cps.length).map Cp.e)])
  (fun i hi=>by
   have hc:=i_pCloneCopy_eq (hz.2.2.2 _ (List.getElem_mem hi)).2.2.2.2.2.2.1
   have hn:(f.cps.take i).length+1≤4294967296:=by rw[List.length_take];have:=hz.2.2.1;omega
   have sn:=snoc_take Cp.e hi
   simp only[Cp.e,Cp.o] at hc
   simp only[jA,jB,apL,jC,jD,i_pClone.d2,C.I_i,C.L_l,jW,jY,getD_map' Cp.e hi,ltL hi,decide_true,jR,jX,w1 hi hlc]
   simp only[Cp.e] at sn
   simp only[Cp.e,jC,jD,hc,call12,jI,C.L_l,rows,List.length_cons,List.length_nil,Nat.zero_add,hn,decide_true,jR,sn])
  (by simp[i_pClone.d2]) f.cps.length 0 rfl
 have hs:f.svs.length≤4294967296:=by have:=hz.2.1.1;omega
 simp only[Fl.e,jA,jB,Int.natCast_zero,List.take_zero,List.map_nil,List.take_length] at h1 h2
 simp only[i_pClone,i_pClone.d5,Fl.e,apL,jC,jD,C.L_l,C.B_b,jW,hs,decide_true,jR]
 rw[show nils=([]:List (List C)) from rfl] at h1 h2⊢
 rw[h1]
 simp only[bindBlk_self,apL,jC,jD,i_pClone.d4,C.L_l,jW]
 rw[h2]
 simp[i_pClone.d3]
theorem s_l2Fleet_eq:s_l2Fleet f.e=some f.e:=by
 have hlb:f.bts.length<big:=by have:=hz.1.1;simp only[big];omega
 have hlc:f.cps.length<big:=by have:=hz.2.2.1;simp only[big];omega
 have h1:=run_loop (body:=ap13 s_l2Fleet.d1) (S:=fun i=>[C.i (i:Nat)]++f.e++[C.b false,C.b f.pack,.l nils,.l nils,.l nils,C.l ((f.bts.take i).map Bt.e),C.l (f.svs.map Sv.e),.l nils]) (n:=f.bts.length) (b:=0) (ys:=f.e++[C.b false,C.b f.pack,.l nils,.l nils,.l nils,C.l ((f.bts.take f.bts.length).map Bt.e),C.l (f.svs.map Sv.e),.l nils])
  (fun i hi=>by
   have hc:=s_l2BerthOf_eq (hz.1.2 _ (List.getElem_mem hi)).2.2.1
   have hn:(f.bts.take i).length+1≤4294967296:=by rw[List.length_take];have:=hz.1.1;omega
   have sn:=snoc_take Bt.e hi
   simp only[Bt.e,Bt.o] at hc
   simp only[Fl.e,jA,jB,apL,jC,jD,s_l2Fleet.d1,C.I_i,C.L_l,jW,jY,getD_map' Bt.e hi,ltL hi,decide_true,jR,jX,w1 hi hlb]
   simp only[Bt.e] at sn
   simp only[Bt.e,jC,jD,hc,call6,jI,C.L_l,rows,List.length_cons,List.length_nil,Nat.zero_add,hn,decide_true,jR,sn])
  (by simp[s_l2Fleet.d1,Fl.e]) f.bts.length 0 rfl
 have h2:=run_loop (body:=ap13 s_l2Fleet.d2) (S:=fun i=>[C.i (i:Nat)]++f.e++[C.b false,C.b f.pack,.l nils,.l nils,.l nils,C.l (f.bts.map Bt.e),C.l (f.svs.map Sv.e),C.l ((f.cps.take i).map Cp.e)]) (n:=f.cps.length) (b:=2) (ys:=[C.b false,C.b f.pack,.l nils,.l nils,.l nils,C.l (f.bts.map Bt.e),C.l (f.svs.map Sv.e),C.l ((f.cps.take f.cps.length).map Cp.e)])
  (fun i hi=>by
   have hc:=s_l2CopyOf_eq (hz.2.2.2 _ (List.getElem_mem hi)).2.2.2.2.2.2.1
   have hn:(f.cps.take i).length+1≤4294967296:=by rw[List.length_take];have:=hz.2.2.1;omega
   have sn:=snoc_take Cp.e hi
   simp only[Cp.e,Cp.o] at hc
   simp only[Fl.e,jA,jB,apL,jC,jD,s_l2Fleet.d2,C.I_i,C.L_l,jW,jY,getD_map' Cp.e hi,ltL hi,decide_true,jR,jX,w1 hi hlc]
   simp only[Cp.e] at sn
   simp only[Cp.e,jC,jD,hc,call12,jI,C.L_l,rows,List.length_cons,List.length_nil,Nat.zero_add,hn,decide_true,jR,sn])
  (by simp[s_l2Fleet.d2,Fl.e]) f.cps.length 0 rfl
 have hs:0+f.svs.length≤4294967296:=by have:=hz.2.1.1;omega
 simp only[Fl.e,jA,jB,Int.natCast_zero,List.take_zero,List.map_nil,List.take_length] at h1 h2
 rw[show nils=([]:List (List C)) from rfl] at h1 h2
 simp only[s_l2Fleet,s_l2Fleet.d5,Fl.e,apL,jC,jD,C.L_l,C.B_b,jW,show nils=([]:List (List C)) from rfl,List.length_nil,hs,decide_true,jR,jB]
 rw[h1]
 simp only[bindBlk_self,apL,jC,jD,s_l2Fleet.d4,C.L_l,jW]
 rw[h2]
 simp[s_l2Fleet.d3]
end
end Go.Ev
namespace Go.Ev
theorem bytesLess_trans:∀(a b c:List UInt8),Op.bytesLess a b=true→Op.bytesLess b c=true→Op.bytesLess a c=true
 |_,_,[],_,h2=>by cases ‹List UInt8›<;>simp[Op.bytesLess] at h2
 |_,[],_::_,h1,_=>by simp[Op.bytesLess] at h1
 |[],_::_,_::_,_,_=>by simp[Op.bytesLess]
 |x::a,y::b,z::c,h1,h2=>by
  simp only[Op.bytesLess,Bool.or_eq_true,Bool.and_eq_true,decide_eq_true_eq,beq_iff_eq] at h1 h2⊢
  have lt (p q:UInt8):p<q↔p.toNat<q.toNat:=Iff.rfl
  simp only[lt] at h1 h2⊢
  rcases h1 with h1|⟨rfl,h1⟩
  ·rcases h2 with h2|⟨rfl,h2⟩
   ·left;omega
   ·left;exact h1
  ·rcases h2 with h2|⟨rfl,h2⟩
   ·left;exact h2
   ·right;exact ⟨rfl,bytesLess_trans a b c h1 h2⟩
theorem bytesLess_irr:∀(a:List UInt8),Op.bytesLess a a=false
 |[]=>rfl
 |x::r=>by
  have ih:=bytesLess_irr r
  simp only[Op.bytesLess,ih]
  simp
theorem sLt_irr (a:Str):sLt a a=false:=bytesLess_irr _
theorem sLt_trans {a b c:Str} (h1:sLt a b=true) (h2:sLt b c=true):sLt a c=true:=bytesLess_trans _ _ _ h1 h2
theorem adj_lt {α:Type} {lt:α→α→Bool} {l:List α} (ht:∀a b c,lt a b=true→lt b c=true→lt a c=true) (h:∀i (h:i+1<l.length),lt (l[i]'(by omega)) l[i+1]=true):
  ∀(d i:Nat) (hj:i+d+1<l.length),lt (l[i]'(by omega)) l[i+d+1]=true
 |0,i,hj=>h i hj
 |d+1,i,hj=>ht _ _ _ (adj_lt ht h d i (by omega)) (h (i+d+1) (by omega))
def UniqF (l:List Cp):Prop:=∀(i k:Nat) (hi:i<l.length) (hk:k<l.length),sEq l[i].name l[k].name=true→i=k
theorem names_up {f:Fl} (h:validF f=true) (d i:Nat) (hj:i+d+1<f.cps.length):sLt (f.cps[i]'(by omega)).name f.cps[i+d+1].name=true:=by
 refine adj_lt (lt:=fun a b:Cp=>sLt a.name b.name) (fun a b c=>sLt_trans) (fun i hi=>?_) d i hj
 simp only[validF,Bool.and_eq_true] at h
 have:=(allFrom_iff _ _ _).1 h.2.2.2.2.1 (i+1) (Nat.zero_le _) (by omega)
 have hi':i<f.cps.length:=by omega
 have e:(i+1==0)=false:=rfl
 simp only[cpA,List.getElem?_eq_getElem hi,Nat.add_sub_cancel,List.getElem?_eq_getElem hi',e,Bool.false_or,Bool.and_eq_true] at this
 exact this.2.2.1
theorem uniq_of {f:Fl} (h:validF f=true):UniqF f.cps:=by
 have key:∀(i k:Nat) (hi:i<f.cps.length) (hk:k<f.cps.length),i<k→sEq f.cps[i].name f.cps[k].name=true→False:=by
  intro i k hi hk hlt he
  obtain ⟨d,rfl⟩:∃d,k=i+d+1:=⟨k-i-1,by omega⟩
  have:=names_up h d i hk
  rw[(sEq_iff _ _).1 he,sLt_irr] at this
  exact absurd this (by decide)
 intro i k hi hk he
 rcases Nat.lt_trichotomy i k with h1|h1|h1
 ·exact (key i k hi hk h1 he).elim
 ·exact h1
 ·exact (key k i hk hi h1 (by rw[sEq_comm];exact he)).elim
section
variable {f:Fl} (hz:f.Sz 1048576) (g:List Str) (hg:g.length≤1048576)
include hz hg
end
end Go.Ev
namespace Go.Ev
structure Sp where
 copy:Str
 berth:Str
 gone:List Str
def Sp.e (s:Sp):List C:=[.s s.copy,.s s.berth,.l (s.gone.map sE)]
def Sp.Sz (K:Nat) (s:Sp):Prop:=s.copy.size≤K∧s.berth.size≤K∧SsSz K s.gone
def fl0:Fl:=⟨false,[],[],[]⟩
def setAt (f:Fl) (i:Nat) (c:Cp) (b:Str):Fl:= {f with cps:=f.cps.set i {c with at_:=b}}
section
variable {f:Fl} (hz:f.Sz 1048576) {s:Sp} (hs:s.Sz 1048576)
include hz hs
end
end Go.Ev
namespace Go.Ev
theorem fl0_sz:fl0.Sz 1048576:=by refine ⟨⟨by simp[fl0],fun _ h=>?_⟩,⟨by simp[fl0],fun _ h=>?_⟩,by simp[fl0],fun _ h=>?_⟩<;>simp[fl0] at h
theorem setAt_sz {f:Fl} (hz:f.Sz 1048576) {c:Cp} (hc:c.Sz 1048576) {b:Str} (hb:b.size≤1048576) (i:Nat):(setAt f i c b).Sz 1048576:=by
 refine ⟨hz.1,hz.2.1,by simp only[setAt,List.length_set];exact hz.2.2.1,fun x hx=>?_⟩
 simp only[setAt] at hx
 rcases List.mem_or_eq_of_mem_set hx with h|rfl
 ·exact hz.2.2.2 x h
 ·exact ⟨hc.1,hc.2.1,hc.2.2.1,hc.2.2.2.1,hc.2.2.2.2.1,hb,hc.2.2.2.2.2.2⟩
end Go.Ev
namespace Go.Ev
theorem takeN {α:Type} (p:α→Bool):∀l:List α,l.take (l.takeWhile p).length=l.takeWhile p∧l.drop (l.takeWhile p).length=l.dropWhile p
 |[]=>⟨rfl,rfl⟩
 |x::r=>by
  have ih:=takeN p r
  cases h:p x<;>simp[List.takeWhile,List.dropWhile,h,ih]
end Go.Ev
namespace Go.Ev
section
variable {f:Fl} (hz:f.Sz 1048576) (g:List Str) (hg:SsSz 1048576 g)
include hz hg
end
end Go.Ev
namespace Go.Ev
section
variable {α:Type} (lt:α→α→Bool)
def insK (c:α) (l:List α):Nat:=(l.takeWhile fun x=>lt x c).length
def insQ (c:α) (l:List α):List α:=l.take (insK lt c l)++c::l.drop (insK lt c l)
def insF (l:List α):List α:=l.foldl (fun a c=>insQ lt c a) []
theorem insK_le (c:α) (l:List α):insK lt c l≤l.length:=(List.takeWhile_sublist _).length_le
theorem insQ_perm (c:α) (l:List α):(insQ lt c l).Perm (c::l):=by
 have h:=List.perm_middle (a:=c) (l₁:=l.take (insK lt c l)) (l₂:=l.drop (insK lt c l))
 rw[List.take_append_drop] at h
 exact h
theorem mem_tw {p:α→Bool}:∀ {l:List α} (x:α),x∈l.takeWhile p→p x=true
 |[],x,h=>by simp at h
 |y::r,x,h=>by
  cases hp:p y with
  |false=>simp[List.takeWhile,hp] at h
  |true=>
   simp only[List.takeWhile,hp,List.mem_cons] at h
   rcases h with rfl|h
   ·exact hp
   ·exact mem_tw x h
theorem insQ_sorted (irr:∀x,lt x x=false) (trans:∀x y z,lt x y=true→lt y z=true→lt x z=true) (ntr:∀x y z,lt x y=false→lt y z=false→lt x z=false)
  (c:α) {l:List α} (h:l.Pairwise fun x y=>lt y x=false):(insQ lt c l).Pairwise fun x y=>lt y x=false:=by
 obtain ⟨e1,e2⟩:=takeN (fun x=>lt x c) l
 unfold insQ insK
 rw[e1,e2]
 have h0:=h
 rw[←List.takeWhile_append_dropWhile (p:=fun x=>lt x c) (l:=l),List.pairwise_append] at h0
 obtain ⟨h1,h2,h3⟩:=h0
 have hz:∀y,y∈l.dropWhile (fun x=>lt x c)→lt y c=false:=by
  intro y hy
  cases hd:l.dropWhile (fun x=>lt x c) with
  |nil=>rw[hd] at hy;simp at hy
  |cons z t=>
   have hz:lt z c=false:=by
    have:=List.head_dropWhile_not (p:=fun x=>lt x c) (l:=l) (by rw[hd];simp)
    simpa only[hd,List.head_cons] using this
   rw[hd] at hy h2
   rcases List.mem_cons.1 hy with rfl|hy
   ·exact hz
   ·exact ntr _ _ _ ((List.pairwise_cons.1 h2).1 y hy) hz
 refine List.pairwise_append.2 ⟨h1,List.pairwise_cons.2 ⟨hz,h2⟩,fun x hx y hy=>?_⟩
 have hx':lt x c=true:=mem_tw x hx
 rcases List.mem_cons.1 hy with rfl|hy
 ·cases hq:lt y x with
  |false=>rfl
  |true=>
   have:=trans _ _ _ hx' hq
   rw[irr] at this;cases this
 ·exact h3 x hx y hy
theorem insF_ok (irr:∀x,lt x x=false) (trans:∀x y z,lt x y=true→lt y z=true→lt x z=true) (ntr:∀x y z,lt x y=false→lt y z=false→lt x z=false):
  ∀(l a:List α),(a.Pairwise fun x y=>lt y x=false)→((l.foldl (fun a c=>insQ lt c a) a).Pairwise fun x y=>lt y x=false)∧(l.foldl (fun a c=>insQ lt c a) a).Perm (l++a)
 |[],a,h=>⟨h,.refl _⟩
 |c::l,a,h=>by
  obtain ⟨h1,h2⟩:=insF_ok irr trans ntr l (insQ lt c a) (insQ_sorted lt irr trans ntr c h)
  exact ⟨h1,h2.trans (((insQ_perm lt c a).append_left l).trans List.perm_middle)⟩
theorem insF_snoc (l:List α) (c:α):insF lt (l++[c])=insQ lt c (insF lt l):=by simp[insF,List.foldl_append]
end
def ahd (a b:Cp):Bool:=ltE a.rank a.born a.name b.rank b.born b.name
theorem ahd_irr (x:Cp):ahd x x=false:=ltE_irr _ _ _
theorem ahd_trans (x y z:Cp):ahd x y=true→ahd y z=true→ahd x z=true:=ltE_trans
theorem ahd_ntr (x y z:Cp):ahd x y=false→ahd y z=false→ahd x z=false:=ltE_ntrans
theorem ahd_eq {a b:Cp} (h1:ahd a b=false) (h2:ahd b a=false):sEq a.name b.name=true:=by
 rcases ltE_not h1 with h|⟨_,_,h⟩
 ·have:ahd b a=true:=h
  rw[h2] at this;cases this
 ·rw[sEq_iff]
  have:b.name.data=a.name.data:=Array.toList_inj.1 h
  cases hb:b.name;cases ha:a.name
  rw[ha,hb] at this
  simp only at this
  rw[this]
def waitP (c:Cp):Bool:=sEq c.at_ (mkS [])
def waits (f:Fl):List Cp:=f.cps.filter waitP
def queue (f:Fl):List Cp:=insF ahd (waits f)
theorem queue_perm (f:Fl):(queue f).Perm (waits f):=by
 have:=(insF_ok ahd ahd_irr ahd_trans ahd_ntr (waits f) [] .nil).2
 rwa [List.append_nil] at this
theorem queue_mem {f:Fl} {c:Cp} (h:c∈queue f):c∈f.cps∧waitP c=true:=by
 have:=(queue_perm f).mem_iff.1 h
 exact List.mem_filter.1 this
theorem uniq_mem {l:List Cp} (hu:UniqF l) {x y:Cp} (hx:x∈l) (hy:y∈l) (h:sEq x.name y.name=true):x=y:=by
 obtain ⟨i,hi,rfl⟩:=List.getElem_of_mem hx
 obtain ⟨k,hk,rfl⟩:=List.getElem_of_mem hy
 have:=hu i k hi hk h
 subst this;rfl
theorem queue_sort {f:Fl} (hu:UniqF f.cps):(waits f).mergeSort (fun x y=>!ahd y x)=queue f:=by
 have hw:∀x,x∈waits f→x∈f.cps:=fun x h=>(List.mem_filter.1 h).1
 refine List.Perm.eq_of_pairwise (le:=fun x y=>ahd y x=false) (fun x y hx hy e1 e2=>?_) ?_ (insF_ok ahd ahd_irr ahd_trans ahd_ntr (waits f) [] .nil).1 ((List.mergeSort_perm _ _).trans (queue_perm f).symm)
 ·exact uniq_mem hu (hw _ ((List.mergeSort_perm _ _).mem_iff.1 hx)) (queue_mem hy).1 (ahd_eq e2 e1)
 ·have:=List.pairwise_mergeSort (le:=fun x y:Cp=>!ahd y x)
   (fun x y z e1 e2=>by
    simp only[Bool.not_eq_true'] at*
    exact ahd_ntr _ _ _ e2 e1)
   (fun x y=>by
    cases e1:ahd y x with
    |false=>simp
    |true=>
     cases e2:ahd x y with
     |false=>simp
     |true=>
      have:=ahd_trans _ _ _ e2 e1
      rw[ahd_irr] at this;cases this) (waits f)
  exact this.imp fun {x y} h=>by simpa using h
theorem apart_q:∀ {l:List Cp},(∀x,x∈l→rkOk x.rank x.born=true)→(l.Pairwise fun x y=>sEq x.name y.name=false)→∀ {lt:List C→List C→Bool},(∀x y,x∈l→y∈l→lt x.e y.e=ahd x y)→apartB lt (l.map Cp.e)=true
 |[],_,_,_,_=>rfl
 |x::r,hq,hp,lt,hlt=>by
  simp only[List.map_cons,apartB,Bool.and_eq_true,List.all_eq_true,List.mem_map]
  refine ⟨?_,apart_q (fun y hy=>hq y (by simp[hy])) (List.pairwise_cons.1 hp).2 fun y z hy hz=>hlt y z (by simp[hy]) (by simp[hz])⟩
  rintro _ ⟨y,hy,rfl⟩
  rw[hlt x y (by simp) (by simp[hy]),hlt y x (by simp[hy]) (by simp)]
  cases h1:ahd x y with
  |true=>rfl
  |false=>
   cases h2:ahd y x with
   |true=>rfl
   |false=>
    have:=ahd_eq h1 h2
    rw[(List.pairwise_cons.1 hp).1 y hy] at this;cases this
theorem names_pw {l:List Cp} (hu:UniqF l):l.Pairwise fun x y=>sEq x.name y.name=false:=by
 rw[List.pairwise_iff_getElem]
 intro i j hi hj hij
 cases h:sEq l[i].name l[j].name with
 |false=>rfl
 |true=>
  have:=hu i j hi hj h
  omega
theorem waits_succ (f:Fl) {i:Nat} (h:i<f.cps.length):(f.cps.take (i+1)).filter waitP=bif waitP f.cps[i] then (f.cps.take i).filter waitP++[f.cps[i]] else (f.cps.take i).filter waitP:=by
 rw[List.take_succ_eq_append_getElem h,List.filter_append]
 cases hw:waitP f.cps[i]<;>simp[hw]
theorem waits_len (f:Fl) (i:Nat):((f.cps.take i).filter waitP).length≤f.cps.length:=
 Nat.le_trans (List.length_filter_le _ _) (by rw[List.length_take];omega)
theorem s_l5Ahead_eq (a b:Cp):s_l5Ahead (a.e++b.e)=some [.b (ahd a b)]:=by
 simp only[s_l5Ahead,s_l5Ahead.d1,Cp.e,jA,jB,apL,jC,jD,C.I_i,C.S_s,ahd,ltE,toList_data']
 by_cases e1:a.rank=b.rank
 ·by_cases e2:a.born=b.born
  ·simp[e1,e2]
  ·have:(a.born !=b.born)=true:=by simp[e2]
   have q:(a.born==b.born)=false:=by simp[e2]
   simp[e1,this,q]
 ·have:(a.rank !=b.rank)=true:=by simp[e1]
  have q:(a.rank==b.rank)=false:=by simp[e1]
  simp[this,q]
section
variable {f:Fl} (hz:f.Sz 1048576)
include hz
end
end Go.Ev
namespace Go.Ev
theorem cp_row (c:Cp):[c.e.getD 0 .nil,c.e.getD 1 .nil,c.e.getD 2 .nil,c.e.getD 3 .nil,c.e.getD 4 .nil,c.e.getD 5 .nil,c.e.getD 6 .nil,c.e.getD 7 .nil,c.e.getD 8 .nil,c.e.getD 9 .nil,c.e.getD 10 .nil,c.e.getD 11 .nil]=c.e:=rfl
section
variable {f:Fl} (hz:f.Sz 1048576)
include hz
theorem ahd_loop {i:Nat} (hi:i<f.cps.length) (L:List Cp) (hL:L.length≤60):lim (ap7 s_l5Queue.d1) ([.i (i:Nat),.i 0]++f.e++[.l (L.map Cp.e)])=some (.brk 2 ([.i (i:Nat),.i (insK ahd f.cps[i] L:Nat)]++f.e++[.l (L.map Cp.e)])):=by
 have hlb:L.length<big:=by simp only[big];omega
 have hle:=insK_le ahd f.cps[i] L
 obtain ⟨e1,e2⟩:=takeN (fun x=>ahd x f.cps[i]) L
 have hA:∀a:Cp,s_l5Ahead [a.e.getD 0 .nil,a.e.getD 1 .nil,a.e.getD 2 .nil,a.e.getD 3 .nil,a.e.getD 4 .nil,a.e.getD 5 .nil,a.e.getD 6 .nil,a.e.getD 7 .nil,a.e.getD 8 .nil,a.e.getD 9 .nil,a.e.getD 10 .nil,a.e.getD 11 .nil,f.cps[i].e.getD 0 .nil,f.cps[i].e.getD 1 .nil,f.cps[i].e.getD 2 .nil,f.cps[i].e.getD 3 .nil,f.cps[i].e.getD 4 .nil,f.cps[i].e.getD 5 .nil,f.cps[i].e.getD 6 .nil,f.cps[i].e.getD 7 .nil,f.cps[i].e.getD 8 .nil,f.cps[i].e.getD 9 .nil,f.cps[i].e.getD 10 .nil,f.cps[i].e.getD 11 .nil]=some [.b (ahd a f.cps[i])]:=fun a=>s_l5Ahead_eq a f.cps[i]
 have h:=run_loop (body:=ap7 s_l5Queue.d1) (S:=fun k=>[.i (i:Nat),.i (k:Nat)]++f.e++[C.l (L.map Cp.e)]) (n:=insK ahd f.cps[i] L) (b:=2) (ys:=[.i (i:Nat),.i (insK ahd f.cps[i] L:Nat)]++f.e++[C.l (L.map Cp.e)])
  (fun k hk=>by
   have hk':k<L.length:=by omega
   have hge:ahd L[k] f.cps[i]=true:=by
    have h1:(L.takeWhile fun x=>ahd x f.cps[i])[k]'hk=L[k]:=(List.takeWhile_prefix (fun x=>ahd x f.cps[i]) (l:=L)).getElem hk
    have:=mem_tw (p:=fun x=>ahd x f.cps[i]) _ (List.getElem_mem hk)
    rw[h1] at this
    exact this
   simp only[Fl.e,jA,jB,apL,jC,jD,s_l5Queue.d1,C.I_i,C.L_l,jW,ltL hk',ltL hi,decide_true,jR,jX,jY,getD_map' Cp.e hk',getD_map' Cp.e hi,w1 hk' hlb,hA,call1,jI,C.B_b,hge])
  (by
   simp only[Fl.e,jA,jB,apL,jC,jD,s_l5Queue.d1,C.I_i,C.L_l,jW]
   rcases Nat.lt_or_ge (insK ahd f.cps[i] L) L.length with h|h
   ·have hlt:ahd L[insK ahd f.cps[i] L] f.cps[i]=false:=by
     have hd:L.drop (insK ahd f.cps[i] L)=L.dropWhile fun x=>ahd x f.cps[i]:=e2
     have hne:L.dropWhile (fun x=>ahd x f.cps[i])≠[]:=by rw[←hd];intro h0;rw[List.drop_eq_nil_iff] at h0;omega
     have:=List.head_dropWhile_not (p:=fun x=>ahd x f.cps[i]) (l:=L) hne
     have h5:(L.drop (insK ahd f.cps[i] L)).head (by rw[hd];exact hne)=L[insK ahd f.cps[i] L]:=by simp[List.head_drop]
     simp only[←hd,h5] at this
     exact this
    simp only[ltL h,ltL hi,decide_true,jR,jX,jY,getD_map' Cp.e h,getD_map' Cp.e hi,hA,call1,jI,jC,C.B_b,hlt,jS]
   ·have:¬(((insK ahd f.cps[i] L:Nat):Int)<(L.length:Int)):=by omega
    simp only[this,decide_false,jS]) (insK ahd f.cps[i] L) 0 rfl
 exact h
theorem s_l5Queue_eq (hv:VB f):s_l5Queue f.e=some [.l (((queue f).map Cp.name).map sE)]:=by
 have hlc:f.cps.length<big:=by have:=hz.2.2.1;simp only[big];omega
 have h:=run_loop (body:=ap6 s_l5Queue.d4) (S:=fun i=>[C.i (i:Nat)]++f.e++[C.l ((insF ahd ((f.cps.take i).filter waitP)).map Cp.e)]) (n:=f.cps.length) (b:=0) (ys:=[C.l ((insF ahd ((f.cps.take f.cps.length).filter waitP)).map Cp.e)])
  (fun i hi=>by
   have hn:((f.cps.take i).filter waitP).length≤60:=by have:=waits_len f i;have:=hv.n60;omega
   have hil:(insF ahd ((f.cps.take i).filter waitP)).length≤60:=by
    have:=(insF_ok ahd ahd_irr ahd_trans ahd_ntr ((f.cps.take i).filter waitP) [] .nil).2.length_eq
    rw[List.append_nil] at this
    simp only[insF];omega
   have q0:(((f.cps[i].e.getD 11 C.nil).S).toList==(bs #[]).toList)=waitP f.cps[i]:=rfl
   have hI:=ahd_loop hz hi _ hil
   have hN:=insK_le ahd f.cps[i] (insF ahd ((f.cps.take i).filter waitP))
   simp only[Fl.e,jA,jB] at hI
   simp only[Fl.e,jA,jB,apL,jC,jD,s_l5Queue.d4,C.I_i,C.L_l,jW,ltL hi,decide_true,jR,jX,jY,getD_map' Cp.e hi,q0,waits_succ f hi]
   cases hw:waitP f.cps[i] with
   |false=>simp[s_l5Queue.d3,w1 hi hlc]
   |true=>
    simp only[jR,jZ,jS,insF_snoc]
    generalize insF ahd ((f.cps.take i).filter waitP)=L at hI hil hN⊢
    rw[hI]
    have q1:((insK ahd f.cps[i] L:Nat):Int)≤(L.length:Int):=by omega
    have q2:0+insK ahd f.cps[i] L≤4294967296:=by omega
    have q3:min (insK ahd f.cps[i] L) L.length=insK ahd f.cps[i] L:=by omega
    have q4:0+insK ahd f.cps[i] L+(0+1)≤4294967296:=by omega
    have q5:0+insK ahd f.cps[i] L+(0+1)+(L.length-insK ahd f.cps[i] L)≤4294967296:=by omega
    simp only[bindBlk_self,apL,jC,jD,s_l5Queue.d2,C.I_i,C.L_l,jW,q1,ltL hi,getD_map' Cp.e hi,cp_row,jX,decide_true,jR,jY,rows,List.length_append,List.length_drop,List.length_take,Nat.sub_zero,List.length_cons,List.length_nil,q2,q3,q4,q5,Int.le_refl,Nat.min_self,List.drop_zero,jB]
    have p1:insK ahd f.cps[i] L≤4294967295:=by omega
    have p2:insK ahd f.cps[i] L+1+(L.length-insK ahd f.cps[i] L)≤4294967296:=by omega
    simp[insQ,List.map_take,List.map_drop,List.take_of_length_le,p1,p2,s_l5Queue.d3,w1 hi hlc])
  (by simp[s_l5Queue.d4,Fl.e]) f.cps.length 0 rfl
 have hql:(queue f).length≤60:=by
  rw[(queue_perm f).length_eq]
  exact Nat.le_trans (List.length_filter_le _ _) hv.n60
 have h0:insF ahd (f.cps.filter waitP)=queue f:=rfl
 simp only[Fl.e,jA,jB,Int.natCast_zero,List.take_zero,List.filter_nil,show insF ahd ([]:List Cp)=[] from rfl,List.map_nil,List.take_length,h0] at h
 generalize queue f=q at h hql⊢
 have h2:=run_loop (body:=ap3 s_l5Queue.d5) (S:=fun i=>[C.i (i:Nat),C.l (q.map Cp.e),C.l (((q.take i).map Cp.name).map sE)]) (n:=q.length) (b:=4) (ys:=[C.l (((q.take q.length).map Cp.name).map sE)])
  (fun i hi=>by
   have hn:(q.take i).length+1≤4294967296:=by rw[List.length_take];omega
   have hs:[(q[i].e).getD 0 C.nil]=sE q[i].name:=rfl
   simp only[apL,jC,jD,s_l5Queue.d5,C.I_i,C.L_l,jW,ltL hi,decide_true,jR,jX,jY,getD_map' Cp.e hi,rows,List.length_cons,List.length_nil,Nat.zero_add,hn,hs,w1 hi (show q.length<big by simp only[big];omega),List.take_succ_eq_append_getElem hi,List.map_append]
   rfl)
  (by simp[s_l5Queue.d5]) q.length 0 rfl
 simp only[Int.natCast_zero,List.take_zero,List.map_nil,List.take_length] at h2
 simp only[s_l5Queue,s_l5Queue.d8,Fl.e,apL,jC,jD,show nils=([]:List (List C)) from rfl,h,bindBlk_self,s_l5Queue.d7,C.L_l,h2,s_l5Queue.d6,jV]
end
end Go.Ev
namespace Go.Ev
end Go.Ev
namespace Go.Ev
structure Known (f:Fl) (l:List Str):Prop where
 len:l.length≤f.cps.length
 mem:∀s,s∈l→∃d,d∈f.cps∧d.name=s
theorem cIx_name {f:Fl} (hu:UniqF f.cps) {d:Cp} (hd:d∈f.cps):∃k,∃hk:k<f.cps.length,cIx f d.name=(k:Nat)∧f.cps[k]=d:=by
 rcases cIx_at f d.name with h|⟨k,hk,h,e⟩
 ·have:=findIx_neg _ _ _ h
  have h2:f.cps.any (fun x:Cp=>sEq x.name d.name)=true:=List.any_eq_true.2 ⟨d,hd,(sEq_iff _ _).2 rfl⟩
  rw[this] at h2;cases h2
 ·exact ⟨k,hk,h,uniq_mem hu (List.getElem_mem hk) hd e⟩
theorem Known.sz {f:Fl} {l:List Str} (h:Known f l) (hz:f.Sz 1048576):SsSz 1048576 l:=by
 refine ⟨Nat.le_trans h.len hz.2.2.1,fun s hs=>?_⟩
 obtain ⟨d,hd,rfl⟩:=h.mem s hs
 exact (hz.2.2.2 d hd).1
theorem Known.ix {f:Fl} {l:List Str} (h:Known f l) (hu:UniqF f.cps):∀j (hj:j<l.length),∃k,∃hk:k<f.cps.length,cIx f l[j]=(k:Nat)∧sEq f.cps[k].name l[j]=true:=by
 intro j hj
 obtain ⟨d,hd,e⟩:=h.mem l[j] (List.getElem_mem hj)
 obtain ⟨k,hk,h1,h2⟩:=cIx_name hu hd
 exact ⟨k,hk,by rw[←e];exact h1,by rw[h2,e];exact (sEq_iff _ _).2 rfl⟩
end Go.Ev
namespace Go.Ev
section
variable {f:Fl} (hz:f.Sz 1048576) {c:Cp} (hc:c.Sz 1048576) {b:Bt} (hb:b.Sz 1048576) (hbo:berthOk b=true) (hv:validF f=true) (hr:0≤c.room∧c.room≤1000) (hh:0≤c.hold∧c.hold≤1000)
include hz hc hb hbo hv hr hh
end
end Go.Ev
namespace Go.Ev
section
variable {f:Fl} (hz:f.Sz 1048576) {c:Cp} (hc:c.Sz 1048576) {b:Bt} (hb:b.Sz 1048576) (hbo:berthOk b=true) (hv:validF f=true) (hr:0≤c.room∧c.room≤1000) (hh:0≤c.hold∧c.hold≤1000) (ha:0≤c.apart∧c.apart≤2)
include hz hc hb hbo hv hr hh ha
end
end Go.Ev
namespace Go.Ev
section
variable {f:Fl} (hz:f.Sz 1048576) (cn bn:Str)
include hz
end
end Go.Ev
namespace Go.Ev
theorem bnames_up {f:Fl} (h:validF f=true) (d i:Nat) (hj:i+d+1<f.bts.length):sLt (f.bts[i]'(by omega)).name f.bts[i+d+1].name=true:=by
 refine adj_lt (lt:=fun a b:Bt=>sLt a.name b.name) (fun a b c=>sLt_trans) (fun i hi=>?_) d i hj
 simp only[validF,Bool.and_eq_true] at h
 have:=(allFrom_iff _ _ _).1 h.2.2.2.2.2.1 (i+1) (Nat.zero_le _) (by omega)
 have hi':i<f.bts.length:=by omega
 have e:(i+1==0)=false:=rfl
 simp only[btA,List.getElem?_eq_getElem hi,Nat.add_sub_cancel,List.getElem?_eq_getElem hi',e,Bool.false_or,Bool.and_eq_true] at this
 exact this.2
theorem bIx_name {f:Fl} (h:validF f=true) {b:Bt} (hb:b∈f.bts):∃k,∃hk:k<f.bts.length,bIx f b.name=(k:Nat)∧f.bts[k]=b:=by
 have key:∀(i k:Nat) (hi:i<f.bts.length) (hk:k<f.bts.length),i<k→sEq f.bts[i].name f.bts[k].name=true→False:=by
  intro i k hi hk hlt he
  obtain ⟨d,rfl⟩:∃d,k=i+d+1:=⟨k-i-1,by omega⟩
  have:=bnames_up h d i hk
  rw[(sEq_iff _ _).1 he,sLt_irr] at this
  exact absurd this (by decide)
 rcases bIx_at f b.name with h1|⟨k,hk,h1,e⟩
 ·have:=findIx_neg _ _ _ h1
  have h2:f.bts.any (fun x:Bt=>sEq x.name b.name)=true:=List.any_eq_true.2 ⟨b,hb,(sEq_iff _ _).2 rfl⟩
  rw[this] at h2;cases h2
 ·obtain ⟨j,hj,rfl⟩:=List.getElem_of_mem hb
  refine ⟨k,hk,h1,?_⟩
  rcases Nat.lt_trichotomy k j with q|q|q
  ·exact (key k j hk hj q e).elim
  ·subst q;rfl
  ·exact (key j k hj hk q (by rw[sEq_comm];exact e)).elim
theorem ce (c:Cp):c.e=[.s c.name,.s c.svc,.i c.rank,.i c.born,.i c.room,.i c.hold,.s c.sel,.l (c.likes.map Lk.e),.i c.apart,.s c.near,.s c.fixed,.s c.at_]:=rfl
theorem fe (f:Fl):f.e=[.b f.pack,.l (f.bts.map Bt.e),.l (f.svs.map Sv.e),.l (f.cps.map Cp.e)]:=rfl
section
variable {f:Fl} (hz:f.Sz 1048576) {c:Cp} (hc:c.Sz 1048576) (hv:validF f=true) (hr:0≤c.room∧c.room≤1000) (hh:0≤c.hold∧c.hold≤1000) (ha:0≤c.apart∧c.apart≤2)
include hz hc hv hr hh ha
end
end Go.Ev
namespace Go.Ev
theorem some_loop {α β:Type} {q:List β} {g:β→Option α} {out:α→List C} {body:List C→R} {S:Nat→List C} {b:Nat} {ys:List C}
  (hs:∀i (h:i<q.length),body (S i)=match g q[i] with|some x=>some (.ret (out x))|none=>some (.again (S (i+1)))) (he:body (S q.length)=some (.brk b ys)):
  ∀k i,k+i=q.length→lim body (S i)=match (q.drop i).findSome? g with|some x=>some (.ret (out x))|none=>some (.brk b ys)
 |0,i,h=>by
  have:i=q.length:=by omega
  subst this
  rw[lim_brk he,List.drop_length];rfl
 |k+1,i,h=>by
  have hi:i<q.length:=by omega
  have hb:=hs i hi
  rw[List.drop_eq_getElem_cons hi,List.findSome?_cons]
  cases hg:g q[i] with
  |some x=>rw[hg] at hb;rw[lim_ret hb]
  |none=>rw[hg] at hb;rw[lim_again hb,some_loop hs he k (i+1) (by omega)]
abbrev Stp:=Str×Str×List Str
def fitQ (f:Fl) (c:Cp):Option Stp:=bif sEq (chooseB f c) (mkS []) then none else some (c.name,chooseB f c,[])
def outN (r:Option Stp):List C:=match r with|some (a,b,l)=>[.s a,.s b,.b true,.l (l.map sE)]|none=>[.s (mkS []),.s (mkS []),.b false,.l []]
def outS (x:Stp):List C:=[.s x.1,.s x.2.1,.b true,.l (x.2.2.map sE)]
section
variable {f:Fl} (hz:f.Sz 1048576) (hv:validF f=true)
include hz hv
theorem s_l5First_eq:s_l5First f.e=some (outN ((queue f).findSome? (fitQ f))):=by
 have hq:=s_l5Queue_eq hz (vb_of hv)
 have hql:(queue f).length≤60:=by
  rw[(queue_perm f).length_eq]
  exact Nat.le_trans (List.length_filter_le _ _) (vb_of hv).n60
 have hqm:∀x,x∈queue f→x∈f.cps:=fun x hx=>(queue_mem hx).1
 generalize queue f=q at hq hql hqm⊢
 have hlb:q.length<big:=by simp only[big];omega
 have h1:=some_loop (q:=q) (g:=fitQ f) (out:=outS) (body:=ap9 s_l5First.d1) (S:=fun i=>[C.i (i:Nat)]++f.e++[C.s (mkS []),C.s (mkS []),C.l ((q.map Cp.name).map sE),C.l []]) (b:=0) (ys:=[C.s (mkS []),C.s (mkS []),C.l []])
  (fun i hi=>by
   have m:=hqm _ (List.getElem_mem hi)
   have hi':i<(q.map Cp.name).length:=by simpa using hi
   have hgn:((q.map Cp.name).map sE).getD i []=sE q[i].name:=by rw[getD_map' sE hi'];simp
   obtain ⟨k,hk,k1,k2⟩:=cIx_name (uniq_of hv) m
   have hcix:=s_l2Copy_eq f q[i].name hz.2.2.1
   rw[k1] at hcix
   have hC:=s_l4Choose_eq hz (hz.2.2.2 _ m) (vb_of hv) (cp_room (vb_of hv) _ m) (cp_hold (vb_of hv) _ m) (cp_apart (vb_of hv) _ m)
   have q0:((chooseB f q[i]).toList==(bs #[]).toList)=sEq (chooseB f q[i]) (mkS []):=rfl
   simp only[fe,ce,jA,jB] at hC hcix
   simp only[fe,jA,jB,apL,jC,jD,s_l5First.d1,C.I_i,C.L_l,jW,ltL hi,decide_true,jR,jX,jY,hgn,w1 hi hlb]
   simp only[sE,jC,hcix,call1,jI,C.I_i,jX,decide_true,jR,ltL hk,jY,getD_map' Cp.e hk,k2]
   simp only[ce,jC,jD,hC,jI,C.S_s,q0,fitQ,outS]
   cases sEq (chooseB f q[i]) (mkS [])<;>simp[sE])
  (by simp[s_l5First.d1,fe]) q.length 0 rfl
 simp only[fe] at hq
 simp only[fe,jA,jB,Int.natCast_zero,List.drop_zero] at h1
 simp only[s_l5First,s_l5First.d3,fe,apL,jC,jD,hq,call1,jI,C.L_l,show nils=([]:List (List C)) from rfl,show bs #[]=mkS [] from rfl,h1]
 cases q.findSome? (fitQ f) with
 |some x=>simp[outN,outS]
 |none=>simp[s_l5First.d2,outN,show bs #[]=mkS [] from rfl]
end
def nxA (r:Option Stp):Str:=match r with|some x=>x.1|none=>mkS []
def nxB (r:Option Stp):Str:=match r with|some x=>x.2.1|none=>mkS []
def nxG (r:Option Stp):List Str:=match r with|some x=>x.2.2|none=>[]
theorem outN_eq (r:Option Stp):outN r=[.s (nxA r),.s (nxB r),.b r.isSome,.l ((nxG r).map sE)]:=by cases r<;>rfl
end Go.Ev
namespace Go.Ev
def atP (nm:Str) (x:Cp):Bool:=sEq x.at_ nm
theorem usedR_eq {l:List Cp} (nm:Str) (hl:∀x,x∈l→0≤x.room∧x.room≤1000) (h60:l.length≤60):∀i,i≤l.length→usedR l nm i=sumN (atP nm) Cp.room l i
 |0,_=>by simp[usedR,sumN]
 |i+1,h=>by
  have hi:i<l.length:=by omega
  have ih:=usedR_eq nm hl h60 i (by omega)
  have hb:=sumN_le (atP nm) Cp.room hl i (by omega)
  have hx:=hl _ (List.getElem_mem hi)
  simp only[usedR,List.getElem?_eq_getElem hi,ih]
  rw[sumN_succ (atP nm) Cp.room hi]
  show (bif atP nm l[i] then w64 (sumN (atP nm) Cp.room l i+l[i].room) else sumN (atP nm) Cp.room l i)=_
  cases atP nm l[i] with
  |true=>simp only[jR];rw[w64_of (by omega) (by omega)]
  |false=>simp
theorem usedH_eq {l:List Cp} (nm:Str) (hl:∀x,x∈l→0≤x.hold∧x.hold≤1000) (h60:l.length≤60):∀i,i≤l.length→usedH l nm i=sumN (atP nm) Cp.hold l i
 |0,_=>by simp[usedH,sumN]
 |i+1,h=>by
  have hi:i<l.length:=by omega
  have ih:=usedH_eq nm hl h60 i (by omega)
  have hb:=sumN_le (atP nm) Cp.hold hl i (by omega)
  have hx:=hl _ (List.getElem_mem hi)
  simp only[usedH,List.getElem?_eq_getElem hi,ih]
  rw[sumN_succ (atP nm) Cp.hold hi]
  show (bif atP nm l[i] then w64 (sumN (atP nm) Cp.hold l i+l[i].hold) else sumN (atP nm) Cp.hold l i)=_
  cases atP nm l[i] with
  |true=>simp only[jR];rw[w64_of (by omega) (by omega)]
  |false=>simp
theorem standC_eq (l:List Cp) (nm:Str):∀i,i≤l.length→standC l nm i=cntN (atP nm) l i
 |0,_=>by simp[standC,cntN]
 |i+1,h=>by
  have hi:i<l.length:=by omega
  have ih:=standC_eq l nm i (by omega)
  simp only[standC,List.getElem?_eq_getElem hi,ih,cntN_succ (atP nm) hi]
  show (bif atP nm l[i] then _ else _)=_
  cases atP nm l[i]<;>simp
def sumL (p:Cp→Bool) (g:Cp→Int) (l:List Cp):Int:=(l.map fun x=>bif p x then g x else 0).sum
theorem sumN_all (p:Cp→Bool) (g:Cp→Int) (l:List Cp):sumN p g l l.length=sumL p g l:=by simp[sumN,sumL]
theorem cntN_all (p:Cp→Bool) (l:List Cp):((cntN p l l.length:Nat):Int)=sumL p (fun _=>1) l:=by
 simp only[cntN,List.take_length,sumL]
 induction l with
 |nil=>rfl
 |cons x r ih=>
  simp only[List.countP_cons,List.map_cons,List.sum_cons,←ih]
  cases p x<;>simp<;>omega
theorem sumL_set {p:Cp→Bool} {g:Cp→Int}:∀ {l:List Cp} {i:Nat} (h:i<l.length) (y:Cp),sumL p g (l.set i y)=sumL p g l-(bif p l[i] then g l[i] else 0)+(bif p y then g y else 0)
 |x::l,0,_,y=>by simp only[List.set_cons_zero,sumL,List.map_cons,List.sum_cons,List.getElem_cons_zero];omega
 |x::l,i+1,h,y=>by
  have ih:=sumL_set (p:=p) (g:=g) (l:=l) (i:=i) (by simpa using h) y
  simp only[List.set_cons_succ,sumL,List.map_cons,List.sum_cons,List.getElem_cons_succ] at*
  omega
structure VF (f:Fl):Prop where
 n12:f.bts.length≤12
 n30:f.svs.length≤30
 n60:f.cps.length≤60
 sv:allFrom (svA f) 0 f.svs.length=true
 cp:∀i (h:i<f.cps.length),copyOk f.cps[i]=true∧f.svs.any (fun s=>sEq s.name f.cps[i].svc)=true∧(∀h':0<i,sLt (f.cps[i-1]'(by omega)).name f.cps[i].name=true)∧(sEq f.cps[i].at_ (mkS [])=true∨f.bts.any (fun b=>sEq b.name f.cps[i].at_)=true)
 bt:allFrom (btA f) 0 f.bts.length=true
 fit:∀b,b∈f.bts→sumL (atP b.name) Cp.room f.cps≤b.room∧sumL (atP b.name) Cp.hold f.cps≤b.hold∧sumL (atP b.name) (fun _=>1) f.cps≤10
theorem used_of {f:Fl} (hv:VB f) {b:Bt} (hb:b∈f.bts):used f b.name=(sumL (atP b.name) Cp.room f.cps,sumL (atP b.name) Cp.hold f.cps):=by
 have h1:=usedR_eq b.name (cp_room hv) hv.n60 f.cps.length (Nat.le_refl _)
 have h2:=usedH_eq b.name (cp_hold hv) hv.n60 f.cps.length (Nat.le_refl _)
 rw[sumN_all] at h1 h2
 have hx:¬bIx f b.name<0:=by
  rcases bIx_at f b.name with h|⟨k,hk,h,_⟩
  ·have:=findIx_neg _ _ _ h
   have h3:f.bts.any (fun x:Bt=>sEq x.name b.name)=true:=List.any_eq_true.2 ⟨b,hb,(sEq_iff _ _).2 rfl⟩
   rw[this] at h3;cases h3
  ·omega
 have hn:sEq b.name (mkS [])=false:=bname_ne (hv.bb b hb)
 simp only[used,hn,hx,decide_false,Bool.or_self,jS,h1,h2]
theorem vf_of {f:Fl} (h:validF f=true):VF f:=by
 have hv:=vb_of h
 have h0:=h
 simp only[validF,Bool.and_eq_true,decide_eq_true_eq] at h
 obtain ⟨a1,a2,a3,a4,a5,a6,a7⟩:=h
 refine ⟨a1,a2,a3,a4,fun i hi=>?_,a6,fun b hb=>?_⟩
 ·have:=(allFrom_iff _ _ _).1 a5 i (Nat.zero_le _) (by omega)
  simp only[cpA,List.getElem?_eq_getElem hi,Bool.and_eq_true,Bool.or_eq_true] at this
  refine ⟨this.1,this.2.1,fun h'=>?_,this.2.2.2⟩
  rcases this.2.2.1 with q|q
  ·rw[beq_iff_eq] at q;omega
  ·have hi1:i-1<f.cps.length:=by omega
   rw[List.getElem?_eq_getElem hi1] at q
   exact q
 ·obtain ⟨i,hi,rfl⟩:=List.getElem_of_mem hb
  have:=(allFrom_iff _ _ _).1 a7 i (Nat.zero_le _) (by omega)
  simp only[fitA,List.getElem?_eq_getElem hi,Bool.and_eq_true,decide_eq_true_eq,used_of hv hb] at this
  have hs:=cntN_all (atP f.bts[i].name) f.cps
  rw[←standC_eq f.cps _ f.cps.length (Nat.le_refl _)] at hs
  exact ⟨this.1,this.2.1,by omega⟩
theorem valid_vf {f:Fl} (h:VF f):validF f=true:=by
 have hbb:∀b,b∈f.bts→berthOk b=true:=fun b hb=>by
  obtain ⟨i,hi,rfl⟩:=List.getElem_of_mem hb
  have:=(allFrom_iff _ _ _).1 h.bt i (Nat.zero_le _) (by omega)
  simp only[btA,List.getElem?_eq_getElem hi,Bool.and_eq_true] at this
  exact this.1
 have hv:VB f:=by
  refine ⟨h.n60,fun x hx=>?_,hbb⟩
  obtain ⟨i,hi,rfl⟩:=List.getElem_of_mem hx
  have:=(h.cp i hi).1
  simp only[copyOk,within,Bool.and_eq_true,decide_eq_true_eq] at this
  exact ⟨this.2.2.2.1,this.2.2.2.2.1,this.2.2.2.2.2.2.1,this.2.1,this.2.2.1⟩
 simp only[validF,Bool.and_eq_true,decide_eq_true_eq]
 refine ⟨h.n12,h.n30,h.n60,h.sv,(allFrom_iff _ _ _).2 fun i _ hi=>?_,h.bt,(allFrom_iff _ _ _).2 fun i _ hi=>?_⟩
 ·have hi:i<f.cps.length:=by omega
  obtain ⟨c1,c2,c3,c4⟩:=h.cp i hi
  simp only[cpA,List.getElem?_eq_getElem hi,Bool.and_eq_true,Bool.or_eq_true,beq_iff_eq]
  refine ⟨c1,c2,?_,c4⟩
  rcases Nat.eq_zero_or_pos i with q|q
  ·exact .inl q
  ·have hi1:i-1<f.cps.length:=by omega
   rw[List.getElem?_eq_getElem hi1]
   exact .inr (c3 q)
 ·have hi:i<f.bts.length:=by omega
  have hb:=List.getElem_mem hi
  obtain ⟨c1,c2,c3⟩:=h.fit _ hb
  have hs:=cntN_all (atP f.bts[i].name) f.cps
  rw[←standC_eq f.cps _ f.cps.length (Nat.le_refl _)] at hs
  simp only[fitA,List.getElem?_eq_getElem hi,Bool.and_eq_true,decide_eq_true_eq,used_of hv hb]
  exact ⟨c1,c2,by omega⟩
theorem setAt_valid {f:Fl} (h:VF f) {i:Nat} (hi:i<f.cps.length) (hw:sEq f.cps[i].at_ (mkS [])=true) {b:Bt} (hb:b∈f.bts) (hf:fitsN f f.cps[i] b false=0):VF (setAt f i f.cps[i] b.name):=by
 have hv:=valid_vf h
 have hu:=uniq_of hv
 have hvb:=vb_of hv
 have hl:(setAt f i f.cps[i] b.name).cps.length=f.cps.length:=by simp[setAt]
 have hg:∀k (h1:k<(setAt f i f.cps[i] b.name).cps.length) (h2:k<f.cps.length),(setAt f i f.cps[i] b.name).cps[k]=if i=k then {f.cps[i] with at_:=b.name} else f.cps[k]:=fun k h1 h2=>by
  simp only[setAt,List.getElem_set]
 have hbo:=hvb.bb b hb
 have hbn:=bname_ne hbo
 have hon:∀x,x∈f.cps→onP f.cps[i] b x=atP b.name x:=fun x hx=>by
  unfold onP oth atP
  cases q:sEq x.at_ b.name with
  |false=>simp
  |true=>
   have q1:sEq x.at_ (mkS [])=false:=name_ne hbo _ q
   have q2:sEq x.name f.cps[i].name=false:=by
    cases q3:sEq x.name f.cps[i].name with
    |false=>rfl
    |true=>
     have:=uniq_mem hu hx (List.getElem_mem hi) q3
     subst this
     rw[hw] at q1;cases q1
   simp[q1,q2]
 have hsum:∀w:Cp→Int,sumN (onP f.cps[i] b) w f.cps f.cps.length=sumL (atP b.name) w f.cps:=fun w=>by
  rw[sumN_all]
  unfold sumL
  congr 1
  exact List.map_congr_left fun x hx=>by rw[hon x hx]
 have hcnt:((cntN (onP f.cps[i] b) f.cps f.cps.length:Nat):Int)=sumL (atP b.name) (fun _=>1) f.cps:=by
  rw[cntN_all,←sumN_all,hsum]
 have hf3:cntN (onP f.cps[i] b) f.cps f.cps.length<10∧¬b.room<sumN (onP f.cps[i] b) Cp.room f.cps f.cps.length+f.cps[i].room∧¬b.hold<sumN (onP f.cps[i] b) Cp.hold f.cps f.cps.length+f.cps[i].hold:=by
  unfold fitsN at hf
  cases q1:b.shut&&!false<;>rw[q1] at hf<;>simp only[jR,jS] at hf
  ·cases q2: !sEq f.cps[i].fixed (mkS [])&&!sEq f.cps[i].fixed b.name<;>rw[q2] at hf<;>simp only[jR,jS] at hf
   ·cases q3: !selM f.cps[i].sel b<;>rw[q3] at hf<;>simp only[jR,jS] at hf
    ·cases q4:f.cps.any (togP f f.cps[i] b)<;>rw[q4] at hf<;>simp only[jR,jS] at hf
     ·cases q5:farB f f.cps[i] b<;>rw[q5] at hf<;>simp only[jR,jS] at hf
      ·cases q6:decide (10≤cntN (onP f.cps[i] b) f.cps f.cps.length)<;>rw[q6] at hf<;>simp only[jR,jS] at hf
       ·cases q7:decide (b.room<sumN (onP f.cps[i] b) Cp.room f.cps f.cps.length+f.cps[i].room)<;>rw[q7] at hf<;>simp only[jR,jS] at hf
        ·cases q8:decide (b.hold<sumN (onP f.cps[i] b) Cp.hold f.cps f.cps.length+f.cps[i].hold)<;>rw[q8] at hf<;>simp only[jR,jS] at hf
         ·simp only[decide_eq_false_iff_not] at q6 q7 q8
          exact ⟨by omega,q7,q8⟩
         ·omega
        ·omega
       ·omega
      ·omega
     ·omega
    ·omega
   ·omega
  ·omega
 obtain ⟨f1,f2,f3⟩:=hf3
 rw[hsum] at f2 f3
 refine ⟨h.n12,h.n30,by rw[hl];exact h.n60,h.sv,fun k hk=>?_,h.bt,fun b' hb'=>?_⟩
 ·have hk':k<f.cps.length:=by omega
  obtain ⟨c1,c2,c3,c4⟩:=h.cp k hk'
  have en:∀m (h1:m<(setAt f i f.cps[i] b.name).cps.length) (h2:m<f.cps.length),(setAt f i f.cps[i] b.name).cps[m].name=f.cps[m].name:=fun m h1 h2=>by
   rw[hg m h1 h2];split
   ·rename_i e;subst e;rfl
   ·rfl
  refine ⟨?_,?_,fun h'=>?_,?_⟩
  ·rw[hg k hk hk'];split
   ·rename_i e;subst e;exact c1
   ·exact c1
  ·rw[hg k hk hk'];split
   ·rename_i e;subst e;exact c2
   ·exact c2
  ·rw[en k hk hk',en (k-1) (by omega) (by omega)]
   exact c3 h'
  ·rw[hg k hk hk'];split
   ·exact .inr (List.any_eq_true.2 ⟨b,hb,(sEq_iff _ _).2 rfl⟩)
   ·exact c4
 ·obtain ⟨c1,c2,c3⟩:=h.fit b' hb'
  have hbo':=hvb.bb b' hb'
  have h0:atP b'.name f.cps[i]=false:=by
   unfold atP
   rw[(sEq_iff _ _).1 hw,sEq_comm]
   exact bname_ne hbo'
  have hset:∀w:Cp→Int,(w {f.cps[i] with at_:=b.name}=w f.cps[i])→sumL (atP b'.name) w (setAt f i f.cps[i] b.name).cps=sumL (atP b'.name) w f.cps+(bif sEq b.name b'.name then w f.cps[i] else 0):=fun w he=>by
   show sumL (atP b'.name) w (f.cps.set i _)=_
   rw[sumL_set hi,h0,he]
   simp only[jS,atP]
   omega
  rw[hset Cp.room rfl,hset Cp.hold rfl,hset (fun _=>1) rfl]
  cases q:sEq b.name b'.name with
  |false=>simp only[jS,Int.add_zero];exact ⟨c1,c2,c3⟩
  |true=>
   have:b'=b:=by
    obtain ⟨j,hj,j1,j2⟩:=bIx_name hv hb
    obtain ⟨j',hj',j1',j2'⟩:=bIx_name hv hb'
    rw[(sEq_iff _ _).1 q,j1'] at j1
    have:j'=j:=by omega
    subst this
    rw[←j2,←j2']
   subst this
   simp only[jR]
   exact ⟨by omega,by omega,by omega⟩
end Go.Ev
namespace Go.Ev
theorem w_eqPilotStepS_eq (l:List Sp) (hl:l.length≤1048576) (hg:∀x,x∈l→x.gone.length≤1048576):w_eqPilotStepS [.l (l.map Sp.e),.l (l.map Sp.e)]=some [.b true]:=by
 have h:=eq_loop (l:=l) (e:=Sp.e) (body:=ap3 w_eqPilotStepS.d1)
  (fun i hi=>by
   simp only[apL,jC,jD,w_eqPilotStepS.d1,C.I_i,C.L_l,jW,jY,getD_map' Sp.e hi,w1 hi (show l.length<big by simp only[big];omega)]
   have hx:=w_eqStringS_eq l[i].gone ⟨hg _ (List.getElem_mem hi),fun _ _=>trivial⟩
   simp[hi,Sp.e,w_eqPilotStep,w_eqPilotStep.d1,hx,call1])
  (by simp[w_eqPilotStepS.d1]) l.length 0 rfl
 rw[Int.ofNat_zero] at h
 simp[w_eqPilotStepS,w_eqPilotStepS.d3,h,w_eqPilotStepS.d2]
noncomputable def mkSp (s:Sp) (k:Int):Sp×Int:=(⟨mtx k,mtx (k+1),(mkAll mkStr s.gone (k+1+1)).1⟩,(mkAll mkStr s.gone (k+1+1)).2)
theorem mkSp_up (l:List Sp) (hm:∀s,s∈l→s.gone.length≤1048576) (k:Int):k≤(mkAll mkSp l k).2∧(mkAll mkSp l k).2≤k+(l.length*1048580:Nat):=
 mkAll_up mkSp 1048580 l k (fun x hx k=>by have:=mkStr_up x.gone (k+1+1);have:=hm x hx;simp only[mkSp];omega)
theorem w_markPilotStepS_eq (l:List Sp) (k:Int) (hl:l.length≤1048576) (hm:∀s,s∈l→s.gone.length≤1048576) (h0:0≤k) (h1:k≤7000000000000000000):
  w_markPilotStepS [.i k,.l (l.map Sp.e)]=some [.i (mkAll mkSp l k).2,.l ((mkAll mkSp l k).1.map Sp.e)]:=by
 have h:=mark_loop (K:=7900000000000000000) (P:=fun s:Sp=>s.gone.length≤1048576) (e:=Sp.e) mkSp 1048580 (body:=ap3 w_markPilotStepS.d2) (n:=l.length) hl (by omega)
  (fun i x c k hx hi hc hg k0 k1=>by
   have hic:i<c.length:=by omega
   have e3:((i:Int)<(c.length:Int)):=by omega
   have hk:=mkStr_up x.gone (k+1+1)
   have hs:=w_markStringS_eq x.gone (k+1+1) hx (by omega) (by omega)
   simp (disch:=omega) only[apL,jC,jD,w_markPilotStepS.d2,w_markPilotStepS.d1,C.I_i,C.L_l,e3,decide_true,jR,mtx_eq,call1,call2,jI,jJ,jX,jY,hg,w64_up,List.length_set,set_get,List.set_set,Sp.e,setCs_s,setCs_z,hs]
   simp (disch:=omega) [Sp.e,setCs,mkSp,hs,w1,w64_up])
  (fun k c hc=>by simp[w_markPilotStepS.d2,hc]) l [] k (by simp) hm (fun x hx k=>by have:=mkStr_up x.gone (k+1+1);have:=hm x hx;simp only[mkSp];omega) h0 (by simp;omega)
 simp only[List.length_nil,jB,Int.natCast_zero] at h
 simp only[w_markPilotStepS,w_markPilotStepS.d4,apL,jC,jD,C.L_l]
 rw[h]
 simp[w_markPilotStepS.d3]
theorem w_heldPilotStepS_eq (l:List Sp) (k:Int) (hl:l.length≤1048576) (hm:∀s,s∈l→s.gone.length≤1048576) (h0:0≤k) (h1:k≤7000000000000000000):
  w_heldPilotStepS [.l ((mkAll mkSp l k).1.map Sp.e),.i k]=some [.i (mkAll mkSp l k).2]:=by
 have hlen:((mkAll mkSp l k).1.map Sp.e).length=l.length:=by rw[jW,mkAll_len]
 have h:=held_loop (K:=7900000000000000000) (P:=fun s:Sp=>s.gone.length≤1048576) (e:=Sp.e) mkSp 1048580 (body:=ap3 w_heldPilotStepS.d1) (n:=l.length) (L:=(mkAll mkSp l k).1.map Sp.e) hl (by omega)
  (fun i x k hx hi hg k0 k1=>by
   have hk:=mkStr_up x.gone (k+1+1)
   have hs:=w_heldStringS_eq x.gone (k+1+1) hx (by omega) (by omega)
   have hn:¬(mkAll mkStr x.gone (k+1+1)).2<0:=by omega
   simp (disch:=omega) only[apL,jC,jD,w_heldPilotStepS.d1,C.I_i,C.L_l,hlen,ltL hi,jR,jS,mtx_eq,call1,jI,jX,decide_true,decide_false,jY,hg,w64_up,Sp.e,mkSp,C.S_s,C.B_b,beq_self_eq_true,bne_self_eq_false,jZ,Int.natCast_add,Int.natCast_one,hs,hn])
  (fun k=>by simp[w_heldPilotStepS.d1,mkAll_len]) l [] k rfl (by simp) hm (fun x hx k=>by have:=mkStr_up x.gone (k+1+1);have:=hm x hx;simp only[mkSp];omega) h0 (by simp;omega)
 simp only[List.length_nil,Int.natCast_zero] at h
 simp only[w_heldPilotStepS,w_heldPilotStepS.d3,apL,jC,jD,C.L_l]
 rw[h]
 simp[w_heldPilotStepS.d2]
end Go.Ev
