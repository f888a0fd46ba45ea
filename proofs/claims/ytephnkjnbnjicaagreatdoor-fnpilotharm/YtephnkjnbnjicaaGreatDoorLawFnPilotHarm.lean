/- Proved here: the law FnPilotHarmCard of the given program answers true at every input, and leaves the input as it was; no condition. This text: the row itself. -/
import Derived.Test.YtephnkjnbnjicaaGreatDoorP5
import Derived.Test.YtephnkjnbnjicaaGreatDoorCards
import Derived.Test.YtephnkjnbnjicaaGreatDoorTie
import Derived.Lay
import Derived.LaidOnce
import Derived.SevenTiedAt
import Derived.WalkKit
import Derived.ProofKit
import Derived.OpenShut
import Derived.ShutString
import Derived.ChangeOld
import Derived.Below
import Derived.SizedLaws
import Derived.Test.YtephnkjnbnjicaaGreatDoorRows
set_option linter.all false
set_option autoImplicit false
namespace Go.Proofs.YtephnkjnbnjicaaGreatDoor.fnPilotHarm
open Go.ChangeShapes Go.WideShapes Go.ChangeAt Go.RowKit
theorem own:ownKnob Tryz.prog.godebug=none:=by kernel_rfl
theorem laidOut:laidOutB Tryz.prog=true:=by kernel_rfl
abbrev slA:List (Nat×Go.Ev.Sk):=[(0,.d (.sl 5)),(1,.d (.sl 5))]
theorem LY:Go.Ev.oh Tryz.checked.prog Go.Ev.T0 4 ⟨2,⟨slA,[]⟩,⟨[(0,.d .bool)],[]⟩,[],Go.Ev.aE⟩:=Go.Ev.vE
theorem in0 (c0 c1:Go.Ev.C):((⟨slA,[]⟩:Go.Ev.Tm).inj [c0,c1]).sl 0=.c (.sl 5) c0:=by kernel_rfl
theorem in1 (c0 c1:Go.Ev.C):((⟨slA,[]⟩:Go.Ev.Tm).inj [c0,c1]).sl 1=.c (.sl 5) c1:=by kernel_rfl
theorem LK {P:Program} {k0:FuncId} {Fn:List Go.Ev.C->Option (List Go.Ev.C)} (hf:Go.Ev.oh P Go.Ev.T0 k0 ⟨2,⟨slA,[]⟩,⟨[(0,.d .bool)],[]⟩,[],Fn⟩) (a0:Option Addr) (len0 cap0:Nat) (zs0:List Int) (a1:Option Addr) (len1 cap1:Nat) (zs1:List Int) (W:World) (h0:Go.Ev.uT .u8 W a0 len0 cap0 zs0) (h1:Go.Ev.uT .u8 W a1 len1 cap1 zs1) (hF:Fn [.l ((zs0.take len0).map Go.Ev.bE),.l ((zs1.take len1).map Go.Ev.bE)]=some [.b true]):
  Calls P k0 #[.slice a0 len0 cap0,.slice a1 len1 cap1] W fun e W'=>e=.returned (.bool true)/\Below W.heap.size W W':=by
 have ha:∀k,k<2->Go.Ev.aj Go.Ev.T0 (fun k=>k<W.heap.size) W (fun _=>none) (fun _=>.bool false) (((⟨slA,[]⟩:Go.Ev.Tm).inj [.l ((zs0.take len0).map Go.Ev.bE),.l ((zs1.take len1).map Go.Ev.bE)]).sl k) ((#[Value.slice a0 len0 cap0,Value.slice a1 len1 cap1]:Array Value).getD k undef):=fun k hk=>by
  match k,hk with
  |0,_=>rw[in0];exact .c _ _ _ (Go.Ev.xY (d:=⟨.int .u8,[.int .u8],1⟩) (by kernel_rfl) rfl (fun k hk=>hk) h0)
  |1,_=>rw[in1];exact .c _ _ _ (Go.Ev.xY (d:=⟨.int .u8,[.int .u8],1⟩) (by kernel_rfl) rfl (fun k hk=>hk) h1)
 exact Go.Ev.L5 hf [.l ((zs0.take len0).map Go.Ev.bE),.l ((zs1.take len1).map Go.Ev.bE)] #[.slice a0 len0 cap0,.slice a1 len1 cap1] W rfl ha hF
theorem walk (a0:Option Addr) (len0 cap0:Nat) (zs0:List Int) (a1:Option Addr) (len1 cap1:Nat) (zs1:List Int) (W:World) (h0:Go.Ev.uT .u8 W a0 len0 cap0 zs0) (h1:Go.Ev.uT .u8 W a1 len1 cap1 zs1):
  Calls Tryz.prog 4 #[.slice a0 len0 cap0,.slice a1 len1 cap1] W fun e W'=>e=.returned (.bool true)/\Below W.heap.size W W':=
 LK (P:=Tryz.checked.prog) LY a0 len0 cap0 zs0 a1 len1 cap1 zs1 W h0 h1 (Go.Ev.vB (Go.Ev.Ga h0.bytes) (Go.Ev.Ga h1.bytes))
set_option maxRecDepth 100000 in
theorem lifted (os:Os) (started:os.Started) (H:Type) (enc:TypeId×Value->H):
  ReturnsInHanded {} Tryz.checked os 4 .any (fun w args=>(Rows.fnPilotHarmSpec.pre enc Tryz.prog Tryz.f4 [] false w args/\laidMetH Tryz.prog Rows.fnPilotHarmRow.laid w)/\sizedMet enc Tryz.prog Tryz.f4 (OpenSpec.ofChange Rows.fnPilotHarmSpec) false w args)
   (Rows.fnPilotHarmSpec.post enc Tryz.prog Tryz.f4 false true false false):=by
 refine returnsInHanded_of_change_and (C:=Tryz.checked) (X:=fun w _=>laidMetH Tryz.prog Rows.fnPilotHarmRow.laid w) (fun _ _ _ hh h=>h.of_heap hh) own started (by kernel_rfl) Tryz.func4
  (ChangeSpec.witness_shaped (enc:=enc) (C:=Tryz.checked) (os:=os) (X:=fun w _=>laidMetH Tryz.prog Rows.fnPilotHarmRow.laid w) false (World.laidAll Tryz.prog os Rows.fnPilotHarmRow.laid) #[.slice none 0 0,.slice none 0 0] 8 (World.laidAll_os _ _ _)
   (World.shaped_of_ZipB (by kernel_rfl) (by kernel_rfl)) (by kernel_rfl) (by kernel_rfl) (by kernel_rfl)
   (by rw[MakeChecks.laidMetH_plain _ _ _ (by kernel_rfl)];exact laidMet_laidAll _ (by kernel_rfl) (by kernel_rfl))) ?_
 intro W base args ds gs before hval0 hW _ _ hL _
 have hval:∀(j:Nat) t v,Tryz.f4.params[j]?=some t->args[j]?=some v->Value.okWide Tryz.prog W .any base t v:=hval0
 have hW':=hW
 obtain ⟨p,q,hA0,hV,rfl,hfz,hnd⟩:=hW
 have hA:DataW.TrodAll enc Tryz.prog W 0 (fun _=>true) true Tryz.f4.params.toList args.toList ds p:=hA0
 rw[Tryz.params4] at hA hval
 obtain ⟨v0,vs0,d0,ds0,p0,q0,hargs,rfl,rfl,h0,r0⟩:=trodAll_cons hA
 obtain ⟨v1,vs1,d1,ds1,p1,q1,rfl,rfl,rfl,h1,r1⟩:=trodAll_cons r0
 obtain ⟨rfl,rfl,rfl⟩:=trodAll_nil r1
 obtain rfl:args= #[v0,v1]:=by cases args;simp_all
 obtain ⟨rfl,rfl⟩:=trodVars_none hV
 obtain ⟨a0,len0,cap0,rfl⟩:=okWide_slice Tryz.underlying22 (hval 0 22 v0 rfl rfl)
 obtain ⟨a1,len1,cap1,rfl⟩:=okWide_slice Tryz.underlying22 (hval 1 22 v1 rfl rfl)
 have k0:=h0
 have k1:=h1
 have lt0:∀x∈p0,x.block<W.heap.size:=by obtain ⟨m,hm⟩:=k0;exact DataW.trod_lt m _ _ _ hm
 have lt1:∀x∈p1,x.block<W.heap.size:=by obtain ⟨m,hm⟩:=k1;exact DataW.trod_lt m _ _ _ hm
 obtain ⟨z0,w0⟩:∃zs,Go.Ev.uT .u8 W a0 len0 cap0 zs:=by
  obtain ⟨fuel,hf⟩:=h0
  rcases open_ints Tryz.underlying22 Tryz.underlying5 (by kernel_rfl) hf with ⟨hcs,_⟩|⟨x,l,c,zs,hcs,_,hl,hm,hz,_,hcell,hwz⟩
  ·simp[Value.cells] at hcs
   obtain ⟨rfl,rfl,rfl⟩:=hcs
   exact ⟨[],.inl ⟨rfl,rfl,rfl,rfl⟩⟩
  ·simp[Value.cells] at hcs
   obtain ⟨rfl,rfl,rfl⟩:=hcs
   exact ⟨zs,.inr ⟨_,rfl,hl,hm,by simpa using hz,hcell,hwz⟩⟩
 obtain ⟨z1,w1⟩:∃zs,Go.Ev.uT .u8 W a1 len1 cap1 zs:=by
  obtain ⟨fuel,hf⟩:=h1
  rcases open_ints Tryz.underlying22 Tryz.underlying5 (by kernel_rfl) hf with ⟨hcs,_⟩|⟨x,l,c,zs,hcs,_,hl,hm,hz,_,hcell,hwz⟩
  ·simp[Value.cells] at hcs
   obtain ⟨rfl,rfl,rfl⟩:=hcs
   exact ⟨[],.inl ⟨rfl,rfl,rfl,rfl⟩⟩
  ·simp[Value.cells] at hcs
   obtain ⟨rfl,rfl,rfl⟩:=hcs
   exact ⟨zs,.inr ⟨_,rfl,hl,hm,by simpa using hz,hcell,hwz⟩⟩
 clear hA0 hval0
 refine (walk a0 len0 cap0 z0 a1 len1 cap1 z1 W w0 w1).mono fun e W' ⟨he,bel⟩=>?_
 subst he
 exact ⟨_,rfl,_,_,_,[],_,[],hW',trodAll_mk1 (shut_bool Tryz.underlying4 _),(trodAll_cons_mk (Below.trod laidOut (by kernel_rfl) (of_decide_eq_true (by kernel_rfl)) k0 bel lt0) (trodAll_cons_mk (Below.trod laidOut (by kernel_rfl) (of_decide_eq_true (by kernel_rfl)) k1 bel lt1) trodAll_mk0)),rfl,bel.frame _,fun h=>by cases h⟩
theorem over:Rows.fnPilotHarmRow.holds Tryz.pinned (OpenSpec.ofChange Rows.fnPilotHarmSpec):=
 OpenClaim.holds_of_wide 4 Tryz.f4 rfl rfl rfl rfl rfl rfl rfl ⟨rfl,rfl,rfl,rfl,rfl⟩ rfl rfl rfl rfl rfl (by kernel_rfl) Tryz.func4 (by kernel_rfl)
  (of_decide_eq_true (by kernel_rfl)) (by unfold Func.isWrapper;first|(rw[if_pos (by decide+kernel)];kernel_rfl)|(rw[if_neg (by decide+kernel)];exact ⟨rfl,rfl⟩))
  (fun os started H enc _=>lifted os started H enc)
theorem proved:Rows.FnPilotHarmCardSaid:=
 Claim7.holds_tied_plain_at .later [] [.data,.pinned] true (true, "2a138f96a36997457c2b12462938d48c7029cab301fa7243fad26545d0240c65") false over (fun _ h=>by cases h) (by kernel_rfl) (fun _ h=>by cases h) fnPilotHarm_row_tie rfl ⟨rfl,rfl⟩ (by kernel_rfl) rfl
  (fun f fn hf hfn=>by
   obtain rfl:f=4:=Option.some.inj ((show Tryz.prog.funcNamed "loop.example/wharffleet/laws.FnPilotHarm" =some 4 by kernel_rfl).symm.trans hf) |>.symm
   obtain rfl:fn=Tryz.f4:=(Option.some.inj (Tryz.func4.symm.trans hfn)).symm
   exact ⟨by kernel_rfl,fun j t ht=>by
    rw[Tryz.params4] at ht
    have hm:t∈[22,22]:=by simpa using Array.mem_of_getElem? ht
    have hall:([22,22].all fun u=>!Tryz.prog.wantsStandIn u)=true:=by kernel_rfl
    exact (show Tryz.prog.wantsStandIn t=false by simpa using List.all_eq_true.1 hall t hm)⟩)
  (by kernel_rfl)
end Go.Proofs.YtephnkjnbnjicaaGreatDoor.fnPilotHarm
namespace Go.Proofs.YtephnkjnbnjicaaGreatDoor
theorem fnPilotHarm_holds:Rows.FnPilotHarmCardSaid:=fnPilotHarm.proved
end Go.Proofs.YtephnkjnbnjicaaGreatDoor
#print axioms Go.Proofs.YtephnkjnbnjicaaGreatDoor.fnPilotHarm_holds
