/- Proved here: the law FnPilotSpareCard of the given program answers true at every input, and leaves the input as it was; no condition. This text: the row itself. -/
import Derived.Test.YtephnkjnbnjicaaGreatDoorP5
import Derived.Test.YtephnkjnbnjicaaGreatDoorCards
import Derived.Test.YtephnkjnbnjicaaGreatDoorTie
import Derived.Lay
import Derived.LaidOnce
import Derived.SevenTiedAt
import Derived.WalkKit
import Derived.ProofKit
import Derived.OpenShut
import Derived.ShutString
import Derived.ChangeOld
import Derived.Below
import Derived.SizedLaws
import Derived.Test.YtephnkjnbnjicaaGreatDoorRows
set_option linter.all false
set_option autoImplicit false
namespace Go.Proofs.YtephnkjnbnjicaaGreatDoor.fnPilotSpare
open Go.ChangeShapes Go.WideShapes Go.ChangeAt Go.RowKit
theorem own:ownKnob Tryz.prog.godebug=none:=by kernel_rfl
theorem laidOut:laidOutB Tryz.prog=true:=by kernel_rfl
abbrev slA:List (Nat×Go.Ev.Sk):=[(0,.d (.sl 5))]
theorem Kz:Go.Ev.aD Tryz.checked.prog Go.Ev.T0 3 ⟨1,⟨slA,[]⟩,⟨[(0,.d .bool)],[]⟩,[],Go.Ev.aH⟩:=Go.Ev.ta
theorem in0 (c:Go.Ev.C):((⟨slA,[]⟩:Go.Ev.Tm).inj [c]).sl 0=.c (.sl 5) c:=by kernel_rfl
theorem J7 {P:Program} {k0:FuncId} {Fn:List Go.Ev.C→Option (List Go.Ev.C)} (hf:Go.Ev.aD P Go.Ev.T0 k0 ⟨1,⟨slA,[]⟩,⟨[(0,.d .bool)],[]⟩,[],Fn⟩) (a:Option Addr) (len cap:Nat) (zs:List Int) (W:World) (h:Go.Ev.zD .u8 W a len cap zs) (hF:Fn [.l ((zs.take len).map Go.Ev.bE)]=some [.b true]):
  Calls P k0 #[.slice a len cap] W fun e W'=>e=.returned (.bool true)∧Below W.heap.size W W':=by
 have ha:∀k,k<1→Go.Ev.aj Go.Ev.T0 (fun k=>k<W.heap.size) W (fun _=>none) (fun _=>.bool false) (((⟨slA,[]⟩:Go.Ev.Tm).inj [.l ((zs.take len).map Go.Ev.bE)]).sl k) ((#[Value.slice a len cap]:Array Value).getD k undef):=fun k hk=>by
  match k,hk with
  |0,_=>rw[in0];exact .c _ _ _ (Go.Ev.Dl (d:=⟨.int .u8,[.int .u8],1⟩) (by kernel_rfl) rfl (fun k hk=>hk) h)
 exact Go.Ev.Ki hf [.l ((zs.take len).map Go.Ev.bE)] #[.slice a len cap] W rfl ha hF
theorem walk (a:Option Addr) (len cap:Nat) (zs:List Int) (W:World) (h:Go.Ev.zD .u8 W a len cap zs):
  Calls Tryz.prog 3 #[.slice a len cap] W fun e W'=>e=.returned (.bool true)∧Below W.heap.size W W':=
 J7 (P:=Tryz.checked.prog) Kz a len cap zs W h (Go.Ev.sj (Go.Ev.HH h.bytes))
set_option maxRecDepth 100000 in
theorem lifted (os:Os) (started:os.Started) (H:Type) (enc:TypeId×Value→H):
  ReturnsInHanded {} Tryz.checked os 3 .any (fun w args=>(Rows.fnPilotSpareSpec.pre enc Tryz.prog Tryz.f3 [] false w args∧laidMetH Tryz.prog Rows.fnPilotSpareRow.laid w)∧sizedMet enc Tryz.prog Tryz.f3 (OpenSpec.ofChange Rows.fnPilotSpareSpec) false w args)
   (Rows.fnPilotSpareSpec.post enc Tryz.prog Tryz.f3 false true false false):=by
 refine returnsInHanded_of_change_and (C:=Tryz.checked) (X:=fun w _=>laidMetH Tryz.prog Rows.fnPilotSpareRow.laid w) (fun _ _ _ hh h=>h.of_heap hh) own started (by kernel_rfl) Tryz.func3
  (ChangeSpec.witness_shaped (enc:=enc) (C:=Tryz.checked) (os:=os) (X:=fun w _=>laidMetH Tryz.prog Rows.fnPilotSpareRow.laid w) false (World.laidAll Tryz.prog os Rows.fnPilotSpareRow.laid) #[.slice none 0 0] 8 (World.laidAll_os _ _ _)
   (World.shaped_of_ZipB (by kernel_rfl) (by kernel_rfl)) (by kernel_rfl) (by kernel_rfl) (by kernel_rfl)
   (by rw[MakeChecks.laidMetH_plain _ _ _ (by kernel_rfl)];exact laidMet_laidAll _ (by kernel_rfl) (by kernel_rfl))) ?_
 intro W base args ds gs before hval0 hW _ _ hL _
 have hval:∀(j:Nat) t v,Tryz.f3.params[j]?=some t→args[j]?=some v→Value.okWide Tryz.prog W .any base t v:=hval0
 have hW':=hW
 obtain ⟨p,q,hA0,hV,rfl,hfz,hnd⟩:=hW
 have hA:DataW.TrodAll enc Tryz.prog W 0 (fun _=>true) true Tryz.f3.params.toList args.toList ds p:=hA0
 rw[Tryz.params3] at hA hval
 obtain ⟨v0,vs0,d0,ds0,p0,q0,hargs,rfl,rfl,h0,r0⟩:=trodAll_cons hA
 obtain ⟨rfl,rfl,rfl⟩:=trodAll_nil r0
 obtain rfl:args= #[v0]:=by cases args;simp_all
 obtain ⟨rfl,rfl⟩:=trodVars_none hV
 obtain ⟨a0,len0,cap0,rfl⟩:=okWide_slice Tryz.underlying22 (hval 0 22 v0 rfl rfl)
 have k0:=h0
 have lt0:∀x∈p0,x.block<W.heap.size:=by obtain ⟨m,hm⟩:=k0;exact DataW.trod_lt m _ _ _ hm
 obtain ⟨z0,w0⟩:∃zs,Go.Ev.zD .u8 W a0 len0 cap0 zs:=by
  obtain ⟨fuel,hf⟩:=h0
  rcases open_ints Tryz.underlying22 Tryz.underlying5 (by kernel_rfl) hf with ⟨hcs,_⟩|⟨x,l,c,zs,hcs,_,hl,hm,hz,_,hcell,hwz⟩
  ·simp[Value.cells] at hcs
   obtain ⟨rfl,rfl,rfl⟩:=hcs
   exact ⟨[],.inl ⟨rfl,rfl,rfl,rfl⟩⟩
  ·simp[Value.cells] at hcs
   obtain ⟨rfl,rfl,rfl⟩:=hcs
   exact ⟨zs,.inr ⟨_,rfl,hl,hm,by simpa using hz,hcell,hwz⟩⟩
 clear hA0 hval0
 refine (walk a0 len0 cap0 z0 W w0).mono fun e W' ⟨he,bel⟩=>?_
 subst he
 exact ⟨_,rfl,_,_,_,[],_,[],hW',trodAll_mk1 (shut_bool Tryz.underlying4 _),(trodAll_cons_mk (Below.trod laidOut (by kernel_rfl) (of_decide_eq_true (by kernel_rfl)) k0 bel lt0) trodAll_mk0),rfl,bel.frame _,fun h=>by cases h⟩
theorem over:Rows.fnPilotSpareRow.holds Tryz.pinned (OpenSpec.ofChange Rows.fnPilotSpareSpec):=
 OpenClaim.holds_of_wide 3 Tryz.f3 rfl rfl rfl rfl rfl rfl rfl ⟨rfl,rfl,rfl,rfl,rfl⟩ rfl rfl rfl rfl rfl (by kernel_rfl) Tryz.func3 (by kernel_rfl)
  (of_decide_eq_true (by kernel_rfl)) (by unfold Func.isWrapper;first|(rw[if_pos (by decide+kernel)];kernel_rfl)|(rw[if_neg (by decide+kernel)];exact ⟨rfl,rfl⟩))
  (fun os started H enc _=>lifted os started H enc)
theorem proved:Rows.FnPilotSpareCardSaid:=
 Claim7.holds_tied_plain_at .later [] [.data,.pinned] true (true, "2a138f96a36997457c2b12462938d48c7029cab301fa7243fad26545d0240c65") false over (fun _ h=>by cases h) (by kernel_rfl) (fun _ h=>by cases h) fnPilotSpare_row_tie rfl ⟨rfl,rfl⟩ (by kernel_rfl) rfl
  (fun f fn hf hfn=>by
   obtain rfl:f=3:=Option.some.inj ((show Tryz.prog.funcNamed "loop.example/wharffleet/laws.FnPilotSpare" =some 3 by kernel_rfl).symm.trans hf) |>.symm
   obtain rfl:fn=Tryz.f3:=(Option.some.inj (Tryz.func3.symm.trans hfn)).symm
   exact ⟨by kernel_rfl,fun j t ht=>by
    rw[Tryz.params3] at ht
    have hm:t∈[22]:=by simpa using Array.mem_of_getElem? ht
    have hall:([22].all fun u=>!Tryz.prog.wantsStandIn u)=true:=by kernel_rfl
    exact (show Tryz.prog.wantsStandIn t=false by simpa using List.all_eq_true.1 hall t hm)⟩)
  (by kernel_rfl)
end Go.Proofs.YtephnkjnbnjicaaGreatDoor.fnPilotSpare
namespace Go.Proofs.YtephnkjnbnjicaaGreatDoor
theorem fnPilotSpare_holds:Rows.FnPilotSpareCardSaid:=fnPilotSpare.proved
end Go.Proofs.YtephnkjnbnjicaaGreatDoor
#print axioms Go.Proofs.YtephnkjnbnjicaaGreatDoor.fnPilotSpare_holds
