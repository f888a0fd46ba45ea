/- Proved here: the law FnExactPilotPlaceCard of the given program answers true at every input, and leaves the input as it was; no condition. This text: the row itself. -/
import Derived.Test.YtkbmnjmgceabdaaGreatDoorP5
import Derived.Test.YtkbmnjmgceabdaaGreatDoorCards
import Derived.Test.YtkbmnjmgceabdaaGreatDoorTie
import Derived.Lay
import Derived.LaidOnce
import Derived.SevenTiedAt
import Derived.Test.YtkbmnjmgceabdaaGreatDoorRows
set_option linter.all false
set_option autoImplicit false
namespace Go.Proofs.YtkbmnjmgceabdaaGreatDoor.fnExactPilotPlace
open Go.ChangeShapes Go.WideShapes Go.ChangeAt Go.RowKit
theorem own:ownKnob Tryz.prog.godebug=none:=by kernel_rfl
theorem laidOut:laidOutB Tryz.prog=true:=by kernel_rfl
theorem cells_of {H:Type} {enc:TypeId×Value→H} {W:World} {t:TypeId} {td:Go.Ev.TD} {v:Value} {d:DataW H} {p:List MemPlace} (hd:Go.Ev.tget Go.Ev.T0 t=some td) (ho:Go.Ev.okA 8 Go.Ev.T0 t=true)
  (h:DataW.Trod enc Tryz.prog W 0 (fun _=>true) true t v d p):∃xs,Go.Ev.Rd Go.Ev.T0 W td.cts v.cells.toList xs:=by
 obtain ⟨fuel,h⟩:=h
 exact Go.Ev.rd Go.Ev.base0.tok 8 t td fuel _ _ ho hd h
abbrev slA:List (Nat×Go.Ev.Sk):=[(0,.ag [.d .bool,.d (.sl 29),.d (.sl 118),.d (.sl 32)])]
theorem fsok:Go.Ev.FSOk Tryz.checked.prog Go.Ev.T0 4 ⟨1,⟨slA,[]⟩,⟨[(0,.d .bool)],[]⟩,[],Go.Ev.w_FnExactPilotPlace⟩:=Go.Ev.w_FnExactPilotPlace_ok
theorem in0 (f:Go.Ev.Fl):((⟨slA,[]⟩:Go.Ev.Tm).inj (f.e)).sl 0=.ag (List.zipWith Go.Ev.V.c Go.Ev.ctsFl f.e) none:=by kernel_rfl
theorem a0 (cs0:Array Value):(#[Value.agg cs0]:Array Value).getD 0 undef=.agg cs0.toList.toArray:=rfl
theorem walkG {P:Program} {k0:FuncId} {Fn:List Go.Ev.C→Option (List Go.Ev.C)} (hf:Go.Ev.FSOk P Go.Ev.T0 k0 ⟨1,⟨slA,[]⟩,⟨[(0,.d .bool)],[]⟩,[],Fn⟩) (f:Go.Ev.Fl) (cs0:Array Value) (W:World) (h0:Go.Ev.Rd Go.Ev.T0 W Go.Ev.ctsFl cs0.toList f.e) (hF:Fn (f.e)=some [.b true]):
  Calls P k0 #[.agg cs0] W fun e W'=>e=.returned (.bool true)∧Below W.heap.size W W':=by
 have ha:∀k,k<1→Go.Ev.RelV Go.Ev.T0 (fun k=>k<W.heap.size) W (fun _=>none) (fun _=>.bool false) (((⟨slA,[]⟩:Go.Ev.Tm).inj (f.e)).sl k) ((#[Value.agg cs0]:Array Value).getD k undef):=fun k hk=>by
  match k,hk with
  |0,_=>rw[in0,a0];exact Go.Ev.ag_rel h0
 exact Go.Ev.lawN hf (f.e) #[.agg cs0] W rfl ha hF
theorem walk (f:Go.Ev.Fl) (cs0:Array Value) (W:World) (z0:f.Sz maxLen) (h0:Go.Ev.Rd Go.Ev.T0 W Go.Ev.ctsFl cs0.toList f.e):
  Calls Tryz.prog 4 #[.agg cs0] W fun e W'=>e=.returned (.bool true)∧Below W.heap.size W W':=
 walkG (P:=Tryz.checked.prog) fsok f cs0 W h0 (Go.Ev.FnExactPilotPlace_true f z0)
set_option maxRecDepth 100000 in
theorem lifted (os:Os) (started:os.Started) (H:Type) (enc:TypeId×Value→H):
  ReturnsInHanded {} Tryz.checked os 4 .any (fun w args=>(Rows.fnExactPilotPlaceSpec.pre enc Tryz.prog Tryz.f4 [] false w args∧laidMetH Tryz.prog Rows.fnExactPilotPlaceRow.laid w)∧sizedMet enc Tryz.prog Tryz.f4 (OpenSpec.ofChange Rows.fnExactPilotPlaceSpec) false w args)
   (Rows.fnExactPilotPlaceSpec.post enc Tryz.prog Tryz.f4 false true false false):=by
 refine returnsInHanded_of_change_and (C:=Tryz.checked) (X:=fun w _=>laidMetH Tryz.prog Rows.fnExactPilotPlaceRow.laid w) (fun _ _ _ hh h=>h.of_heap hh) own started (by kernel_rfl) Tryz.func4
  (ChangeSpec.witness_shaped (enc:=enc) (C:=Tryz.checked) (os:=os) (X:=fun w _=>laidMetH Tryz.prog Rows.fnExactPilotPlaceRow.laid w) false (World.laidAll Tryz.prog os Rows.fnExactPilotPlaceRow.laid) #[.agg #[.bool false,.slice none 0 0,.slice none 0 0,.slice none 0 0]] 8 (World.laidAll_os _ _ _)
   (World.shaped_of_ZipB (by kernel_rfl) (by kernel_rfl)) (by kernel_rfl) (by kernel_rfl) (by kernel_rfl)
   (by rw[MakeChecks.laidMetH_plain _ _ _ (by kernel_rfl)];exact laidMet_laidAll _ (by kernel_rfl) (by kernel_rfl))) ?_
 intro W base args ds gs before hval0 hW _ _ hL _
 have hval:∀(j:Nat) t v,Tryz.f4.params[j]?=some t→args[j]?=some v→Value.okWide Tryz.prog W .any base t v:=hval0
 have hW':=hW
 obtain ⟨p,q,hA0,hV,rfl,hfz,hnd⟩:=hW
 have hA:DataW.TrodAll enc Tryz.prog W 0 (fun _=>true) true Tryz.f4.params.toList args.toList ds p:=hA0
 rw[Tryz.params4] at hA hval
 obtain ⟨v0,vs0,d0,ds0,p0,q0,hargs,rfl,rfl,h0,r0⟩:=trodAll_cons hA
 obtain ⟨rfl,rfl,rfl⟩:=trodAll_nil r0
 obtain rfl:args= #[v0]:=by cases args;simp_all
 obtain ⟨rfl,rfl⟩:=trodVars_none hV
 obtain ⟨cs0,rfl,_⟩:=okWide_struct Tryz.underlying26 (hval 0 26 v0 rfl rfl)
 have k0:=h0
 have lt0:∀x∈p0,x.block<W.heap.size:=by obtain ⟨m,hm⟩:=k0;exact DataW.trod_lt m _ _ _ hm
 obtain ⟨xs0,hx0⟩:=cells_of (t:=26) rfl (by kernel_rfl) h0
 obtain ⟨f,rfl,z0⟩:=Go.Ev.rd_Fl hx0
 clear hA0 hval0
 refine (walk f cs0 W z0 hx0).mono fun e W' ⟨he,bel⟩=>?_
 subst he
 exact ⟨_,rfl,_,_,_,[],_,[],hW',trodAll_mk1 (shut_bool Tryz.underlying4 _),(trodAll_cons_mk (Below.trod laidOut (by kernel_rfl) (of_decide_eq_true (by kernel_rfl)) k0 bel lt0) trodAll_mk0),rfl,bel.frame _,fun h=>by cases h⟩
theorem over:Rows.fnExactPilotPlaceRow.holds Tryz.pinned (OpenSpec.ofChange Rows.fnExactPilotPlaceSpec):=
 OpenClaim.holds_of_wide 4 Tryz.f4 rfl rfl rfl rfl rfl rfl rfl ⟨rfl,rfl,rfl,rfl,rfl⟩ rfl rfl rfl rfl rfl (by kernel_rfl) Tryz.func4 (by kernel_rfl)
  (of_decide_eq_true (by kernel_rfl)) (by unfold Func.isWrapper;first|(rw[if_pos (by decide+kernel)];kernel_rfl)|(rw[if_neg (by decide+kernel)];exact ⟨rfl,rfl⟩))
  (fun os started H enc _=>lifted os started H enc)
theorem proved:Rows.FnExactPilotPlaceCardSaid:=
 Claim7.holds_tied_plain_at .later [] [.data,.pinned] true (true, "36acae21d60af06f5a46c25c54b642d261092a7772c5de830172869b94614dd9") false over (fun _ h=>by cases h) (by kernel_rfl) (fun _ h=>by cases h) fnExactPilotPlace_row_tie rfl ⟨rfl,rfl⟩ (by kernel_rfl) rfl
  (fun f fn hf hfn=>by
   obtain rfl:f=4:=Option.some.inj ((show Tryz.prog.funcNamed "loop.example/wharffleet/laws.FnExactPilotPlace" =some 4 by kernel_rfl).symm.trans hf) |>.symm
   obtain rfl:fn=Tryz.f4:=(Option.some.inj (Tryz.func4.symm.trans hfn)).symm
   exact ⟨by kernel_rfl,fun j t ht=>by
    rw[Tryz.params4] at ht
    have hm:t∈[26]:=by simpa using Array.mem_of_getElem? ht
    have hall:([26].all fun u=>!Tryz.prog.wantsStandIn u)=true:=by kernel_rfl
    exact (show Tryz.prog.wantsStandIn t=false by simpa using List.all_eq_true.1 hall t hm)⟩)
  (by kernel_rfl)
end Go.Proofs.YtkbmnjmgceabdaaGreatDoor.fnExactPilotPlace
namespace Go.Proofs.YtkbmnjmgceabdaaGreatDoor
theorem fnExactPilotPlace_holds:Rows.FnExactPilotPlaceCardSaid:=fnExactPilotPlace.proved
end Go.Proofs.YtkbmnjmgceabdaaGreatDoor
#print axioms Go.Proofs.YtkbmnjmgceabdaaGreatDoor.fnExactPilotPlace_holds
