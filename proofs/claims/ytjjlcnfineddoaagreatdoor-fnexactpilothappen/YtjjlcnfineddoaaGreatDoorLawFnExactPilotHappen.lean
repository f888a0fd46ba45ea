/- Proved here: the law FnExactPilotHappenCard of the given program answers true at every input, and leaves the input as it was; no condition. This text: the row itself. -/
import Derived.Test.YtjjlcnfineddoaaGreatDoorP4
import Derived.Test.YtjjlcnfineddoaaGreatDoorCards
import Derived.Test.YtjjlcnfineddoaaGreatDoorTie
import Derived.Lay
import Derived.LaidOnce
import Derived.SevenTiedAt
import Derived.Test.YtjjlcnfineddoaaGreatDoorRows
set_option linter.all false
set_option autoImplicit false
namespace Go.Proofs.YtjjlcnfineddoaaGreatDoor.fnExactPilotHappen
open Go.ChangeShapes Go.WideShapes Go.ChangeAt Go.RowKit
theorem own:ownKnob Tryz.prog.godebug=none:=by kernel_rfl
theorem laidOut:laidOutB Tryz.prog=true:=by kernel_rfl
theorem lv {H:Type} {enc:TypeId×Value→H} {W:World} {t:TypeId} {td:Go.Ev.TD} {v:Value} {d:DataW H} {p:List MemPlace} (hd:Go.Ev.aR Go.Ev.T0 t=some td) (ho:Go.Ev.okA 8 Go.Ev.T0 t=true)
  (h:DataW.Trod enc Tryz.prog W 0 (fun _=>true) true t v d p):∃xs,Go.Ev.Rd Go.Ev.T0 W td.cts v.cells.toList xs:=by
 obtain ⟨fuel,h⟩:=h
 exact Go.Ev.rd Go.Ev.aE.tok 8 t td fuel _ _ ho hd h
abbrev slA:List (Nat×Go.Ev.Sk):=[(0,.ag [.d .bool,.d (.sl 48),.d (.sl 124),.d (.sl 51)]),(1,.ag [.d (.int .i64),.d .str,.d .str,.d (.sl 9),.d (.int .i64),.d (.int .i64),.d .bool,.d .str,.d .str,.d (.int .i64),.d (.int .i64),.d (.int .i64),.d (.int .i64),.d .str,.d (.sl 146),.d (.int .i64),.d .str,.d .str,.d .str,.d .str,.d .str])]
theorem IQ:Go.Ev.aG Tryz.checked.prog Go.Ev.T0 4 ⟨2,⟨slA,[]⟩,⟨[(0,.d .bool)],[]⟩,[],Go.Ev.dm⟩:=Go.Ev.oz
theorem in0 (f:Go.Ev.Fl) (s:Go.Ev.Evn):((⟨slA,[]⟩:Go.Ev.Tm).inj (f.e++s.e)).sl 0=.ag (List.zipWith Go.Ev.V.c Go.Ev.Cq f.e) none:=by kernel_rfl
theorem a0 (cs0:Array Value) (cs1:Array Value):(#[Value.agg cs0,Value.agg cs1]:Array Value).getD 0 undef=.agg cs0.toList.toArray:=rfl
theorem in1 (f:Go.Ev.Fl) (s:Go.Ev.Evn):((⟨slA,[]⟩:Go.Ev.Tm).inj (f.e++s.e)).sl 1=.ag (List.zipWith Go.Ev.V.c Go.Ev.AA s.e) none:=by kernel_rfl
theorem a1 (cs0:Array Value) (cs1:Array Value):(#[Value.agg cs0,Value.agg cs1]:Array Value).getD 1 undef=.agg cs1.toList.toArray:=rfl
theorem HO {P:Program} {k0:FuncId} {Fn:List Go.Ev.C→Option (List Go.Ev.C)} (hf:Go.Ev.aG P Go.Ev.T0 k0 ⟨2,⟨slA,[]⟩,⟨[(0,.d .bool)],[]⟩,[],Fn⟩) (f:Go.Ev.Fl) (s:Go.Ev.Evn) (cs0:Array Value) (cs1:Array Value) (W:World) (h0:Go.Ev.Rd Go.Ev.T0 W Go.Ev.Cq cs0.toList f.e) (h1:Go.Ev.Rd Go.Ev.T0 W Go.Ev.AA cs1.toList s.e) (hF:Fn (f.e++s.e)=some [.b true]):
  Calls P k0 #[.agg cs0,.agg cs1] W fun e W'=>e=.returned (.bool true)∧Below W.heap.size W W':=by
 have ha:∀k,k<2→Go.Ev.ae Go.Ev.T0 (fun k=>k<W.heap.size) W (fun _=>none) (fun _=>.bool false) (((⟨slA,[]⟩:Go.Ev.Tm).inj (f.e++s.e)).sl k) ((#[Value.agg cs0,Value.agg cs1]:Array Value).getD k undef):=fun k hk=>by
  match k,hk with
  |0,_=>rw[in0,a0];exact Go.Ev.EY h0
  |1,_=>rw[in1,a1];exact Go.Ev.EY h1
 exact Go.Ev.IH hf (f.e++s.e) #[.agg cs0,.agg cs1] W rfl ha hF
theorem walk (f:Go.Ev.Fl) (s:Go.Ev.Evn) (cs0:Array Value) (cs1:Array Value) (W:World) (z0:f.Sz maxLen) (z1:s.Sz maxLen) (h0:Go.Ev.Rd Go.Ev.T0 W Go.Ev.Cq cs0.toList f.e) (h1:Go.Ev.Rd Go.Ev.T0 W Go.Ev.AA cs1.toList s.e):
  Calls Tryz.prog 4 #[.agg cs0,.agg cs1] W fun e W'=>e=.returned (.bool true)∧Below W.heap.size W W':=
 HO (P:=Tryz.checked.prog) IQ f s cs0 cs1 W h0 h1 (Go.Ev.nR f s z0 z1)
set_option maxRecDepth 100000 in
theorem lifted (os:Os) (started:os.Started) (H:Type) (enc:TypeId×Value→H):
  ReturnsInHanded {} Tryz.checked os 4 .any (fun w args=>(Rows.fnExactPilotHappenSpec.pre enc Tryz.prog Tryz.f4 [] false w args∧laidMetH Tryz.prog Rows.fnExactPilotHappenRow.laid w)∧sizedMet enc Tryz.prog Tryz.f4 (OpenSpec.ofChange Rows.fnExactPilotHappenSpec) false w args)
   (Rows.fnExactPilotHappenSpec.post enc Tryz.prog Tryz.f4 false true false false):=by
 refine returnsInHanded_of_change_and (C:=Tryz.checked) (X:=fun w _=>laidMetH Tryz.prog Rows.fnExactPilotHappenRow.laid w) (fun _ _ _ hh h=>h.of_heap hh) own started (by kernel_rfl) Tryz.func4
  (ChangeSpec.witness_shaped (enc:=enc) (C:=Tryz.checked) (os:=os) (X:=fun w _=>laidMetH Tryz.prog Rows.fnExactPilotHappenRow.laid w) false (World.laidAll Tryz.prog os Rows.fnExactPilotHappenRow.laid) #[.agg #[.bool false,.slice none 0 0,.slice none 0 0,.slice none 0 0],.agg #[.int .i64 0,.string ⟨#[]⟩,.string ⟨#[]⟩,.slice none 0 0,.int .i64 0,.int .i64 0,.bool false,.string ⟨#[]⟩,.string ⟨#[]⟩,.int .i64 0,.int .i64 0,.int .i64 0,.int .i64 0,.string ⟨#[]⟩,.slice none 0 0,.int .i64 0,.string ⟨#[]⟩,.string ⟨#[]⟩,.string ⟨#[]⟩,.string ⟨#[]⟩,.string ⟨#[]⟩]] 8 (World.laidAll_os _ _ _)
   (World.shaped_of_ZipB (by kernel_rfl) (by kernel_rfl)) (by kernel_rfl) (by kernel_rfl) (by kernel_rfl)
   (by rw[MakeChecks.laidMetH_plain _ _ _ (by kernel_rfl)];exact laidMet_laidAll _ (by kernel_rfl) (by kernel_rfl))) ?_
 intro W base args ds gs before hval0 hW _ _ hL _
 have hval:∀(j:Nat) t v,Tryz.f4.params[j]?=some t→args[j]?=some v→Value.okWide Tryz.prog W .any base t v:=hval0
 have hW':=hW
 obtain ⟨p,q,hA0,hV,rfl,hfz,hnd⟩:=hW
 have hA:DataW.TrodAll enc Tryz.prog W 0 (fun _=>true) true Tryz.f4.params.toList args.toList ds p:=hA0
 rw[Tryz.params4] at hA hval
 obtain ⟨v0,vs0,d0,ds0,p0,q0,hargs,rfl,rfl,h0,r0⟩:=trodAll_cons hA
 obtain ⟨v1,vs1,d1,ds1,p1,q1,rfl,rfl,rfl,h1,r1⟩:=trodAll_cons r0
 obtain ⟨rfl,rfl,rfl⟩:=trodAll_nil r1
 obtain rfl:args= #[v0,v1]:=by cases args;simp_all
 obtain ⟨rfl,rfl⟩:=trodVars_none hV
 obtain ⟨cs0,rfl,_⟩:=okWide_struct Tryz.underlying47 (hval 0 47 v0 rfl rfl)
 obtain ⟨cs1,rfl,_⟩:=okWide_struct Tryz.underlying53 (hval 1 53 v1 rfl rfl)
 have k0:=h0
 have k1:=h1
 have lt0:∀x∈p0,x.block<W.heap.size:=by obtain ⟨m,hm⟩:=k0;exact DataW.trod_lt m _ _ _ hm
 have lt1:∀x∈p1,x.block<W.heap.size:=by obtain ⟨m,hm⟩:=k1;exact DataW.trod_lt m _ _ _ hm
 obtain ⟨xs0,hx0⟩:=lv (t:=47) rfl (by kernel_rfl) h0
 obtain ⟨f,rfl,z0⟩:=Go.Ev.HN hx0
 obtain ⟨xs1,hx1⟩:=lv (t:=53) rfl (by kernel_rfl) h1
 obtain ⟨s,rfl,z1⟩:=Go.Ev.G7 hx1
 clear hA0 hval0
 refine (walk f s cs0 cs1 W z0 z1 hx0 hx1).mono fun e W' ⟨he,bel⟩=>?_
 subst he
 exact ⟨_,rfl,_,_,_,[],_,[],hW',trodAll_mk1 (shut_bool Tryz.underlying4 _),(trodAll_cons_mk (Below.trod laidOut (by kernel_rfl) (of_decide_eq_true (by kernel_rfl)) k0 bel lt0) (trodAll_cons_mk (Below.trod laidOut (by kernel_rfl) (of_decide_eq_true (by kernel_rfl)) k1 bel lt1) trodAll_mk0)),rfl,bel.frame _,fun h=>by cases h⟩
theorem over:Rows.fnExactPilotHappenRow.holds Tryz.pinned (OpenSpec.ofChange Rows.fnExactPilotHappenSpec):=
 OpenClaim.holds_of_wide 4 Tryz.f4 rfl rfl rfl rfl rfl rfl rfl ⟨rfl,rfl,rfl,rfl,rfl⟩ rfl rfl rfl rfl rfl (by kernel_rfl) Tryz.func4 (by kernel_rfl)
  (of_decide_eq_true (by kernel_rfl)) (by unfold Func.isWrapper;first|(rw[if_pos (by decide+kernel)];kernel_rfl)|(rw[if_neg (by decide+kernel)];exact ⟨rfl,rfl⟩))
  (fun os started H enc _=>lifted os started H enc)
theorem proved:Rows.FnExactPilotHappenCardSaid:=
 Claim7.holds_tied_plain_at .later [] [.data,.pinned] true (true, "55f37a251cb12489e2860f24ad584ea67f68b9ae7b4649efe9b32dac14acb0d3") false over (fun _ h=>by cases h) (by kernel_rfl) (fun _ h=>by cases h) fnExactPilotHappen_row_tie rfl ⟨rfl,rfl⟩ (by kernel_rfl) rfl
  (fun f fn hf hfn=>by
   obtain rfl:f=4:=Option.some.inj ((show Tryz.prog.funcNamed "loop.example/wharffleet/laws.FnExactPilotHappen" =some 4 by kernel_rfl).symm.trans hf) |>.symm
   obtain rfl:fn=Tryz.f4:=(Option.some.inj (Tryz.func4.symm.trans hfn)).symm
   exact ⟨by kernel_rfl,fun j t ht=>by
    rw[Tryz.params4] at ht
    have hm:t∈[47,53]:=by simpa using Array.mem_of_getElem? ht
    have hall:([47,53].all fun u=>!Tryz.prog.wantsStandIn u)=true:=by kernel_rfl
    exact (show Tryz.prog.wantsStandIn t=false by simpa using List.all_eq_true.1 hall t hm)⟩)
  (by kernel_rfl)
end Go.Proofs.YtjjlcnfineddoaaGreatDoor.fnExactPilotHappen
namespace Go.Proofs.YtjjlcnfineddoaaGreatDoor
theorem fnExactPilotHappen_holds:Rows.FnExactPilotHappenCardSaid:=fnExactPilotHappen.proved
end Go.Proofs.YtjjlcnfineddoaaGreatDoor
#print axioms Go.Proofs.YtjjlcnfineddoaaGreatDoor.fnExactPilotHappen_holds
