/- Proved here: the law FnPilotFitsCard of the given program answers true at every input, and leaves the input as it was; no condition. This text: lemmas on the way (an evaluator of the program's code, sound once for all; the functions it prints; plain proofs on these). -/
import Derived.Test.YtkbmkhncjganfaaGreatDoorP1
import Derived.LoopN
import Derived.ScopeJumps
import Derived.ChangeArms
import Derived.WalkKit
import Derived.ProofKit
import Derived.OpenShut
import Derived.ShutString
import Derived.ChangeOld
import Derived.Below
import Derived.SizedLaws
import Derived.Test.YtkbmkhncjganfaaGreatDoorChecked
import Derived.Lib.Strings
import Derived.Lib.Slices
import Derived.Lib.Walk
import Derived.Lib.Bytealg
set_option linter.all false
set_option autoImplicit false
namespace Go.Ev
theorem opnds_congr {ρ ρ':Slots}:∀ {l:List Operand},(∀x,x∈l→opnd ρ x=opnd ρ' x)→opnds ρ l=opnds ρ' l
 |[],_=>rfl
 |x::r,h=>by
  show opnd ρ x::opnds ρ r=opnd ρ' x::opnds ρ' r
  rw[h x (List.mem_cons_self ..),opnds_congr fun y hy=>h y (List.mem_cons_of_mem _ hy)]
theorem fillV_congr {T:Tys} {fs:List (Nat×TypeId)} {ρ ρ':Slots}:∀ {ps:List (Nat×Operand)} {cs:List V},(∀x,x∈ps.map (·.2)→opnd ρ x=opnd ρ' x)→fillV T fs ρ ps cs=fillV T fs ρ' ps cs
 |[],cs,_=>rfl
 |(i,x)::r,cs,h=>by
  have e:=h x (by simp)
  simp only[fillV,e]
  split
  ·split
   ·rw[fillV_congr fun y hy=>h y (by simp at hy⊢;exact .inr hy)]
   ·rfl
  ·rfl
theorem killE_congr {ρ ρ':Slots}:∀ {ps:List (Nat×Operand)},(∀x,x∈ps.map (·.2)→opnd ρ x=opnd ρ' x)→killE ρ ps=killE ρ' ps
 |[],h=>rfl
 |(i,x)::r,h=>by
  simp only[killE]
  rw[h x (by simp),killE_congr fun y hy=>h y (by simp at hy⊢;exact .inr hy)]
theorem thawS_opnd (K:List KE) {ρ ρ':Slots} {x:Operand} (h:opnd ρ x=opnd ρ' x):opnd (thawS K ρ) x=opnd (thawS K ρ') x:=by
 cases x with
 |tmp d=>
  show thawS K ρ d=thawS K ρ' d
  rw[thawS_get,thawS_get]
  exact congrArg _ h
 |const v=>rfl
 |func f=>rfl
 |global g=>rfl
theorem fillE_congr {cts:List CT} {ρ ρ':Slots}:∀ {ps:List (Nat×Operand)} {es:List (List C)},(∀x,x∈ps.map (·.2)→opnd ρ x=opnd ρ' x)→fillE cts ρ ps es=fillE cts ρ' ps es
 |[],es,_=>rfl
 |(i,x)::r,es,h=>by
  have e:=h x (by simp)
  simp only[fillE,e]
  split
  ·rw[fillE_congr fun y hy=>h y (by simp at hy⊢;exact .inr hy)]
  ·rfl
theorem evalOp_congr (X:Cx) (dst:Option Tmp) {ρ ρ':Slots} (op:Op) (h:∀x,x∈op.operands.toList→opnd ρ x=opnd ρ' x):evalOp X dst ρ op=evalOp X dst ρ' op:=by
 cases op with
 |pick c a b=>
  simp only[Op.operands] at h
  simp only[evalOp]
  rw[h c (by simp),h a (by simp),h b (by simp)]
 |build t ps=>
  simp only[Op.operands] at h
  simp only[evalOp,buildV]
  congr 1;funext d
  split
  ·congr 1;funext _
   rw[fillV_congr fun x hx=>h x (by simpa using hx)]
  ·rfl
 |buildSlice t n ps=>
  simp only[Op.operands] at h
  simp only[evalOp,buildSliceV]
  congr 1;funext d
  congr 1;funext d
  rw[killE_congr fun x hx=>h x (by simpa using hx)]
  congr 1;funext q
  congr 1;funext K
  rw[fillE_congr fun x hx=>thawS_opnd K (h x (by simpa using hx))]
 |makeFunc fn first caps=>
  simp only[Op.operands] at h
  cases fn with
  |func f=>
   simp only[evalOp]
   rw[opnds_congr fun x hx=>h x (by simp at hx⊢;exact .inr hx)]
  |_=>rfl
 |slice t x lo hi mx=>
  simp only[Op.operands] at h
  simp only[evalOp]
  have e1:=h x (by simp)
  have e2:oopnd ρ lo=oopnd ρ' lo:=by
   cases lo with
   |none=>rfl
   |some y=>show some _=some _;rw[h y (by simp)]
  have e3:oopnd ρ hi=oopnd ρ' hi:=by
   cases hi with
   |none=>rfl
   |some y=>show some _=some _;rw[h y (by simp)]
  rw[e1,e2,e3]
 |call c=>
  obtain ⟨callee,args,argTypes⟩:=c
  simp only[Op.operands,Call.operands] at h
  cases callee with
  |value f=>
   simp only[evalOp,evalCall]
   rw[h f (by simp),opnds_congr (l:=args.toList) fun x hx=>h x (by simp at hx⊢;exact .inr hx)]
  |invoke _ _=>rfl
  |builtin b=>
   have ha:∀x,x∈args.toList→opnd ρ x=opnd ρ' x:=fun x hx=>h x (by simpa using hx)
   simp only[evalOp,evalCall]
   cases b with
   |len=>
    simp only
    rcases hx:args.toList with _|⟨x,_|⟨y,l⟩⟩
    ·rfl
    ·have e1:=ha x (by simp[hx])
     rcases argTypes.toList with _|⟨t,_|⟨t',l'⟩⟩
     ·rfl
     ·show lenV X.T t (opnd ρ x)=lenV X.T t (opnd ρ' x)
      rw[e1]
     ·rfl
    ·rfl
   |clear=>
    simp only
    rcases hx:args.toList with _|⟨x,_|⟨y,l⟩⟩
    ·rfl
    ·have e1:=ha x (by simp[hx])
     rcases argTypes.toList with _|⟨t,_|⟨t',l'⟩⟩
     ·rfl
     ·show clearV X.T t (opnd ρ x)=clearV X.T t (opnd ρ' x)
      rw[e1]
     ·rfl
    ·rfl
   |append=>
    simp only
    rcases hx:args.toList with _|⟨x,_|⟨y,_|⟨z,l⟩⟩⟩
    ·rfl
    ·rfl
    ·have e1:=ha x (by simp[hx])
     have e2:=ha y (by simp[hx])
     rcases argTypes.toList with _|⟨t,_|⟨t',_|⟨t'',l'⟩⟩⟩
     ·rfl
     ·rfl
     ·show (do chkS (Nat.beq t t');appV X t (dstOf dst) (opnd ρ x) (opnd ρ y):M Eff)=(do chkS (Nat.beq t t');appV X t (dstOf dst) (opnd ρ' x) (opnd ρ' y):M Eff)
      rw[e1,e2]
     ·rfl
    ·rfl
   |min=>simp only;rw[opnds_congr ha]
   |max=>simp only;rw[opnds_congr ha]
   |_=>rfl
 |unOp op t x=>
  simp only[Op.operands] at h
  simp only[evalOp]
  rw[h x (by simp)]
 |extract x i=>
  simp only[Op.operands] at h
  simp only[evalOp]
  rw[h x (by simp)]
 |alloc t=>rfl
 |box t x=>simp only[Op.operands] at h;simp only[evalOp];rw[h x (by simp)]
 |move x=>simp only[Op.operands] at h;simp only[evalOp];rw[h x (by simp)]
 |assign x=>simp only[Op.operands] at h;simp only[evalOp];rw[h x (by simp)]
 |load t x=>simp only[Op.operands] at h;simp only[evalOp];rw[h x (by simp)]
 |store t x y=>simp only[Op.operands] at h;simp only[evalOp];rw[h x (by simp),h y (by simp)]
 |nilCheck x=>simp only[Op.operands] at h;simp only[evalOp];rw[h x (by simp)]
 |binOp op t x y e=>simp only[Op.operands] at h;simp only[evalOp];rw[h x (by simp),h y (by simp)]
 |convert s d x=>simp only[Op.operands] at h;simp only[evalOp];rw[h x (by simp)]
 |makeSlice t x y=>simp only[Op.operands] at h;simp only[evalOp];rw[h x (by simp),h y (by simp)]
 |fieldAddr s x f=>simp only[Op.operands] at h;simp only[evalOp];rw[h x (by simp)]
 |field s x f=>simp only[Op.operands] at h;simp only[evalOp];rw[h x (by simp)]
 |indexAddr t x y=>simp only[Op.operands] at h;simp only[evalOp];rw[h x (by simp),h y (by simp)]
 |index t x y=>simp only[Op.operands] at h;simp only[evalOp];rw[h x (by simp),h y (by simp)]
 |makeMap t c=>cases c<;>rfl
 |lookup t x y ok=>simp only[Op.operands] at h;simp only[evalOp];rw[h x (by simp),h y (by simp)]
 |mapUpdate t x y z=>simp only[Op.operands] at h;simp only[evalOp];rw[h x (by simp),h y (by simp),h z (by simp)]
 |_=>rfl
theorem loc_evalCall (X:Cx) (dst:Option Tmp) (ρ:Slots) (c:Call):Loc (evalCall X dst ρ c):=by
 unfold evalCall
 split
 ·split
  ·exact loc_len _ _ _
  ·exact Loc.fail
 ·split
  ·exact Loc.bind (Loc.chkS _) fun _=>loc_app _ _ _ _ _
  ·exact Loc.fail
 ·split
  ·unfold clearV
   refine Loc.bind (Loc.opt _) fun _=>Loc.bind (Loc.opt _) fun _=>?_
   split
   ·refine Loc.bind (Loc.rdBox _) fun _=>?_
    split
    ·exact Loc.bind (Loc.chkS _) fun _=>Loc.ret _
    ·exact Loc.fail
   ·exact Loc.fail
  ·exact Loc.fail
 ·split
  ·exact loc_mm _ _ _
  ·exact Loc.fail
 ·split
  ·exact loc_mm _ _ _
  ·exact Loc.fail
 ·split
  ·exact Loc.bind (Loc.opt _) fun _=>loc_callA _ _ _ _ _
  ·exact Loc.fail
 ·exact Loc.fail
theorem loc_evalOp (X:Cx) (dst:Option Tmp) (ρ:Slots) (op:Op):Loc (evalOp X dst ρ op):=by
 cases op with
 |pick c a b=>
  simp only[evalOp]
  split
  ·exact loc_pick _ _ _
  ·exact Loc.fail
 |build t ps=>exact loc_build _ _ _ _
 |buildSlice t n ps=>exact loc_buildSlice _ _ _ _ _ _
 |load t x=>exact Loc.bind (loc_adrOf _ _) fun _=>loc_ld _ _ _
 |store t x y=>exact loc_sto _ _ _ _
 |nilCheck x=>exact loc_nilCheck _ _
 |binOp op t x y e=>
  simp only[evalOp]
  unfold binOpV
  split
  ·unfold eqAg
   refine Loc.bind (Loc.chkS _) fun _=>Loc.bind (Loc.opt _) fun _=>Loc.bind (Loc.opt _) fun _=>?_
   split
   ·exact Loc.rv _
   ·exact Loc.rv _
   ·exact Loc.fail
  ·exact loc_bin _ _ _ _ _
 |unOp op t x=>simp only[evalOp];repeat (first|exact Loc.rv _|exact Loc.ret _|exact Loc.fail|exact Loc.opt _|exact Loc.chk _|exact Loc.chkS _|exact Loc.rdBox _|exact Loc.newVer _|exact Loc.pure _|refine Loc.bind ?_ (fun _=>?_)|split)
 |convert s d x=>exact loc_conv _ _ _ _
 |makeFunc fn first caps=>cases fn<;>first|exact Loc.fail|exact Loc.bind (Loc.chkS _) fun _=>Loc.rv _
 |makeSlice t x y=>exact loc_make _ _ _ _ _
 |slice t x lo hi mx=>exact Loc.bind (Loc.chkS _) fun _=>loc_slice _ _ _ _ _
 |fieldAddr s x f=>exact Loc.bind (loc_adrOf _ _) fun _=>loc_fieldAddr _ _ _ _
 |field s x f=>exact loc_field _ _ _ _
 |indexAddr t x y=>exact loc_indexAddr _ _ _ _
 |index t x y=>exact loc_index _ _ _ _
 |makeMap t c=>
  cases c with
  |some c=>exact Loc.fail
  |none=>exact Loc.bind (Loc.opt _) fun _=>Loc.bind (Loc.opt _) fun _=>Loc.bind (Loc.opt _) fun _=>Loc.bind (Loc.newVer _) fun _=>Loc.ret _
 |lookup t x y ok=>
  simp only[evalOp]
  unfold lookupV
  split
  ·refine Loc.bind (Loc.opt _) fun _=>Loc.bind (Loc.opt _) fun _=>Loc.bind (Loc.opt _) fun _=>Loc.bind (Loc.rdBox _) fun _=>?_
   split
   ·exact Loc.bind (Loc.chkS _) fun _=>Loc.rv _
   ·exact Loc.fail
  ·exact Loc.fail
 |mapUpdate t x y z=>
  simp only[evalOp]
  unfold mapUpdateV
  split
  ·refine Loc.bind (Loc.opt _) fun _=>Loc.bind (Loc.opt _) fun _=>Loc.bind (Loc.opt _) fun _=>Loc.bind (Loc.rdBox _) fun _=>?_
   split
   ·exact Loc.bind (Loc.chkS _) fun _=>Loc.ret _
   ·exact Loc.fail
  ·exact Loc.fail
 |extract x i=>
  simp only[evalOp]
  split
  ·exact Loc.bind (Loc.opt _) fun _=>Loc.rv _
  ·exact Loc.fail
 |call c=>exact loc_evalCall _ _ _ _
 |alloc t=>exact Loc.bind (Loc.opt _) fun _=>Loc.bind (Loc.newVer _) fun _=>Loc.ret _
 |box t x=>exact Loc.bind (Loc.opt _) fun _=>Loc.bind (Loc.newVer _) fun _=>Loc.bind (Loc.chkS _) fun _=>Loc.bind (Loc.chkS _) fun _=>Loc.ret _
 |move x=>exact Loc.rv _
 |assign x=>exact Loc.rv _
 |_=>exact Loc.fail
end Go.Ev
namespace Go.Ev
inductive StepN (X:Cx) (ops:List Oper) (o:Oper) (σ:St) (v:V) (up:List (Nat×Box)) (lg:Lg):Prop
 |plain (e:Eff) (rd:List Nat) (hg:guardOf ops o=none) (h:∀k,evalOp X o.dst σ.sl o.op σ.bx k=k e rd) (hv:v=normB e.v) (hu:up=e.up) (hl:lg=⟨rd,wrOf e.up⟩)
 |yes (gd:Nat) (want:Bool) (e:Eff) (rd:List Nat) (hg:guardOf ops o=some (some gd,want)) (hs:σ.sl gd=.c .bool (.b want)) (h:∀k,evalOp X o.dst σ.sl o.op σ.bx k=k e rd) (hv:v=normB e.v) (hu:up=e.up) (hl:lg=⟨rd,wrOf e.up⟩)
 |no (gd:Nat) (want:Bool) (hg:guardOf ops o=some (some gd,want)) (hs:σ.sl gd=.c .bool (.b (!want))∨σ.sl gd=.ud) (hv:v=.ud) (hu:up=[]) (hl:lg=⟨[],[]⟩)
def St.step (σ:St) (o:Oper) (v:V) (up:List (Nat×Box)):St:=⟨putS σ.sl o.dst v,updB σ.bx up⟩
theorem evalOp_all {X:Cx} {dst:Option Tmp} {ρ:Slots} {op:Op} {bx:Bxs} {k:Eff→List Nat→R} {r:Out} (h:evalOp X dst ρ op bx k=some r):
  ∃e rd,k e rd=some r∧∀k',evalOp X dst ρ op bx k'=k' e rd:=by
 obtain ⟨e,rd,h1,h2⟩:=loc_evalOp X dst ρ op bx k r h
 exact ⟨e,rd,h1,fun k'=>h2 bx (fun _ _=>rfl) k'⟩
theorem StepN.wr {X:Cx} {ops:List Oper} {o:Oper} {σ:St} {v:V} {up:List (Nat×Box)} {lg:Lg} (h:StepN X ops o σ v up lg):lg.wr=wrOf up:=by
 cases h with
 |plain e rd hg h hv hu hl=>rw[hl,hu]
 |yes gd want e rd hg hs h hv hu hl=>rw[hl,hu]
 |no gd want hg hs hv hu hl=>rw[hl,hu];rfl
theorem lookTmps_mem {l:List Operand} {t:Nat} (h:Operand.tmp t∈l):t∈lookTmps l:=by
 induction l with
 |nil=>simp at h
 |cons x r ih=>
  cases h with
  |head=>exact List.mem_cons_self ..
  |tail _ h=>
   have:=ih h
   cases x<;>simp only[lookTmps]<;>first|exact List.mem_cons_of_mem _ this|exact this
theorem StepN.at {X:Cx} {ops:List Oper} {o:Oper} {σ σ2:St} {v:V} {up:List (Nat×Box)} {lg:Lg} (h:StepN X ops o σ v up lg) (hs:∀d,d∈looks ops o→σ2.sl d=σ.sl d) (hb:∀b,b∈lg.rd→σ2.bx b=σ.bx b):
  StepN X ops o σ2 v up lg:=by
 have hev:∀(e:Eff) (rd:List Nat),lg=⟨rd,wrOf e.up⟩→(∀k,evalOp X o.dst σ.sl o.op σ.bx k=k e rd)→∀k,evalOp X o.dst σ2.sl o.op σ2.bx k=k e rd:=by
  intro e rd hl h k
  have hc:evalOp X o.dst σ2.sl o.op=evalOp X o.dst σ.sl o.op:=evalOp_congr X o.dst o.op fun x hx=>by
   cases x with
   |tmp t=>exact hs t (by unfold looks;rw[app_eq];exact List.mem_append_left _ (lookTmps_mem hx))
   |_=>rfl
  rw[hc]
  have h1:=h fun e' rd'=>some (.ret [])
  obtain ⟨e2,rd2,g1,g2⟩:=loc_evalOp X o.dst σ.sl o.op σ.bx _ _ h1
  have h3:∀k:Eff→List Nat→R,k e rd=k e2 rd2:=fun k=>by rw[←h k,g2 σ.bx (fun _ _=>rfl) k]
  have hbx:∀b,b∈rd2→σ2.bx b=σ.bx b:=by
   have key:rd=rd2:=by
    open Classical in
    have:=h3 fun _ l=>if l=rd2 then some (.ret []) else none
    simp only[if_true] at this
    by_cases hh:rd=rd2
    ·exact hh
    ·rw[if_neg hh] at this;simp at this
   intro b hb'
   rw[←key] at hb'
   exact hb b (by rw[hl];exact hb')
  rw[g2 σ2.bx hbx k,h3 k]
 have hgd:∀gd want,guardOf ops o=some (some gd,want)→σ2.sl gd=σ.sl gd:=fun gd want hg=>hs gd (by unfold looks;rw[hg,app_eq];exact List.mem_append_right _ (List.mem_cons_self ..))
 cases h with
 |plain e rd hg h hv hu hl=>exact .plain e rd hg (hev e rd hl h) hv hu hl
 |yes gd want e rd hg hs' h hv hu hl=>exact .yes gd want e rd hg (by rw[hgd gd want hg];exact hs') (hev e rd hl h) hv hu hl
 |no gd want hg hs' hv hu hl=>exact .no gd want hg (by rw[hgd gd want hg];exact hs') hv hu hl
theorem meets_false {a b:List Nat} (h:meets a b=false):∀x,x∈a→¬x∈b:=by
 induction a with
 |nil=>intro x hx;simp at hx
 |cons y r ih=>
  simp only[meets,orS_eq,Bool.or_eq_false_iff] at h
  intro x hx hb
  rcases List.mem_cons.1 hx with rfl|hx
  ·rw[(memb_iff _ _).2 hb] at h;simp at h
  ·exact ih h.2 x hx hb
theorem putS_ne {f:Slots} {d:Option Tmp} {v:V} {k:Nat} (h:d≠some k):putS f d v k=f k:=by
 cases d with
 |none=>rfl
 |some d=>exact upd_ne _ _ (fun e=>h (by rw[e]))
theorem putS_comm {f:Slots} {d d':Option Tmp} {v v':V} (h:∀k,d=some k→d'≠some k):putS (putS f d v) d' v'=putS (putS f d' v') d v:=by
 funext k
 cases d with
 |none=>rfl
 |some d=>cases d' with
  |none=>rfl
  |some d'=>
   have hne:d≠d':=fun e=>h d rfl (by rw[e])
   show upd (upd f d v) d' v' k=upd (upd f d' v') d v k
   simp only[upd_apply]
   split
   ·rename_i e;subst e;rw[if_neg (Ne.symm hne)]
   ·rfl
theorem updB_get:∀ {l:List (Nat×Box)} {f f':Bxs} {b:Nat},f b=f' b→updB f l b=updB f' l b
 |[],f,f',b,h=>h
 |(c,x)::r,f,f',b,h=>by
  show updB (upd f c (some x)) r b=updB (upd f' c (some x)) r b
  refine updB_get ?_
  simp only[upd_apply]
  split<;>first|rfl|exact h
theorem updB_mem':∀ {l:List (Nat×Box)} {f f':Bxs} {b:Nat},b∈wrOf l→updB f l b=updB f' l b
 |[],f,f',b,h=>by simp[wrOf] at h
 |(c,x)::r,f,f',b,h=>by
  show updB (upd f c (some x)) r b=updB (upd f' c (some x)) r b
  by_cases hb:b∈wrOf r
  ·exact updB_mem' hb
  ·have:b=c:=by
    simp only[wrOf,List.mem_cons] at h
    exact h.resolve_right hb
   subst this
   exact updB_get (by simp only[upd_same])
theorem updB_comm {f:Bxs} {l m:List (Nat×Box)} (h:∀b,b∈wrOf l→¬b∈wrOf m):updB (updB f l) m=updB (updB f m) l:=by
 funext b
 by_cases h1:b∈wrOf l
 ·rw[updB_not (h b h1)]
  exact updB_mem' h1
 ·by_cases h2:b∈wrOf m
  ·rw[updB_not (l:=l) h1]
   exact updB_mem' h2
  ·rw[updB_not h2,updB_not h1,updB_not h1,updB_not h2]
theorem apartS_spec {ops:List Oper} {x y:Oper} (h:apartS ops x y=true):(∀d,x.dst=some d→¬d∈looks ops y)∧(∀d,x.dst=some d→y.dst≠some d)∧∀d,y.dst=some d→¬d∈looks ops x:=by
 have nm:∀ {l:List Nat} {d:Nat},notS (memb l d)=true→¬d∈l:=fun h hm=>by rw[(memb_iff _ _).2 hm] at h;simp[notS] at h
 unfold apartS at h
 simp only[andS_eq,Bool.and_eq_true] at h
 refine ⟨fun d hd=>?_,fun d hd=>?_,fun d hd=>?_⟩
 ·have h1:=h.1
  rw[hd] at h1
  simp only[Bool.and_eq_true] at h1
  exact nm h1.1
 ·have h1:=h.1
  rw[hd] at h1
  simp only[Bool.and_eq_true] at h1
  intro hy
  have h2:=h1.2
  rw[hy] at h2
  simp only[Nat.beq_refl,notS] at h2
  simp at h2
 ·have h1:=h.2
  rw[hd] at h1
  exact nm h1
theorem swap {X:Cx} {ops:List Oper} {q o:Oper} {σ:St} {vq vo:V} {uq uo:List (Nat×Box)} {h g:Lg} (h1:StepN X ops q σ vq uq h) (h2:StepN X ops o (σ.step q vq uq) vo uo g) (ha:apartS ops q o=true) (hc:Lg.clash h g=false):
  StepN X ops o σ vo uo g∧StepN X ops q (σ.step o vo uo) vq uq h∧(σ.step o vo uo).step q vq uq=(σ.step q vq uq).step o vo uo:=by
 obtain ⟨a1,a2,a3⟩:=apartS_spec ha
 simp only[Lg.clash,orS_eq,Bool.or_eq_false_iff] at hc
 obtain ⟨c1,c2,c3⟩:=hc
 have c1:=meets_false c1
 have c2:=meets_false c2
 have c3:=meets_false c3
 rw[h1.wr] at c1 c2
 rw[h2.wr] at c2 c3
 refine ⟨h2.at (fun d hd=>?_) (fun b hb=>?_),h1.at (fun d hd=>?_) (fun b hb=>?_),?_⟩
 ·exact (putS_ne (fun e=>a1 d e hd)).symm
 ·exact (updB_not (fun e=>c1 b e hb)).symm
 ·exact putS_ne (fun e=>a3 d e hd)
 ·exact updB_not (fun e=>c3 b e hb)
 ·unfold St.step
  rw[putS_comm a2,updB_comm c2]
inductive Chain (X:Cx) (ops:List Oper):St→List (Nat×Oper×Lg)→St→Prop
 |nil (σ:St):Chain X ops σ [] σ
 |cons {σ σ':St} {i:Nat} {o:Oper} {lg:Lg} {v:V} {up:List (Nat×Box)} {L:List (Nat×Oper×Lg)} (hd:dstOk X.n o.dst=true) (h:StepN X ops o σ v up lg) (hr:Chain X ops (σ.step o v up) L σ'):Chain X ops σ ((i,o,lg)::L) σ'
theorem bubble {X:Cx} {ops:List Oper} {i:Nat} {o:Oper} {g:Lg} {post:List (Nat×Oper×Lg)} {σ':St}:∀(pre:List (Nat×Oper×Lg)) (σ:St),Chain X ops σ (pre++(i,o,g)::post) σ'→
  (∀j q h,(j,q,h)∈pre→apartS ops q o=true∧Lg.clash h g=false)→Chain X ops σ ((i,o,g)::(pre++post)) σ'
 |[],σ,hc,_=>hc
 |(j,q,h)::pre,σ,hc,ha=>by
  cases hc with
  |cons hd hs hr=>
   have hb:=bubble pre _ hr fun j q h hm=>ha j q h (List.mem_cons_of_mem _ hm)
   obtain ⟨x1,x2⟩:=ha j q h (List.mem_cons_self ..)
   cases hb with
   |cons hd2 hs2 hr2=>
    obtain ⟨s1,s2,s3⟩:=swap hs hs2 x1 x2
    refine .cons hd2 s1 (.cons hd s2 ?_)
    rw[s3]
    exact hr2
end Go.Ev
namespace Go.Ev
theorem logOk_get {ops:List Oper} {an:List Nat} {o:Oper} {g:Lg}:∀ {l:List (Oper×Lg)} {j0:Nat},logOk ops an o g l j0=true→∀(j:Nat) (q:Oper) (h:Lg),l[j]?=some (q,h)→memb an (j0+j)=true∨(apartS ops q o=true∧Lg.clash h g=false)
 |[],j0,_,j,q,h,hj=>by simp at hj
 |(q',h')::r,j0,hl,j,q,h,hj=>by
  simp only[logOk,andS_eq,orS_eq,notS_eq,Bool.and_eq_true,Bool.or_eq_true,Bool.not_eq_true'] at hl
  cases j with
  |zero=>simp at hj;obtain ⟨rfl,rfl⟩:=hj;exact hl.1
  |succ j=>
   have:=logOk_get hl.2 j q h (by simpa using hj)
   rw[show j0+(j+1)=j0+1+j from by omega]
   exact this
def Proper (n:Nat) (ops:List Oper) (σ:St):Prop:=∀j q d x,j<n→ops[j]?=some q→q.dst=some d→σ.sl d=.c .bool x→∃v,x=.b v
theorem normB_proper {v:V} {x:C} (h:normB v=.c .bool x):∃b,x=.b b:=by
 cases v with
 |c t y=>cases t with
  |bool=>
   simp only[normB,V.c.injEq,true_and] at h
   exact ⟨_,h.symm⟩
  |_=>simp[normB] at h
 |_=>simp[normB] at h
theorem Proper.step {n:Nat} {ops:List Oper} {σ:St} {o:Oper} {v:V} {up:List (Nat×Box)} (h:Proper n ops σ) (ho:ops[n]?=some o) (hv:∀x,v=.c .bool x→∃b,x=.b b):Proper (n+1) ops (σ.step o v up):=by
 intro j q d x hj hq hd hx
 by_cases he:o.dst=some d
 ·have:(σ.step o v up).sl d=v:=by show putS σ.sl o.dst v d=v;rw[he];exact upd_same _ _ _
  rw[this] at hx
  exact hv x hx
 ·have:(σ.step o v up).sl d=σ.sl d:=putS_ne he
  rw[this] at hx
  have hjn:j≠n:=by
   rintro rfl
   rw[ho] at hq
   obtain rfl:=Option.some.inj hq
   exact he hd
  exact h j q d x (by omega) hq hd hx
theorem upd_self {f:Slots} {d:Nat} {v:V} (h:f d=v):upd f d v=f:=by
 funext k
 rw[upd_apply]
 split
 ·rename_i e;rw[e,h]
 ·rfl
structure Run (X:Cx) (draw:Bool) (ops:List Oper) (an:List (List Nat)) (κ:St→R) (r:Out) (rem:List Oper) (lg:List (Oper×Lg)) (σ:St):Prop where
 ex:∃(L:List (Nat×Oper×Lg)) (σ':St),Chain X ops σ L σ'∧κ σ'=some r∧L.map (fun p=>(p.1,p.2.1))=(rem.zipIdx lg.length).map (fun p=>(p.2,p.1))∧
  (draw=true→∀(p:Nat) (i:Nat) (o:Oper) (g:Lg),L[p]?=some (i,o,g)→∀(j:Nat) (q:Oper) (h:Lg),(lg++L.map (·.2))[j]?=some (q,h)→j<lg.length+p→memb (nth [] an i) j=true∨(apartS ops q o=true∧Lg.clash h g=false))
theorem runOps_chain {X:Cx} {draw:Bool} {ops:List Oper} {an:List (List Nat)} {κ:St→R} {r:Out}:∀(rem:List Oper) (lg:List (Oper×Lg)) (σ:St),(∀(i:Nat) (o:Oper),rem[i]?=some o→ops[lg.length+i]?=some o)→Proper lg.length ops σ→
  runOps X draw ops an κ rem lg σ=some r→Run X draw ops an κ r rem lg σ
 |[],lg,σ,_,_,h=>⟨[],σ,.nil σ,h,rfl,fun _ p i o g hp=>by simp at hp⟩
 |o::rem,lg,σ,hrem,hpr,h=>by
  have ho:ops[lg.length]?=some o:=hrem 0 o rfl
  cases hd:andS (dstOk X.n o.dst) (gBefore (len lg) o) with
  |false=>
   simp only[runOps,hd,sif] at h
   simp at h
  |true=>
  have hd':=hd
  simp only[andS_eq,Bool.and_eq_true,len_eq] at hd'
  have key:∀(v:V) (up:List (Nat×Box)) (g:Lg),StepN X ops o σ v up g→(∀x,v=.c .bool x→∃b,x=.b b)→orS (notS draw) (logOk ops (nth [] an (len lg)) o g lg 0)=true→
    runOps X draw ops an κ rem (app lg [(o,g)]) (σ.step o v up)=some r→Run X draw ops an κ r (o::rem) lg σ:=by
   intro v up g hs hv hlog hrun
   rw[app_eq] at hrun
   have hlen:(lg++[(o,g)]).length=lg.length+1:=by simp
   obtain ⟨⟨L,σ',c1,c2,c3,c4⟩⟩:=runOps_chain rem (lg++[(o,g)]) (σ.step o v up) (fun i q hq=>by
    rw[hlen,show lg.length+1+i=lg.length+(i+1) from by omega]
    exact hrem (i+1) q (by simpa using hq)) (by rw[hlen];exact hpr.step ho hv) hrun
   refine ⟨(lg.length,o,g)::L,σ',.cons hd'.1 hs c1,c2,?_,fun hdr p i q' g' hp j q h hj hjl=>?_⟩
   ·rw[hlen] at c3
    simp[List.zipIdx_cons,c3]
   ·cases p with
    |zero=>
     simp only[List.getElem?_cons_zero,Option.some.injEq,Prod.mk.injEq] at hp
     obtain ⟨rfl,rfl,rfl⟩:=hp
     rw[hdr] at hlog
     simp only[orS_eq,notS_eq,Bool.not_true,Bool.false_or,len_eq] at hlog
     rw[List.getElem?_append_left (by omega)] at hj
     have:=logOk_get hlog j q h hj
     simpa using this
    |succ p=>
     have e:lg++((lg.length,o,g)::L).map (·.2)=lg++[(o,g)]++L.map (·.2):=by simp
     rw[e] at hj
     exact c4 hdr p i q' g' (by simpa using hp) j q h hj (by rw[hlen];omega)
  simp only[runOps,hd,sif_true] at h
  have fin:∀(e:Eff) (rd:List Nat) (ρ:Slots),ρ=σ.sl→(∀k,evalOp X o.dst σ.sl o.op σ.bx k=k e rd)→StepN X ops o σ (normB e.v) e.up ⟨rd,wrOf e.up⟩→
    (sif (orS (notS draw) (logOk ops (nth [] an (len lg)) o ⟨rd,wrOf e.up⟩ lg 0))
     (e.v.force fun v=>forceB e.up fun up=>runOps X draw ops an κ rem (app lg [(o,⟨rd,wrOf e.up⟩)]) (applyE ⟨ρ,σ.bx⟩ o.dst ⟨normB v,up⟩)) none)=some r→Run X draw ops an κ r (o::rem) lg σ:=by
   intro e rd ρ hρ hall hs h
   cases hl:orS (notS draw) (logOk ops (nth [] an (len lg)) o ⟨rd,wrOf e.up⟩ lg 0) with
   |false=>simp[hl,sif] at h
   |true=>
    rw[hl,sif_true,force_eq,forceB_eq] at h
    subst hρ
    exact key _ _ _ hs (fun x hx=>normB_proper hx) hl h
  split at h
  ·rename_i hg
   obtain ⟨e,rd,h1,h2⟩:=evalOp_all h
   exact fin e rd σ.sl rfl h2 (.plain e rd hg h2 rfl rfl rfl) h1
  ·rename_i gd want hg
   have hprop:∀x,σ.sl gd=.c .bool x→∃v,x=.b v:=by
    intro x hx
    unfold guardOf at hg
    split at hg
    ·simp at hg
    ·rename_i gi want' hgu
     simp only[Option.some.injEq,Prod.mk.injEq] at hg
     obtain ⟨hq,rfl⟩:=hg
     have hlt:gi<lg.length:=by
      have:=hd'.2
      simp only[gBefore,hgu] at this
      simp[Nat.blt] at this
      omega
     rw[nth?_eq] at hq
     split at hq
     ·rename_i q hqq
      exact hpr gi q gd x hlt hqq hq hx
     ·simp at hq
   split at h
   ·rename_i x hx
    obtain ⟨v,rfl⟩:=hprop x hx
    have hcond:(sif want v (!v))=(v==want):=by cases want<;>cases v<;>rfl
    replace h:cond (sif want v (!v))
     (evalOp X o.dst (upd σ.sl gd (.c .bool (.b want))) o.op σ.bx fun e rd=>
      sif (orS (notS draw) (logOk ops (nth [] an (len lg)) o ⟨rd,wrOf e.up⟩ lg 0))
       (e.v.force fun v=>forceB e.up fun up=>runOps X draw ops an κ rem (app lg [(o,⟨rd,wrOf e.up⟩)]) (applyE ⟨upd σ.sl gd (.c .bool (.b want)),σ.bx⟩ o.dst ⟨normB v,up⟩)) none)
     (sif (orS (notS draw) (logOk ops (nth [] an (len lg)) o ⟨[],[]⟩ lg 0))
      (runOps X draw ops an κ rem (app lg [(o,⟨[],[]⟩)]) ⟨putS (upd σ.sl gd (.c .bool (.b (notS want)))) o.dst .ud,σ.bx⟩) none)=some r:=h
    rw[hcond] at h
    by_cases hvw:v=want
    ·subst hvw
     rw[show (v==v)=true from beq_self_eq_true v] at h
     simp only[cond_true] at h
     rw[upd_self hx] at h
     obtain ⟨e,rd,h1,h2⟩:=evalOp_all h
     exact fin e rd σ.sl rfl h2 (.yes gd v e rd hg hx h2 rfl rfl rfl) h1
    ·rw[show (v==want)=false from by simpa using hvw] at h
     simp only[cond_false] at h
     have hv':v=!want:=by cases v<;>cases want<;>simp_all
     rw[notS_eq want,←hv',upd_self hx] at h
     cases hl:orS (notS draw) (logOk ops (nth [] an (len lg)) o ⟨[],[]⟩ lg 0) with
     |false=>simp[hl,sif] at h
     |true=>
      rw[hl,sif_true] at h
      exact key .ud [] ⟨[],[]⟩ (.no gd want hg (.inl (by rw[hx,hv'])) rfl rfl rfl) (fun x hx=>by simp at hx) hl h
   ·rename_i hx
    cases hl:orS (notS draw) (logOk ops (nth [] an (len lg)) o ⟨[],[]⟩ lg 0) with
    |false=>simp[hl,sif] at h
    |true=>
     rw[hl,sif_true] at h
     exact key .ud [] ⟨[],[]⟩ (.no gd want hg (.inr hx) rfl rfl rfl) (fun x hx=>by simp at hx) hl h
   ·simp at h
  ·simp at h
section
variable {P:Program} {X:Cx} {fr:Fr}
theorem normB_ok {T:Tys} {F:Nat→Prop} {w:World} {bx:Bxs} {θ:Nat→Value} {x:V} {v:Value} (h:RelV T F w bx θ x v):RelV T F w bx θ (normB x) v:=by
 cases x with
 |c t y=>cases t with
  |bool=>
   cases h with
   |c t y v hr=>cases hr with
    |bool b=>exact .c _ _ _ (.bool b)
  |_=>exact h
 |_=>exact h
theorem put_getD {a:Act} {dst:Option Tmp} {v:Value} {n:Nat} (hn:a.tmps.size=n) (hd:dstOk n dst=true) (k:Nat):(a.put dst v).tmps.getD k undef=if dst=some k then v else a.tmps.getD k undef:=by
 cases dst with
 |none=>simp[Act.put]
 |some d=>
  have hlt:d<a.tmps.size:=by rw[hn];exact Nat.le_of_ble_eq_true hd
  simp only[Act.put,Array.getD_eq_getD_getElem?,Option.some.injEq]
  rw[Array.getElem?_setIfInBounds]
  split
  ·rename_i e;subst e;simp[hlt]
  ·rfl
theorem put_size (a:Act) (dst:Option Tmp) (v:Value):(a.put dst v).tmps.size=a.tmps.size:=by cases dst<;>simp[Act.put]
theorem put_defers (a:Act) (dst:Option Tmp) (v:Value):(a.put dst v).defers=a.defers:=by cases dst<;>rfl
theorem putS_get {f:Slots} {d:Option Tmp} {v:V} (k:Nat):putS f d v k=if d=some k then v else f k:=by
 cases d with
 |none=>simp[putS]
 |some d=>
  show upd f d v k=_
  rw[upd_apply]
  by_cases h:k=d
  ·subst h;simp
  ·rw[if_neg h,if_neg (fun e=>h (Option.some.inj e).symm)]
theorem sim_step {T:Tys} {F:Nat→Prop} {w w':World} {θ:Nat→Value} {σ:St} {a:Act} {n:Nat} {o:Oper} {e:Eff} {v:Value} {x:V} (hs:SlR T F w σ.bx θ n σ.sl a) (hd:dstOk n o.dst=true)
  (h:Aft T fr F w σ.bx θ e v w') (hx:∀F' θ',RelV T F' w' (updB σ.bx e.up) θ' e.v v→RelV T F' w' (updB σ.bx e.up) θ' x v):Sim T fr n (σ.step o x e.up) (a.put o.dst v) w':=by
 obtain ⟨F',θ',h1,h2,h3⟩:=h
 refine ⟨F',θ',h1,⟨fun k=>?_,by rw[put_size];exact hs.n,by rw[put_defers];exact hs.defers⟩⟩
 rw[put_getD hs.n hd]
 show RelV T F' w' (updB σ.bx e.up) θ' (putS σ.sl o.dst x k) _
 rw[putS_get]
 split
 ·exact hx _ _ h3
 ·exact (hs.sl k).mv h2
theorem yielded_of {ops:List Oper} {a:Act} {g:Nat} {gd:Nat} (hq:(match nth? ops g with|some q=>q.dst|none=>none)=some gd):yielded ops.toArray a.tmps g=match a.tmps[gd]? with|some (.bool b)=>some b|_=>none:=by
 unfold yielded
 rw[nth?_eq] at hq
 split at hq
 ·rename_i q hqq
  simp[hqq,hq]
  cases a.tmps[gd]? with
  |none=>rfl
  |some u=>cases u<;>rfl
 ·simp at hq
theorem bool_at {a:Act} {gd:Nat} {v:Bool} (h:a.tmps.getD gd undef=.bool v):a.tmps[gd]?=some (.bool v):=by
 rw[Array.getD_eq_getD_getElem?] at h
 cases hh:a.tmps[gd]? with
 |none=>rw[hh] at h;simp[undef] at h
 |some u=>rw[hh] at h;simp at h;rw[h]
theorem step_ok (hX:Env P X) {ops:List Oper} {i:Nat} {o:Oper} {σ:St} {v:V} {up:List (Nat×Box)} {lg:Lg} {a:Act} {w:World} (hi:ops[i]?=some o) (hd:dstOk X.n o.dst=true) (h:StepN X ops o σ v up lg) (hs:Sim X.T fr X.n σ a w)
  {K:Act→World→Prop} {Q:Exit→Act→World→Prop} (hK:∀a' w',Sim X.T fr X.n (σ.step o v up) a' w'→K a' w'):wpOp P ops.toArray Q i K a w:=by
 unfold wpOp
 have hi':ops.toArray[i]?=some o:=by simpa using hi
 rw[hi']
 simp only
 obtain ⟨F,θ,hw,hsl⟩:=hs
 have run:∀(e:Eff) (rd:List Nat),(∀k,evalOp X o.dst σ.sl o.op σ.bx k=k e rd)→v=normB e.v→up=e.up→o.wp P a w K Q:=by
  intro e rd hall hv hu
  have h1:=hall fun e rd=>some (.ret [])
  have ho:=opnd_ok (ρ:=σ.sl) (a:=a) hsl.sl
  have open_:∀(p:Eff→List Nat→Prop),p e rd→True:=fun _ _=>trivial
  obtain ⟨e2,rd2,g1,g2⟩:=evalOp_good (k:=fun e' rd'=>open Classical in if e'=e∧rd'=rd then some (.ret []) else none) (r:=.ret []) hX hw ho (by rw[hall];simp)
  have he:e2=e:=by
   open Classical in
   by_cases hh:e2=e∧rd2=rd
   ·exact hh.1
   ·simp only[hh,if_false] at g1;simp at g1
  subst he
  refine g2 K Q fun u w' hA=>hK _ _ ?_
  rw[hv,hu]
  exact sim_step hsl hd hA fun F' θ' hr=>normB_ok hr
 cases h with
 |plain e rd hg hall hv hu hl=>
  have hwant:Region.wanted o (yielded ops.toArray a.tmps)=true:=by
   unfold guardOf at hg
   unfold Region.wanted
   split at hg
   ·rename_i hgu;rw[hgu]
   ·simp at hg
  rw[if_pos hwant]
  exact .inl (run e rd hall hv hu)
 |yes gd want e rd hg hsg hall hv hu hl=>
  have hwant:Region.wanted o (yielded ops.toArray a.tmps)=true:=by
   unfold guardOf at hg
   unfold Region.wanted
   split at hg
   ·simp at hg
   ·rename_i g want' hgu
    simp only[Option.some.injEq,Prod.mk.injEq] at hg
    obtain ⟨hq,rfl⟩:=hg
    rw[hgu]
    simp only
    rw[yielded_of hq]
    have hr:=hsl.sl gd
    rw[hsg] at hr
    rw[bool_at (bool_ok hr)]
    simp[C.B]
  rw[if_pos hwant]
  exact .inl (run e rd hall hv hu)
 |no gd want hg hsg hv hu hl=>
  have hwant:¬Region.wanted o (yielded ops.toArray a.tmps)=true:=by
   unfold guardOf at hg
   unfold Region.wanted
   split at hg
   ·simp at hg
   ·rename_i g want' hgu
    simp only[Option.some.injEq,Prod.mk.injEq] at hg
    obtain ⟨hq,rfl⟩:=hg
    rw[hgu]
    simp only
    rw[yielded_of hq]
    have hr:=hsl.sl gd
    rcases hsg with hsg|hsg
    ·rw[hsg] at hr
     rw[bool_at (bool_ok hr)]
     cases want'<;>simp[C.B]
    ·rw[hsg] at hr
     generalize hz:a.tmps.getD gd undef=z at hr
     cases hr
     rw[Array.getD_eq_getD_getElem?] at hz
     cases hh:a.tmps[gd]? with
     |none=>simp
     |some u=>rw[hh] at hz;simp at hz;subst hz;simp[undef]
  rw[if_neg hwant]
  refine hK _ _ ?_
  rw[hv,hu]
  exact sim_step (e:=⟨.ud,[]⟩) hsl hd (Aft.same hw .ud) fun F' θ' hr=>hr
theorem chain_ok (hX:Env P X) {ops:List Oper} {Q:Exit→Act→World→Prop} {σ':St}:∀(L:List (Nat×Oper×Lg)) (σ:St) (a:Act) (w:World),Chain X ops σ L σ'→(∀i o g,(i,o,g)∈L→ops[i]?=some o)→Sim X.T fr X.n σ a w→
  (∀a' w',Sim X.T fr X.n σ' a' w'→Q .normal a' w')→wpOps P ops.toArray Q (L.map (·.1)) a w
 |[],σ,a,w,hc,_,hs,hQ=>by
  cases hc
  exact hQ a w hs
 |(i,o,g)::L,σ,a,w,hc,hi,hs,hQ=>by
  cases hc with
  |cons hd h hr=>
   show wpOps P ops.toArray Q (i::L.map (·.1)) a w
   rw[wpOps_cons]
   exact step_ok hX (hi i o g (List.mem_cons_self ..)) hd h hs fun a' w' hs'=>chain_ok hX L _ a' w' hr (fun i o g hm=>hi i o g (List.mem_cons_of_mem _ hm)) hs' hQ
end
end Go.Ev
namespace Go.Ev
theorem uniR_mem {j:Nat}:∀ {l m:List Nat},j∈uniR l m→j∈l∨j∈m
 |[],m,h=>.inr h
 |a::r,m,h=>by
  replace h:j∈sif (memb m a) (uniR r m) (a::uniR r m):=h
  cases hm:memb m a with
  |true=>rw[hm,sif_true] at h;exact (uniR_mem h).imp (List.mem_cons_of_mem _) id
  |false=>
   rw[hm,sif_false] at h
   rcases List.mem_cons.1 h with rfl|h
   ·exact .inl (List.mem_cons_self ..)
   ·exact (uniR_mem h).imp (List.mem_cons_of_mem _) id
theorem uni_mem {j:Nat} {l m:List Nat} (h:j∈uni l m):j∈l∨j∈m:=by
 unfold uni at h
 split at h
 ·exact .inl h
 ·exact uniR_mem h
theorem foldl_mem {acc:List (List Nat)} {j:Nat}:∀(l:List Edge) (s:List Nat),j∈l.foldl (fun s e=>sif (bindsE e) (sif (memb s e.on) s (e.on::uni (nth [] acc e.on) s)) s) s→j∈s∨∃e,e∈l∧bindsE e=true∧(j=e.on∨j∈nth [] acc e.on)
 |[],s,h=>.inl h
 |e::r,s,h=>by
  rcases foldl_mem r _ h with h|⟨e',h1,h2⟩
  ·replace h:j∈sif (bindsE e) (sif (memb s e.on) s (e.on::uni (nth [] acc e.on) s)) s:=h
   cases hb:bindsE e with
   |false=>rw[hb,sif_false] at h;exact .inl h
   |true=>
    rw[hb,sif_true] at h
    cases hm:memb s e.on with
    |true=>rw[hm,sif_true] at h;exact .inl h
    |false=>
     rw[hm,sif_false] at h
     rcases List.mem_cons.1 h with h|h
     ·exact .inr ⟨e,List.mem_cons_self ..,hb,.inl h⟩
     ·rcases uni_mem h with h|h
      ·exact .inr ⟨e,List.mem_cons_self ..,hb,.inr h⟩
      ·exact .inl h
  ·exact .inr ⟨e',List.mem_cons_of_mem _ h1,h2⟩
theorem anc_spec:∀(l:List Oper) (acc:List (List Nat)),(∀i,i<acc.length→(anc l acc)[i]?=acc[i]?)∧
  ∀(i:Nat) (o:Oper),l[i]?=some o→∀j,j∈nth [] (anc l acc) (acc.length+i)→∃e,e∈o.after.toList∧bindsE e=true∧(j=e.on∨j∈nth [] (anc l acc) e.on)
 |[],acc=>⟨fun i _=>rfl,fun i o h=>by simp at h⟩
 |o::r,acc=>by
  have e0:∃x,x=o.after.toList.foldl (fun s e=>sif (bindsE e) (sif (memb s e.on) s (e.on::uni (nth [] acc e.on) s)) s) []:=⟨_,rfl⟩
  obtain ⟨x,hx⟩:=e0
  have e1:anc (o::r) acc=anc r (acc++[x]):=by
   show anc r (app acc [_])=_
   rw[app_eq,←hx]
  obtain ⟨h1,h2⟩:=anc_spec r (acc++[x])
  have hlen:(acc++[x]).length=acc.length+1:=by simp
  rw[e1]
  refine ⟨fun i hi=>?_,fun i q hq j hj=>?_⟩
  ·rw[h1 i (by omega),List.getElem?_append_left hi]
  ·cases i with
   |zero=>
    simp at hq;subst hq
    rw[Nat.add_zero,nth_eq,List.getD_eq_getElem?_getD,h1 acc.length (by omega),List.getElem?_append_right (Nat.le_refl _)] at hj
    simp at hj
    rw[hx] at hj
    rcases foldl_mem _ _ hj with h|⟨e,a1,a2,a3⟩
    ·simp at h
    ·refine ⟨e,a1,a2,a3.imp id fun hm=>?_⟩
     rw[nth_eq,List.getD_eq_getElem?_getD] at hm⊢
     by_cases hlt:e.on<acc.length
     ·rw[h1 e.on (by omega),List.getElem?_append_left hlt];exact hm
     ·rw[List.getElem?_eq_none (by omega)] at hm;simp at hm
   |succ i=>
    have:=h2 i q (by simpa using hq) j (by rw[hlen,show acc.length+1+i=acc.length+(i+1) from by omega];exact hj)
    exact this
theorem edgesB_spec:∀ {l:List Oper} {n:Nat},edgesB l n=true→∀(i:Nat) (o:Oper),l[i]?=some o→∀e,e∈o.after.toList→bindsE e=true→e.on<n+i
 |[],n,_,i,o,h,_,_,_=>by simp at h
 |q::r,n,h,i,o,ho,e,he,hb=>by
  simp only[edgesB,andS_eq,Bool.and_eq_true] at h
  cases i with
  |zero=>
   simp at ho;subst ho
   have key:∀ {l:List Edge},allb (edgeBack n) l=true→∀e,e∈l→edgeBack n e=true:=by
    intro l
    induction l with
    |nil=>intro _ e he;simp at he
    |cons y r ih=>
     intro hl e he
     simp only[allb,andS_eq,Bool.and_eq_true] at hl
     rcases List.mem_cons.1 he with rfl|he
     ·exact hl.1
     ·exact ih hl.2 e he
   have:=key h.1 e he
   simp only[edgeBack,orS_eq,notS_eq,hb,Bool.not_true,Bool.false_or] at this
   exact Nat.le_of_ble_eq_true this
  |succ i=>
   have:=edgesB_spec h.2 i o (by simpa using ho) e he hb
   omega
section
variable {P:Program} {X:Cx} {fr:Fr}
structure Inv (ops:List Oper) (listed:Array Bool) (L:List (Nat×Oper×Lg)):Prop where
 size:listed.size=ops.length
 mem:∀i o g,(i,o,g)∈L→ops[i]?=some o∧listed.getD i false=false
 all:∀i,i<ops.length→listed.getD i false=false→∃o g,(i,o,g)∈L
 sorted:L.Pairwise fun a b=>a.1<b.1
 ind:L.Pairwise fun a b=>memb (nth [] (anc ops []) b.1) a.1=true∨(apartS ops a.2.1 b.2.1=true∧Lg.clash a.2.2 b.2.2=false)
 closed:∀i o,listed.getD i false=true→ops[i]?=some o→∀e,e∈o.after.toList→bindsE e=true→listed.getD e.on false=true
theorem ready_iff {ops:List Oper} {listed:Array Bool} (hsz:listed.size=ops.length) (i:Nat):i∈Region.ready .any ops.toArray listed↔∃o,ops[i]?=some o∧listed.getD i false=false∧∀e,e∈o.after.toList→bindsE e=true→listed.getD e.on false=true:=by
 unfold Region.ready
 simp only[List.mem_filter,List.mem_range,List.size_toArray,Bool.and_eq_true,Bool.not_eq_true']
 constructor
 ·rintro ⟨h1,h2,h3⟩
  have ho:ops[i]?=some ops[i]:=List.getElem?_eq_getElem h1
  refine ⟨_,ho,?_,fun e he hb=>?_⟩
  ·simp only[Array.getD_eq_getD_getElem?] at h2⊢
   rw[Array.getElem?_eq_getElem (by omega)] at h2⊢
   simpa using h2
  ·rw[show ops.toArray[i]?=some ops[i] from by simpa using ho] at h3
   simp only[Option.map_some,Option.getD_some] at h3
   rw[←Array.all_toList,List.all_eq_true] at h3
   have:=h3 e he
   unfold bindsE at hb
   rw[hb] at this
   simpa using this
 ·rintro ⟨o,ho,h2,h3⟩
  have h1:i<ops.length:=(List.getElem?_eq_some_iff.1 ho).1
  refine ⟨h1,?_,?_⟩
  ·simp only[Array.getD_eq_getD_getElem?] at h2⊢
   rw[Array.getElem?_eq_getElem (by omega)] at h2⊢
   simpa using h2
  ·rw[show ops.toArray[i]?=some o from by simpa using ho]
   simp only[Option.map_some,Option.getD_some]
   rw[←Array.all_toList,List.all_eq_true]
   intro e he
   cases hb:Region.binds .any e with
   |false=>rfl
   |true=>
    have:=h3 e he hb
    simpa using this
theorem anc_listed {ops:List Oper} {listed:Array Bool} (hB:edgesB ops 0=true) (hcl:∀i o,listed.getD i false=true→ops[i]?=some o→∀e,e∈o.after.toList→bindsE e=true→listed.getD e.on false=true):
  ∀(n m:Nat),m≤n→listed.getD m false=true→∀j,j∈nth [] (anc ops []) m→listed.getD j false=true:=by
 intro n
 induction n with
 |zero=>
  intro m hm hl j hj
  cases ho:ops[m]? with
  |none=>
   have:(anc ops [])[m]?=none:=by
    have key:∀(l:List Oper) (acc:List (List Nat)),(anc l acc).length=acc.length+l.length:=by
     intro l
     induction l with
     |nil=>intro acc;rfl
     |cons o r ih=>intro acc;show (anc r (app acc [_])).length=_;rw[ih,app_eq];simp;omega
    rw[List.getElem?_eq_none_iff,key]
    rw[List.getElem?_eq_none_iff] at ho
    simpa using ho
   rw[nth_eq,List.getD_eq_getElem?_getD,this] at hj
   simp at hj
  |some o=>
   obtain ⟨e,h1,h2,h3⟩:=(anc_spec ops []).2 m o ho j (by simpa using hj)
   have:=edgesB_spec hB m o ho e h1 h2
   omega
 |succ n ih=>
  intro m hm hl j hj
  cases ho:ops[m]? with
  |none=>
   have:(anc ops [])[m]?=none:=by
    have key:∀(l:List Oper) (acc:List (List Nat)),(anc l acc).length=acc.length+l.length:=by
     intro l
     induction l with
     |nil=>intro acc;rfl
     |cons o r ih=>intro acc;show (anc r (app acc [_])).length=_;rw[ih,app_eq];simp;omega
    rw[List.getElem?_eq_none_iff,key]
    rw[List.getElem?_eq_none_iff] at ho
    simpa using ho
   rw[nth_eq,List.getD_eq_getElem?_getD,this] at hj
   simp at hj
  |some o=>
   obtain ⟨e,h1,h2,h3⟩:=(anc_spec ops []).2 m o ho j (by simpa using hj)
   have hlt:=edgesB_spec hB m o ho e h1 h2
   have hle:=hcl m o hl ho e h1 h2
   rcases h3 with rfl|h3
   ·exact hle
   ·exact ih e.on (by omega) hle j h3
theorem any_ok (hX:Env P X) {ops:List Oper} {Q:Exit→Act→World→Prop} {σ':St} (hB:edgesB ops 0=true) (hQ:∀a' w',Sim X.T fr X.n σ' a' w'→Q .normal a' w'):
  ∀(fuel:Nat) (listed:Array Bool) (L:List (Nat×Oper×Lg)) (σ:St) (a:Act) (w:World),Inv ops listed L→L.length≤fuel→Chain X ops σ L σ'→Sim X.T fr X.n σ a w→wpAny P .any ops.toArray Q fuel listed a w:=by
 intro fuel
 induction fuel with
 |zero=>
  intro listed L σ a w hI hlen hc hs
  have:L=[]:=List.eq_nil_of_length_eq_zero (by omega)
  subst this
  cases hc
  refine ⟨?_,hQ a w hs⟩
  cases hr:Region.ready .any ops.toArray listed with
  |nil=>rfl
  |cons i t=>
   have:i∈Region.ready .any ops.toArray listed:=by rw[hr];exact List.mem_cons_self ..
   obtain ⟨o,h1,h2,_⟩:=(ready_iff hI.size i).1 this
   obtain ⟨o',g,hm⟩:=hI.all i (List.getElem?_eq_some_iff.1 h1).1 h2
   simp at hm
 |succ fuel ih=>
  intro listed L σ a w hI hlen hc hs
  refine ⟨fun hr=>?_,fun i hi=>?_⟩
  ·cases L with
   |nil=>cases hc;exact hQ a w hs
   |cons p L=>
    obtain ⟨i,o,g⟩:=p
    exfalso
    obtain ⟨h1,h2⟩:=hI.mem i o g (List.mem_cons_self ..)
    have:i∈Region.ready .any ops.toArray listed:=by
     refine (ready_iff hI.size i).2 ⟨o,h1,h2,fun e he hb=>?_⟩
     have hlt:=edgesB_spec hB i o h1 e he hb
     cases hl:listed.getD e.on false with
     |true=>rfl
     |false=>
      obtain ⟨o',g',hm⟩:=hI.all e.on (by have:=(List.getElem?_eq_some_iff.1 h1).1;omega) hl
      rcases List.mem_cons.1 hm with heq|hm
      ·simp only[Prod.mk.injEq] at heq;omega
      ·have:=(List.pairwise_cons.1 hI.sorted).1 _ hm
       simp only at this
       omega
    rw[hr] at this
    simp at this
  ·obtain ⟨o,h1,h2,h3⟩:=(ready_iff hI.size i).1 hi
   obtain ⟨o',g,hm⟩:=hI.all i (List.getElem?_eq_some_iff.1 h1).1 h2
   have ho:=(hI.mem i o' g hm).1
   rw[h1] at ho;obtain rfl:=Option.some.inj ho
   obtain ⟨pre,post,rfl⟩:=List.append_of_mem hm
   have hpre:∀j q h,(j,q,h)∈pre→apartS ops q o=true∧Lg.clash h g=false:=by
    intro j q h hj
    have hind:=(List.pairwise_append.1 hI.ind).2.2 (j,q,h) hj (i,o,g) (List.mem_cons_self ..)
    refine hind.resolve_left fun hmb=>?_
    have hjun:=(hI.mem j q h (List.mem_append_left _ hj)).2
    have:listed.getD j false=true:=by
     obtain ⟨e,e1,e2,e3⟩:=(anc_spec ops []).2 i o h1 j (by simpa using (memb_iff _ _).1 hmb)
     have hle:=h3 e e1 e2
     rcases e3 with rfl|e3
     ·exact hle
     ·exact anc_listed hB hI.closed e.on e.on (Nat.le_refl _) hle j e3
    rw[this] at hjun;simp at hjun
   have hb:=bubble pre σ hc hpre
   cases hb with
   |cons hd hstep hr=>
    refine step_ok hX h1 hd hstep hs fun a' w' hs'=>?_
    refine ih _ (pre++post) _ a' w' ?_ (by simp at hlen⊢;omega) hr hs'
    have hil:i<listed.size:=by rw[hI.size];exact (List.getElem?_eq_some_iff.1 h1).1
    have hset:∀k,(listed.setIfInBounds i true).getD k false=if k=i then true else listed.getD k false:=by
     intro k
     simp only[Array.getD_eq_getD_getElem?,Array.getElem?_setIfInBounds]
     by_cases hk:k=i
     ·subst hk;simp[hil]
     ·rw[if_neg (Ne.symm hk),if_neg hk]
    have hsub:List.Sublist (pre++post) (pre++(i,o,g)::post):=List.Sublist.append_left (List.sublist_cons_self ..) _
    have hne:∀p,p∈pre++post→p.1≠i:=by
     intro p hp
     have hs:=List.pairwise_append.1 hI.sorted
     rcases List.mem_append.1 hp with hp|hp
     ·have:=hs.2.2 p hp (i,o,g) (List.mem_cons_self ..);simp only at this;omega
     ·have:=(List.pairwise_cons.1 hs.2.1).1 p hp;simp only at this;omega
    refine ⟨by simpa using hI.size,fun k q h hk=>?_,fun k hk hl=>?_,hI.sorted.sublist hsub,hI.ind.sublist hsub,fun k q hl hq e he hbe=>?_⟩
    ·have:=hI.mem k q h (hsub.subset hk)
     refine ⟨this.1,?_⟩
     rw[hset,if_neg (hne _ hk)]
     exact this.2
    ·rw[hset] at hl
     split at hl
     ·simp at hl
     ·rename_i hki
      obtain ⟨q,h,hm⟩:=hI.all k hk hl
      refine ⟨q,h,?_⟩
      rcases List.mem_append.1 hm with hm|hm
      ·exact List.mem_append_left _ hm
      ·rcases List.mem_cons.1 hm with he|hm
       ·simp only[Prod.mk.injEq] at he;exact absurd he.1 hki
       ·exact List.mem_append_right _ hm
    ·rw[hset]
     split
     ·rfl
     ·rw[hset] at hl
      split at hl
      ·rename_i hki
       subst hki
       rw[h1] at hq;obtain rfl:=Option.some.inj hq
       exact h3 e he hbe
      ·exact hI.closed k q hl hq e he hbe
end
end Go.Ev
namespace Go.Ev
section
variable {T:Tys} {fr:Fr} {F:Nat→Prop} {w:World} {bx:Bxs} {θ:Nat→Value} {bs:List Nat}
def frzB (T:Tys) (bx:Bxs) (bs:List Nat):Bxs:=fun b=>match bx b with|some x=>some (sif (memb bs b) (.dead (x.ver+1)) (x.frz T bx bs))|none=>none
theorem frzs_get (T:Tys) (bx:Bxs) (bs:List Nat):∀(l:List V) (i:Nat),(V.frzs T bx bs l)[i]?=(l[i]?).map (V.frz T bx bs)
 |[],i=>by simp[V.frzs]
 |v::r,0=>by simp[V.frzs]
 |v::r,i+1=>by simp[V.frzs,frzs_get T bx bs r i]
theorem frzs_len (T:Tys) (bx:Bxs) (bs:List Nat) (l:List V):(V.frzs T bx bs l).length=l.length:=by
 induction l with
 |nil=>rfl
 |cons v r ih=>simp[V.frzs,ih]
theorem frzB_out {b:Nat} {x:Box} (h:bx b=some x) (hb:memb bs b=false):frzB T bx bs b=some (x.frz T bx bs):=by
 unfold frzB;rw[h];simp only;rw[hb,sif_false]
theorem frzB_in {b:Nat} {x:Box} (h:bx b=some x) (hb:memb bs b=true):frzB T bx bs b=some (.dead (x.ver+1)):=by
 unfold frzB;rw[h];simp only;rw[hb,sif_true]
theorem frz_ver (x:Box):(x.frz T bx bs).ver=x.ver:=by cases x<;>rfl
theorem part_rel {F':Nat→Prop} {b ver m:Nat} {lo hi:Int} {t:TypeId} {es:List (List C)} {v:Value} (hy:bx b=some (.arr ver t es m)) (hR:RelB T F' w bx θ b (.arr ver t es 0)) (hx:RelV T F w bx θ (.vw b ver lo hi) v) (hg:∀g,blkOf (θ b)=some g→F' g):
  RelC T F' w (.sl t) (.l ((es.take hi.toNat).drop lo.toNat)) v:=by
 obtain ⟨_,d,A',c',hd',h0,hlh,hhi,rfl,hcc,hblk,_⟩:=vw_now hx hy (Nat.beq_refl _)
 have hsl:=part_len h0 hlh hhi
 rcases Int.lt_or_eq_of_le hlh with hlt|rfl
 ·obtain ⟨g,og,e2,rfl⟩:=hblk hlt
  obtain ⟨A,cap,us,hth,hul,hrw,hA⟩:=arr_rows hR hd'
  rw[←hsl]
  have hp:=hrw.part lo.toNat hi.toNat
  refine .sl t d _ g (og+lo.toNat*d.cts.length) c' (fun i j=>((us.take (hi.toNat*d.cts.length)).drop (lo.toNat*d.cts.length)).getD (i*d.cts.length+j) undef) hd' (hg g (by rw[e2];rfl)) (by omega) hp.len (fun i c j x a1 a2=>?_) (fun i c j x ct a1 a2 a3=>?_)
  ·rcases hA with ⟨rfl,rfl,rfl⟩|⟨g',o',cs,rfl,h1,h2,h3,rfl⟩
   ·simp at hhi;omega
   ·rw[hth] at e2
    simp only[Value.slice.injEq,Option.some.injEq,Addr.mk.injEq,true_and] at e2
    obtain ⟨⟨rfl,rfl,_⟩,_⟩:=e2
    have hi':i<(hi-lo).toNat:=by rw[←hsl];exact (List.getElem?_eq_some_iff.1 a1).1
    have hj:j<d.cts.length:=by rw[←hp.len i c a1];exact (List.getElem?_eq_some_iff.1 a2).1
    have q1:lo.toNat*d.cts.length+(i*d.cts.length+j)<hi.toNat*d.cts.length:=by
     have:=idx_lt (show lo.toNat+i<hi.toNat by omega) hj
     rw[Nat.add_mul] at this;omega
    have q2:hi.toNat*d.cts.length≤es.length*d.cts.length:=Nat.mul_le_mul_right _ (by omega)
    have q3:es.length*d.cts.length≤cap*d.cts.length:=Nat.mul_le_mul_right _ h3.1
    have q4:o'+(lo.toNat*d.cts.length+(i*d.cts.length+j))<cs.size:=by omega
    simp only[List.getD_eq_getElem?_getD,List.getElem?_drop,List.getElem?_take]
    rw[if_pos q1,if_pos (by omega),Nat.add_assoc]
    simp[World.cell?,h1,q4]
  ·clear hA
   have hi':i<(hi-lo).toNat:=by rw[←hsl];exact (List.getElem?_eq_some_iff.1 a1).1
   have hj:j<d.cts.length:=(List.getElem?_eq_some_iff.1 a3).1
   have q1:lo.toNat*d.cts.length+(i*d.cts.length+j)<hi.toNat*d.cts.length:=by
    have:=idx_lt (show lo.toNat+i<hi.toNat by omega) hj
    rw[Nat.add_mul] at this;omega
   have q2:hi.toNat*d.cts.length≤es.length*d.cts.length:=Nat.mul_le_mul_right _ (by omega)
   have hlen:i*d.cts.length+j<((us.take (hi.toNat*d.cts.length)).drop (lo.toNat*d.cts.length)).length:=by
    rw[List.length_drop,List.length_take,hul];omega
   refine hp.rel i c j x ct _ a1 a2 a3 ?_
   rw[List.getD_eq_getElem?_getD,List.getElem?_eq_getElem hlen];rfl
 ·have:((es.take lo.toNat).drop lo.toNat)=[]:=by simp
  rw[this]
  have:(lo-lo).toNat=0:=by omega
  rw[this]
  exact .sl0 _ _ _
theorem membs_mem:∀ {f:List Nat},membs bs f=true→∀c,c∈f→memb bs c=true
 |b::r,h,c,hc=>by
  simp only[membs,andS_eq,Bool.and_eq_true] at h
  rcases List.mem_cons.1 hc with rfl|hc
  ·exact h.1
  ·exact membs_mem h.2 c hc
theorem not3 {m:Nat} (h:notS (Nat.beq m 3)=true):m≠3:=by
 rintro rfl
 simp[notS] at h
theorem frzR (hw:WR T fr F w bx θ) {b v m:Nat} {t:TypeId} {es:List (List C)} (hm:memb bs b=true) (hb:bx b=some (.arr v t es m)) (hm3:m≠3):RelB T (FzF T F w bx θ bs) w bx θ b (.arr v t es 0):=by
 by_cases h2:2≤m
 ·have h0:m≠0:=by omega
  exact RelB.recast (m':=0) (hw.box b _ hb) ((hw.lin b _ hb h0).1 hm3) (by decide) (fun _ k hk=>.inr ⟨b,_,(memb_iff _ _).1 hm,hb,.inr ⟨h0,hk⟩⟩) rfl
 ·obtain ⟨d,A,cap,q1,q2,q3,q4⟩:=arr_of hw hb h2
  refine ⟨d,A,cap,q1,q2,q3,q4.imp id ?_⟩
  rintro ⟨g,o,cs,g1,g2,g3,g4,g5⟩
  exact ⟨g,o,cs,g1,g2,g3,g4,fun i c j x ct v a1 a2 a3 a4=>CR.mv (m:=0) (g5 i c j x ct v a1 a2 a3 a4) (fun _ h=>.inl h) (fun _ _=>rfl) fun _ _ _=>rfl⟩
theorem frzV_ok (hw:WR T fr F w bx θ) {x:V} {v:Value} (h:RelV T F w bx θ x v):RelV T (FzF T F w bx θ bs) w (frzB T bx bs) θ (x.frz T bx bs) v:=by
 have hin:∀ {b:Nat} {y:Box},memb bs b=true→bx b=some y→y.live=true→∀g,blkOf (θ b)=some g→FzF T F w bx θ bs g:=fun hb hy hl g hg=>.inr ⟨_,_,(memb_iff _ _).1 hb,hy,.inl ⟨hl,hg⟩⟩
 induction h with
 |un v=>exact .un v
 |ud=>exact .ud
 |c t x v hr=>exact .c t x v (hr.mv (fun _ h=>.inl h) fun _ _=>rfl)
 |nl=>exact .nl
 |np=>exact .np
 |ow b ver v y hb hv hs hh=>
  show RelV T _ w _ θ (sif (memb bs b) (match bx b with
   |some (.arr v t es m)=>sif (andS (Nat.beq v ver) (notS (Nat.beq m 3))) (.c (.sl t) (.l es)) .un
   |_=>.un) (.ow b ver)) v
  cases hm:memb bs b with
  |true=>
   rw[sif_true,hb]
   cases y with
   |arr v' t es md=>
    simp only
    cases hc:andS (Nat.beq v' ver) (notS (Nat.beq md 3)) with
    |false=>exact .un _
    |true=>
     rw[sif_true]
     rw[andS_eq,Bool.and_eq_true] at hc
     obtain ⟨_,rfl⟩:=ow_now (T:=T) (F:=F) (w:=w) (.ow b ver v _ hb hv hs hh) hb hc.1
     exact .c _ _ _ (freeze_arr (frzR hw hm hb (not3 hc.2)) (fun _ h=>h) (hin hm hb rfl))
   |_=>exact .un _
  |false=>
   rw[sif_false]
   refine .ow b ver v _ (frzB_out hb hm) (by rw[frz_ver];exact hv) hs fun e=>?_
   rw[frz_ver] at e
   obtain ⟨t,es,md,rfl,hvv⟩:=hh e
   exact ⟨t,es,md,rfl,hvv⟩
 |vw b ver lo hi v y hb hv hs hh=>
  show RelV T _ w _ θ (sif (memb bs b) (match bx b with
   |some (.arr v t es m)=>sif (andS (Nat.beq v ver) (notS (Nat.beq m 3))) (.c (.sl t) (.l ((es.take hi.toNat).drop lo.toNat))) .un
   |_=>.un) (.vw b ver lo hi)) v
  cases hm:memb bs b with
  |true=>
   rw[sif_true,hb]
   cases y with
   |arr v' t es md=>
    simp only
    cases hc:andS (Nat.beq v' ver) (notS (Nat.beq md 3)) with
    |false=>exact .un _
    |true=>
     rw[sif_true]
     rw[andS_eq,Bool.and_eq_true] at hc
     have:=Nat.eq_of_beq_eq_true hc.1;subst this
     exact .c _ _ _ (part_rel (F:=F) hb (frzR hw hm hb (not3 hc.2)) (.vw b v' lo hi v _ hb hv hs hh) (hin hm hb rfl))
   |_=>exact .un _
  |false=>
   rw[sif_false]
   refine .vw b ver lo hi v _ (frzB_out hb hm) (by rw[frz_ver];exact hv) hs fun e=>?_
   rw[frz_ver] at e
   obtain ⟨t,es,md,d,A,c,rfl,hrest⟩:=hh e
   exact ⟨t,es,md,d,A,c,rfl,hrest⟩
 |rf b ver ix off e v y hb hv hs hh=>
  show RelV T _ w _ θ (sif (memb bs b) .un (.rf b ver ix off e)) v
  cases hm:memb bs b with
  |true=>rw[sif_true];exact .un _
  |false=>
   rw[sif_false]
   refine .rf b ver ix off e v _ (frzB_out hb hm) (by rw[frz_ver];exact hv) hs fun e1 e2=>?_
   rw[frz_ver] at e1
   obtain ⟨t,es,d,g,o,cap,rfl,hrest⟩:=hh e1 (by cases y<;>first|exact e2|simp[Box.m,Box.frz] at e2)
   exact ⟨t,es,d,g,o,cap,rfl,hrest⟩
 |mp b ver v y hb hv hs hh=>
  show RelV T _ w _ θ (sif (memb bs b) .un (.mp b ver)) v
  cases hm:memb bs b with
  |true=>rw[sif_true];exact .un _
  |false=>
   rw[sif_false]
   refine .mp b ver v _ (frzB_out hb hm) (by rw[frz_ver];exact hv) hs fun e=>?_
   rw[frz_ver] at e
   obtain ⟨t,es,rfl,hvv⟩:=hh e
   exact ⟨t,es,rfl,hvv⟩
 |pt b ver off v y hb hv hs hh=>
  show RelV T _ w _ θ (sif (memb bs b) (match bx b with
   |some (.var v t cells)=>sif (Nat.beq v ver) (match tget T t with
    |some d=>match lend bx d.cts cells with
     |some (cs,f)=>sif (membs bs f) (match (generalizing:=false) off with|0=>.c (.pt t) (.p cs)|off=>.fa d.cts cs off) .un
     |none=>.un
    |none=>.un) .un
   |_=>.un) (.pt b ver off)) v
  cases hm:memb bs b with
  |true=>
   rw[sif_true,hb]
   cases y with
   |var v' t cells=>
    simp only
    cases hc:Nat.beq v' ver with
    |false=>exact .un _
    |true=>
     rw[sif_true]
     have:=Nat.eq_of_beq_eq_true hc;subst this
     cases htd:tget T t with
     |none=>exact .un _
     |some td=>
      simp only
      cases hcs:lend bx td.cts cells with
      |none=>exact .un _
      |some q=>
       obtain ⟨cs,f⟩:=q
       simp only
       cases hmf:membs bs f with
       |false=>exact .un _
       |true=>
        rw[sif_true]
        obtain ⟨t2,cells2,g,e3,e4,rfl⟩:=hh rfl
        simp only[Box.var.injEq,true_and] at e3
        obtain ⟨rfl,rfl⟩:=e3
        obtain ⟨g',wcs,ee,d,k1,k2,k3,k4,k5,k6⟩:=hw.box b _ hb
        rw[e4] at k1
        simp only[Value.pointer.injEq,Option.some.injEq,Addr.mk.injEq,true_and] at k1
        obtain ⟨rfl,_⟩:=k1
        rw[htd] at k4
        obtain rfl:=Option.some.inj k4
        obtain ⟨l1,l2⟩:=lend_ok (T:=T) (F:=F) (F':=FzF T F w bx θ bs) (w:=w) (θ:=θ) hcs
        have l3:=l2 (fun _ h=>.inl h) (fun c hc v t es md hbc h3=>freeze_arr (frzR hw (membs_mem hmf c hc) hbc h3) (fun _ h=>h) (hin (membs_mem hmf c hc) hbc rfl))
        have c1:∀(j:Nat) (c:C),cs[j]?=some c→w.cell? ⟨g,0+j,none⟩=some (wcs.getD j undef):=fun j c hj=>by
         have hj':j<wcs.size:=by rw[k3,k5,←l1];exact (List.getElem?_eq_some_iff.1 hj).1
         simp[World.cell?,k2,hj']
        have c2:∀(j:Nat) (c:C) (ct:CT),cs[j]?=some c→td.cts[j]?=some ct→RelC T (FzF T F w bx θ bs) w ct c (wcs.getD j undef):=fun j c ct hj hct=>by
         obtain ⟨x,a1,a2⟩:=l3 j c ct hj hct
         have hj':j<wcs.size:=by rw[k3];exact (List.getElem?_eq_some_iff.1 a1).1
         refine a2 _ (k6 j x _ a1 ?_)
         simp[hj']
        cases off with
        |zero=>exact .c _ _ _ (.pt t td cs g 0 _ htd (hin hm hb rfl g (by rw[e4];rfl)) l1 c1 c2)
        |succ off=>
         have:=RelV.fa (T:=T) (F:=FzF T F w bx θ bs) (w:=w) (bx:=frzB T bx bs) (θ:=θ) td.cts cs (off+1) g 0 (fun j=>wcs.getD j undef) (hin hm hb rfl g (by rw[e4];rfl)) l1 c1 c2
         rwa [Nat.zero_add] at this
   |_=>exact .un _
  |false=>
   rw[sif_false]
   refine .pt b ver off v _ (frzB_out hb hm) (by rw[frz_ver];exact hv) hs fun e=>?_
   rw[frz_ver] at e
   obtain ⟨t,cells,g,rfl,h1,h2⟩:=hh e
   exact ⟨t,_,g,rfl,h1,h2⟩
 |pe b ver ix off nb v y hb hv hs hh=>
  show RelV T _ w _ θ (sif (memb bs b) (match bx b with
   |some (.arr v t es m)=>sif (andS (andS (Nat.beq v ver) (notS (Nat.beq m 3))) (notS nb)) (match tget T t with|some d=>.fa d.cts (es.getD ix.toNat []) off|none=>.un) .un
   |_=>.un) (.pe b ver ix off nb)) v
  cases hm:memb bs b with
  |true=>
   rw[sif_true,hb]
   cases y with
   |arr v' t es md=>
    simp only
    cases hc:andS (andS (Nat.beq v' ver) (notS (Nat.beq md 3))) (notS nb) with
    |false=>exact .un _
    |true=>
     rw[sif_true]
     rw[andS_eq,andS_eq,Bool.and_eq_true,Bool.and_eq_true] at hc
     have hm3:=not3 hc.1.2
     simp only[notS_eq,Bool.and_eq_true,Bool.not_eq_true'] at hc
     obtain ⟨rfl,d,hd,hp⟩:=pe_now (F:=F) (w:=w) (.pe b ver ix off nb v _ hb hv hs hh) hb hc.1.1
     rw[hd]
     simp only
     rcases hp with ⟨h1,_⟩|⟨h0,hlt,g,og,cap,h2,rfl⟩
     ·rw[hc.2] at h1;simp at h1
     ·obtain ⟨A,cap',us,hth,hul,hrw,hA⟩:=arr_rows (frzR (bs:=bs) hw hm hb hm3) hd
      have hn:ix.toNat<es.length:=by omega
      have hnn:es[ix.toNat]?=some es[ix.toNat]:=List.getElem?_eq_getElem hn
      have hgd:es.getD ix.toNat []=es[ix.toNat]:=by rw[List.getD_eq_getElem?_getD,hnn];rfl
      have hrl:=hrw.len _ _ hnn
      rw[hgd]
      rcases hA with ⟨rfl,rfl,rfl⟩|⟨g',o',cs,rfl,q1,q2,q3,rfl⟩
      ·simp at hn
      ·rw[hth] at h2
       simp only[Value.slice.injEq,Option.some.injEq,Addr.mk.injEq,true_and] at h2
       obtain ⟨⟨rfl,rfl,_⟩,_⟩:=h2
       have hlt':∀j,j<d.cts.length→ix.toNat*d.cts.length+j<es.length*d.cts.length:=fun j hj=>idx_lt hn hj
       have q4:o'+es.length*d.cts.length≤cs.size:=by rw[q2];exact Nat.add_le_add_left (Nat.mul_le_mul_right _ q3.1) o'
       rw[←Nat.add_assoc]
       refine .fa d.cts es[ix.toNat] off g' (o'+ix.toNat*d.cts.length) (fun j=>cs.getD (o'+(ix.toNat*d.cts.length+j)) undef) (hin hm hb rfl g' (by rw[hth];rfl)) hrl (fun j c hc=>?_) (fun j c t' hc ht=>?_)
       ·have hj:j<d.cts.length:=by rw[←hrl];exact (List.getElem?_eq_some_iff.1 hc).1
        have:=hlt' j hj
        simp[World.cell?,q1,Array.getD,Nat.add_assoc,show o'+(ix.toNat*d.cts.length+j)<cs.size by omega]
       ·have hj:j<d.cts.length:=(List.getElem?_eq_some_iff.1 ht).1
        have:=hlt' j hj
        refine hrw.rel _ _ j c t' _ hnn hc ht ?_
        rw[List.getElem?_take_of_lt this,List.getElem?_drop]
        simp[Array.getD,show o'+(ix.toNat*d.cts.length+j)<cs.size by omega]
   |_=>exact .un _
  |false=>
   rw[sif_false]
   refine .pe b ver ix off nb v _ (frzB_out hb hm) (by rw[frz_ver];exact hv) hs fun e=>?_
   rw[frz_ver] at e
   obtain ⟨t,es,md,d,rfl,hrest⟩:=hh e
   exact ⟨t,es,md,d,rfl,hrest⟩
 |fa cts cs off g o cv hF hlen hc hr=>exact .fa cts cs off g o cv (.inl hF) hlen hc fun j c t h1 h2=>(hr j c t h1 h2).mv (fun _ h=>.inl h) fun _ _=>rfl
 |ag l o vs hl ho h ih=>
  refine .ag _ _ vs (by rw[frzs_len];exact hl) (fun x hx=>by
   obtain ⟨cs,e1,e2,e3⟩:=ho x hx
   refine ⟨cs,e1,by rw[frzs_len];exact e2,fun i v hv=>?_⟩
   rw[frzs_get] at hv
   obtain ⟨z,hz,rfl⟩:=Option.map_eq_some_iff.1 hv
   obtain ⟨t,rfl⟩:=e3 i z hz
   exact ⟨t,rfl⟩) fun i x v h1 h2=>?_
  rw[frzs_get] at h1
  obtain ⟨y,hy,rfl⟩:=Option.map_eq_some_iff.1 h1
  exact ih i y v hy h2
 |tu l vs hl h ih=>
  refine .tu _ vs (by rw[frzs_len];exact hl) fun i x v h1 h2=>?_
  rw[frzs_get] at h1
  obtain ⟨y,hy,rfl⟩:=Option.map_eq_some_iff.1 h1
  exact ih i y v hy h2
 |fn f l vs hl h ih=>
  refine .fn f _ vs (by rw[frzs_len];exact hl) fun i x v h1 h2=>?_
  rw[frzs_get] at h1
  obtain ⟨y,hy,rfl⟩:=Option.map_eq_some_iff.1 h1
  exact ih i y v hy h2
theorem frz_ok {n:Nat} {σ:St} {a:Act} (bs:List Nat) (h:Sim T fr n σ a w):Sim T fr n (σ.frz T bs) a w:=by
 obtain ⟨F,θ,hw,hs⟩:=h
 have hb:(σ.frz T bs).bx=frzB T σ.bx bs:=rfl
 have hget:∀b y,frzB T σ.bx bs b=some y→∃x,σ.bx b=some x∧((memb bs b=true∧y=.dead (x.ver+1))∨(memb bs b=false∧y=x.frz T σ.bx bs)):=by
  intro b y hy
  unfold frzB at hy
  cases hx:σ.bx b with
  |none=>rw[hx] at hy;simp at hy
  |some x=>
   rw[hx] at hy
   simp only[Option.some.injEq] at hy
   cases hm:memb bs b with
   |true=>rw[hm,sif_true] at hy;exact ⟨x,rfl,.inl ⟨rfl,hy.symm⟩⟩
   |false=>rw[hm,sif_false] at hy;exact ⟨x,rfl,.inr ⟨rfl,hy.symm⟩⟩
 have hlive:∀b y,frzB T σ.bx bs b=some y→y.live=true→∃x,σ.bx b=some x∧x.live=true∧memb bs b=false:=by
  intro b y hy hl
  obtain ⟨x,hx,⟨hm,rfl⟩|⟨hm,rfl⟩⟩:=hget b y hy
  ·simp[Box.live] at hl
  ·exact ⟨x,hx,by cases x<;>simp_all [Box.live,Box.frz],hm⟩
 have hnst:∀b y k,frzB T σ.bx bs b=some y→y.nst T w (θ b) k→∃x,σ.bx b=some x∧memb bs b=false∧x.nst T w (θ b) k∧y.m=x.m:=by
  intro b y k hy hk
  obtain ⟨x,hx,⟨hm,rfl⟩|⟨hm,rfl⟩⟩:=hget b y hy
  ·exact hk.elim
  ·refine ⟨x,hx,hm,?_⟩
   cases x with
   |arr v t es m=>exact ⟨hk,rfl⟩
   |_=>exact hk.elim
 refine ⟨FzF T F w σ.bx θ bs,θ,⟨?_,?_,?_,FzF_lt hw,hw.keep,fun k hk=>.inl (hw.sub k hk),FzF_new hw,?_,fun b y hy=>?_,fun b y k hy hk=>?_,fun b b' y y' k hy hy' hk hk'=>?_,fun k hk=>.inl (hw.nlF k hk)⟩,⟨fun k=>?_,hs.n,hs.defers⟩⟩
 ·intro b y hy
  obtain ⟨x,hx,⟨hm,rfl⟩|⟨hm,rfl⟩⟩:=hget b y hy
  ·trivial
  ·have hbx:=hw.box b x hx
   cases x with
   |var ver t cells=>
    obtain ⟨g,cs,e,d,q1,q2,q3,q4,q5,q6⟩:=hbx
    refine ⟨g,cs,e,d,q1,q2,by rw[frzs_len];exact q3,q4,by rw[frzs_len];exact q5,fun i z v h1 h2=>?_⟩
    rw[frzs_get] at h1
    obtain ⟨u,hu,rfl⟩:=Option.map_eq_some_iff.1 h1
    exact frzV_ok hw (q6 i u v hu h2)
   |arr ver t es md=>
    obtain ⟨d,A,cap,q1,q2,q3,q4⟩:=hbx
    refine ⟨d,A,cap,q1,q2,q3,q4.imp id ?_⟩
    rintro ⟨g,o,cs,g1,g2,g3,g4,g5⟩
    exact ⟨g,o,cs,g1,g2,g3,g4,fun i c j x ct v a1 a2 a3 a4=>CR.mv (m:=md) (g5 i c j x ct v a1 a2 a3 a4) (fun _ h=>.inl h) (fun _ _=>rfl) fun _ _ _=>rfl⟩
   |mp ver t es=>exact hbx
   |dead v=>trivial
 ·intro b b' y y' g hy hy' hl hl' hg hg'
  obtain ⟨x,h1,h2,_⟩:=hlive b y hy hl
  obtain ⟨x',h1',h2',_⟩:=hlive b' y' hy' hl'
  exact hw.disj b b' x x' g h1 h1' h2 h2' hg hg'
 ·intro b y g hy hl hg
  obtain ⟨x,h1,h2,h3⟩:=hlive b y hy hl
  obtain ⟨q1,q2⟩:=hw.out b x g h1 h2 hg
  refine ⟨?_,q2⟩
  rintro (h|⟨c,z,c1,c2,⟨c3,c4⟩|c3⟩)
  ·exact q1 h
  ·have:=hw.disj b c x z g h1 c2 h2 c3 hg c4
   subst this
   rw[(memb_iff _ _).2 c1] at h3
   simp at h3
  ·exact (hw.own c z g c2 c3).2.2.2.2 b x h1 h2 hg
 ·intro n hn
  obtain ⟨x,h1,h2⟩:=hw.stay n hn
  cases hm:memb bs n with
  |true=>exact ⟨_,frzB_in h1 hm,fun e=>by simp[Box.ver] at e⟩
  |false=>
   refine ⟨_,frzB_out h1 hm,fun e=>?_⟩
   obtain ⟨p1,p2⟩:=h2 (by rw[frz_ver] at e;exact e)
   exact ⟨p1,fun hm2=>p2 (by cases x<;>first|exact hm2|simp[Box.m,Box.frz] at hm2)⟩
 ·obtain ⟨x,hx,⟨hm,rfl⟩|⟨hm,rfl⟩⟩:=hget b y hy
  ·trivial
  ·have:=hw.lin b x hx
   cases x<;>first|exact this|trivial
 ·obtain ⟨x,h1,h2,h3,h4⟩:=hnst b y k hy hk
  obtain ⟨o1,o2,o3,o4,o5⟩:=hw.own b x k h1 h3
  rw[h4]
  refine ⟨o1,fun hm=>?_,fun hm=>.inl (o3 hm),o4,fun b' y' hy' hl' hg'=>?_⟩
  ·rintro (h|⟨c,z,c1,c2,⟨c3,c4⟩|c3⟩)
   ·exact o2 hm h
   ·exact o5 c z c2 c3 c4
   ·have:=hw.odj b c x z k h1 c2 h3 c3
    subst this
    rw[(memb_iff _ _).2 c1] at h2
    simp at h2
  ·obtain ⟨x',q1,q2,_⟩:=hlive b' y' hy' hl'
   exact o5 b' x' q1 q2 hg'
 ·obtain ⟨x,h1,_,h3,_⟩:=hnst b y k hy hk
  obtain ⟨x',h1',_,h3',_⟩:=hnst b' y' k hy' hk'
  exact hw.odj b b' x x' k h1 h1' h3 h3'
 ·exact frzV_ok hw (hs.sl k)
theorem cutAt_ok {n:Nat} {σ:St} {a:Act} {d b v md:Nat} {lo hi:Int} {t:TypeId} {es:List (List C)} (hsl:σ.sl d=.vw b v lo hi) (hbx:σ.bx b=some (.arr v t es md)) (hmd:¬2≤md) (hlo:lo=0∨lo<hi) (h:Sim T fr n σ a w):
  Sim T fr n ⟨upd σ.sl d (.ow b (v+1)),upd σ.bx b (some (.arr (v+1) t ((es.take hi.toNat).drop lo.toNat) (mT T t)))⟩ a w:=by
 obtain ⟨F,θ,hw,hs⟩:=h
 have hx:=hs.sl d
 rw[hsl] at hx
 obtain ⟨dd,_,_,hdd,_⟩:=hw.box b _ hbx
 have hmT:mT T t=mF dd:=by simp[mT,hdd]
 obtain ⟨hput,hva⟩:=cutW_ok (md:=mT T t) hx hbx hmd hdd (by rw[hmT];exact mF_ok dd) hlo hw
 refine ⟨F,_,hput.1,⟨fun k=>?_,hs.n,hs.defers⟩⟩
 by_cases hk:k=d
 ·subst hk
  show RelV T F w (upd σ.bx b _) _ (upd σ.sl k _ k) _
  rw[upd_same]
  exact .ow b (v+1) _ _ (upd_same _ _ _) (Nat.le_refl _) hva fun _=>⟨t,_,_,rfl,(upd_same _ _ _).symm⟩
 ·show RelV T F w (upd σ.bx b _) _ (upd σ.sl d _ k) _
  rw[upd_ne _ _ hk]
  exact (hs.sl k).mv hput.2
theorem cutAtC_ok {n:Nat} {σ:St} {a:Act} {m i b v vw md:Nat} {lo hi:Int} {t tw:TypeId} {es:List (List C)} {cells:List V} (hm:σ.bx m=some (.var vw tw cells)) (hci:cells[i]?=some (.vw b v lo hi)) (hbx:σ.bx b=some (.arr v t es md)) (hmd:¬2≤md) (hlo:lo=0∨lo<hi) (h:Sim T fr n σ a w):
  Sim T fr n ⟨σ.sl,upd (upd σ.bx b (some (.arr (v+1) t ((es.take hi.toNat).drop lo.toNat) (mT T t)))) m (some (.var vw tw (cells.set i (.ow b (v+1)))))⟩ a w:=by
 obtain ⟨F,θ,hw,hs⟩:=h
 have hmb:m≠b:=by rintro rfl;rw[hm] at hbx;simp at hbx
 obtain ⟨g,cs,e,dt,q1,q2,q3,q4,q5,q6⟩:=hw.box m _ hm
 have hil:i<cells.length:=(List.getElem?_eq_some_iff.1 hci).1
 have hcs:cs[i]?=some (cs[i]'(by omega)):=Array.getElem?_eq_getElem (by omega)
 have hx:=q6 i _ _ hci hcs
 obtain ⟨dd,_,_,hdd,_⟩:=hw.box b _ hbx
 have hmT:mT T t=mF dd:=by simp[mT,hdd]
 obtain ⟨hput,hva⟩:=cutW_ok (md:=mT T t) hx hbx hmd hdd (by rw[hmT];exact mF_ok dd) hlo hw
 have hm':(upd σ.bx b (some (.arr (v+1) t ((es.take hi.toNat).drop lo.toNat) (mT T t)))) m=some (.var vw tw cells):=by rw[upd_ne _ _ hmb];exact hm
 have hthm:(upd θ b (cs[i]'(by omega))) m=θ m:=upd_ne _ _ hmb
 have hput2:=hput.1.put m (.var vw tw (cells.set i (.ow b (v+1)))) (θ m) w (fun z hz=>by
   rw[hm'] at hz;obtain rfl:=Option.some.inj hz
   exact .inr ⟨rfl,by simp[Box.same],hthm.symm,fun h=>by simp[Box.m] at h⟩) (fun q hq=>.inl rfl) (Nat.le_refl _) rfl rfl ⟨rfl,Nat.le_refl _⟩
  (fun q hq=>.inr ⟨_,hm',rfl,by rw[hthm];exact hq⟩) (fun _ h=>h) trivial (fun mv=>by
   refine ⟨g,cs,e,dt,by rw[upd_same];exact q1,q2,by rw[List.length_set];exact q3,q4,by rw[List.length_set];exact q5,fun k x u hk hu=>?_⟩
   rw[List.getElem?_set] at hk
   split at hk
   ·rename_i e
    subst e
    obtain rfl:=Option.some.inj hk
    rw[hcs] at hu
    obtain rfl:=Option.some.inj hu
    exact (RelV.ow b (v+1) _ _ (upd_same _ _ _) (Nat.le_refl _) hva fun _=>⟨t,_,_,rfl,(upd_same _ _ _).symm⟩).mv mv
   ·exact ((q6 k x u hk hu).mv hput.2).mv mv)
 exact ⟨F,_,hput2.1,⟨fun k=>((hs.sl k).mv hput.2).mv hput2.2,hs.n,hs.defers⟩⟩
theorem cutC_ok {n:Nat} {σ:St} {a:Act} (m i:Nat) (hc:σ.cutCOk m i=true) (h:Sim T fr n σ a w):Sim T fr n (σ.cutC T m i) a w:=by
 unfold St.cutC
 unfold St.cutCOk at hc
 split
 ·rename_i vw tw cells hm
  rw[hm] at hc
  simp only at hc
  split
  ·rename_i b ver lo hi hci
   rw[hci] at hc
   simp only at hc
   rw[nth?_eq] at hci
   split
   ·rename_i v t es md hbx
    cases hv:andS (Nat.beq v ver) (Nat.blt md 2) with
    |false=>exact h
    |true=>
     have hv':=hv
     rw[andS_eq,Bool.and_eq_true] at hv'
     have hmd:=notTree hv'.2
     have e:=Nat.eq_of_beq_eq_true hv'.1
     subst e
     rw[sif_true]
     split
     ·have:=cutAtC_ok hm hci hbx hmd (.inl rfl) h
      simpa [setS_eq] using this
     ·rename_i hne
      have:=cutAtC_ok hm hci hbx hmd (by
       split at hc
       ·exact (hne rfl).elim
       ·exact .inr (by simpa using hc)) h
      simpa [setS_eq] using this
   ·exact h
  ·exact h
 ·exact h
theorem cut_ok {n:Nat} {σ:St} {a:Act} (d:Nat) (hc:σ.cutOk d=true) (h:Sim T fr n σ a w):Sim T fr n (σ.cut T d) a w:=by
 unfold St.cut
 unfold St.cutOk at hc
 split
 ·rename_i b ver lo hi hsl
  rw[hsl] at hc
  simp only at hc
  split
  ·rename_i v t es md hbx
   cases hv:andS (Nat.beq v ver) (Nat.blt md 2) with
   |false=>exact h
   |true=>
    have hv':=hv
    rw[andS_eq,Bool.and_eq_true] at hv'
    have hmd:=notTree hv'.2
    have e:=Nat.eq_of_beq_eq_true hv'.1
    subst e
    rw[sif_true]
    split
    ·have:=cutAt_ok hsl hbx hmd (.inl rfl) h
     simpa using this
    ·rename_i hne
     refine cutAt_ok hsl hbx hmd ?_ h
     split at hc
     ·exact (hne rfl).elim
     ·exact .inr (by simpa using hc)
  ·exact h
 ·exact h
end
end Go.Ev
namespace Go.Ev
section
variable {P:Program} {X:Cx} {fr:Fr}
theorem sim_same {T:Tys} {n:Nat} {σ:St} {a:Act} {w w':World} (h:Sim T fr n σ a w) (hh:w'.heap=w.heap) (hos:w'.os=w.os) (htp:w'.tape=w.tape) (hou:w'.output=w.output∧w.drawn≤w'.drawn):Sim T fr n σ a w':=by
 obtain ⟨F,θ,hw,hs⟩:=h
 have m:Mv F w σ.bx θ F w' σ.bx θ:=⟨fun _ h=>h,fun k _=>by rw[hh],fun b x hx=>⟨x,hx,Nat.le_refl _,fun _=>⟨x.same_refl,rfl,fun h=>⟨h,fun g o n cap e p A l c hc=>(cell_of_heap (show w'.heap[g]?=w.heap[g]? by rw[hh]) p).trans hc⟩⟩⟩⟩
 have hb:∀(b:Nat) (x:Box) (k:Nat),x.nst T w' (θ b) k→x.nst T w (θ b) k:=fun b x k hk=>nst_mv hk (fun g _=>by rw[hh]) fun k _=>by rw[hh]
 refine ⟨F,θ,⟨fun b x hx=>(hw.box b x hx).mv m rfl (fun g _=>by rw[hh]) fun k _=>by rw[hh],hw.disj,fun b x g h1 h2 h3=>by rw[hh];exact hw.out b x g h1 h2 h3,fun k hk=>by rw[hh];exact hw.lt k hk,
  hw.keep.next hos htp hou (by rw[hh];exact Nat.le_refl _) fun k _ _=>by rw[hh],hw.sub,hw.new,stay_mv hw.stay m,fun b x hx=>lin_mv (hw.lin b x hx) (fun g _=>by rw[hh]) fun k _=>by rw[hh],fun b x k hx hk=>by rw[hh];exact hw.own b x k hx (hb b x k hk),
  fun b b' x x' k hx hx' hk hk'=>hw.odj b b' x x' k hx hx' (hb b x k hk) (hb b' x' k hk'),hw.nlF⟩,⟨fun k=>(hs.sl k).mv m,hs.n,hs.defers⟩⟩
theorem region_ok (hX:Env P X) {id:Nat} {ops:Array Oper} {draw:Bool} {κ:St→R} {σ:St} {r:Out} {a:Act} {w:World} {Q:Exit→Act→World→Prop}
  (h:sif (orS (notS draw) (edgesB ops.toList 0)) (runOps X draw ops.toList (sif draw (anc ops.toList []) []) κ ops.toList [] σ) none=some r) (hs:Sim X.T fr X.n σ a w)
  (hκ:∀σ' a' w',κ σ'=some r→Sim X.T fr X.n σ' a' w'→Q .normal a' w'):(Code.region id ops draw).wp P Q a w:=by
 cases hB:orS (notS draw) (edgesB ops.toList 0) with
 |false=>rw[hB,sif_false] at h;simp at h
 |true=>
  rw[hB,sif_true] at h
  obtain ⟨⟨L,σ',c1,c2,c3,c4⟩⟩:=runOps_chain ops.toList [] σ (fun i o ho=>by simpa using ho) (fun j q d x hj=>by simp at hj) h
  simp only[List.length_nil] at c3
  have hget:∀(p i:Nat) (o:Oper) (g:Lg),L[p]?=some (i,o,g)→i=p∧ops.toList[p]?=some o:=by
   intro p i o g hp
   have h1:(L.map fun p=>(p.1,p.2.1))[p]?=some (i,o):=by simp[hp]
   rw[c3] at h1
   simp only[List.getElem?_map,Option.map_eq_some_iff] at h1
   obtain ⟨⟨o',i'⟩,h2,h3⟩:=h1
   simp only[Prod.mk.injEq] at h3
   obtain ⟨rfl,rfl⟩:=h3
   rw[List.getElem?_zipIdx] at h2
   obtain ⟨z,hz,he⟩:=Option.map_eq_some_iff.1 h2
   simp only[Prod.mk.injEq] at he
   obtain ⟨rfl,rfl⟩:=he
   exact ⟨by omega,hz⟩
  have hlen:L.length=ops.size:=by
   have:=congrArg List.length c3
   simpa using this
  have hmem:∀i o g,(i,o,g)∈L→ops.toList[i]?=some o:=by
   intro i o g hm
   obtain ⟨p,hp,he⟩:=List.mem_iff_getElem.1 hm
   obtain ⟨rfl,h2⟩:=hget p i o g (by rw[List.getElem?_eq_getElem hp,he])
   exact h2
  cases draw with
  |false=>
   refine wp_region ?_
   have:=chain_ok hX (Q:=Q) L σ a w c1 hmem hs fun a' w' hs'=>hκ σ' a' w' c2 hs'
   have e:L.map (·.1)=List.range ops.size:=by
    refine List.ext_getElem? fun p=>?_
    rw[List.getElem?_map]
    rcases Nat.lt_or_ge p L.length with hp|hp
    ·have hp':=List.getElem?_eq_getElem hp
     obtain ⟨h1,h2⟩:=hget p _ _ _ hp'
     rw[hp',List.getElem?_range (by omega)]
     exact congrArg some h1
    ·rw[List.getElem?_eq_none hp,List.getElem?_eq_none (by simp;omega)];rfl
   rw[e] at this
   simpa using this
  |true=>
   refine wp_region_any hX.mixed ?_
   have hB':edgesB ops.toList 0=true:=by simpa [orS_eq,notS_eq] using hB
   have hs':Sim X.T fr X.n σ a {w with drawn:=w.drawn+1}:=sim_same hs rfl rfl rfl ⟨rfl,Nat.le_succ _⟩
   have hI:Inv ops.toList (Array.replicate ops.size false) L:=by
    refine ⟨by simp,fun i o g hm=>⟨hmem i o g hm,?_⟩,fun i hi _=>?_,?_,?_,fun i o hl=>?_⟩
    ·have:=(List.getElem?_eq_some_iff.1 (hmem i o g hm)).1
     simp at this
     simp[Array.getD,this]
    ·have hi':i<L.length:=by rw[hlen];simpa using hi
     have hp':=List.getElem?_eq_getElem hi'
     obtain ⟨h1,h2⟩:=hget i _ _ _ hp'
     refine ⟨L[i].2.1,L[i].2.2,?_⟩
     have hm:=List.getElem_mem hi'
     have e:L[i]=(i,L[i].2.1,L[i].2.2):=Prod.ext h1 rfl
     rw[e] at hm
     exact hm
    ·refine List.pairwise_iff_getElem.2 fun p q hp hq hpq=>?_
     have h1:L[p].1=p:=(hget p _ _ _ (List.getElem?_eq_getElem hp)).1
     have h2:L[q].1=q:=(hget q _ _ _ (List.getElem?_eq_getElem hq)).1
     omega
    ·refine List.pairwise_iff_getElem.2 fun p q hp hq hpq=>?_
     have h1:L[p].1=p:=(hget p _ _ _ (List.getElem?_eq_getElem hp)).1
     have h2:=c4 rfl q L[q].1 L[q].2.1 L[q].2.2 (List.getElem?_eq_getElem hq) p L[p].2.1 L[p].2.2 (by simp[hp]) (by simpa using hpq)
     rw[h1]
     exact h2
    ·by_cases hi:i<ops.size
     ·simp[Array.getD,hi] at hl
     ·simp[Array.getD,hi] at hl
   have:=any_ok hX (Q:=Q) hB' (fun a' w' hs''=>hκ σ' a' w' c2 hs'') ops.size _ L σ a _ hI (by omega) c1 hs'
   simpa using this
def exOf (id:Nat):Exit:=if id≤999999 then .exit id else .goto (id-1000000)
theorem exOf_low {id:Nat} (h:id≤999999):exOf id=.exit id:=if_pos h
theorem exOf_goto (l:Nat):exOf (Nat.add 1000000 l)=.goto l:=by
 rw[Nat.add_eq]
 unfold exOf
 rw[if_neg (by omega),Nat.add_sub_cancel_left]
theorem then_ex {K:Act→World→Prop} {Q:Exit→Act→World→Prop} {id:Nat} {a:Act} {w:World} (h:Q (exOf id) a w):Exit.then K Q (exOf id) a w:=by
 unfold exOf at h⊢
 by_cases hl:id≤999999
 ·rw[if_pos hl] at h⊢;exact h
 ·rw[if_neg hl] at h⊢;exact h
def Snd (P:Program) (X:Cx) (fr:Fr) (J:Jn) (c:Code) (m:Ann→(St→R)→St→R):Prop:=
 ∀(n:Ann) (κ:St→R) (σ:St) (r:Out) (Q:Exit→Act→World→Prop) (a:Act) (w:World),m n κ σ=some r→Sim X.T fr X.n σ a w→
  (∀σ' a' w',κ σ'=some r→Sim X.T fr X.n σ' a' w'→Q .normal a' w')→
  (∀id t xs a' w',jget J id=some t→r=.brk id xs→Sim X.T fr X.n (t.inj xs) a' w'→Q (exOf id) a' w')→
  (∀σ' a' w',retD X σ'=some r→Sim X.T fr X.n σ' a' w'→Q .ret a' w')→c.wp P Q a w
theorem injSl_eq {β:Type} (xs:List C):∀(q:List (Nat×Sk)) (p:Nat) (f:Slots) (k:Slots→Nat→β),injSl xs q p f k=k (instSl nm0 xs q p f).1 (instSl nm0 xs q p f).2
 |[],p,f,k=>rfl
 |(d,s)::r,p,f,k=>by
  show (s.inst nm0 xs p).1.force _=_
  rw[force_eq,injSl_eq xs r]
  rfl
theorem injBx_eq {β:Type} (xs:List C):∀(q:List (Nat×BSk)) (p:Nat) (f:Bxs) (k:Bxs→β),injBx xs q p f k=k (instBx nm0 xs q p f)
 |[],p,f,k=>rfl
 |(b,.var t cells)::r,p,f,k=>by
  show V.forces _ _=_
  rw[forces_eq,injBx_eq xs r]
  rfl
 |(b,.arr t m)::r,p,f,k=>by
  show injBx xs r _ _ k=_
  rw[injBx_eq xs r]
  rfl
 |(b,.mp t)::r,p,f,k=>by
  show injBx xs r _ _ k=_
  rw[injBx_eq xs r]
  rfl
theorem injK_eq {β:Type} (t:Tm) (xs:List C) (k:St→β):t.injK xs k=k (t.inj xs):=by
 unfold Tm.injK
 rw[injSl_eq,injBx_eq]
 rfl
theorem retD_form {σ:St} {r:Out} (h:retD X σ=some r):∃ys,r=.ret ys:=by
 unfold retD at h
 split at h
 ·cases hc:andS (ipOk σ.bx X.ip) (allHas X.inT.bx X.ip) with
  |false=>rw[hc,sif_false] at h;simp at h
  |true=>
   rw[hc,sif_true] at h
   split at h
   ·rename_i e _
    cases hz:isNil e.fz with
    |false=>rw[hz,sif_false] at h;simp at h
    |true=>rw[hz,sif_true] at h;exact ⟨_,(Option.some.inj h).symm⟩
   ·simp at h
 ·simp at h
theorem wrap_snd {J:Jn} {c:Code} {f:Ann→(St→R)→St→R} (hst:fr.st=X.ip) (hf:Snd P X fr J c f):Snd P X fr J c (wrap X f):=by
 intro n
 induction n with
 |frz bs x ih=>
  intro κ σ r Q a w h hs h1 h2 h3
  exact ih κ (σ.frz X.T bs) r Q a w h (frz_ok bs hs) h1 h2 h3
 |cut d x ih=>
  intro κ σ r Q a w h hs h1 h2 h3
  replace h:cond (σ.cutOk d) (wrap X f x κ (σ.cut X.T d)) none=some r:=h
  cases hc:σ.cutOk d with
  |false=>rw[hc] at h;simp at h
  |true=>rw[hc] at h;exact ih κ (σ.cut X.T d) r Q a w h (cut_ok d hc hs) h1 h2 h3
 |cutc m i x ih=>
  intro κ σ r Q a w h hs h1 h2 h3
  replace h:cond (σ.cutCOk m i) (wrap X f x κ (σ.cutC X.T m i)) none=some r:=h
  cases hc:σ.cutCOk m i with
  |false=>rw[hc] at h;simp at h
  |true=>rw[hc] at h;exact ih κ (σ.cutC X.T m i) r Q a w h (cutC_ok m i hc hs) h1 h2 h3
 |join t x ih=>
  intro κ σ r Q a w h hs h1 h2 h3
  replace h:bindNrm (wrap X f x (fun σ'=>outD X t σ' .nrm) σ) (fun xs=>t.injK xs κ)=some r:=h
  cases hr1:wrap X f x (fun σ'=>outD X t σ' .nrm) σ with
  |none=>rw[hr1] at h;simp[bindNrm] at h
  |some r1=>
   rw[hr1] at h
   refine ih _ σ r1 Q a w hr1 hs (fun σ' a' w' hk hs'=>?_) (fun id t' xs a' w' hj he hs'=>?_) (fun σ' a' w' hk hs'=>?_)
   ·obtain ⟨xs,rfl,hs''⟩:=outD_ok hst hk hs'
    replace h:t.injK xs κ=some r:=h
    rw[injK_eq] at h
    exact h1 _ a' w' h hs''
   ·subst he
    have e:r=.brk id xs:=(Option.some.inj h).symm
    exact h2 id t' xs a' w' hj e hs'
   ·obtain ⟨ys,rfl⟩:=retD_form hk
    have e:r=.ret ys:=(Option.some.inj h).symm
    rw[←e] at hk
    exact h3 σ' a' w' hk hs'
 |leaf=>exact hf .leaf
 |seq x y _ _=>exact hf (.seq x y)
 |cond x y _ _=>exact hf (.cond x y)
 |block t x _=>exact hf (.block t x)
 |loop t x _=>exact hf (.loop t x)
 |skip x _=>exact hf (.skip x)
 |scp l t x y _ _=>exact hf (.scp l t x y)
theorem jget_del (id:Nat):∀(J:Jn),jget (jdel id J) id=none∧∀k t,jget (jdel id J) k=some t→jget J k=some t
 |[]=>⟨rfl,fun k t h=>h⟩
 |(m,u)::r=>by
  obtain ⟨h1,h2⟩:=jget_del id r
  cases hb:Nat.beq m id with
  |true=>
   have e:jdel id ((m,u)::r)=jdel id r:=by show sif (Nat.beq m id) _ _=_;rw[hb];rfl
   rw[e]
   refine ⟨h1,fun k t hk=>?_⟩
   have hmk:Nat.beq m k=false:=by
    cases hmk:Nat.beq m k with
    |false=>rfl
    |true=>
     have a1:=Nat.eq_of_beq_eq_true hb
     have a2:=Nat.eq_of_beq_eq_true hmk
     subst a1;subst a2
     rw[h1] at hk;simp at hk
   show sif (Nat.beq m k) _ _=_
   rw[hmk]
   exact h2 k t hk
  |false=>
   have e:jdel id ((m,u)::r)=(m,u)::jdel id r:=by show sif (Nat.beq m id) _ _=_;rw[hb];rfl
   rw[e]
   refine ⟨?_,fun k t hk=>?_⟩
   ·show sif (Nat.beq m id) _ _=_
    rw[hb];exact h1
   ·replace hk:sif (Nat.beq m k) (some u) (jget (jdel id r) k)=some t:=hk
    show sif (Nat.beq m k) (some u) (jget r k)=some t
    cases hmk:Nat.beq m k with
    |true=>rw[hmk] at hk;exact hk
    |false=>rw[hmk] at hk;exact h2 k t hk
theorem lim_some {body:List C→R} {xs:List C} {r:Out} (h:lim body xs=some r):∃k,iter body k xs=some r:=by
 unfold lim at h
 split at h
 ·exact ⟨_,h⟩
 ·simp at h
theorem ev_snd (hX:Env P X) (hst:fr.st=X.ip):∀(c:Code) (J:Jn),Snd P X fr J c (ev X c J):=by
 intro c
 induction c with
 |skip=>
  intro J
  refine wrap_snd hst ?_
  intro n κ σ r Q a w h hs h1 h2 h3
  exact wp_skip (h1 σ a w h hs)
 |region id ops draw=>
  intro J
  refine wrap_snd hst ?_
  intro n κ σ r Q a w h hs h1 h2 h3
  exact region_ok hX h hs h1
 |seq x y ihx ihy=>
  intro J
  refine wrap_snd hst ?_
  intro n κ σ r Q a w h hs h1 h2 h3
  have key:∀n1 n2,ev X x J n1 (fun σ=>ev X y J n2 κ σ) σ=some r→(Code.seq x y).wp P Q a w:=by
   intro n1 n2 h
   refine wp_seq (ihx J n1 _ σ r _ a w h hs (fun σ' a' w' hk hs'=>?_) (fun id t xs a' w' h4 h5 h6=>then_ex (h2 id t xs a' w' h4 h5 h6)) h3)
   exact ihy J n2 κ σ' r Q a' w' hk hs' h1 h2 h3
  cases n with
  |seq n1 n2=>exact key n1 n2 h
  |_=>exact key _ _ h
 |cond q x y ihx ihy=>
  intro J
  refine wrap_snd hst ?_
  intro n κ σ r Q a w h hs h1 h2 h3
  have hv:RelV X.T _ _ _ _ (opnd σ.sl q) (a.eval q):=opnd_ok hs.ex.choose_spec.choose_spec.2.sl q
  dsimp only at h
  generalize ho:opnd σ.sl q=oq at h hv
  cases oq with
  |c t z=>cases t with
   |bool=>
    have hb:=bool_ok hv
    have key:∀n1 n2,cond z.B (ev X x J n1 κ σ) (ev X y J n2 κ σ)=some r→(Code.cond q x y).wp P Q a w:=by
     intro n1 n2 h
     refine wp_cond_split hb (fun ht=>?_) (fun hf=>?_)
     ·rw[ht] at h;exact ihx J n1 κ σ r Q a w h hs h1 h2 h3
     ·rw[hf] at h;exact ihy J n2 κ σ r Q a w h hs h1 h2 h3
    cases n with
    |cond n1 n2=>exact key n1 n2 h
    |_=>exact key _ _ h
   |_=>exact absurd (show (none:R)=some r from h) (by simp)
  |_=>exact absurd (show (none:R)=some r from h) (by simp)
 |block id x ih=>
  intro J
  refine wrap_snd hst ?_
  intro n κ σ r Q a w h hs h1 h2 h3
  cases hlow:Nat.ble id 999999 with
  |false=>dsimp only at h;rw[hlow,sif_false] at h;simp at h
  |true=>
  dsimp only at h
  rw[hlow,sif_true] at h
  have hlow':=Nat.le_of_ble_eq_true hlow
  have hblk:∀(id':Nat) (a':Act) (w':World),id'≠id→Q (exOf id') a' w'→Exit.inBlock id Q (exOf id') a' w':=by
   intro id' a' w' hid hq
   unfold exOf at hq⊢
   by_cases hl:id'≤999999
   ·rw[if_pos hl] at hq⊢
    show if id'=id then _ else _
    rw[if_neg hid];exact hq
   ·rw[if_neg hl] at hq⊢;exact hq
  have key:∀n1,ev X x (jdel id J) n1 κ σ=some r→(Code.block id x).wp P Q a w:=by
   intro n1 h
   refine wp_block (ih (jdel id J) n1 κ σ r _ a w h hs h1 (fun id' t xs a' w' hj he hs'=>?_) h3)
   obtain ⟨d1,d2⟩:=jget_del id J
   by_cases hid:id'=id
   ·subst hid;rw[d1] at hj;simp at hj
   ·exact hblk id' a' w' hid (h2 id' t xs a' w' (d2 _ _ hj) he hs')
  cases n with
  |block t n1=>
   replace h:bindBlk id (ev X x ((id,t)::J) n1 (fun σ'=>outD X t σ' (.brk id)) σ) (fun xs=>t.injK xs κ)=some r:=h
   cases hr1:ev X x ((id,t)::J) n1 (fun σ'=>outD X t σ' (.brk id)) σ with
   |none=>rw[hr1] at h;simp[bindBlk] at h
   |some r1=>
    rw[hr1] at h
    have hbrk:∀xs a' w',r1=.brk id xs→Sim X.T fr X.n (t.inj xs) a' w'→Q .normal a' w':=by
     intro xs a' w' he hs'
     subst he
     replace h:sif (Nat.beq id id) (t.injK xs κ) (some (.brk id xs))=some r:=h
     rw[Nat.beq_refl,sif_true,injK_eq] at h
     exact h1 _ a' w' h hs'
    refine wp_block (ih ((id,t)::J) n1 _ σ r1 _ a w hr1 hs (fun σ' a' w' hk hs'=>?_) (fun id' t' xs a' w' hj he hs'=>?_) (fun σ' a' w' hk hs'=>?_))
    ·obtain ⟨xs,he,hs''⟩:=outD_ok hst hk hs'
     exact hbrk xs a' w' he hs''
    ·by_cases hid:id'=id
     ·subst hid
      replace hj:sif (Nat.beq id' id') (some t) (jget J id')=some t':=hj
      rw[Nat.beq_refl,sif_true] at hj
      obtain rfl:=Option.some.inj hj
      rw[exOf_low hlow']
      show if id'=id' then _ else _
      rw[if_pos rfl]
      exact hbrk xs a' w' he hs'
     ·refine hblk id' a' w' hid ?_
      have hb1:Nat.beq id id'=false:=by
       cases hb:Nat.beq id id' with
       |false=>rfl
       |true=>exact absurd (Nat.eq_of_beq_eq_true hb).symm hid
      have hb2:Nat.beq id' id=false:=by
       cases hb:Nat.beq id' id with
       |false=>rfl
       |true=>exact absurd (Nat.eq_of_beq_eq_true hb) hid
      replace hj:sif (Nat.beq id id') (some t) (jget J id')=some t':=hj
      rw[hb1,sif_false] at hj
      subst he
      replace h:sif (Nat.beq id' id) (t.injK xs κ) (some (.brk id' xs))=some r:=h
      rw[hb2,sif_false] at h
      exact h2 id' t' xs a' w' hj (Option.some.inj h).symm hs'
    ·obtain ⟨ys,rfl⟩:=retD_form hk
     have e:r=.ret ys:=(Option.some.inj h).symm
     rw[←e] at hk
     exact h3 σ' a' w' hk hs'
  |skip n1=>exact key n1 h
  |_=>exact key _ h
 |loop x ih=>
  intro J
  refine wrap_snd hst ?_
  intro n κ σ r Q a w h hs h1 h2 h3
  cases n with
  |loop t n1=>
   replace h:sif (joinOk X t σ) (match t.data X.T (idRen X.ip) σ with
    |some xs=>lim (fun xs=>t.injK xs (ev X x J n1 fun σ'=>outD X t σ' .again)) xs
    |none=>none) none=some r:=h
   cases hj:joinOk X t σ with
   |false=>rw[hj,sif_false] at h;simp at h
   |true=>
    rw[hj,sif_true] at h
    split at h
    ·rename_i xs hxs
     have h0:outD X t σ .again=some (.again xs):=by unfold outD;rw[hj,sif_true,hxs]
     obtain ⟨xs',he,hs0⟩:=outD_ok hst h0 hs
     simp only[Out.again.injEq] at he
     subst he
     obtain ⟨k,hk⟩:=lim_some h
     refine wp_loop_rounds k ?_
     have rounds:∀(k:Nat) (xs:List C) (a:Act) (w:World),iter (fun xs=>t.injK xs (ev X x J n1 fun σ'=>outD X t σ' .again)) k xs=some r→Sim X.T fr X.n (t.inj xs) a w→Code.rounds P x Q k a w:=by
      intro k
      induction k with
      |zero=>intro xs a w hk _;simp[iter] at hk
      |succ k ihk=>
       intro xs a w hk hs
       show x.wp P (Exit.then (Code.rounds P x Q k) Q) a w
       simp only[iter] at hk
       rw[injK_eq] at hk
       cases hr1:ev X x J n1 (fun σ'=>outD X t σ' .again) (t.inj xs) with
       |none=>rw[hr1] at hk;simp at hk
       |some r1=>
        rw[hr1] at hk
        refine ih J n1 _ _ r1 _ a w hr1 hs (fun σ' a' w' hk' hs'=>?_) (fun id' t' ys a' w' hj he hs'=>?_) (fun σ' a' w' hk' hs'=>?_)
        ·obtain ⟨ys,rfl,hs''⟩:=outD_ok hst hk' hs'
         exact ihk ys a' w' hk hs''
        ·subst he
         exact then_ex (h2 id' t' ys a' w' hj (Option.some.inj hk).symm hs')
        ·obtain ⟨ys,rfl⟩:=retD_form hk'
         have e:r=.ret ys:=(Option.some.inj hk).symm
         rw[←e] at hk'
         exact h3 σ' a' w' hk' hs'
     exact rounds k _ a w hk hs0
    ·simp at h
  |_=>exact absurd (show (none:R)=some r from h) (by simp)
 |exit id=>
  intro J
  refine wrap_snd hst ?_
  intro n κ σ r Q a w h hs h1 h2 h3
  replace h:sif (Nat.ble id 999999) (match jget J id with
   |some t=>outD X t σ (.brk id)
   |none=>none) none=some r:=h
  cases hlow:Nat.ble id 999999 with
  |false=>rw[hlow,sif_false] at h;simp at h
  |true=>
   rw[hlow,sif_true] at h
   split at h
   ·rename_i t hj
    obtain ⟨xs,he,hs'⟩:=outD_ok hst h hs
    have:=h2 id t xs a w hj he hs'
    rw[exOf_low (Nat.le_of_ble_eq_true hlow)] at this
    exact wp_exit this
   ·simp at h
 |label l=>
  intro J
  refine wrap_snd hst ?_
  intro n κ σ r Q a w h hs h1 h2 h3
  exact wp_label (h1 σ a w h hs)
 |goto l=>
  intro J
  refine wrap_snd hst ?_
  intro n κ σ r Q a w h hs h1 h2 h3
  replace h:(match jget J (Nat.add 1000000 l) with
   |some t=>outD X t σ (.brk (Nat.add 1000000 l))
   |none=>none)=some r:=h
  split at h
  ·rename_i t hj
   obtain ⟨xs,he,hs'⟩:=outD_ok hst h hs
   have:=h2 _ t xs a w hj he hs'
   rw[exOf_goto] at this
   exact wp_goto this
  ·simp at h
 |ret=>
  intro J
  refine wrap_snd hst ?_
  intro n κ σ r Q a w h hs h1 h2 h3
  exact wp_ret (h3 σ a w h hs)
 |_=>
  intro J n κ σ r Q a w h
  exact absurd (show (none:R)=some r from h) (by simp)
theorem wp_scope_rounds {c rest:Code} {Q:Exit→Act→World→Prop} {a:Act} {w:World} (l:Nat) (R:Nat→Act→World→Prop) (hf:findLabel c l=some rest)
  (first:c.wp P (Exit.jump l (fun a w=>∃k,R k a w) Q) a w)
  (pass:∀k a w,R k a w→rest.wp P (Exit.jump l (fun a' w'=>∃j,j<k∧R j a' w') Q) a w):(Code.scope c).wp P Q a w:=by
 intro b k cs
 have hg:gotoIn l (.inScope c::k)=some (.code rest::.inScope c::k):=by simp[gotoIn,hf]
 have key:∀n a w,R n a w→∃e a' w',Q e a' w'∧Arrives P (lone (b.at a (.code rest::.inScope c::k)) cs w) b k cs e a' w':=by
  intro n
  induction n using Nat.strongRecOn with
  |_ n ih=>
   intro a w hR
   obtain ⟨e,a₁,w₁,hq,harr⟩:=pass n a w hR b (.inScope c::k) cs
   cases e with
   |normal=>exact ⟨.normal,a₁,w₁,hq,Steps.trans harr (.one step_inScope)⟩
   |exit id=>exact ⟨.exit id,a₁,w₁,hq,fun k' hk=>harr k' (by simp[exitTo,hk])⟩
   |goto l'=>
    obtain ⟨rfl,j,hj,hR'⟩:=hq
    obtain ⟨e₂,a₂,w₂,hq₂,harr₂⟩:=ih j hj a₁ w₁ hR'
    exact ⟨e₂,a₂,w₂,hq₂,.of_steps (harr _ hg) harr₂⟩
   |ret=>exact ⟨_,a₁,w₁,hq,harr⟩
   |panic ch=>exact ⟨_,a₁,w₁,hq,harr⟩
   |outgrown=>exact ⟨_,a₁,w₁,hq,harr⟩
 obtain ⟨e,a₁,w₁,hq,harr⟩:=first b (.inScope c::k) cs
 cases e with
 |normal=>exact ⟨.normal,a₁,w₁,hq,.head step_scope (Steps.trans harr (.one step_inScope))⟩
 |exit id=>exact ⟨.exit id,a₁,w₁,hq,fun k' hk=>.head step_scope (harr k' (by simp[exitTo,hk]))⟩
 |goto l'=>
  obtain ⟨rfl,j,hR'⟩:=hq
  obtain ⟨e₂,a₂,w₂,hq₂,harr₂⟩:=key j a₁ w₁ hR'
  exact ⟨e₂,a₂,w₂,hq₂,.of_steps (.head step_scope (harr _ hg)) harr₂⟩
 |ret=>exact ⟨_,a₁,w₁,hq,.of_steps (.one step_scope) harr⟩
 |panic ch=>exact ⟨_,a₁,w₁,hq,.of_steps (.one step_scope) harr⟩
 |outgrown=>exact ⟨_,a₁,w₁,hq,.of_steps (.one step_scope) harr⟩
theorem goA_some {g:Nat} {r:R} {o:Out} (h:goA g r=some o):(∃ys,r=some (.brk g ys)∧o=.again ys)∨(r=some o∧∀j ys,o≠.brk j ys):=by
 cases r with
 |none=>simp[goA] at h
 |some x=>cases x with
  |brk j ys=>
   replace h:sif (Nat.beq j g) (some (.again ys)) none=some o:=h
   cases hb:Nat.beq j g with
   |false=>rw[hb,sif_false] at h;simp at h
   |true=>
    rw[hb,sif_true] at h
    obtain rfl:=Nat.eq_of_beq_eq_true hb
    exact .inl ⟨ys,rfl,(Option.some.inj h).symm⟩
  |ret ys=>exact .inr ⟨h,fun j z e=>by rw[e] at h;simp[goA] at h⟩
  |nrm ys=>exact .inr ⟨h,fun j z e=>by rw[e] at h;simp[goA] at h⟩
  |again ys=>exact .inr ⟨h,fun j z e=>by rw[e] at h;simp[goA] at h⟩
theorem evS_snd (hX:Env P X) (hst:fr.st=X.ip) {c:Code} {l:Nat} {t:Tm} {x y:Ann} {σ:St} {ys:List C} {Q:Exit→Act→World→Prop} {a:Act} {w:World} (h:evS X l t x y c σ=some (.ret ys)) (hs:Sim X.T fr X.n σ a w)
  (h1:∀σ' a' w',retD X σ'=some (.ret ys)→Sim X.T fr X.n σ' a' w'→Q .normal a' w') (h3:∀σ' a' w',retD X σ'=some (.ret ys)→Sim X.T fr X.n σ' a' w'→Q .ret a' w'):(Code.scope c).wp P Q a w:=by
 unfold evS at h
 split at h
 ·rename_i c' hc'
  have hjg:jget [(Nat.add 1000000 l,t)] (Nat.add 1000000 l)=some t:=by
   show sif (Nat.beq _ _) _ _=_
   rw[Nat.beq_refl];rfl
  have hjo:∀id t',jget [(Nat.add 1000000 l,t)] id=some t'→id=Nat.add 1000000 l∧t'=t:=by
   intro id t' h
   replace h:sif (Nat.beq (Nat.add 1000000 l) id) (some t) none=some t':=h
   cases hb:Nat.beq (Nat.add 1000000 l) id with
   |false=>rw[hb,sif_false] at h;simp at h
   |true=>rw[hb,sif_true] at h;exact ⟨(Nat.eq_of_beq_eq_true hb).symm,(Option.some.inj h).symm⟩
  let body:List C→R:=fun xs=>goA (Nat.add 1000000 l) (t.injK xs (ev X c' [(Nat.add 1000000 l,t)] y fun σ=>retD X σ))
  refine wp_scope_rounds l (fun k a w=>∃xs,iter body k xs=some (.ret ys)∧Sim X.T fr X.n (t.inj xs) a w) hc' ?_ ?_
  ·cases hr1:ev X c [(Nat.add 1000000 l,t)] x (fun σ=>retD X σ) σ with
   |none=>rw[hr1] at h;simp[bindGo] at h
   |some r1=>
    rw[hr1] at h
    refine ev_snd hX hst c _ x _ _ r1 _ _ w hr1 hs (fun σ' a' w' hk hs'=>?_) (fun id t' xs a' w' hj he hs'=>?_) (fun σ' a' w' hk hs'=>?_)
    ·obtain ⟨zs,rfl⟩:=retD_form hk
     have e:zs=ys:=by simpa [bindGo] using h
     exact h1 σ' a' w' (e▸hk) hs'
    ·obtain ⟨rfl,rfl⟩:=hjo _ _ hj
     subst he
     replace h:sif (Nat.beq (Nat.add 1000000 l) (Nat.add 1000000 l)) (lim body xs) none=some (.ret ys):=h
     rw[Nat.beq_refl,sif_true] at h
     obtain ⟨k,hk⟩:=lim_some h
     rw[exOf_goto]
     exact ⟨rfl,k,xs,hk,hs'⟩
    ·obtain ⟨zs,rfl⟩:=retD_form hk
     have e:zs=ys:=by simpa [bindGo] using h
     exact h3 σ' a' w' (e▸hk) hs'
  ·rintro k a w ⟨xs,hk,hs⟩
   cases k with
   |zero=>simp[iter] at hk
   |succ k=>
    simp only[iter] at hk
    cases hr2:ev X c' [(Nat.add 1000000 l,t)] y (fun σ=>retD X σ) (t.inj xs) with
    |none=>
     have e:body xs=none:=by show goA _ (t.injK xs _)=none;rw[injK_eq,hr2];rfl
     rw[e] at hk;simp at hk
    |some r1=>
     have e:body xs=goA (Nat.add 1000000 l) (some r1):=by show goA _ (t.injK xs _)=_;rw[injK_eq,hr2]
     rw[e] at hk
     refine ev_snd hX hst c' _ y _ _ r1 _ _ w hr2 hs (fun σ' a' w' hk' hs'=>?_) (fun id t' zs a' w' hj he hs'=>?_) (fun σ' a' w' hk' hs'=>?_)
     ·obtain ⟨zs,rfl⟩:=retD_form hk'
      have e:zs=ys:=by simpa [goA] using hk
      exact h1 σ' a' w' (e▸hk') hs'
     ·obtain ⟨rfl,rfl⟩:=hjo _ _ hj
      subst he
      have e2:goA (Nat.add 1000000 l) (some (.brk (Nat.add 1000000 l) zs))=some (.again zs):=by
       show sif (Nat.beq _ _) _ _=_
       rw[Nat.beq_refl];rfl
      rw[e2] at hk
      rw[exOf_goto]
      exact ⟨rfl,k,Nat.lt_succ_self k,zs,hk,hs'⟩
     ·obtain ⟨zs,rfl⟩:=retD_form hk'
      have e:zs=ys:=by simpa [goA] using hk
      exact h3 σ' a' w' (e▸hk') hs'
 ·simp at h
theorem evT_snd (hX:Env P X) (hst:fr.st=X.ip) {c:Code} {an:Ann} {σ:St} {ys:List C} {Q:Exit→Act→World→Prop} {a:Act} {w:World} (h:evT X an c σ=some (.ret ys)) (hs:Sim X.T fr X.n σ a w)
  (h1:∀σ' a' w',retD X σ'=some (.ret ys)→Sim X.T fr X.n σ' a' w'→Q .normal a' w') (h3:∀σ' a' w',retD X σ'=some (.ret ys)→Sim X.T fr X.n σ' a' w'→Q .ret a' w'):c.wp P Q a w:=by
 have flat:∀an,ev X c [] an (fun σ=>retD X σ) σ=some (.ret ys)→c.wp P Q a w:=fun an h=>
  ev_snd hX hst c [] an _ _ _ _ _ w h hs h1 (fun id t xs a' w' h=>by simp[jget] at h) h3
 unfold evT at h
 split at h
 ·rename_i x l t y z b c
  exact wp_seq (ev_snd hX hst b [] x _ _ _ _ _ w h hs (fun σ' a' w' hk hs'=>evS_snd hX hst hk hs' h1 h3) (fun id t xs a' w' h=>by simp[jget] at h) h3)
 ·exact flat _ h
end
end Go.Ev
namespace Go.Ev
section
variable {P:Program} {T:Tys} {X:Cx} {fr:Fr} {F:Nat→Prop} {w:World} {θ:Nat→Value}
def oneRes (tmps:Array Value):ResultVar→Sem Value
 |.tmp t=>pure (tmps.getD t undef)
 |.cell a t=>do loadVar t (←asAddr (tmps.getD a undef))
theorem resOne_ok (hT:TOk P T) {σ:St} {n:Nat} {a:Act} (hw:WR T fr F w σ.bx θ) (hs:SlR T F w σ.bx θ n σ.sl a) {q:ResultVar} {v:V} (h:resOne T σ q=some v):
  ∃u,(oneRes a.tmps q).run P w=.ok u w∧RelV T F w σ.bx θ v u:=by
 cases q with
 |tmp t=>
  simp only[resOne,Option.some.injEq] at h
  subst h
  exact ⟨_,by simp[oneRes],hs.sl t⟩
 |cell b t=>
  simp only[resOne] at h
  split at h
  ·rename_i d b' ver off hd hb
   have hv:=hs.sl b
   rw[hb] at hv
   split at h
   ·rename_i v' t' cells hbx
    cases hc:andS (Nat.beq v' ver) (Nat.ble (off+len d.cts) (len cells)) with
    |false=>rw[hc,sif_false] at h;simp at h
    |true=>
     rw[hc,sif_true] at h
     simp only[andS_eq,Bool.and_eq_true,len_eq] at hc
     obtain ⟨g,hth,hvv,rfl⟩:=pt_now hv hbx hc.1
     obtain ⟨g',cs,e,d',q1,q2,q3,q4,q5,q6⟩:=hw.box b' _ hbx
     rw[hth] at q1
     simp only[Value.pointer.injEq,Option.some.injEq,Addr.mk.injEq,and_true] at q1
     subst q1
     have hle:=Nat.le_of_ble_eq_true hc.2
     rw[tak_eq,drp_eq,len_eq] at h
     have ht:=tget_ok hT hd
     have hl:((cs.toList.drop off).take d.cts.length).length=d.cts.length:=by
      rw[List.length_take,List.length_drop];simp;omega
     have hl2:((cells.drop off).take d.cts.length).length=d.cts.length:=by
      rw[List.length_take,List.length_drop];omega
     have hrun:=ht.run_loadVar (w:=w) (g:=g) (o:=off) hl (fun j u hj=>by
      rw[List.getElem?_take] at hj
      split at hj
      ·rw[List.getElem?_drop] at hj
       simp[World.cell?,q2];simpa using hj
      ·simp at hj)
     refine ⟨_,?_,mkV_ok ht h (by rw[hl,hl2]) (fun i x u h1 h2=>?_)⟩
     ·simp[oneRes,hvv,asAddr,hrun]
     ·rw[List.getElem?_take] at h1 h2
      split at h1
      ·rename_i hi
       rw[if_pos hi] at h2
       rw[List.getElem?_drop] at h1 h2
       exact q6 _ x u h1 (by simpa using h2)
      ·simp at h1
   ·simp at h
  ·simp at h
theorem resAll_ok (hT:TOk P T) {σ:St} {n:Nat} {a:Act} (hw:WR T fr F w σ.bx θ) (hs:SlR T F w σ.bx θ n σ.sl a):∀(qs:List ResultVar) (vs:List V),resAll T σ qs=some vs→
  ∃us:List Value,(qs.mapM (oneRes a.tmps)).run P w=.ok us w∧us.length=vs.length∧∀(i:Nat) (x:V) (v:Value),vs[i]?=some x→us[i]?=some v→RelV T F w σ.bx θ x v
 |[],vs,h=>by
  simp only[resAll,Option.some.injEq] at h
  subst h
  exact ⟨[],by simp,rfl,fun i x v h=>by simp at h⟩
 |q::r,vs,h=>by
  simp only[resAll] at h
  split at h
  ·rename_i v hv
   split at h
   ·rename_i vs' hvs
    simp only[Option.some.injEq] at h
    subst h
    obtain ⟨u,h1,h2⟩:=resOne_ok (P:=P) hT hw hs hv
    obtain ⟨us,h3,h4,h5⟩:=resAll_ok hT hw hs r vs' hvs
    refine ⟨u::us,by simp[List.mapM_cons,h1,h3],by simp[h4],fun i x z a1 a2=>?_⟩
    cases i with
    |zero=>simp at a1 a2;subst a1;subst a2;exact h2
    |succ i=>exact h5 i x z (by simpa using a1) (by simpa using a2)
   ·simp at h
  ·simp at h
theorem resV_ok (hT:TOk P T) {σ:St} {n:Nat} {a:Act} (hw:WR T fr F w σ.bx θ) (hs:SlR T F w σ.bx θ n σ.sl a) {fn:Func} {v:V} (h:resV T σ fn.results.toList=some v):
  ∃u,(results fn a.tmps).run P w=.ok u w∧RelV T F w σ.bx θ v u:=by
 unfold resV at h
 have key:∀vs,resAll T σ fn.results.toList=some vs→∃us:List Value,(results fn a.tmps).run P w=.ok (if h:us.toArray.size=1 then us.toArray[0] else .tuple us.toArray) w∧us.length=vs.length∧∀(i:Nat) (x:V) (v:Value),vs[i]?=some x→us[i]?=some v→RelV T F w σ.bx θ x v:=by
  intro vs hvs
  obtain ⟨us,h1,h2,h3⟩:=resAll_ok (P:=P) hT hw hs _ vs hvs
  refine ⟨us,?_,h2,h3⟩
  have e:results fn a.tmps=(do let vs←fn.results.mapM (oneRes a.tmps);pure (if h:vs.size=1 then vs[0] else .tuple vs)):=by
   unfold results
   congr 1
  rw[e]
  simp[Array.mapM_eq_mapM_toList,h1]
 split at h
 ·rename_i x hx
  simp only[Option.some.injEq] at h
  subst h
  obtain ⟨us,h1,h2,h3⟩:=key _ hx
  match us,h2 with
  |[u],_=>exact ⟨u,by simpa using h1,h3 0 _ u rfl rfl⟩
 ·rename_i vs hne hx
  simp only[Option.some.injEq] at h
  subst h
  obtain ⟨us,h1,h2,h3⟩:=key _ hx
  have hl:¬us.length=1:=by
   intro hl
   match vs,(h2.symm.trans hl) with
   |[x],_=>exact hne x rfl
  exact ⟨.tuple us.toArray,by simpa [hl] using h1,.tu _ us h2 h3⟩
 ·simp at h
theorem FSOk.of_ev (hX:Env P X) {f:FuncId} {fn:Func} {c:Code} {fs:FS} {an:Ann} (hf:P.funcs[f]?=some fn) (hb:fn.body=some c) (hname:(fn.name== "runtime.NumGoroutine")=false)
  (hn:fn.ntmps=X.n) (hres:fn.results.toList=X.res) (hin:X.inT=fs.inT) (hout:X.outT=fs.outT) (hip:X.ip=fs.ip) (hle:fs.n≤fn.ntmps) (hsl:∀xs k,fs.n≤k→(fs.inT.inj xs).sl k=.un)
  (hF:∀xs ys,fs.F xs=some ys→evF X c an xs=some ys):FSOk P X.T f fs:=by
 refine ⟨⟨fn,c,hf,hb,hname⟩,?_⟩
 intro w wr nl F0 θ xs ys args hw hsz hr hys
 refine calls_of_wp hf hb ?_
 have hev:=hF xs ys hys
 unfold evF at hev
 rw[hin,injK_eq] at hev
 have hr1:evT X an c (fs.inT.inj xs)=some (.ret ys):=by
  unfold finR at hev
  split at hev
  ·rename_i ys' h;rw[h];simp only[Option.some.injEq] at hev;rw[hev]
  ·simp at hev
 have hs:Sim X.T ⟨w,wr,F0,θ,fs.ip,nl⟩ X.n (fs.inT.inj xs) {tmps:=args++Array.replicate (fn.ntmps-args.size) undef,defers:=[]} w:=by
  refine ⟨F0,θ,hw,⟨fun k=>?_,by simp;omega,rfl⟩⟩
  by_cases hk:k<fs.n
  ·have:=hr k hk
   have e:(args++Array.replicate (fn.ntmps-args.size) undef).getD k undef=args.getD k undef:=by
    simp only[Array.getD_eq_getD_getElem?]
    rw[Array.getElem?_append_left (by omega)]
   show RelV _ _ _ _ _ _ ((args++Array.replicate (fn.ntmps-args.size) undef).getD k undef)
   rw[e]
   exact this
  ·rw[hsl xs k (by omega)];exact .un _
 have hfin:∀(σ':St) (a':Act) (w':World),retD X σ'=some (.ret ys)→Sim X.T ⟨w,wr,F0,θ,fs.ip,nl⟩ X.n σ' a' w'→a'.defers=[]∧∃v,(results fn a'.tmps).run P w'=.ok v w'∧∃v' F1 θ1,Ending.returned v=.returned v'∧WR X.T ⟨w,wr,F0,θ,[],nl⟩ F1 w' (fs.outT.inj ys).bx θ1∧RelV X.T F1 w' (fs.outT.inj ys).bx θ1 ((fs.outT.inj ys).sl 0) v'∧
   ∀n x,n∈fs.ip→(fs.outT.inj ys).bx n=some x→θ1 n=θ n∧(x.m=2→Hdr w w' (θ n)):=by
  intro σ' a' w' hret hsim
  obtain ⟨F,θ',hw',hs'⟩:=hsim
  refine ⟨hs'.defers,?_⟩
  unfold retD at hret
  split at hret
  ·rename_i v hv
   cases hc:andS (ipOk σ'.bx X.ip) (allHas X.inT.bx X.ip) with
   |false=>rw[hc,sif_false] at hret;simp at hret
   |true=>
    rw[hc,sif_true] at hret
    simp only[andS_eq,Bool.and_eq_true] at hc
    split at hret
    ·rename_i e he
     cases hz:isNil e.fz with
     |false=>rw[hz,sif_false] at hret;simp at hret
     |true=>
      rw[hz,sif_true] at hret
      simp only[Option.some.injEq,Out.ret.injEq] at hret
      obtain ⟨u,hu,hru⟩:=resV_ok (P:=P) (fn:=fn) hX.T hw' hs' (by rw[hres];exact hv)
      have hval:∀d,RelV X.T F w' σ'.bx θ' (upd (fun _=>V.un) 0 v d) (if d=0 then u else undef):=by
       intro d
       by_cases hd:d=0
       ·subst hd;rw[upd_same,if_pos rfl];exact hru
       ·rw[upd_ne _ _ hd];exact .un _
      have hi:=tm_ext_ok hw' hval he
      have hle':=ext_le hw' hval he
      rw[hret] at hi
      rw[hout] at hi he
      refine ⟨u,hu,u,_,_,rfl,hi.wr hw' (st:=[]) (fun n hn=>by simp at hn),?_,fun n x' hn hx=>?_⟩
      ·have:=hi.sl 0;simpa using this
      ·rw[hip,hin] at hc
       have hf':=hle' n _ (find_idRen (l:=X.ip) (by rw[hip];exact hn))
       obtain ⟨x,q1,q2⟩:=hw'.stay n hn
       obtain ⟨y,q3,q4,q5⟩:=ipOk_mem hc.1 n hn
       rw[q1] at q3;obtain rfl:=Option.some.inj q3
       have hth:thOf θ' e.r n=θ n:=by simp only[thOf,hf'];exact (q2 q4).1
       refine ⟨hth,fun hm=>?_⟩
       obtain ⟨x2,p1,p2⟩:=hi.has n (hi.hasnt n x' hx)
       have hx2:x2=x':=by
        rw[hx] at p1;exact (Option.some.inj p1).symm
       subst hx2
       have:=(q2 q4).2 ?_
       ·rw[(q2 q4).1] at this;exact this
       ·rcases p2.2 with ⟨b',y',r1,r2,r3,r4,_⟩|⟨r1,_⟩
        ·rw[hf'] at r1
         simp only[Option.some.injEq] at r1
         subst r1
         rw[q1] at r2;obtain rfl:=Option.some.inj r2
         exact mok_four r4 q5 hm
        ·rw[hf'] at r1;simp at r1
    ·simp at hret
  ·simp at hret
 refine evT_snd hX (fr:=⟨w,wr,F0,θ,fs.ip,nl⟩) hip.symm hr1 hs (fun σ' a' w' h1 h2=>?_) (fun σ' a' w' h1 h2=>?_)
 ·exact hfin σ' a' w' h1 h2
 ·exact hfin σ' a' w' h1 h2
end
end Go.Ev
namespace Go.Ev
def isZero:CT→Value→Bool
 |.int k,.int k' n=>andS (ikeq k k') (match n with|.ofNat 0=>true|_=>false)
 |.bool,.bool b=>notS b
 |.str,.string s=>match s with|⟨⟨[]⟩⟩=>true|_=>false
 |.sl _,.slice none 0 0=>true
 |.pt _,.pointer none=>true
 |.fn,.nilFunc=>true
 |_,_=>false
theorem isZero_ok {c:CT} {v:Value} (h:isZero c v=true):v=zeroVal c:=by
 unfold isZero at h
 split at h
 ·rename_i k k' n
  simp only[andS_eq,Bool.and_eq_true] at h
  have:=ikeq_eq h.1;subst this
  have h2:=h.2
  split at h2
  ·rfl
  ·simp at h2
 ·rename_i b;cases b<;>simp[notS] at h⊢;rfl
 ·split at h
  ·rfl
  ·simp at h
 ·rfl
 ·rfl
 ·rfl
 ·simp at h
def zerosB:List CT→List Value→Bool
 |[],[]=>true
 |c::cs,v::vs=>andS (isZero c v) (zerosB cs vs)
 |_,_=>false
theorem zerosB_ok:∀ {cs:List CT} {vs:List Value},zerosB cs vs=true→vs=cs.map zeroVal
 |[],[],_=>rfl
 |[],_::_,h=>by simp[zerosB] at h
 |_::_,[],h=>by simp[zerosB] at h
 |c::cs,v::vs,h=>by
  simp only[zerosB,andS_eq,Bool.and_eq_true] at h
  rw[isZero_ok h.1,zerosB_ok h.2];rfl
def zeroB (d:TD) (v:Value):Bool:=match d.agg with
 |true=>match v with|.agg cs=>zerosB d.cts cs.toList|_=>false
 |false=>match d.cts with|[t]=>isZero t v|_=>false
theorem zeroB_ok {d:TD} {v:Value} (h:zeroB d v=true):v=zeroOf d:=by
 unfold zeroB at h
 unfold zeroOf
 split at h
 ·rename_i ha
  rw[ha,if_pos rfl]
  split at h
  ·rw[←zerosB_ok h]
  ·simp at h
 ·rename_i ha
  rw[ha,if_neg (by simp)]
  split at h
  ·rename_i t ht
   rw[ht]
   exact isZero_ok h
  ·simp at h
def ctsEq:List CT→List CT→Bool
 |[],[]=>true
 |a::r,b::s=>andS (cteq a b) (ctsEq r s)
 |_,_=>false
theorem ctsEq_ok:∀ {a b:List CT},ctsEq a b=true→a=b
 |[],[],_=>rfl
 |[],_::_,h=>by simp[ctsEq] at h
 |_::_,[],h=>by simp[ctsEq] at h
 |x::r,y::s,h=>by
  simp only[ctsEq,andS_eq,Bool.and_eq_true] at h
  rw[cteq_eq h.1,ctsEq_ok h.2]
def fsEq:List (Nat×TypeId)→List (Nat×TypeId)→Bool
 |[],[]=>true
 |(a,b)::r,(c,d)::s=>andS (Nat.beq a c) (andS (Nat.beq b d) (fsEq r s))
 |_,_=>false
theorem fsEq_ok:∀ {a b:List (Nat×TypeId)},fsEq a b=true→a=b
 |[],[],_=>rfl
 |[],_::_,h=>by simp[fsEq] at h
 |_::_,[],h=>by simp[fsEq] at h
 |(x,x')::r,(y,y')::s,h=>by
  simp only[fsEq,andS_eq,Bool.and_eq_true] at h
  rw[Nat.eq_of_beq_eq_true h.1,Nat.eq_of_beq_eq_true h.2.1,fsEq_ok h.2.2]
def dvEq:DV→DV→Bool
 |.bool,.bool=>true|.int k,.int k'=>ikeq k k'|.str,.str=>true|.sl e,.sl e'=>Nat.beq e e'|.pt e,.pt e'=>Nat.beq e e'|.st f,.st f'=>fsEq f f'|.fn,.fn=>true|_,_=>false
theorem dvEq_ok {a b:DV} (h:dvEq a b=true):a=b:=by
 unfold dvEq at h
 split at h
 ·rfl
 ·rw[ikeq_eq h]
 ·rfl
 ·rw[Nat.eq_of_beq_eq_true h]
 ·rw[Nat.eq_of_beq_eq_true h]
 ·rw[fsEq_ok h]
 ·rfl
 ·simp at h
def fldB (T:Tys) (cts:List CT):List (Nat×TypeId)→Bool
 |[]=>true
 |(o,f)::r=>andS (match tget T f with|some df=>ctsEq (tak (len df.cts) (drp o cts)) df.cts|none=>true) (fldB T cts r)
theorem fldB_ok {T:Tys} {cts:List CT}:∀ {fs:List (Nat×TypeId)},fldB T cts fs=true→∀o f,(o,f)∈fs→∀df,tget T f=some df→(cts.drop o).take df.cts.length=df.cts
 |[],_,o,f,h,_,_=>by simp at h
 |(o',f')::r,h,o,f,hm,df,hd=>by
  simp only[fldB,andS_eq,Bool.and_eq_true] at h
  rcases List.mem_cons.1 hm with e|hm
  ·simp only[Prod.mk.injEq] at e
   obtain ⟨rfl,rfl⟩:=e
   have h1:=h.1
   rw[hd] at h1
   have:=ctsEq_ok h1
   rw[tak_eq,drp_eq,len_eq] at this
   exact this
  ·exact fldB_ok h.2 o f hm df hd
def leafB (T:Tys) (d:TD):Bool:=match d.dv with
 |.bool=>ctsEq d.cts [.bool]|.int k=>ctsEq d.cts [.int k]|.str=>ctsEq d.cts [.str]|.sl e=>ctsEq d.cts [.sl e]|.pt e=>ctsEq d.cts [.pt e]|.fn=>ctsEq d.cts [.fn]
 |.st fs=>fldB T d.cts fs
 |.other=>false
def tyB (P:Program) (T:Tys) (t:TypeId) (d:TD):Bool:=
 match P.info? t,P.underlying t with
 |some i,some u=>andS (match i.zero with|some z=>zeroB d z|none=>false) (andS (Nat.beq i.size (len d.cts)) (andS (Nat.beq i.bytes d.bytes) (andS (dvEq (viewDesc u) d.dv) (andS (Nat.blt 0 (len d.cts)) (leafB T d)))))
 |_,_=>false
theorem tyB_ok {P:Program} {T:Tys} {t:TypeId} {d:TD} (h:tyB P T t d=true):TyOk P T t d:=by
 unfold tyB at h
 split at h
 ·rename_i i u hi hu
  simp only[andS_eq,Bool.and_eq_true] at h
  obtain ⟨h1,h2,h3,h4,h5,h6⟩:=h
  have h2:=Nat.eq_of_beq_eq_true h2
  have h5:=Nat.le_of_ble_eq_true h5
  rw[len_eq] at h2 h5
  refine ⟨⟨i,hi,?_,h2,Nat.eq_of_beq_eq_true h3⟩,⟨u,hu,dvEq_ok h4⟩,h5,?_⟩
  ·split at h1
   ·rename_i z hz;rw[hz,zeroB_ok h1]
   ·simp at h1
  ·unfold leafB at h6
   cases hd:d.dv with
   |st fs=>rw[hd] at h6;exact fldB_ok h6
   |other=>rw[hd] at h6;simp at h6
   |_=>rw[hd] at h6;exact ctsEq_ok h6
 ·simp at h
def tysB (P:Program) (T:Tys):List (Nat×TD)→Bool
 |[]=>true
 |(t,d)::r=>andS (andS (tyB P T t d) (match d.dv with|.sl e=>(P.info? e).isSome|_=>true)) (tysB P T r)
theorem tget_mem {t:Nat} {d:TD}:∀ {T:Tys},tget T t=some d→(t,d)∈T
 |[],h=>by simp[tget] at h
 |(n,d')::r,h=>by
  replace h:sif (Nat.beq n t) (some d') (tget r t)=some d:=h
  cases hb:Nat.beq n t with
  |true=>
   rw[hb,sif_true] at h
   rw[Option.some.inj h,Nat.eq_of_beq_eq_true hb]
   exact List.mem_cons_self ..
  |false=>rw[hb,sif_false] at h;exact List.mem_cons_of_mem _ (tget_mem h)
theorem tysB_ok {P:Program} {T:Tys} (h:tysB P T T=true):TOk P T∧∀t e,elemOf? T t=some e→(P.info? e).isSome=true:=by
 have key:∀ {l:List (Nat×TD)},tysB P T l=true→∀t d,(t,d)∈l→tyB P T t d=true∧(match d.dv with|.sl e=>(P.info? e).isSome|_=>true)=true:=by
  intro l
  induction l with
  |nil=>intro _ t d h;simp at h
  |cons p r ih=>
   obtain ⟨t',d'⟩:=p
   intro h t d hm
   simp only[tysB,andS_eq,Bool.and_eq_true] at h
   rcases List.mem_cons.1 hm with e|hm
   ·simp only[Prod.mk.injEq] at e;obtain ⟨rfl,rfl⟩:=e;exact h.1
   ·exact ih h.2 t d hm
 refine ⟨fun t d hd=>tyB_ok (key h t d (tget_mem hd)).1,fun t e he=>?_⟩
 unfold elemOf? at he
 split at he
 ·rename_i e' cts b hd
  simp only[Option.some.injEq] at he
  subst he
  exact (key h t _ (tget_mem hd)).2
 ·simp at he
def leafIsB (P:Program) (f:TypeId):CT→Bool
 |.int k=>match P.underlying f with|some (.int k')=>ikeq k' k|_=>false
 |.bool=>match P.underlying f with|some .bool=>true|_=>false
 |.str=>match P.underlying f with|some .string=>true|_=>false
 |_=>false
theorem leafIsB_ok {P:Program} {f:TypeId} {ct:CT} (h:leafIsB P f ct=true):leafIs P f ct:=by
 cases ct with
 |int k=>
  simp only[leafIsB] at h
  split at h
  ·rename_i k' hu;simp only[leafIs];rw[hu,ikeq_eq h]
  ·simp at h
 |bool=>
  simp only[leafIsB] at h
  split at h
  ·rename_i hu;exact hu
  ·simp at h
 |str=>
  simp only[leafIsB] at h
  split at h
  ·rename_i hu;exact hu
  ·simp at h
 |_=>simp[leafIsB] at h
def fieldsB (P:Program):List Field→List CT→Nat→Bool
 |[],[],_=>true
 |f::fs,ct::cts,j=>andS (notS (f.name== "_")) (andS (Nat.beq f.offset j) (andS (leafIsB P f.type ct) (fieldsB P fs cts (j+1))))
 |_,_,_=>false
theorem fieldsB_ok {P:Program}:∀ {fs:List Field} {cts:List CT} {j:Nat},fieldsB P fs cts j=true→fs.length=cts.length∧∀(i:Nat) (f:Field) (ct:CT),fs[i]?=some f→cts[i]?=some ct→f.name≠ "_" ∧f.offset=j+i∧leafIs P f.type ct
 |[],[],j,_=>⟨rfl,fun i f ct h=>by simp at h⟩
 |[],_::_,j,h=>by simp[fieldsB] at h
 |_::_,[],j,h=>by simp[fieldsB] at h
 |f::fs,ct::cts,j,h=>by
  simp only[fieldsB,andS_eq,notS_eq,Bool.and_eq_true] at h
  obtain ⟨h1,h2,h3,h4⟩:=h
  obtain ⟨a,b⟩:=fieldsB_ok h4
  refine ⟨by simp[a],fun i g c hg hc=>?_⟩
  cases i with
  |zero=>
   simp only[List.getElem?_cons_zero,Option.some.injEq] at hg hc
   subst hg;subst hc
   refine ⟨fun e=>?_,by simpa using Nat.eq_of_beq_eq_true h2,leafIsB_ok h3⟩
   rw[e] at h1
   simp at h1
  |succ i=>
   obtain ⟨c1,c2,c3⟩:=b i g c (by simpa using hg) (by simpa using hc)
   exact ⟨c1,by omega,c3⟩
def eqB (P:Program) (T:Tys) (t:TypeId):Bool:=
 match P.underlying t,tget T t with
 |some (.struct fs),some d=>andS (notS (P.stoodInHeld t)) (andS (notS (P.eqGuardType P.depth t)) (fieldsB P fs.toList d.cts 0))
 |_,_=>false
theorem eqB_ok {P:Program} {T:Tys} {t:TypeId} (h:eqB P T t=true):EqOk P T t:=by
 unfold eqB at h
 split at h
 ·rename_i fs d hu hd
  simp only[andS_eq,notS_eq,Bool.and_eq_true,Bool.not_eq_true'] at h
  have hf:P.fieldsOf t=fs:=by simp[Program.fieldsOf,hu]
  refine ⟨by rw[hf];exact hu,h.1,h.2.1,fun d' hd'=>?_⟩
  rw[hd] at hd'
  obtain rfl:=Option.some.inj hd'
  obtain ⟨a,b⟩:=fieldsB_ok h.2.2
  rw[hf]
  exact ⟨a,fun i f ct h1 h2=>by have:=b i f ct h1 h2;simpa using this⟩
 ·simp at h
def eqsB (P:Program) (T:Tys):List Nat→Bool|[]=>true|t::r=>andS (eqB P T t) (eqsB P T r)
theorem eqsB_ok {P:Program} {T:Tys}:∀ {l:List Nat},eqsB P T l=true→∀t,memb l t=true→EqOk P T t
 |[],_,t,h=>by simp[memb] at h
 |a::r,h,t,hm=>by
  simp only[eqsB,andS_eq,Bool.and_eq_true] at h
  rw[memb_iff] at hm
  rcases List.mem_cons.1 hm with rfl|hm
  ·exact eqB_ok h.1
  ·exact eqsB_ok h.2 t ((memb_iff _ _).2 hm)
end Go.Ev
namespace Go.Ev
abbrev bs (l:Array UInt8):ByteArray:=⟨l⟩
abbrev nils:List (List C):=[]
abbrev rows (l:List (List C)):List (List C):=l
abbrev w64 (n:Int):Int:=IntKind.wrap .i64 n
def call1 (o:Option (List C)) (K:C→R):R:=bindF o fun ys=>K (ys.getD 0 .nil)
def call2 (o:Option (List C)) (K:C→C→R):R:=bindF o fun ys=>K (ys.getD 0 .nil) (ys.getD 1 .nil)
def call3 (o:Option (List C)) (K:C→C→C→R):R:=bindF o fun ys=>K (ys.getD 0 .nil) (ys.getD 1 .nil) (ys.getD 2 .nil)
def call4 (o:Option (List C)) (K:C→C→C→C→R):R:=bindF o fun ys=>K (ys.getD 0 .nil) (ys.getD 1 .nil) (ys.getD 2 .nil) (ys.getD 3 .nil)
def call5 (o:Option (List C)) (K:C→C→C→C→C→R):R:=bindF o fun ys=>K (ys.getD 0 .nil) (ys.getD 1 .nil) (ys.getD 2 .nil) (ys.getD 3 .nil) (ys.getD 4 .nil)
def call6 (o:Option (List C)) (K:C→C→C→C→C→C→R):R:=bindF o fun ys=>K (ys.getD 0 .nil) (ys.getD 1 .nil) (ys.getD 2 .nil) (ys.getD 3 .nil) (ys.getD 4 .nil) (ys.getD 5 .nil)
def call7 (o:Option (List C)) (K:C→C→C→C→C→C→C→R):R:=bindF o fun ys=>K (ys.getD 0 .nil) (ys.getD 1 .nil) (ys.getD 2 .nil) (ys.getD 3 .nil) (ys.getD 4 .nil) (ys.getD 5 .nil) (ys.getD 6 .nil)
def call8 (o:Option (List C)) (K:C→C→C→C→C→C→C→C→R):R:=bindF o fun ys=>K (ys.getD 0 .nil) (ys.getD 1 .nil) (ys.getD 2 .nil) (ys.getD 3 .nil) (ys.getD 4 .nil) (ys.getD 5 .nil) (ys.getD 6 .nil) (ys.getD 7 .nil)
def call9 (o:Option (List C)) (K:C→C→C→C→C→C→C→C→C→R):R:=bindF o fun ys=>K (ys.getD 0 .nil) (ys.getD 1 .nil) (ys.getD 2 .nil) (ys.getD 3 .nil) (ys.getD 4 .nil) (ys.getD 5 .nil) (ys.getD 6 .nil) (ys.getD 7 .nil) (ys.getD 8 .nil)
def call10 (o:Option (List C)) (K:C→C→C→C→C→C→C→C→C→C→R):R:=bindF o fun ys=>K (ys.getD 0 .nil) (ys.getD 1 .nil) (ys.getD 2 .nil) (ys.getD 3 .nil) (ys.getD 4 .nil) (ys.getD 5 .nil) (ys.getD 6 .nil) (ys.getD 7 .nil) (ys.getD 8 .nil) (ys.getD 9 .nil)
def call11 (o:Option (List C)) (K:C→C→C→C→C→C→C→C→C→C→C→R):R:=bindF o fun ys=>K (ys.getD 0 .nil) (ys.getD 1 .nil) (ys.getD 2 .nil) (ys.getD 3 .nil) (ys.getD 4 .nil) (ys.getD 5 .nil) (ys.getD 6 .nil) (ys.getD 7 .nil) (ys.getD 8 .nil) (ys.getD 9 .nil) (ys.getD 10 .nil)
def call12 (o:Option (List C)) (K:C→C→C→C→C→C→C→C→C→C→C→C→R):R:=bindF o fun ys=>K (ys.getD 0 .nil) (ys.getD 1 .nil) (ys.getD 2 .nil) (ys.getD 3 .nil) (ys.getD 4 .nil) (ys.getD 5 .nil) (ys.getD 6 .nil) (ys.getD 7 .nil) (ys.getD 8 .nil) (ys.getD 9 .nil) (ys.getD 10 .nil) (ys.getD 11 .nil)
def call13 (o:Option (List C)) (K:C→C→C→C→C→C→C→C→C→C→C→C→C→R):R:=bindF o fun ys=>K (ys.getD 0 .nil) (ys.getD 1 .nil) (ys.getD 2 .nil) (ys.getD 3 .nil) (ys.getD 4 .nil) (ys.getD 5 .nil) (ys.getD 6 .nil) (ys.getD 7 .nil) (ys.getD 8 .nil) (ys.getD 9 .nil) (ys.getD 10 .nil) (ys.getD 11 .nil) (ys.getD 12 .nil)
def call14 (o:Option (List C)) (K:C→C→C→C→C→C→C→C→C→C→C→C→C→C→R):R:=bindF o fun ys=>K (ys.getD 0 .nil) (ys.getD 1 .nil) (ys.getD 2 .nil) (ys.getD 3 .nil) (ys.getD 4 .nil) (ys.getD 5 .nil) (ys.getD 6 .nil) (ys.getD 7 .nil) (ys.getD 8 .nil) (ys.getD 9 .nil) (ys.getD 10 .nil) (ys.getD 11 .nil) (ys.getD 12 .nil) (ys.getD 13 .nil)
def call15 (o:Option (List C)) (K:C→C→C→C→C→C→C→C→C→C→C→C→C→C→C→R):R:=bindF o fun ys=>K (ys.getD 0 .nil) (ys.getD 1 .nil) (ys.getD 2 .nil) (ys.getD 3 .nil) (ys.getD 4 .nil) (ys.getD 5 .nil) (ys.getD 6 .nil) (ys.getD 7 .nil) (ys.getD 8 .nil) (ys.getD 9 .nil) (ys.getD 10 .nil) (ys.getD 11 .nil) (ys.getD 12 .nil) (ys.getD 13 .nil) (ys.getD 14 .nil)
def call16 (o:Option (List C)) (K:C→C→C→C→C→C→C→C→C→C→C→C→C→C→C→C→R):R:=bindF o fun ys=>K (ys.getD 0 .nil) (ys.getD 1 .nil) (ys.getD 2 .nil) (ys.getD 3 .nil) (ys.getD 4 .nil) (ys.getD 5 .nil) (ys.getD 6 .nil) (ys.getD 7 .nil) (ys.getD 8 .nil) (ys.getD 9 .nil) (ys.getD 10 .nil) (ys.getD 11 .nil) (ys.getD 12 .nil) (ys.getD 13 .nil) (ys.getD 14 .nil) (ys.getD 15 .nil)
def call17 (o:Option (List C)) (K:C→C→C→C→C→C→C→C→C→C→C→C→C→C→C→C→C→R):R:=bindF o fun ys=>K (ys.getD 0 .nil) (ys.getD 1 .nil) (ys.getD 2 .nil) (ys.getD 3 .nil) (ys.getD 4 .nil) (ys.getD 5 .nil) (ys.getD 6 .nil) (ys.getD 7 .nil) (ys.getD 8 .nil) (ys.getD 9 .nil) (ys.getD 10 .nil) (ys.getD 11 .nil) (ys.getD 12 .nil) (ys.getD 13 .nil) (ys.getD 14 .nil) (ys.getD 15 .nil) (ys.getD 16 .nil)
def call18 (o:Option (List C)) (K:C→C→C→C→C→C→C→C→C→C→C→C→C→C→C→C→C→C→R):R:=bindF o fun ys=>K (ys.getD 0 .nil) (ys.getD 1 .nil) (ys.getD 2 .nil) (ys.getD 3 .nil) (ys.getD 4 .nil) (ys.getD 5 .nil) (ys.getD 6 .nil) (ys.getD 7 .nil) (ys.getD 8 .nil) (ys.getD 9 .nil) (ys.getD 10 .nil) (ys.getD 11 .nil) (ys.getD 12 .nil) (ys.getD 13 .nil) (ys.getD 14 .nil) (ys.getD 15 .nil) (ys.getD 16 .nil) (ys.getD 17 .nil)
def call19 (o:Option (List C)) (K:C→C→C→C→C→C→C→C→C→C→C→C→C→C→C→C→C→C→C→R):R:=bindF o fun ys=>K (ys.getD 0 .nil) (ys.getD 1 .nil) (ys.getD 2 .nil) (ys.getD 3 .nil) (ys.getD 4 .nil) (ys.getD 5 .nil) (ys.getD 6 .nil) (ys.getD 7 .nil) (ys.getD 8 .nil) (ys.getD 9 .nil) (ys.getD 10 .nil) (ys.getD 11 .nil) (ys.getD 12 .nil) (ys.getD 13 .nil) (ys.getD 14 .nil) (ys.getD 15 .nil) (ys.getD 16 .nil) (ys.getD 17 .nil) (ys.getD 18 .nil)
def call20 (o:Option (List C)) (K:C→C→C→C→C→C→C→C→C→C→C→C→C→C→C→C→C→C→C→C→R):R:=bindF o fun ys=>K (ys.getD 0 .nil) (ys.getD 1 .nil) (ys.getD 2 .nil) (ys.getD 3 .nil) (ys.getD 4 .nil) (ys.getD 5 .nil) (ys.getD 6 .nil) (ys.getD 7 .nil) (ys.getD 8 .nil) (ys.getD 9 .nil) (ys.getD 10 .nil) (ys.getD 11 .nil) (ys.getD 12 .nil) (ys.getD 13 .nil) (ys.getD 14 .nil) (ys.getD 15 .nil) (ys.getD 16 .nil) (ys.getD 17 .nil) (ys.getD 18 .nil) (ys.getD 19 .nil)
def call21 (o:Option (List C)) (K:C→C→C→C→C→C→C→C→C→C→C→C→C→C→C→C→C→C→C→C→C→R):R:=bindF o fun ys=>K (ys.getD 0 .nil) (ys.getD 1 .nil) (ys.getD 2 .nil) (ys.getD 3 .nil) (ys.getD 4 .nil) (ys.getD 5 .nil) (ys.getD 6 .nil) (ys.getD 7 .nil) (ys.getD 8 .nil) (ys.getD 9 .nil) (ys.getD 10 .nil) (ys.getD 11 .nil) (ys.getD 12 .nil) (ys.getD 13 .nil) (ys.getD 14 .nil) (ys.getD 15 .nil) (ys.getD 16 .nil) (ys.getD 17 .nil) (ys.getD 18 .nil) (ys.getD 19 .nil) (ys.getD 20 .nil)
def call22 (o:Option (List C)) (K:C→C→C→C→C→C→C→C→C→C→C→C→C→C→C→C→C→C→C→C→C→C→R):R:=bindF o fun ys=>K (ys.getD 0 .nil) (ys.getD 1 .nil) (ys.getD 2 .nil) (ys.getD 3 .nil) (ys.getD 4 .nil) (ys.getD 5 .nil) (ys.getD 6 .nil) (ys.getD 7 .nil) (ys.getD 8 .nil) (ys.getD 9 .nil) (ys.getD 10 .nil) (ys.getD 11 .nil) (ys.getD 12 .nil) (ys.getD 13 .nil) (ys.getD 14 .nil) (ys.getD 15 .nil) (ys.getD 16 .nil) (ys.getD 17 .nil) (ys.getD 18 .nil) (ys.getD 19 .nil) (ys.getD 20 .nil) (ys.getD 21 .nil)
def call23 (o:Option (List C)) (K:C→C→C→C→C→C→C→C→C→C→C→C→C→C→C→C→C→C→C→C→C→C→C→R):R:=bindF o fun ys=>K (ys.getD 0 .nil) (ys.getD 1 .nil) (ys.getD 2 .nil) (ys.getD 3 .nil) (ys.getD 4 .nil) (ys.getD 5 .nil) (ys.getD 6 .nil) (ys.getD 7 .nil) (ys.getD 8 .nil) (ys.getD 9 .nil) (ys.getD 10 .nil) (ys.getD 11 .nil) (ys.getD 12 .nil) (ys.getD 13 .nil) (ys.getD 14 .nil) (ys.getD 15 .nil) (ys.getD 16 .nil) (ys.getD 17 .nil) (ys.getD 18 .nil) (ys.getD 19 .nil) (ys.getD 20 .nil) (ys.getD 21 .nil) (ys.getD 22 .nil)
def call24 (o:Option (List C)) (K:C→C→C→C→C→C→C→C→C→C→C→C→C→C→C→C→C→C→C→C→C→C→C→C→R):R:=bindF o fun ys=>K (ys.getD 0 .nil) (ys.getD 1 .nil) (ys.getD 2 .nil) (ys.getD 3 .nil) (ys.getD 4 .nil) (ys.getD 5 .nil) (ys.getD 6 .nil) (ys.getD 7 .nil) (ys.getD 8 .nil) (ys.getD 9 .nil) (ys.getD 10 .nil) (ys.getD 11 .nil) (ys.getD 12 .nil) (ys.getD 13 .nil) (ys.getD 14 .nil) (ys.getD 15 .nil) (ys.getD 16 .nil) (ys.getD 17 .nil) (ys.getD 18 .nil) (ys.getD 19 .nil) (ys.getD 20 .nil) (ys.getD 21 .nil) (ys.getD 22 .nil) (ys.getD 23 .nil)
def ap1 (f:C→R) (xs:List C):R:=f (xs.getD 0 .nil)
def ap2 (f:C→C→R) (xs:List C):R:=f (xs.getD 0 .nil) (xs.getD 1 .nil)
def ap3 (f:C→C→C→R) (xs:List C):R:=f (xs.getD 0 .nil) (xs.getD 1 .nil) (xs.getD 2 .nil)
def ap4 (f:C→C→C→C→R) (xs:List C):R:=f (xs.getD 0 .nil) (xs.getD 1 .nil) (xs.getD 2 .nil) (xs.getD 3 .nil)
def ap5 (f:C→C→C→C→C→R) (xs:List C):R:=f (xs.getD 0 .nil) (xs.getD 1 .nil) (xs.getD 2 .nil) (xs.getD 3 .nil) (xs.getD 4 .nil)
def ap6 (f:C→C→C→C→C→C→R) (xs:List C):R:=f (xs.getD 0 .nil) (xs.getD 1 .nil) (xs.getD 2 .nil) (xs.getD 3 .nil) (xs.getD 4 .nil) (xs.getD 5 .nil)
def ap7 (f:C→C→C→C→C→C→C→R) (xs:List C):R:=f (xs.getD 0 .nil) (xs.getD 1 .nil) (xs.getD 2 .nil) (xs.getD 3 .nil) (xs.getD 4 .nil) (xs.getD 5 .nil) (xs.getD 6 .nil)
def ap8 (f:C→C→C→C→C→C→C→C→R) (xs:List C):R:=f (xs.getD 0 .nil) (xs.getD 1 .nil) (xs.getD 2 .nil) (xs.getD 3 .nil) (xs.getD 4 .nil) (xs.getD 5 .nil) (xs.getD 6 .nil) (xs.getD 7 .nil)
def ap9 (f:C→C→C→C→C→C→C→C→C→R) (xs:List C):R:=f (xs.getD 0 .nil) (xs.getD 1 .nil) (xs.getD 2 .nil) (xs.getD 3 .nil) (xs.getD 4 .nil) (xs.getD 5 .nil) (xs.getD 6 .nil) (xs.getD 7 .nil) (xs.getD 8 .nil)
def ap10 (f:C→C→C→C→C→C→C→C→C→C→R) (xs:List C):R:=f (xs.getD 0 .nil) (xs.getD 1 .nil) (xs.getD 2 .nil) (xs.getD 3 .nil) (xs.getD 4 .nil) (xs.getD 5 .nil) (xs.getD 6 .nil) (xs.getD 7 .nil) (xs.getD 8 .nil) (xs.getD 9 .nil)
def ap11 (f:C→C→C→C→C→C→C→C→C→C→C→R) (xs:List C):R:=f (xs.getD 0 .nil) (xs.getD 1 .nil) (xs.getD 2 .nil) (xs.getD 3 .nil) (xs.getD 4 .nil) (xs.getD 5 .nil) (xs.getD 6 .nil) (xs.getD 7 .nil) (xs.getD 8 .nil) (xs.getD 9 .nil) (xs.getD 10 .nil)
def ap12 (f:C→C→C→C→C→C→C→C→C→C→C→C→R) (xs:List C):R:=f (xs.getD 0 .nil) (xs.getD 1 .nil) (xs.getD 2 .nil) (xs.getD 3 .nil) (xs.getD 4 .nil) (xs.getD 5 .nil) (xs.getD 6 .nil) (xs.getD 7 .nil) (xs.getD 8 .nil) (xs.getD 9 .nil) (xs.getD 10 .nil) (xs.getD 11 .nil)
def ap13 (f:C→C→C→C→C→C→C→C→C→C→C→C→C→R) (xs:List C):R:=f (xs.getD 0 .nil) (xs.getD 1 .nil) (xs.getD 2 .nil) (xs.getD 3 .nil) (xs.getD 4 .nil) (xs.getD 5 .nil) (xs.getD 6 .nil) (xs.getD 7 .nil) (xs.getD 8 .nil) (xs.getD 9 .nil) (xs.getD 10 .nil) (xs.getD 11 .nil) (xs.getD 12 .nil)
def ap14 (f:C→C→C→C→C→C→C→C→C→C→C→C→C→C→R) (xs:List C):R:=f (xs.getD 0 .nil) (xs.getD 1 .nil) (xs.getD 2 .nil) (xs.getD 3 .nil) (xs.getD 4 .nil) (xs.getD 5 .nil) (xs.getD 6 .nil) (xs.getD 7 .nil) (xs.getD 8 .nil) (xs.getD 9 .nil) (xs.getD 10 .nil) (xs.getD 11 .nil) (xs.getD 12 .nil) (xs.getD 13 .nil)
def ap15 (f:C→C→C→C→C→C→C→C→C→C→C→C→C→C→C→R) (xs:List C):R:=f (xs.getD 0 .nil) (xs.getD 1 .nil) (xs.getD 2 .nil) (xs.getD 3 .nil) (xs.getD 4 .nil) (xs.getD 5 .nil) (xs.getD 6 .nil) (xs.getD 7 .nil) (xs.getD 8 .nil) (xs.getD 9 .nil) (xs.getD 10 .nil) (xs.getD 11 .nil) (xs.getD 12 .nil) (xs.getD 13 .nil) (xs.getD 14 .nil)
def ap16 (f:C→C→C→C→C→C→C→C→C→C→C→C→C→C→C→C→R) (xs:List C):R:=f (xs.getD 0 .nil) (xs.getD 1 .nil) (xs.getD 2 .nil) (xs.getD 3 .nil) (xs.getD 4 .nil) (xs.getD 5 .nil) (xs.getD 6 .nil) (xs.getD 7 .nil) (xs.getD 8 .nil) (xs.getD 9 .nil) (xs.getD 10 .nil) (xs.getD 11 .nil) (xs.getD 12 .nil) (xs.getD 13 .nil) (xs.getD 14 .nil) (xs.getD 15 .nil)
def ap17 (f:C→C→C→C→C→C→C→C→C→C→C→C→C→C→C→C→C→R) (xs:List C):R:=f (xs.getD 0 .nil) (xs.getD 1 .nil) (xs.getD 2 .nil) (xs.getD 3 .nil) (xs.getD 4 .nil) (xs.getD 5 .nil) (xs.getD 6 .nil) (xs.getD 7 .nil) (xs.getD 8 .nil) (xs.getD 9 .nil) (xs.getD 10 .nil) (xs.getD 11 .nil) (xs.getD 12 .nil) (xs.getD 13 .nil) (xs.getD 14 .nil) (xs.getD 15 .nil) (xs.getD 16 .nil)
def ap18 (f:C→C→C→C→C→C→C→C→C→C→C→C→C→C→C→C→C→C→R) (xs:List C):R:=f (xs.getD 0 .nil) (xs.getD 1 .nil) (xs.getD 2 .nil) (xs.getD 3 .nil) (xs.getD 4 .nil) (xs.getD 5 .nil) (xs.getD 6 .nil) (xs.getD 7 .nil) (xs.getD 8 .nil) (xs.getD 9 .nil) (xs.getD 10 .nil) (xs.getD 11 .nil) (xs.getD 12 .nil) (xs.getD 13 .nil) (xs.getD 14 .nil) (xs.getD 15 .nil) (xs.getD 16 .nil) (xs.getD 17 .nil)
def ap19 (f:C→C→C→C→C→C→C→C→C→C→C→C→C→C→C→C→C→C→C→R) (xs:List C):R:=f (xs.getD 0 .nil) (xs.getD 1 .nil) (xs.getD 2 .nil) (xs.getD 3 .nil) (xs.getD 4 .nil) (xs.getD 5 .nil) (xs.getD 6 .nil) (xs.getD 7 .nil) (xs.getD 8 .nil) (xs.getD 9 .nil) (xs.getD 10 .nil) (xs.getD 11 .nil) (xs.getD 12 .nil) (xs.getD 13 .nil) (xs.getD 14 .nil) (xs.getD 15 .nil) (xs.getD 16 .nil) (xs.getD 17 .nil) (xs.getD 18 .nil)
def ap20 (f:C→C→C→C→C→C→C→C→C→C→C→C→C→C→C→C→C→C→C→C→R) (xs:List C):R:=f (xs.getD 0 .nil) (xs.getD 1 .nil) (xs.getD 2 .nil) (xs.getD 3 .nil) (xs.getD 4 .nil) (xs.getD 5 .nil) (xs.getD 6 .nil) (xs.getD 7 .nil) (xs.getD 8 .nil) (xs.getD 9 .nil) (xs.getD 10 .nil) (xs.getD 11 .nil) (xs.getD 12 .nil) (xs.getD 13 .nil) (xs.getD 14 .nil) (xs.getD 15 .nil) (xs.getD 16 .nil) (xs.getD 17 .nil) (xs.getD 18 .nil) (xs.getD 19 .nil)
def ap21 (f:C→C→C→C→C→C→C→C→C→C→C→C→C→C→C→C→C→C→C→C→C→R) (xs:List C):R:=f (xs.getD 0 .nil) (xs.getD 1 .nil) (xs.getD 2 .nil) (xs.getD 3 .nil) (xs.getD 4 .nil) (xs.getD 5 .nil) (xs.getD 6 .nil) (xs.getD 7 .nil) (xs.getD 8 .nil) (xs.getD 9 .nil) (xs.getD 10 .nil) (xs.getD 11 .nil) (xs.getD 12 .nil) (xs.getD 13 .nil) (xs.getD 14 .nil) (xs.getD 15 .nil) (xs.getD 16 .nil) (xs.getD 17 .nil) (xs.getD 18 .nil) (xs.getD 19 .nil) (xs.getD 20 .nil)
def ap22 (f:C→C→C→C→C→C→C→C→C→C→C→C→C→C→C→C→C→C→C→C→C→C→R) (xs:List C):R:=f (xs.getD 0 .nil) (xs.getD 1 .nil) (xs.getD 2 .nil) (xs.getD 3 .nil) (xs.getD 4 .nil) (xs.getD 5 .nil) (xs.getD 6 .nil) (xs.getD 7 .nil) (xs.getD 8 .nil) (xs.getD 9 .nil) (xs.getD 10 .nil) (xs.getD 11 .nil) (xs.getD 12 .nil) (xs.getD 13 .nil) (xs.getD 14 .nil) (xs.getD 15 .nil) (xs.getD 16 .nil) (xs.getD 17 .nil) (xs.getD 18 .nil) (xs.getD 19 .nil) (xs.getD 20 .nil) (xs.getD 21 .nil)
def ap23 (f:C→C→C→C→C→C→C→C→C→C→C→C→C→C→C→C→C→C→C→C→C→C→C→R) (xs:List C):R:=f (xs.getD 0 .nil) (xs.getD 1 .nil) (xs.getD 2 .nil) (xs.getD 3 .nil) (xs.getD 4 .nil) (xs.getD 5 .nil) (xs.getD 6 .nil) (xs.getD 7 .nil) (xs.getD 8 .nil) (xs.getD 9 .nil) (xs.getD 10 .nil) (xs.getD 11 .nil) (xs.getD 12 .nil) (xs.getD 13 .nil) (xs.getD 14 .nil) (xs.getD 15 .nil) (xs.getD 16 .nil) (xs.getD 17 .nil) (xs.getD 18 .nil) (xs.getD 19 .nil) (xs.getD 20 .nil) (xs.getD 21 .nil) (xs.getD 22 .nil)
def ap24 (f:C→C→C→C→C→C→C→C→C→C→C→C→C→C→C→C→C→C→C→C→C→C→C→C→R) (xs:List C):R:=f (xs.getD 0 .nil) (xs.getD 1 .nil) (xs.getD 2 .nil) (xs.getD 3 .nil) (xs.getD 4 .nil) (xs.getD 5 .nil) (xs.getD 6 .nil) (xs.getD 7 .nil) (xs.getD 8 .nil) (xs.getD 9 .nil) (xs.getD 10 .nil) (xs.getD 11 .nil) (xs.getD 12 .nil) (xs.getD 13 .nil) (xs.getD 14 .nil) (xs.getD 15 .nil) (xs.getD 16 .nil) (xs.getD 17 .nil) (xs.getD 18 .nil) (xs.getD 19 .nil) (xs.getD 20 .nil) (xs.getD 21 .nil) (xs.getD 22 .nil) (xs.getD 23 .nil)
def ap25 (f:C→C→C→C→C→C→C→C→C→C→C→C→C→C→C→C→C→C→C→C→C→C→C→C→C→R) (xs:List C):R:=f (xs.getD 0 .nil) (xs.getD 1 .nil) (xs.getD 2 .nil) (xs.getD 3 .nil) (xs.getD 4 .nil) (xs.getD 5 .nil) (xs.getD 6 .nil) (xs.getD 7 .nil) (xs.getD 8 .nil) (xs.getD 9 .nil) (xs.getD 10 .nil) (xs.getD 11 .nil) (xs.getD 12 .nil) (xs.getD 13 .nil) (xs.getD 14 .nil) (xs.getD 15 .nil) (xs.getD 16 .nil) (xs.getD 17 .nil) (xs.getD 18 .nil) (xs.getD 19 .nil) (xs.getD 20 .nil) (xs.getD 21 .nil) (xs.getD 22 .nil) (xs.getD 23 .nil) (xs.getD 24 .nil)
def ap26 (f:C→C→C→C→C→C→C→C→C→C→C→C→C→C→C→C→C→C→C→C→C→C→C→C→C→C→R) (xs:List C):R:=f (xs.getD 0 .nil) (xs.getD 1 .nil) (xs.getD 2 .nil) (xs.getD 3 .nil) (xs.getD 4 .nil) (xs.getD 5 .nil) (xs.getD 6 .nil) (xs.getD 7 .nil) (xs.getD 8 .nil) (xs.getD 9 .nil) (xs.getD 10 .nil) (xs.getD 11 .nil) (xs.getD 12 .nil) (xs.getD 13 .nil) (xs.getD 14 .nil) (xs.getD 15 .nil) (xs.getD 16 .nil) (xs.getD 17 .nil) (xs.getD 18 .nil) (xs.getD 19 .nil) (xs.getD 20 .nil) (xs.getD 21 .nil) (xs.getD 22 .nil) (xs.getD 23 .nil) (xs.getD 24 .nil) (xs.getD 25 .nil)
def ap27 (f:C→C→C→C→C→C→C→C→C→C→C→C→C→C→C→C→C→C→C→C→C→C→C→C→C→C→C→R) (xs:List C):R:=f (xs.getD 0 .nil) (xs.getD 1 .nil) (xs.getD 2 .nil) (xs.getD 3 .nil) (xs.getD 4 .nil) (xs.getD 5 .nil) (xs.getD 6 .nil) (xs.getD 7 .nil) (xs.getD 8 .nil) (xs.getD 9 .nil) (xs.getD 10 .nil) (xs.getD 11 .nil) (xs.getD 12 .nil) (xs.getD 13 .nil) (xs.getD 14 .nil) (xs.getD 15 .nil) (xs.getD 16 .nil) (xs.getD 17 .nil) (xs.getD 18 .nil) (xs.getD 19 .nil) (xs.getD 20 .nil) (xs.getD 21 .nil) (xs.getD 22 .nil) (xs.getD 23 .nil) (xs.getD 24 .nil) (xs.getD 25 .nil) (xs.getD 26 .nil)
def ap28 (f:C→C→C→C→C→C→C→C→C→C→C→C→C→C→C→C→C→C→C→C→C→C→C→C→C→C→C→C→R) (xs:List C):R:=f (xs.getD 0 .nil) (xs.getD 1 .nil) (xs.getD 2 .nil) (xs.getD 3 .nil) (xs.getD 4 .nil) (xs.getD 5 .nil) (xs.getD 6 .nil) (xs.getD 7 .nil) (xs.getD 8 .nil) (xs.getD 9 .nil) (xs.getD 10 .nil) (xs.getD 11 .nil) (xs.getD 12 .nil) (xs.getD 13 .nil) (xs.getD 14 .nil) (xs.getD 15 .nil) (xs.getD 16 .nil) (xs.getD 17 .nil) (xs.getD 18 .nil) (xs.getD 19 .nil) (xs.getD 20 .nil) (xs.getD 21 .nil) (xs.getD 22 .nil) (xs.getD 23 .nil) (xs.getD 24 .nil) (xs.getD 25 .nil) (xs.getD 26 .nil) (xs.getD 27 .nil)
def ap29 (f:C→C→C→C→C→C→C→C→C→C→C→C→C→C→C→C→C→C→C→C→C→C→C→C→C→C→C→C→C→R) (xs:List C):R:=f (xs.getD 0 .nil) (xs.getD 1 .nil) (xs.getD 2 .nil) (xs.getD 3 .nil) (xs.getD 4 .nil) (xs.getD 5 .nil) (xs.getD 6 .nil) (xs.getD 7 .nil) (xs.getD 8 .nil) (xs.getD 9 .nil) (xs.getD 10 .nil) (xs.getD 11 .nil) (xs.getD 12 .nil) (xs.getD 13 .nil) (xs.getD 14 .nil) (xs.getD 15 .nil) (xs.getD 16 .nil) (xs.getD 17 .nil) (xs.getD 18 .nil) (xs.getD 19 .nil) (xs.getD 20 .nil) (xs.getD 21 .nil) (xs.getD 22 .nil) (xs.getD 23 .nil) (xs.getD 24 .nil) (xs.getD 25 .nil) (xs.getD 26 .nil) (xs.getD 27 .nil) (xs.getD 28 .nil)
def ap30 (f:C→C→C→C→C→C→C→C→C→C→C→C→C→C→C→C→C→C→C→C→C→C→C→C→C→C→C→C→C→C→R) (xs:List C):R:=f (xs.getD 0 .nil) (xs.getD 1 .nil) (xs.getD 2 .nil) (xs.getD 3 .nil) (xs.getD 4 .nil) (xs.getD 5 .nil) (xs.getD 6 .nil) (xs.getD 7 .nil) (xs.getD 8 .nil) (xs.getD 9 .nil) (xs.getD 10 .nil) (xs.getD 11 .nil) (xs.getD 12 .nil) (xs.getD 13 .nil) (xs.getD 14 .nil) (xs.getD 15 .nil) (xs.getD 16 .nil) (xs.getD 17 .nil) (xs.getD 18 .nil) (xs.getD 19 .nil) (xs.getD 20 .nil) (xs.getD 21 .nil) (xs.getD 22 .nil) (xs.getD 23 .nil) (xs.getD 24 .nil) (xs.getD 25 .nil) (xs.getD 26 .nil) (xs.getD 27 .nil) (xs.getD 28 .nil) (xs.getD 29 .nil)
def ap31 (f:C→C→C→C→C→C→C→C→C→C→C→C→C→C→C→C→C→C→C→C→C→C→C→C→C→C→C→C→C→C→C→R) (xs:List C):R:=f (xs.getD 0 .nil) (xs.getD 1 .nil) (xs.getD 2 .nil) (xs.getD 3 .nil) (xs.getD 4 .nil) (xs.getD 5 .nil) (xs.getD 6 .nil) (xs.getD 7 .nil) (xs.getD 8 .nil) (xs.getD 9 .nil) (xs.getD 10 .nil) (xs.getD 11 .nil) (xs.getD 12 .nil) (xs.getD 13 .nil) (xs.getD 14 .nil) (xs.getD 15 .nil) (xs.getD 16 .nil) (xs.getD 17 .nil) (xs.getD 18 .nil) (xs.getD 19 .nil) (xs.getD 20 .nil) (xs.getD 21 .nil) (xs.getD 22 .nil) (xs.getD 23 .nil) (xs.getD 24 .nil) (xs.getD 25 .nil) (xs.getD 26 .nil) (xs.getD 27 .nil) (xs.getD 28 .nil) (xs.getD 29 .nil) (xs.getD 30 .nil)
def ap32 (f:C→C→C→C→C→C→C→C→C→C→C→C→C→C→C→C→C→C→C→C→C→C→C→C→C→C→C→C→C→C→C→C→R) (xs:List C):R:=f (xs.getD 0 .nil) (xs.getD 1 .nil) (xs.getD 2 .nil) (xs.getD 3 .nil) (xs.getD 4 .nil) (xs.getD 5 .nil) (xs.getD 6 .nil) (xs.getD 7 .nil) (xs.getD 8 .nil) (xs.getD 9 .nil) (xs.getD 10 .nil) (xs.getD 11 .nil) (xs.getD 12 .nil) (xs.getD 13 .nil) (xs.getD 14 .nil) (xs.getD 15 .nil) (xs.getD 16 .nil) (xs.getD 17 .nil) (xs.getD 18 .nil) (xs.getD 19 .nil) (xs.getD 20 .nil) (xs.getD 21 .nil) (xs.getD 22 .nil) (xs.getD 23 .nil) (xs.getD 24 .nil) (xs.getD 25 .nil) (xs.getD 26 .nil) (xs.getD 27 .nil) (xs.getD 28 .nil) (xs.getD 29 .nil) (xs.getD 30 .nil) (xs.getD 31 .nil)
def ap33 (f:C→C→C→C→C→C→C→C→C→C→C→C→C→C→C→C→C→C→C→C→C→C→C→C→C→C→C→C→C→C→C→C→C→R) (xs:List C):R:=f (xs.getD 0 .nil) (xs.getD 1 .nil) (xs.getD 2 .nil) (xs.getD 3 .nil) (xs.getD 4 .nil) (xs.getD 5 .nil) (xs.getD 6 .nil) (xs.getD 7 .nil) (xs.getD 8 .nil) (xs.getD 9 .nil) (xs.getD 10 .nil) (xs.getD 11 .nil) (xs.getD 12 .nil) (xs.getD 13 .nil) (xs.getD 14 .nil) (xs.getD 15 .nil) (xs.getD 16 .nil) (xs.getD 17 .nil) (xs.getD 18 .nil) (xs.getD 19 .nil) (xs.getD 20 .nil) (xs.getD 21 .nil) (xs.getD 22 .nil) (xs.getD 23 .nil) (xs.getD 24 .nil) (xs.getD 25 .nil) (xs.getD 26 .nil) (xs.getD 27 .nil) (xs.getD 28 .nil) (xs.getD 29 .nil) (xs.getD 30 .nil) (xs.getD 31 .nil) (xs.getD 32 .nil)
def ap34 (f:C→C→C→C→C→C→C→C→C→C→C→C→C→C→C→C→C→C→C→C→C→C→C→C→C→C→C→C→C→C→C→C→C→C→R) (xs:List C):R:=f (xs.getD 0 .nil) (xs.getD 1 .nil) (xs.getD 2 .nil) (xs.getD 3 .nil) (xs.getD 4 .nil) (xs.getD 5 .nil) (xs.getD 6 .nil) (xs.getD 7 .nil) (xs.getD 8 .nil) (xs.getD 9 .nil) (xs.getD 10 .nil) (xs.getD 11 .nil) (xs.getD 12 .nil) (xs.getD 13 .nil) (xs.getD 14 .nil) (xs.getD 15 .nil) (xs.getD 16 .nil) (xs.getD 17 .nil) (xs.getD 18 .nil) (xs.getD 19 .nil) (xs.getD 20 .nil) (xs.getD 21 .nil) (xs.getD 22 .nil) (xs.getD 23 .nil) (xs.getD 24 .nil) (xs.getD 25 .nil) (xs.getD 26 .nil) (xs.getD 27 .nil) (xs.getD 28 .nil) (xs.getD 29 .nil) (xs.getD 30 .nil) (xs.getD 31 .nil) (xs.getD 32 .nil) (xs.getD 33 .nil)
def ap35 (f:C→C→C→C→C→C→C→C→C→C→C→C→C→C→C→C→C→C→C→C→C→C→C→C→C→C→C→C→C→C→C→C→C→C→C→R) (xs:List C):R:=f (xs.getD 0 .nil) (xs.getD 1 .nil) (xs.getD 2 .nil) (xs.getD 3 .nil) (xs.getD 4 .nil) (xs.getD 5 .nil) (xs.getD 6 .nil) (xs.getD 7 .nil) (xs.getD 8 .nil) (xs.getD 9 .nil) (xs.getD 10 .nil) (xs.getD 11 .nil) (xs.getD 12 .nil) (xs.getD 13 .nil) (xs.getD 14 .nil) (xs.getD 15 .nil) (xs.getD 16 .nil) (xs.getD 17 .nil) (xs.getD 18 .nil) (xs.getD 19 .nil) (xs.getD 20 .nil) (xs.getD 21 .nil) (xs.getD 22 .nil) (xs.getD 23 .nil) (xs.getD 24 .nil) (xs.getD 25 .nil) (xs.getD 26 .nil) (xs.getD 27 .nil) (xs.getD 28 .nil) (xs.getD 29 .nil) (xs.getD 30 .nil) (xs.getD 31 .nil) (xs.getD 32 .nil) (xs.getD 33 .nil) (xs.getD 34 .nil)
def ap36 (f:C→C→C→C→C→C→C→C→C→C→C→C→C→C→C→C→C→C→C→C→C→C→C→C→C→C→C→C→C→C→C→C→C→C→C→C→R) (xs:List C):R:=f (xs.getD 0 .nil) (xs.getD 1 .nil) (xs.getD 2 .nil) (xs.getD 3 .nil) (xs.getD 4 .nil) (xs.getD 5 .nil) (xs.getD 6 .nil) (xs.getD 7 .nil) (xs.getD 8 .nil) (xs.getD 9 .nil) (xs.getD 10 .nil) (xs.getD 11 .nil) (xs.getD 12 .nil) (xs.getD 13 .nil) (xs.getD 14 .nil) (xs.getD 15 .nil) (xs.getD 16 .nil) (xs.getD 17 .nil) (xs.getD 18 .nil) (xs.getD 19 .nil) (xs.getD 20 .nil) (xs.getD 21 .nil) (xs.getD 22 .nil) (xs.getD 23 .nil) (xs.getD 24 .nil) (xs.getD 25 .nil) (xs.getD 26 .nil) (xs.getD 27 .nil) (xs.getD 28 .nil) (xs.getD 29 .nil) (xs.getD 30 .nil) (xs.getD 31 .nil) (xs.getD 32 .nil) (xs.getD 33 .nil) (xs.getD 34 .nil) (xs.getD 35 .nil)
def ap37 (f:C→C→C→C→C→C→C→C→C→C→C→C→C→C→C→C→C→C→C→C→C→C→C→C→C→C→C→C→C→C→C→C→C→C→C→C→C→R) (xs:List C):R:=f (xs.getD 0 .nil) (xs.getD 1 .nil) (xs.getD 2 .nil) (xs.getD 3 .nil) (xs.getD 4 .nil) (xs.getD 5 .nil) (xs.getD 6 .nil) (xs.getD 7 .nil) (xs.getD 8 .nil) (xs.getD 9 .nil) (xs.getD 10 .nil) (xs.getD 11 .nil) (xs.getD 12 .nil) (xs.getD 13 .nil) (xs.getD 14 .nil) (xs.getD 15 .nil) (xs.getD 16 .nil) (xs.getD 17 .nil) (xs.getD 18 .nil) (xs.getD 19 .nil) (xs.getD 20 .nil) (xs.getD 21 .nil) (xs.getD 22 .nil) (xs.getD 23 .nil) (xs.getD 24 .nil) (xs.getD 25 .nil) (xs.getD 26 .nil) (xs.getD 27 .nil) (xs.getD 28 .nil) (xs.getD 29 .nil) (xs.getD 30 .nil) (xs.getD 31 .nil) (xs.getD 32 .nil) (xs.getD 33 .nil) (xs.getD 34 .nil) (xs.getD 35 .nil) (xs.getD 36 .nil)
def ap38 (f:C→C→C→C→C→C→C→C→C→C→C→C→C→C→C→C→C→C→C→C→C→C→C→C→C→C→C→C→C→C→C→C→C→C→C→C→C→C→R) (xs:List C):R:=f (xs.getD 0 .nil) (xs.getD 1 .nil) (xs.getD 2 .nil) (xs.getD 3 .nil) (xs.getD 4 .nil) (xs.getD 5 .nil) (xs.getD 6 .nil) (xs.getD 7 .nil) (xs.getD 8 .nil) (xs.getD 9 .nil) (xs.getD 10 .nil) (xs.getD 11 .nil) (xs.getD 12 .nil) (xs.getD 13 .nil) (xs.getD 14 .nil) (xs.getD 15 .nil) (xs.getD 16 .nil) (xs.getD 17 .nil) (xs.getD 18 .nil) (xs.getD 19 .nil) (xs.getD 20 .nil) (xs.getD 21 .nil) (xs.getD 22 .nil) (xs.getD 23 .nil) (xs.getD 24 .nil) (xs.getD 25 .nil) (xs.getD 26 .nil) (xs.getD 27 .nil) (xs.getD 28 .nil) (xs.getD 29 .nil) (xs.getD 30 .nil) (xs.getD 31 .nil) (xs.getD 32 .nil) (xs.getD 33 .nil) (xs.getD 34 .nil) (xs.getD 35 .nil) (xs.getD 36 .nil) (xs.getD 37 .nil)
def ap39 (f:C→C→C→C→C→C→C→C→C→C→C→C→C→C→C→C→C→C→C→C→C→C→C→C→C→C→C→C→C→C→C→C→C→C→C→C→C→C→C→R) (xs:List C):R:=f (xs.getD 0 .nil) (xs.getD 1 .nil) (xs.getD 2 .nil) (xs.getD 3 .nil) (xs.getD 4 .nil) (xs.getD 5 .nil) (xs.getD 6 .nil) (xs.getD 7 .nil) (xs.getD 8 .nil) (xs.getD 9 .nil) (xs.getD 10 .nil) (xs.getD 11 .nil) (xs.getD 12 .nil) (xs.getD 13 .nil) (xs.getD 14 .nil) (xs.getD 15 .nil) (xs.getD 16 .nil) (xs.getD 17 .nil) (xs.getD 18 .nil) (xs.getD 19 .nil) (xs.getD 20 .nil) (xs.getD 21 .nil) (xs.getD 22 .nil) (xs.getD 23 .nil) (xs.getD 24 .nil) (xs.getD 25 .nil) (xs.getD 26 .nil) (xs.getD 27 .nil) (xs.getD 28 .nil) (xs.getD 29 .nil) (xs.getD 30 .nil) (xs.getD 31 .nil) (xs.getD 32 .nil) (xs.getD 33 .nil) (xs.getD 34 .nil) (xs.getD 35 .nil) (xs.getD 36 .nil) (xs.getD 37 .nil) (xs.getD 38 .nil)
def ap40 (f:C→C→C→C→C→C→C→C→C→C→C→C→C→C→C→C→C→C→C→C→C→C→C→C→C→C→C→C→C→C→C→C→C→C→C→C→C→C→C→C→R) (xs:List C):R:=f (xs.getD 0 .nil) (xs.getD 1 .nil) (xs.getD 2 .nil) (xs.getD 3 .nil) (xs.getD 4 .nil) (xs.getD 5 .nil) (xs.getD 6 .nil) (xs.getD 7 .nil) (xs.getD 8 .nil) (xs.getD 9 .nil) (xs.getD 10 .nil) (xs.getD 11 .nil) (xs.getD 12 .nil) (xs.getD 13 .nil) (xs.getD 14 .nil) (xs.getD 15 .nil) (xs.getD 16 .nil) (xs.getD 17 .nil) (xs.getD 18 .nil) (xs.getD 19 .nil) (xs.getD 20 .nil) (xs.getD 21 .nil) (xs.getD 22 .nil) (xs.getD 23 .nil) (xs.getD 24 .nil) (xs.getD 25 .nil) (xs.getD 26 .nil) (xs.getD 27 .nil) (xs.getD 28 .nil) (xs.getD 29 .nil) (xs.getD 30 .nil) (xs.getD 31 .nil) (xs.getD 32 .nil) (xs.getD 33 .nil) (xs.getD 34 .nil) (xs.getD 35 .nil) (xs.getD 36 .nil) (xs.getD 37 .nil) (xs.getD 38 .nil) (xs.getD 39 .nil)
def phi:List (Nat×Option Nat×FS)→FuncId→Option Tmp→Option FS
 |[],_,_=>none
 |(g,d,fs)::r,f,o=>sif (andS (Nat.beq g f) (onb d o)) (some fs) (phi r f o)
def PhiOk (P:Program) (T:Tys):List (Nat×Option Nat×FS)→Prop
 |[]=>True
 |(g,_,fs)::r=>FSOk P T g fs∧PhiOk P T r
theorem PhiOk.nil {P:Program} {T:Tys}:PhiOk P T []:=trivial
theorem PhiOk.cons {P:Program} {T:Tys} {g:FuncId} {d:Option Nat} {fs:FS} {r:List (Nat×Option Nat×FS)} (h:FSOk P T g fs) (hr:PhiOk P T r):PhiOk P T ((g,d,fs)::r):=⟨h,hr⟩
theorem phi_ok {P:Program} {T:Tys}:∀ {l:List (Nat×Option Nat×FS)},PhiOk P T l→∀f d fs,phi l f d=some fs→FSOk P T f fs
 |[],_,f,d,fs,h=>by simp[phi] at h
 |(g,d',fs')::r,hl,f,d,fs,h=>by
  replace h:sif (andS (Nat.beq g f) (onb d' d)) (some fs') (phi r f d)=some fs:=h
  cases hc:andS (Nat.beq g f) (onb d' d) with
  |true=>
   rw[hc,sif_true] at h
   simp only[andS_eq,Bool.and_eq_true] at hc
   have e:=Nat.eq_of_beq_eq_true hc.1
   subst e
   obtain rfl:=Option.some.inj h
   exact hl.1
  |false=>rw[hc,sif_false] at h;exact phi_ok hl.2 f d fs h
def mpsB (P:Program):List (Nat×Nat)→Bool
 |[]=>true
 |(t,e)::r=>(match P.underlying t with|some (.map k e')=>(match P.underlying k with|some .string=>e==e'|_=>false)|_=>false)&&mpsB P r
theorem mpsB_ok {P:Program}:∀ {l:List (Nat×Nat)},mpsB P l=true→MOk P l
 |[],_,t,e,h=>by simp[mpget] at h
 |(t',e')::r,hb,t,e,h=>by
  simp only[mpsB,Bool.and_eq_true] at hb
  replace h:sif (Nat.beq t' t) (some e') (mpget r t)=some e:=h
  cases hc:Nat.beq t' t with
  |false=>rw[hc,sif_false] at h;exact mpsB_ok hb.2 t e h
  |true=>
   rw[hc,sif_true] at h
   obtain rfl:=Option.some.inj h
   have:=Nat.eq_of_beq_eq_true hc;subst this
   have h1:=hb.1
   split at h1
   ·rename_i k e2 hu
    split at h1
    ·rename_i hk
     have:e'=e2:=by simpa using h1
     subst this
     exact ⟨k,hu,hk⟩
    ·simp at h1
   ·simp at h1
structure Base (P:Program) (T:Tys) (eqT:List Nat) (mp:List (Nat×Nat)):Prop where
 tok:TOk P T
 E:∀t e,elemOf? T t=some e→(P.info? e).isSome=true
 mixed:P.follows .mixedOrders=true
 Q:∀t,memb eqT t=true→EqOk P T t
 M:MOk P mp
theorem Base.of {P:Program} {T:Tys} {eqT:List Nat} {mp:List (Nat×Nat)} (h1:tysB P T T=true) (h2:P.follows .mixedOrders=true) (h3:eqsB P T eqT=true) (h4:mpsB P mp=true):Base P T eqT mp:=
 ⟨(tysB_ok h1).1,(tysB_ok h1).2,h2,eqsB_ok h3,mpsB_ok h4⟩
def slB (n:Nat):List (Nat×Sk)→Bool|[]=>true|(d,_)::r=>andS (Nat.blt d n) (slB n r)
theorem instSl_out {nm:Nm} {xs:List C} {n:Nat}:∀ {l:List (Nat×Sk)} {p:Nat} {f:Slots},slB n l=true→(∀k,n≤k→f k=.un)→∀k,n≤k→(instSl nm xs l p f).1 k=.un
 |[],p,f,_,hf,k,hk=>hf k hk
 |(d,q)::r,p,f,h,hf,k,hk=>by
  simp only[slB,andS_eq,Bool.and_eq_true] at h
  refine instSl_out h.2 (fun k hk=>?_) k hk
  have hd:d<n:=Nat.le_of_ble_eq_true h.1
  rw[upd_ne _ _ (by omega)]
  exact hf k hk
def stat (fn:Func) (fs:FS):Bool:=andS (notS (fn.name== "runtime.NumGoroutine")) (andS (Nat.ble fs.n fn.ntmps) (slB fs.n fs.inT.sl))
theorem okOfN {P:Program} {T:Tys} {eqT:List Nat} {mp:List (Nat×Nat)} (B:Base P T eqT mp) (mv:List Nat) (tr:Bool) (nt:List Nat) {f:FuncId} {fn:Func} {c:Code} (fs:FS) (an:Ann) (l:List (Nat×Option Nat×FS)) (hl:PhiOk P T l)
  (hf:P.funcs[f]?=some fn) (hb:fn.body=some c) (hs:stat fn fs=true)
  (hF:∀xs,evF ⟨T,phi l,fn.ntmps,fn.results.toList,fs.inT,fs.outT,fs.ip,eqT,mp,mv,tr,nt⟩ c an xs=fs.F xs):FSOk P T f fs:=by
 simp only[stat,andS_eq,notS_eq,Bool.and_eq_true,Bool.not_eq_true'] at hs
 exact FSOk.of_ev (X:=⟨T,phi l,fn.ntmps,fn.results.toList,fs.inT,fs.outT,fs.ip,eqT,mp,mv,tr,nt⟩) ⟨B.tok,B.E,phi_ok hl,B.Q,B.M,B.mixed⟩ hf hb hs.1 rfl rfl rfl rfl rfl (Nat.le_of_ble_eq_true hs.2.1)
  (fun xs k hk=>instSl_out hs.2.2 (fun _ _=>rfl) k hk) (fun xs ys h=>by rw[hF];exact h)
theorem okOfT {P:Program} {T:Tys} {eqT:List Nat} {mp:List (Nat×Nat)} (B:Base P T eqT mp) (mv:List Nat) (tr:Bool) {f:FuncId} {fn:Func} {c:Code} (fs:FS) (an:Ann) (l:List (Nat×Option Nat×FS)) (hl:PhiOk P T l)
  (hf:P.funcs[f]?=some fn) (hb:fn.body=some c) (hs:stat fn fs=true)
  (hF:∀xs,evF ⟨T,phi l,fn.ntmps,fn.results.toList,fs.inT,fs.outT,fs.ip,eqT,mp,mv,tr,[]⟩ c an xs=fs.F xs):FSOk P T f fs:=okOfN B mv tr [] fs an l hl hf hb hs hF
theorem okOf {P:Program} {T:Tys} {eqT:List Nat} {mp:List (Nat×Nat)} (B:Base P T eqT mp) {f:FuncId} {fn:Func} {c:Code} (fs:FS) (an:Ann) (l:List (Nat×Option Nat×FS)) (hl:PhiOk P T l)
  (hf:P.funcs[f]?=some fn) (hb:fn.body=some c) (hs:stat fn fs=true)
  (hF:∀xs,evF ⟨T,phi l,fn.ntmps,fn.results.toList,fs.inT,fs.outT,fs.ip,eqT,mp,[],false,[]⟩ c an xs=fs.F xs):FSOk P T f fs:=okOfT B [] false fs an l hl hf hb hs hF
theorem noneOk {P:Program} {T:Tys} {f:FuncId} {fn:Func} {c:Code} (n:Nat) (i o:Tm) (ip:List Nat) (hf:P.funcs[f]?=some fn) (hb:fn.body=some c) (hs:stat fn ⟨n,i,o,ip,fun _=>none⟩=true):FSOk P T f ⟨n,i,o,ip,fun _=>none⟩:=by
 simp only[stat,andS_eq,notS_eq,Bool.and_eq_true,Bool.not_eq_true'] at hs
 exact ⟨⟨fn,c,hf,hb,hs.1⟩,fun w wr nl F0 θ xs ys args h1 h2 h3 h4=>absurd h4 (by simp)⟩
noncomputable def FUEL:Nat:=Classical.choose (⟨1000000,Nat.le_refl _⟩:∃n,1000000≤n)
theorem FUEL_ge:1000000≤FUEL:=Classical.choose_spec (⟨1000000,Nat.le_refl _⟩:∃n,1000000≤n)
end Go.Ev
namespace Go.Ev
@[simp] theorem C.I_i (n:Int):(C.i n).I=n:=rfl
@[simp] theorem C.B_b (x:Bool):(C.b x).B=x:=rfl
@[simp] theorem C.S_s (x:ByteArray):(C.s x).S=x:=rfl
@[simp] theorem C.L_l (x:List (List C)):(C.l x).L=x:=rfl
@[simp] theorem C.P_p (x:List C):(C.p x).P=x:=rfl
@[simp] theorem C.isP_p (x:List C):(C.p x).isP=true:=rfl
@[simp] theorem C.isP_nil:C.nil.isP=false:=rfl
@[simp] theorem C.L_nil:C.nil.L=[]:=rfl
@[simp] theorem finR_ret (ys:List C):finR (some (.ret ys))=some ys:=rfl
@[simp] theorem bindF_some (ys:List C) (K:List C→R):bindF (some ys) K=K ys:=rfl
@[simp] theorem bindNrm_nrm (xs:List C) (K:List C→R):bindNrm (some (.nrm xs)) K=K xs:=rfl
@[simp] theorem bindNrm_ret (xs:List C) (K:List C→R):bindNrm (some (.ret xs)) K=some (.ret xs):=rfl
@[simp] theorem bindNrm_brk (i:Nat) (xs:List C) (K:List C→R):bindNrm (some (.brk i xs)) K=some (.brk i xs):=rfl
@[simp] theorem bindNrm_again (xs:List C) (K:List C→R):bindNrm (some (.again xs)) K=some (.again xs):=rfl
@[simp] theorem bindBlk_ret (i:Nat) (xs:List C) (K:List C→R):bindBlk i (some (.ret xs)) K=some (.ret xs):=rfl
@[simp] theorem bindBlk_again (i:Nat) (xs:List C) (K:List C→R):bindBlk i (some (.again xs)) K=some (.again xs):=rfl
@[simp] theorem bindBlk_nrm (i:Nat) (xs:List C) (K:List C→R):bindBlk i (some (.nrm xs)) K=some (.nrm xs):=rfl
theorem bindBlk_brk (i j:Nat) (xs:List C) (K:List C→R):bindBlk i (some (.brk j xs)) K=if j=i then K xs else some (.brk j xs):=by
 show sif (Nat.beq j i) (K xs) (some (.brk j xs))=_
 by_cases h:j=i
 ·subst h;rw[Nat.beq_refl,sif_true,if_pos rfl]
 ·have:Nat.beq j i=false:=by
   cases hb:Nat.beq j i with
   |false=>rfl
   |true=>exact absurd (Nat.eq_of_beq_eq_true hb) h
  rw[this,sif_false,if_neg h]
@[simp] theorem bindBlk_self (i:Nat) (xs:List C) (K:List C→R):bindBlk i (some (.brk i xs)) K=K xs:=by rw[bindBlk_brk,if_pos rfl]
attribute [simp] nils
attribute [simp] rows
@[simp] theorem Int_toNat_nat (n:Nat):((n:Int)).toNat=n:=Int.toNat_natCast n
theorem jA {α:Type} {a:α} {us vs:List α}:a::us++vs=a::(us++vs):=rfl
theorem jB {α:Type} (us:List α):[]++us=us:=rfl
theorem jC {α:Type} {x:α} {xs:List α} {d:α}:(x::xs).getD 0 d=x:=List.getD_cons_zero
theorem jD {α:Type} {x:α} {xs:List α} {n:Nat} {d:α}:(x::xs).getD (n+1) d=xs.getD n d:=List.getD_cons_succ
theorem jE (n:Int):(C.i n).I=n:=rfl
theorem jF (x:Bool):(C.b x).B=x:=rfl
theorem jG (x:ByteArray):(C.s x).S=x:=rfl
theorem jH (x:List (List C)):(C.l x).L=x:=rfl
theorem jI (ys:List C) (K:List C→R):bindF (some ys) K=K ys:=rfl
theorem jJ (xs:List C) (K:List C→R):bindNrm (some (.nrm xs)) K=K xs:=rfl
theorem jK (xs:List C) (K:List C→R):bindNrm (some (.ret xs)) K=some (.ret xs):=rfl
theorem jL (xs:List C) (K:List C→R):bindNrm (some (.again xs)) K=some (.again xs):=rfl
theorem jM (i:Nat) (xs:List C) (K:List C→R):bindNrm (some (.brk i xs)) K=some (.brk i xs):=rfl
theorem jN (i:Nat) (xs:List C) (K:List C→R):bindBlk i (some (.brk i xs)) K=K xs:=bindBlk_self i xs K
theorem jO (i:Nat) (xs:List C) (K:List C→R):bindBlk i (some (.ret xs)) K=some (.ret xs):=rfl
theorem jP (i:Nat) (xs:List C) (K:List C→R):bindBlk i (some (.again xs)) K=some (.again xs):=rfl
theorem jQ (i:Nat) (xs:List C) (K:List C→R):bindBlk i (some (.nrm xs)) K=some (.nrm xs):=rfl
theorem jR {α:Type} (a b:α):(bif true then a else b)=a:=rfl
theorem jS {α:Type} (a b:α):(bif false then a else b)=b:=rfl
theorem jT (h:Decidable True):decide True=true:=decide_true h
theorem jU (h:Decidable False):decide False=false:=decide_false h
theorem jV (ys:List C):finR (some (.ret ys))=some ys:=rfl
theorem jW {α β:Type} {us:List α} (f:α→β):(List.map f us).length=us.length:=List.length_map f
theorem jX (n:Nat):0≤(n:Int):=Int.natCast_nonneg n
theorem jY (n:Nat):((n:Int)).toNat=n:=Int.toNat_natCast n
theorem jZ:(!true)=false:=rfl
theorem ja:(!false)=true:=rfl
theorem jb {α:Type} {a:α}:[a].length=1:=rfl
theorem jc {α:Type}:([]:List α).length=0:=rfl
theorem jd (n:Nat):0+n=n:=Nat.zero_add n
theorem apL:(∀(f:C→R) xs,ap1 f xs=f (xs.getD 0 .nil))∧
 (∀(f:C→C→R) xs,ap2 f xs=f (xs.getD 0 .nil) (xs.getD 1 .nil))∧
 (∀(f:C→C→C→R) xs,ap3 f xs=f (xs.getD 0 .nil) (xs.getD 1 .nil) (xs.getD 2 .nil))∧
 (∀(f:C→C→C→C→R) xs,ap4 f xs=f (xs.getD 0 .nil) (xs.getD 1 .nil) (xs.getD 2 .nil) (xs.getD 3 .nil))∧
 (∀(f:C→C→C→C→C→R) xs,ap5 f xs=f (xs.getD 0 .nil) (xs.getD 1 .nil) (xs.getD 2 .nil) (xs.getD 3 .nil) (xs.getD 4 .nil))∧
 (∀(f:C→C→C→C→C→C→R) xs,ap6 f xs=f (xs.getD 0 .nil) (xs.getD 1 .nil) (xs.getD 2 .nil) (xs.getD 3 .nil) (xs.getD 4 .nil) (xs.getD 5 .nil))∧
 (∀(f:C→C→C→C→C→C→C→R) xs,ap7 f xs=f (xs.getD 0 .nil) (xs.getD 1 .nil) (xs.getD 2 .nil) (xs.getD 3 .nil) (xs.getD 4 .nil) (xs.getD 5 .nil) (xs.getD 6 .nil))∧
 (∀(f:C→C→C→C→C→C→C→C→R) xs,ap8 f xs=f (xs.getD 0 .nil) (xs.getD 1 .nil) (xs.getD 2 .nil) (xs.getD 3 .nil) (xs.getD 4 .nil) (xs.getD 5 .nil) (xs.getD 6 .nil) (xs.getD 7 .nil))∧
 (∀(f:C→C→C→C→C→C→C→C→C→R) xs,ap9 f xs=f (xs.getD 0 .nil) (xs.getD 1 .nil) (xs.getD 2 .nil) (xs.getD 3 .nil) (xs.getD 4 .nil) (xs.getD 5 .nil) (xs.getD 6 .nil) (xs.getD 7 .nil) (xs.getD 8 .nil))∧
 (∀(f:C→C→C→C→C→C→C→C→C→C→R) xs,ap10 f xs=f (xs.getD 0 .nil) (xs.getD 1 .nil) (xs.getD 2 .nil) (xs.getD 3 .nil) (xs.getD 4 .nil) (xs.getD 5 .nil) (xs.getD 6 .nil) (xs.getD 7 .nil) (xs.getD 8 .nil) (xs.getD 9 .nil))∧
 (∀(f:C→C→C→C→C→C→C→C→C→C→C→R) xs,ap11 f xs=f (xs.getD 0 .nil) (xs.getD 1 .nil) (xs.getD 2 .nil) (xs.getD 3 .nil) (xs.getD 4 .nil) (xs.getD 5 .nil) (xs.getD 6 .nil) (xs.getD 7 .nil) (xs.getD 8 .nil) (xs.getD 9 .nil) (xs.getD 10 .nil))∧
 (∀(f:C→C→C→C→C→C→C→C→C→C→C→C→R) xs,ap12 f xs=f (xs.getD 0 .nil) (xs.getD 1 .nil) (xs.getD 2 .nil) (xs.getD 3 .nil) (xs.getD 4 .nil) (xs.getD 5 .nil) (xs.getD 6 .nil) (xs.getD 7 .nil) (xs.getD 8 .nil) (xs.getD 9 .nil) (xs.getD 10 .nil) (xs.getD 11 .nil))∧
 (∀(f:C→C→C→C→C→C→C→C→C→C→C→C→C→R) xs,ap13 f xs=f (xs.getD 0 .nil) (xs.getD 1 .nil) (xs.getD 2 .nil) (xs.getD 3 .nil) (xs.getD 4 .nil) (xs.getD 5 .nil) (xs.getD 6 .nil) (xs.getD 7 .nil) (xs.getD 8 .nil) (xs.getD 9 .nil) (xs.getD 10 .nil) (xs.getD 11 .nil) (xs.getD 12 .nil))∧
 (∀(f:C→C→C→C→C→C→C→C→C→C→C→C→C→C→R) xs,ap14 f xs=f (xs.getD 0 .nil) (xs.getD 1 .nil) (xs.getD 2 .nil) (xs.getD 3 .nil) (xs.getD 4 .nil) (xs.getD 5 .nil) (xs.getD 6 .nil) (xs.getD 7 .nil) (xs.getD 8 .nil) (xs.getD 9 .nil) (xs.getD 10 .nil) (xs.getD 11 .nil) (xs.getD 12 .nil) (xs.getD 13 .nil))∧
 (∀(f:C→C→C→C→C→C→C→C→C→C→C→C→C→C→C→R) xs,ap15 f xs=f (xs.getD 0 .nil) (xs.getD 1 .nil) (xs.getD 2 .nil) (xs.getD 3 .nil) (xs.getD 4 .nil) (xs.getD 5 .nil) (xs.getD 6 .nil) (xs.getD 7 .nil) (xs.getD 8 .nil) (xs.getD 9 .nil) (xs.getD 10 .nil) (xs.getD 11 .nil) (xs.getD 12 .nil) (xs.getD 13 .nil) (xs.getD 14 .nil))∧
 (∀(f:C→C→C→C→C→C→C→C→C→C→C→C→C→C→C→C→R) xs,ap16 f xs=f (xs.getD 0 .nil) (xs.getD 1 .nil) (xs.getD 2 .nil) (xs.getD 3 .nil) (xs.getD 4 .nil) (xs.getD 5 .nil) (xs.getD 6 .nil) (xs.getD 7 .nil) (xs.getD 8 .nil) (xs.getD 9 .nil) (xs.getD 10 .nil) (xs.getD 11 .nil) (xs.getD 12 .nil) (xs.getD 13 .nil) (xs.getD 14 .nil) (xs.getD 15 .nil))∧
 (∀(f:C→C→C→C→C→C→C→C→C→C→C→C→C→C→C→C→C→R) xs,ap17 f xs=f (xs.getD 0 .nil) (xs.getD 1 .nil) (xs.getD 2 .nil) (xs.getD 3 .nil) (xs.getD 4 .nil) (xs.getD 5 .nil) (xs.getD 6 .nil) (xs.getD 7 .nil) (xs.getD 8 .nil) (xs.getD 9 .nil) (xs.getD 10 .nil) (xs.getD 11 .nil) (xs.getD 12 .nil) (xs.getD 13 .nil) (xs.getD 14 .nil) (xs.getD 15 .nil) (xs.getD 16 .nil))∧
 (∀(f:C→C→C→C→C→C→C→C→C→C→C→C→C→C→C→C→C→C→R) xs,ap18 f xs=f (xs.getD 0 .nil) (xs.getD 1 .nil) (xs.getD 2 .nil) (xs.getD 3 .nil) (xs.getD 4 .nil) (xs.getD 5 .nil) (xs.getD 6 .nil) (xs.getD 7 .nil) (xs.getD 8 .nil) (xs.getD 9 .nil) (xs.getD 10 .nil) (xs.getD 11 .nil) (xs.getD 12 .nil) (xs.getD 13 .nil) (xs.getD 14 .nil) (xs.getD 15 .nil) (xs.getD 16 .nil) (xs.getD 17 .nil))∧
 (∀(f:C→C→C→C→C→C→C→C→C→C→C→C→C→C→C→C→C→C→C→R) xs,ap19 f xs=f (xs.getD 0 .nil) (xs.getD 1 .nil) (xs.getD 2 .nil) (xs.getD 3 .nil) (xs.getD 4 .nil) (xs.getD 5 .nil) (xs.getD 6 .nil) (xs.getD 7 .nil) (xs.getD 8 .nil) (xs.getD 9 .nil) (xs.getD 10 .nil) (xs.getD 11 .nil) (xs.getD 12 .nil) (xs.getD 13 .nil) (xs.getD 14 .nil) (xs.getD 15 .nil) (xs.getD 16 .nil) (xs.getD 17 .nil) (xs.getD 18 .nil))∧
 (∀(f:C→C→C→C→C→C→C→C→C→C→C→C→C→C→C→C→C→C→C→C→R) xs,ap20 f xs=f (xs.getD 0 .nil) (xs.getD 1 .nil) (xs.getD 2 .nil) (xs.getD 3 .nil) (xs.getD 4 .nil) (xs.getD 5 .nil) (xs.getD 6 .nil) (xs.getD 7 .nil) (xs.getD 8 .nil) (xs.getD 9 .nil) (xs.getD 10 .nil) (xs.getD 11 .nil) (xs.getD 12 .nil) (xs.getD 13 .nil) (xs.getD 14 .nil) (xs.getD 15 .nil) (xs.getD 16 .nil) (xs.getD 17 .nil) (xs.getD 18 .nil) (xs.getD 19 .nil))∧
 (∀(f:C→C→C→C→C→C→C→C→C→C→C→C→C→C→C→C→C→C→C→C→C→R) xs,ap21 f xs=f (xs.getD 0 .nil) (xs.getD 1 .nil) (xs.getD 2 .nil) (xs.getD 3 .nil) (xs.getD 4 .nil) (xs.getD 5 .nil) (xs.getD 6 .nil) (xs.getD 7 .nil) (xs.getD 8 .nil) (xs.getD 9 .nil) (xs.getD 10 .nil) (xs.getD 11 .nil) (xs.getD 12 .nil) (xs.getD 13 .nil) (xs.getD 14 .nil) (xs.getD 15 .nil) (xs.getD 16 .nil) (xs.getD 17 .nil) (xs.getD 18 .nil) (xs.getD 19 .nil) (xs.getD 20 .nil))∧
 (∀(f:C→C→C→C→C→C→C→C→C→C→C→C→C→C→C→C→C→C→C→C→C→C→R) xs,ap22 f xs=f (xs.getD 0 .nil) (xs.getD 1 .nil) (xs.getD 2 .nil) (xs.getD 3 .nil) (xs.getD 4 .nil) (xs.getD 5 .nil) (xs.getD 6 .nil) (xs.getD 7 .nil) (xs.getD 8 .nil) (xs.getD 9 .nil) (xs.getD 10 .nil) (xs.getD 11 .nil) (xs.getD 12 .nil) (xs.getD 13 .nil) (xs.getD 14 .nil) (xs.getD 15 .nil) (xs.getD 16 .nil) (xs.getD 17 .nil) (xs.getD 18 .nil) (xs.getD 19 .nil) (xs.getD 20 .nil) (xs.getD 21 .nil))∧
 (∀(f:C→C→C→C→C→C→C→C→C→C→C→C→C→C→C→C→C→C→C→C→C→C→C→R) xs,ap23 f xs=f (xs.getD 0 .nil) (xs.getD 1 .nil) (xs.getD 2 .nil) (xs.getD 3 .nil) (xs.getD 4 .nil) (xs.getD 5 .nil) (xs.getD 6 .nil) (xs.getD 7 .nil) (xs.getD 8 .nil) (xs.getD 9 .nil) (xs.getD 10 .nil) (xs.getD 11 .nil) (xs.getD 12 .nil) (xs.getD 13 .nil) (xs.getD 14 .nil) (xs.getD 15 .nil) (xs.getD 16 .nil) (xs.getD 17 .nil) (xs.getD 18 .nil) (xs.getD 19 .nil) (xs.getD 20 .nil) (xs.getD 21 .nil) (xs.getD 22 .nil))∧
 (∀(f:C→C→C→C→C→C→C→C→C→C→C→C→C→C→C→C→C→C→C→C→C→C→C→C→R) xs,ap24 f xs=f (xs.getD 0 .nil) (xs.getD 1 .nil) (xs.getD 2 .nil) (xs.getD 3 .nil) (xs.getD 4 .nil) (xs.getD 5 .nil) (xs.getD 6 .nil) (xs.getD 7 .nil) (xs.getD 8 .nil) (xs.getD 9 .nil) (xs.getD 10 .nil) (xs.getD 11 .nil) (xs.getD 12 .nil) (xs.getD 13 .nil) (xs.getD 14 .nil) (xs.getD 15 .nil) (xs.getD 16 .nil) (xs.getD 17 .nil) (xs.getD 18 .nil) (xs.getD 19 .nil) (xs.getD 20 .nil) (xs.getD 21 .nil) (xs.getD 22 .nil) (xs.getD 23 .nil))∧
 (∀(f:C→C→C→C→C→C→C→C→C→C→C→C→C→C→C→C→C→C→C→C→C→C→C→C→C→R) xs,ap25 f xs=f (xs.getD 0 .nil) (xs.getD 1 .nil) (xs.getD 2 .nil) (xs.getD 3 .nil) (xs.getD 4 .nil) (xs.getD 5 .nil) (xs.getD 6 .nil) (xs.getD 7 .nil) (xs.getD 8 .nil) (xs.getD 9 .nil) (xs.getD 10 .nil) (xs.getD 11 .nil) (xs.getD 12 .nil) (xs.getD 13 .nil) (xs.getD 14 .nil) (xs.getD 15 .nil) (xs.getD 16 .nil) (xs.getD 17 .nil) (xs.getD 18 .nil) (xs.getD 19 .nil) (xs.getD 20 .nil) (xs.getD 21 .nil) (xs.getD 22 .nil) (xs.getD 23 .nil) (xs.getD 24 .nil))∧
 (∀(f:C→C→C→C→C→C→C→C→C→C→C→C→C→C→C→C→C→C→C→C→C→C→C→C→C→C→R) xs,ap26 f xs=f (xs.getD 0 .nil) (xs.getD 1 .nil) (xs.getD 2 .nil) (xs.getD 3 .nil) (xs.getD 4 .nil) (xs.getD 5 .nil) (xs.getD 6 .nil) (xs.getD 7 .nil) (xs.getD 8 .nil) (xs.getD 9 .nil) (xs.getD 10 .nil) (xs.getD 11 .nil) (xs.getD 12 .nil) (xs.getD 13 .nil) (xs.getD 14 .nil) (xs.getD 15 .nil) (xs.getD 16 .nil) (xs.getD 17 .nil) (xs.getD 18 .nil) (xs.getD 19 .nil) (xs.getD 20 .nil) (xs.getD 21 .nil) (xs.getD 22 .nil) (xs.getD 23 .nil) (xs.getD 24 .nil) (xs.getD 25 .nil))∧
 (∀(f:C→C→C→C→C→C→C→C→C→C→C→C→C→C→C→C→C→C→C→C→C→C→C→C→C→C→C→R) xs,ap27 f xs=f (xs.getD 0 .nil) (xs.getD 1 .nil) (xs.getD 2 .nil) (xs.getD 3 .nil) (xs.getD 4 .nil) (xs.getD 5 .nil) (xs.getD 6 .nil) (xs.getD 7 .nil) (xs.getD 8 .nil) (xs.getD 9 .nil) (xs.getD 10 .nil) (xs.getD 11 .nil) (xs.getD 12 .nil) (xs.getD 13 .nil) (xs.getD 14 .nil) (xs.getD 15 .nil) (xs.getD 16 .nil) (xs.getD 17 .nil) (xs.getD 18 .nil) (xs.getD 19 .nil) (xs.getD 20 .nil) (xs.getD 21 .nil) (xs.getD 22 .nil) (xs.getD 23 .nil) (xs.getD 24 .nil) (xs.getD 25 .nil) (xs.getD 26 .nil))∧
 (∀(f:C→C→C→C→C→C→C→C→C→C→C→C→C→C→C→C→C→C→C→C→C→C→C→C→C→C→C→C→R) xs,ap28 f xs=f (xs.getD 0 .nil) (xs.getD 1 .nil) (xs.getD 2 .nil) (xs.getD 3 .nil) (xs.getD 4 .nil) (xs.getD 5 .nil) (xs.getD 6 .nil) (xs.getD 7 .nil) (xs.getD 8 .nil) (xs.getD 9 .nil) (xs.getD 10 .nil) (xs.getD 11 .nil) (xs.getD 12 .nil) (xs.getD 13 .nil) (xs.getD 14 .nil) (xs.getD 15 .nil) (xs.getD 16 .nil) (xs.getD 17 .nil) (xs.getD 18 .nil) (xs.getD 19 .nil) (xs.getD 20 .nil) (xs.getD 21 .nil) (xs.getD 22 .nil) (xs.getD 23 .nil) (xs.getD 24 .nil) (xs.getD 25 .nil) (xs.getD 26 .nil) (xs.getD 27 .nil))∧
 (∀(f:C→C→C→C→C→C→C→C→C→C→C→C→C→C→C→C→C→C→C→C→C→C→C→C→C→C→C→C→C→R) xs,ap29 f xs=f (xs.getD 0 .nil) (xs.getD 1 .nil) (xs.getD 2 .nil) (xs.getD 3 .nil) (xs.getD 4 .nil) (xs.getD 5 .nil) (xs.getD 6 .nil) (xs.getD 7 .nil) (xs.getD 8 .nil) (xs.getD 9 .nil) (xs.getD 10 .nil) (xs.getD 11 .nil) (xs.getD 12 .nil) (xs.getD 13 .nil) (xs.getD 14 .nil) (xs.getD 15 .nil) (xs.getD 16 .nil) (xs.getD 17 .nil) (xs.getD 18 .nil) (xs.getD 19 .nil) (xs.getD 20 .nil) (xs.getD 21 .nil) (xs.getD 22 .nil) (xs.getD 23 .nil) (xs.getD 24 .nil) (xs.getD 25 .nil) (xs.getD 26 .nil) (xs.getD 27 .nil) (xs.getD 28 .nil))∧
 (∀(f:C→C→C→C→C→C→C→C→C→C→C→C→C→C→C→C→C→C→C→C→C→C→C→C→C→C→C→C→C→C→R) xs,ap30 f xs=f (xs.getD 0 .nil) (xs.getD 1 .nil) (xs.getD 2 .nil) (xs.getD 3 .nil) (xs.getD 4 .nil) (xs.getD 5 .nil) (xs.getD 6 .nil) (xs.getD 7 .nil) (xs.getD 8 .nil) (xs.getD 9 .nil) (xs.getD 10 .nil) (xs.getD 11 .nil) (xs.getD 12 .nil) (xs.getD 13 .nil) (xs.getD 14 .nil) (xs.getD 15 .nil) (xs.getD 16 .nil) (xs.getD 17 .nil) (xs.getD 18 .nil) (xs.getD 19 .nil) (xs.getD 20 .nil) (xs.getD 21 .nil) (xs.getD 22 .nil) (xs.getD 23 .nil) (xs.getD 24 .nil) (xs.getD 25 .nil) (xs.getD 26 .nil) (xs.getD 27 .nil) (xs.getD 28 .nil) (xs.getD 29 .nil))∧
 (∀(f:C→C→C→C→C→C→C→C→C→C→C→C→C→C→C→C→C→C→C→C→C→C→C→C→C→C→C→C→C→C→C→R) xs,ap31 f xs=f (xs.getD 0 .nil) (xs.getD 1 .nil) (xs.getD 2 .nil) (xs.getD 3 .nil) (xs.getD 4 .nil) (xs.getD 5 .nil) (xs.getD 6 .nil) (xs.getD 7 .nil) (xs.getD 8 .nil) (xs.getD 9 .nil) (xs.getD 10 .nil) (xs.getD 11 .nil) (xs.getD 12 .nil) (xs.getD 13 .nil) (xs.getD 14 .nil) (xs.getD 15 .nil) (xs.getD 16 .nil) (xs.getD 17 .nil) (xs.getD 18 .nil) (xs.getD 19 .nil) (xs.getD 20 .nil) (xs.getD 21 .nil) (xs.getD 22 .nil) (xs.getD 23 .nil) (xs.getD 24 .nil) (xs.getD 25 .nil) (xs.getD 26 .nil) (xs.getD 27 .nil) (xs.getD 28 .nil) (xs.getD 29 .nil) (xs.getD 30 .nil))∧
 (∀(f:C→C→C→C→C→C→C→C→C→C→C→C→C→C→C→C→C→C→C→C→C→C→C→C→C→C→C→C→C→C→C→C→R) xs,ap32 f xs=f (xs.getD 0 .nil) (xs.getD 1 .nil) (xs.getD 2 .nil) (xs.getD 3 .nil) (xs.getD 4 .nil) (xs.getD 5 .nil) (xs.getD 6 .nil) (xs.getD 7 .nil) (xs.getD 8 .nil) (xs.getD 9 .nil) (xs.getD 10 .nil) (xs.getD 11 .nil) (xs.getD 12 .nil) (xs.getD 13 .nil) (xs.getD 14 .nil) (xs.getD 15 .nil) (xs.getD 16 .nil) (xs.getD 17 .nil) (xs.getD 18 .nil) (xs.getD 19 .nil) (xs.getD 20 .nil) (xs.getD 21 .nil) (xs.getD 22 .nil) (xs.getD 23 .nil) (xs.getD 24 .nil) (xs.getD 25 .nil) (xs.getD 26 .nil) (xs.getD 27 .nil) (xs.getD 28 .nil) (xs.getD 29 .nil) (xs.getD 30 .nil) (xs.getD 31 .nil))∧
 (∀(f:C→C→C→C→C→C→C→C→C→C→C→C→C→C→C→C→C→C→C→C→C→C→C→C→C→C→C→C→C→C→C→C→C→R) xs,ap33 f xs=f (xs.getD 0 .nil) (xs.getD 1 .nil) (xs.getD 2 .nil) (xs.getD 3 .nil) (xs.getD 4 .nil) (xs.getD 5 .nil) (xs.getD 6 .nil) (xs.getD 7 .nil) (xs.getD 8 .nil) (xs.getD 9 .nil) (xs.getD 10 .nil) (xs.getD 11 .nil) (xs.getD 12 .nil) (xs.getD 13 .nil) (xs.getD 14 .nil) (xs.getD 15 .nil) (xs.getD 16 .nil) (xs.getD 17 .nil) (xs.getD 18 .nil) (xs.getD 19 .nil) (xs.getD 20 .nil) (xs.getD 21 .nil) (xs.getD 22 .nil) (xs.getD 23 .nil) (xs.getD 24 .nil) (xs.getD 25 .nil) (xs.getD 26 .nil) (xs.getD 27 .nil) (xs.getD 28 .nil) (xs.getD 29 .nil) (xs.getD 30 .nil) (xs.getD 31 .nil) (xs.getD 32 .nil))∧
 (∀(f:C→C→C→C→C→C→C→C→C→C→C→C→C→C→C→C→C→C→C→C→C→C→C→C→C→C→C→C→C→C→C→C→C→C→R) xs,ap34 f xs=f (xs.getD 0 .nil) (xs.getD 1 .nil) (xs.getD 2 .nil) (xs.getD 3 .nil) (xs.getD 4 .nil) (xs.getD 5 .nil) (xs.getD 6 .nil) (xs.getD 7 .nil) (xs.getD 8 .nil) (xs.getD 9 .nil) (xs.getD 10 .nil) (xs.getD 11 .nil) (xs.getD 12 .nil) (xs.getD 13 .nil) (xs.getD 14 .nil) (xs.getD 15 .nil) (xs.getD 16 .nil) (xs.getD 17 .nil) (xs.getD 18 .nil) (xs.getD 19 .nil) (xs.getD 20 .nil) (xs.getD 21 .nil) (xs.getD 22 .nil) (xs.getD 23 .nil) (xs.getD 24 .nil) (xs.getD 25 .nil) (xs.getD 26 .nil) (xs.getD 27 .nil) (xs.getD 28 .nil) (xs.getD 29 .nil) (xs.getD 30 .nil) (xs.getD 31 .nil) (xs.getD 32 .nil) (xs.getD 33 .nil))∧
 (∀(f:C→C→C→C→C→C→C→C→C→C→C→C→C→C→C→C→C→C→C→C→C→C→C→C→C→C→C→C→C→C→C→C→C→C→C→R) xs,ap35 f xs=f (xs.getD 0 .nil) (xs.getD 1 .nil) (xs.getD 2 .nil) (xs.getD 3 .nil) (xs.getD 4 .nil) (xs.getD 5 .nil) (xs.getD 6 .nil) (xs.getD 7 .nil) (xs.getD 8 .nil) (xs.getD 9 .nil) (xs.getD 10 .nil) (xs.getD 11 .nil) (xs.getD 12 .nil) (xs.getD 13 .nil) (xs.getD 14 .nil) (xs.getD 15 .nil) (xs.getD 16 .nil) (xs.getD 17 .nil) (xs.getD 18 .nil) (xs.getD 19 .nil) (xs.getD 20 .nil) (xs.getD 21 .nil) (xs.getD 22 .nil) (xs.getD 23 .nil) (xs.getD 24 .nil) (xs.getD 25 .nil) (xs.getD 26 .nil) (xs.getD 27 .nil) (xs.getD 28 .nil) (xs.getD 29 .nil) (xs.getD 30 .nil) (xs.getD 31 .nil) (xs.getD 32 .nil) (xs.getD 33 .nil) (xs.getD 34 .nil))∧
 (∀(f:C→C→C→C→C→C→C→C→C→C→C→C→C→C→C→C→C→C→C→C→C→C→C→C→C→C→C→C→C→C→C→C→C→C→C→C→R) xs,ap36 f xs=f (xs.getD 0 .nil) (xs.getD 1 .nil) (xs.getD 2 .nil) (xs.getD 3 .nil) (xs.getD 4 .nil) (xs.getD 5 .nil) (xs.getD 6 .nil) (xs.getD 7 .nil) (xs.getD 8 .nil) (xs.getD 9 .nil) (xs.getD 10 .nil) (xs.getD 11 .nil) (xs.getD 12 .nil) (xs.getD 13 .nil) (xs.getD 14 .nil) (xs.getD 15 .nil) (xs.getD 16 .nil) (xs.getD 17 .nil) (xs.getD 18 .nil) (xs.getD 19 .nil) (xs.getD 20 .nil) (xs.getD 21 .nil) (xs.getD 22 .nil) (xs.getD 23 .nil) (xs.getD 24 .nil) (xs.getD 25 .nil) (xs.getD 26 .nil) (xs.getD 27 .nil) (xs.getD 28 .nil) (xs.getD 29 .nil) (xs.getD 30 .nil) (xs.getD 31 .nil) (xs.getD 32 .nil) (xs.getD 33 .nil) (xs.getD 34 .nil) (xs.getD 35 .nil))∧
 (∀(f:C→C→C→C→C→C→C→C→C→C→C→C→C→C→C→C→C→C→C→C→C→C→C→C→C→C→C→C→C→C→C→C→C→C→C→C→C→R) xs,ap37 f xs=f (xs.getD 0 .nil) (xs.getD 1 .nil) (xs.getD 2 .nil) (xs.getD 3 .nil) (xs.getD 4 .nil) (xs.getD 5 .nil) (xs.getD 6 .nil) (xs.getD 7 .nil) (xs.getD 8 .nil) (xs.getD 9 .nil) (xs.getD 10 .nil) (xs.getD 11 .nil) (xs.getD 12 .nil) (xs.getD 13 .nil) (xs.getD 14 .nil) (xs.getD 15 .nil) (xs.getD 16 .nil) (xs.getD 17 .nil) (xs.getD 18 .nil) (xs.getD 19 .nil) (xs.getD 20 .nil) (xs.getD 21 .nil) (xs.getD 22 .nil) (xs.getD 23 .nil) (xs.getD 24 .nil) (xs.getD 25 .nil) (xs.getD 26 .nil) (xs.getD 27 .nil) (xs.getD 28 .nil) (xs.getD 29 .nil) (xs.getD 30 .nil) (xs.getD 31 .nil) (xs.getD 32 .nil) (xs.getD 33 .nil) (xs.getD 34 .nil) (xs.getD 35 .nil) (xs.getD 36 .nil))∧
 (∀(f:C→C→C→C→C→C→C→C→C→C→C→C→C→C→C→C→C→C→C→C→C→C→C→C→C→C→C→C→C→C→C→C→C→C→C→C→C→C→R) xs,ap38 f xs=f (xs.getD 0 .nil) (xs.getD 1 .nil) (xs.getD 2 .nil) (xs.getD 3 .nil) (xs.getD 4 .nil) (xs.getD 5 .nil) (xs.getD 6 .nil) (xs.getD 7 .nil) (xs.getD 8 .nil) (xs.getD 9 .nil) (xs.getD 10 .nil) (xs.getD 11 .nil) (xs.getD 12 .nil) (xs.getD 13 .nil) (xs.getD 14 .nil) (xs.getD 15 .nil) (xs.getD 16 .nil) (xs.getD 17 .nil) (xs.getD 18 .nil) (xs.getD 19 .nil) (xs.getD 20 .nil) (xs.getD 21 .nil) (xs.getD 22 .nil) (xs.getD 23 .nil) (xs.getD 24 .nil) (xs.getD 25 .nil) (xs.getD 26 .nil) (xs.getD 27 .nil) (xs.getD 28 .nil) (xs.getD 29 .nil) (xs.getD 30 .nil) (xs.getD 31 .nil) (xs.getD 32 .nil) (xs.getD 33 .nil) (xs.getD 34 .nil) (xs.getD 35 .nil) (xs.getD 36 .nil) (xs.getD 37 .nil))∧
 (∀(f:C→C→C→C→C→C→C→C→C→C→C→C→C→C→C→C→C→C→C→C→C→C→C→C→C→C→C→C→C→C→C→C→C→C→C→C→C→C→C→R) xs,ap39 f xs=f (xs.getD 0 .nil) (xs.getD 1 .nil) (xs.getD 2 .nil) (xs.getD 3 .nil) (xs.getD 4 .nil) (xs.getD 5 .nil) (xs.getD 6 .nil) (xs.getD 7 .nil) (xs.getD 8 .nil) (xs.getD 9 .nil) (xs.getD 10 .nil) (xs.getD 11 .nil) (xs.getD 12 .nil) (xs.getD 13 .nil) (xs.getD 14 .nil) (xs.getD 15 .nil) (xs.getD 16 .nil) (xs.getD 17 .nil) (xs.getD 18 .nil) (xs.getD 19 .nil) (xs.getD 20 .nil) (xs.getD 21 .nil) (xs.getD 22 .nil) (xs.getD 23 .nil) (xs.getD 24 .nil) (xs.getD 25 .nil) (xs.getD 26 .nil) (xs.getD 27 .nil) (xs.getD 28 .nil) (xs.getD 29 .nil) (xs.getD 30 .nil) (xs.getD 31 .nil) (xs.getD 32 .nil) (xs.getD 33 .nil) (xs.getD 34 .nil) (xs.getD 35 .nil) (xs.getD 36 .nil) (xs.getD 37 .nil) (xs.getD 38 .nil))∧
 (∀(f:C→C→C→C→C→C→C→C→C→C→C→C→C→C→C→C→C→C→C→C→C→C→C→C→C→C→C→C→C→C→C→C→C→C→C→C→C→C→C→C→R) xs,ap40 f xs=f (xs.getD 0 .nil) (xs.getD 1 .nil) (xs.getD 2 .nil) (xs.getD 3 .nil) (xs.getD 4 .nil) (xs.getD 5 .nil) (xs.getD 6 .nil) (xs.getD 7 .nil) (xs.getD 8 .nil) (xs.getD 9 .nil) (xs.getD 10 .nil) (xs.getD 11 .nil) (xs.getD 12 .nil) (xs.getD 13 .nil) (xs.getD 14 .nil) (xs.getD 15 .nil) (xs.getD 16 .nil) (xs.getD 17 .nil) (xs.getD 18 .nil) (xs.getD 19 .nil) (xs.getD 20 .nil) (xs.getD 21 .nil) (xs.getD 22 .nil) (xs.getD 23 .nil) (xs.getD 24 .nil) (xs.getD 25 .nil) (xs.getD 26 .nil) (xs.getD 27 .nil) (xs.getD 28 .nil) (xs.getD 29 .nil) (xs.getD 30 .nil) (xs.getD 31 .nil) (xs.getD 32 .nil) (xs.getD 33 .nil) (xs.getD 34 .nil) (xs.getD 35 .nil) (xs.getD 36 .nil) (xs.getD 37 .nil) (xs.getD 38 .nil) (xs.getD 39 .nil)):=
 ⟨fun _ _=>rfl,fun _ _=>rfl,fun _ _=>rfl,fun _ _=>rfl,fun _ _=>rfl,fun _ _=>rfl,fun _ _=>rfl,fun _ _=>rfl,fun _ _=>rfl,fun _ _=>rfl,fun _ _=>rfl,fun _ _=>rfl,fun _ _=>rfl,fun _ _=>rfl,fun _ _=>rfl,fun _ _=>rfl,fun _ _=>rfl,fun _ _=>rfl,fun _ _=>rfl,fun _ _=>rfl,fun _ _=>rfl,fun _ _=>rfl,fun _ _=>rfl,fun _ _=>rfl,fun _ _=>rfl,fun _ _=>rfl,fun _ _=>rfl,fun _ _=>rfl,fun _ _=>rfl,fun _ _=>rfl,fun _ _=>rfl,fun _ _=>rfl,fun _ _=>rfl,fun _ _=>rfl,fun _ _=>rfl,fun _ _=>rfl,fun _ _=>rfl,fun _ _=>rfl,fun _ _=>rfl,fun _ _=>rfl⟩
attribute [simp] apL
theorem BB:(∀ {α:Type} {a:α} {us vs:List α},a::us++vs=a::(us++vs))∧
 (∀ {α:Type} (us:List α),[]++us=us)∧
 (∀ {α:Type} {x:α} {xs:List α} {d:α},(x::xs).getD 0 d=x)∧
 (∀ {α:Type} {x:α} {xs:List α} {n:Nat} {d:α},(x::xs).getD (n+1) d=xs.getD n d)∧
 (∀(n:Int),(C.i n).I=n)∧
 (∀(x:Bool),(C.b x).B=x)∧
 (∀(x:ByteArray),(C.s x).S=x)∧
 (∀(x:List (List C)),(C.l x).L=x)∧
 (∀(ys:List C) (K:List C→R),bindF (some ys) K=K ys)∧
 (∀(xs:List C) (K:List C→R),bindNrm (some (.nrm xs)) K=K xs)∧
 (∀(xs:List C) (K:List C→R),bindNrm (some (.ret xs)) K=some (.ret xs))∧
 (∀(xs:List C) (K:List C→R),bindNrm (some (.again xs)) K=some (.again xs))∧
 (∀(i:Nat) (xs:List C) (K:List C→R),bindNrm (some (.brk i xs)) K=some (.brk i xs))∧
 (∀(i:Nat) (xs:List C) (K:List C→R),bindBlk i (some (.brk i xs)) K=K xs)∧
 (∀(i:Nat) (xs:List C) (K:List C→R),bindBlk i (some (.ret xs)) K=some (.ret xs))∧
 (∀(i:Nat) (xs:List C) (K:List C→R),bindBlk i (some (.again xs)) K=some (.again xs))∧
 (∀(i:Nat) (xs:List C) (K:List C→R),bindBlk i (some (.nrm xs)) K=some (.nrm xs))∧
 (∀ {α:Type} (a b:α),(bif true then a else b)=a)∧
 (∀ {α:Type} (a b:α),(bif false then a else b)=b)∧
 (∀(h:Decidable True),decide True=true)∧
 (∀(h:Decidable False),decide False=false)∧
 (∀(ys:List C),finR (some (.ret ys))=some ys)∧
 (∀ {α β:Type} {us:List α} (f:α→β),(List.map f us).length=us.length)∧
 (∀(n:Nat),0≤(n:Int))∧
 (∀(n:Nat),((n:Int)).toNat=n)∧
 ((!true)=false)∧
 ((!false)=true)∧
 (∀ {α:Type} {a:α},[a].length=1)∧
 (∀ {α:Type},([]:List α).length=0)∧
 (∀(n:Nat),0+n=n)∧
 (∀o (K:C→R),call1 o K=bindF o fun ys=>K (ys.getD 0 .nil))∧
 (∀o (K:C→C→R),call2 o K=bindF o fun ys=>K (ys.getD 0 .nil) (ys.getD 1 .nil))∧
 (∀o (K:C→C→C→R),call3 o K=bindF o fun ys=>K (ys.getD 0 .nil) (ys.getD 1 .nil) (ys.getD 2 .nil))∧
 (∀o (K:C→C→C→C→R),call4 o K=bindF o fun ys=>K (ys.getD 0 .nil) (ys.getD 1 .nil) (ys.getD 2 .nil) (ys.getD 3 .nil))∧
 (∀o (K:C→C→C→C→C→R),call5 o K=bindF o fun ys=>K (ys.getD 0 .nil) (ys.getD 1 .nil) (ys.getD 2 .nil) (ys.getD 3 .nil) (ys.getD 4 .nil))∧
 (∀o (K:C→C→C→C→C→C→R),call6 o K=bindF o fun ys=>K (ys.getD 0 .nil) (ys.getD 1 .nil) (ys.getD 2 .nil) (ys.getD 3 .nil) (ys.getD 4 .nil) (ys.getD 5 .nil))∧
 (∀o (K:C→C→C→C→C→C→C→R),call7 o K=bindF o fun ys=>K (ys.getD 0 .nil) (ys.getD 1 .nil) (ys.getD 2 .nil) (ys.getD 3 .nil) (ys.getD 4 .nil) (ys.getD 5 .nil) (ys.getD 6 .nil))∧
 (∀o (K:C→C→C→C→C→C→C→C→R),call8 o K=bindF o fun ys=>K (ys.getD 0 .nil) (ys.getD 1 .nil) (ys.getD 2 .nil) (ys.getD 3 .nil) (ys.getD 4 .nil) (ys.getD 5 .nil) (ys.getD 6 .nil) (ys.getD 7 .nil))∧
 (∀o (K:C→C→C→C→C→C→C→C→C→R),call9 o K=bindF o fun ys=>K (ys.getD 0 .nil) (ys.getD 1 .nil) (ys.getD 2 .nil) (ys.getD 3 .nil) (ys.getD 4 .nil) (ys.getD 5 .nil) (ys.getD 6 .nil) (ys.getD 7 .nil) (ys.getD 8 .nil))∧
 (∀o (K:C→C→C→C→C→C→C→C→C→C→R),call10 o K=bindF o fun ys=>K (ys.getD 0 .nil) (ys.getD 1 .nil) (ys.getD 2 .nil) (ys.getD 3 .nil) (ys.getD 4 .nil) (ys.getD 5 .nil) (ys.getD 6 .nil) (ys.getD 7 .nil) (ys.getD 8 .nil) (ys.getD 9 .nil))∧
 (∀o (K:C→C→C→C→C→C→C→C→C→C→C→R),call11 o K=bindF o fun ys=>K (ys.getD 0 .nil) (ys.getD 1 .nil) (ys.getD 2 .nil) (ys.getD 3 .nil) (ys.getD 4 .nil) (ys.getD 5 .nil) (ys.getD 6 .nil) (ys.getD 7 .nil) (ys.getD 8 .nil) (ys.getD 9 .nil) (ys.getD 10 .nil))∧
 (∀o (K:C→C→C→C→C→C→C→C→C→C→C→C→R),call12 o K=bindF o fun ys=>K (ys.getD 0 .nil) (ys.getD 1 .nil) (ys.getD 2 .nil) (ys.getD 3 .nil) (ys.getD 4 .nil) (ys.getD 5 .nil) (ys.getD 6 .nil) (ys.getD 7 .nil) (ys.getD 8 .nil) (ys.getD 9 .nil) (ys.getD 10 .nil) (ys.getD 11 .nil))∧
 (∀o (K:C→C→C→C→C→C→C→C→C→C→C→C→C→R),call13 o K=bindF o fun ys=>K (ys.getD 0 .nil) (ys.getD 1 .nil) (ys.getD 2 .nil) (ys.getD 3 .nil) (ys.getD 4 .nil) (ys.getD 5 .nil) (ys.getD 6 .nil) (ys.getD 7 .nil) (ys.getD 8 .nil) (ys.getD 9 .nil) (ys.getD 10 .nil) (ys.getD 11 .nil) (ys.getD 12 .nil))∧
 (∀o (K:C→C→C→C→C→C→C→C→C→C→C→C→C→C→R),call14 o K=bindF o fun ys=>K (ys.getD 0 .nil) (ys.getD 1 .nil) (ys.getD 2 .nil) (ys.getD 3 .nil) (ys.getD 4 .nil) (ys.getD 5 .nil) (ys.getD 6 .nil) (ys.getD 7 .nil) (ys.getD 8 .nil) (ys.getD 9 .nil) (ys.getD 10 .nil) (ys.getD 11 .nil) (ys.getD 12 .nil) (ys.getD 13 .nil))∧
 (∀o (K:C→C→C→C→C→C→C→C→C→C→C→C→C→C→C→R),call15 o K=bindF o fun ys=>K (ys.getD 0 .nil) (ys.getD 1 .nil) (ys.getD 2 .nil) (ys.getD 3 .nil) (ys.getD 4 .nil) (ys.getD 5 .nil) (ys.getD 6 .nil) (ys.getD 7 .nil) (ys.getD 8 .nil) (ys.getD 9 .nil) (ys.getD 10 .nil) (ys.getD 11 .nil) (ys.getD 12 .nil) (ys.getD 13 .nil) (ys.getD 14 .nil))∧
 (∀o (K:C→C→C→C→C→C→C→C→C→C→C→C→C→C→C→C→R),call16 o K=bindF o fun ys=>K (ys.getD 0 .nil) (ys.getD 1 .nil) (ys.getD 2 .nil) (ys.getD 3 .nil) (ys.getD 4 .nil) (ys.getD 5 .nil) (ys.getD 6 .nil) (ys.getD 7 .nil) (ys.getD 8 .nil) (ys.getD 9 .nil) (ys.getD 10 .nil) (ys.getD 11 .nil) (ys.getD 12 .nil) (ys.getD 13 .nil) (ys.getD 14 .nil) (ys.getD 15 .nil))∧
 (∀o (K:C→C→C→C→C→C→C→C→C→C→C→C→C→C→C→C→C→R),call17 o K=bindF o fun ys=>K (ys.getD 0 .nil) (ys.getD 1 .nil) (ys.getD 2 .nil) (ys.getD 3 .nil) (ys.getD 4 .nil) (ys.getD 5 .nil) (ys.getD 6 .nil) (ys.getD 7 .nil) (ys.getD 8 .nil) (ys.getD 9 .nil) (ys.getD 10 .nil) (ys.getD 11 .nil) (ys.getD 12 .nil) (ys.getD 13 .nil) (ys.getD 14 .nil) (ys.getD 15 .nil) (ys.getD 16 .nil))∧
 (∀o (K:C→C→C→C→C→C→C→C→C→C→C→C→C→C→C→C→C→C→R),call18 o K=bindF o fun ys=>K (ys.getD 0 .nil) (ys.getD 1 .nil) (ys.getD 2 .nil) (ys.getD 3 .nil) (ys.getD 4 .nil) (ys.getD 5 .nil) (ys.getD 6 .nil) (ys.getD 7 .nil) (ys.getD 8 .nil) (ys.getD 9 .nil) (ys.getD 10 .nil) (ys.getD 11 .nil) (ys.getD 12 .nil) (ys.getD 13 .nil) (ys.getD 14 .nil) (ys.getD 15 .nil) (ys.getD 16 .nil) (ys.getD 17 .nil))∧
 (∀o (K:C→C→C→C→C→C→C→C→C→C→C→C→C→C→C→C→C→C→C→R),call19 o K=bindF o fun ys=>K (ys.getD 0 .nil) (ys.getD 1 .nil) (ys.getD 2 .nil) (ys.getD 3 .nil) (ys.getD 4 .nil) (ys.getD 5 .nil) (ys.getD 6 .nil) (ys.getD 7 .nil) (ys.getD 8 .nil) (ys.getD 9 .nil) (ys.getD 10 .nil) (ys.getD 11 .nil) (ys.getD 12 .nil) (ys.getD 13 .nil) (ys.getD 14 .nil) (ys.getD 15 .nil) (ys.getD 16 .nil) (ys.getD 17 .nil) (ys.getD 18 .nil))∧
 (∀o (K:C→C→C→C→C→C→C→C→C→C→C→C→C→C→C→C→C→C→C→C→R),call20 o K=bindF o fun ys=>K (ys.getD 0 .nil) (ys.getD 1 .nil) (ys.getD 2 .nil) (ys.getD 3 .nil) (ys.getD 4 .nil) (ys.getD 5 .nil) (ys.getD 6 .nil) (ys.getD 7 .nil) (ys.getD 8 .nil) (ys.getD 9 .nil) (ys.getD 10 .nil) (ys.getD 11 .nil) (ys.getD 12 .nil) (ys.getD 13 .nil) (ys.getD 14 .nil) (ys.getD 15 .nil) (ys.getD 16 .nil) (ys.getD 17 .nil) (ys.getD 18 .nil) (ys.getD 19 .nil))∧
 (∀o (K:C→C→C→C→C→C→C→C→C→C→C→C→C→C→C→C→C→C→C→C→C→R),call21 o K=bindF o fun ys=>K (ys.getD 0 .nil) (ys.getD 1 .nil) (ys.getD 2 .nil) (ys.getD 3 .nil) (ys.getD 4 .nil) (ys.getD 5 .nil) (ys.getD 6 .nil) (ys.getD 7 .nil) (ys.getD 8 .nil) (ys.getD 9 .nil) (ys.getD 10 .nil) (ys.getD 11 .nil) (ys.getD 12 .nil) (ys.getD 13 .nil) (ys.getD 14 .nil) (ys.getD 15 .nil) (ys.getD 16 .nil) (ys.getD 17 .nil) (ys.getD 18 .nil) (ys.getD 19 .nil) (ys.getD 20 .nil))∧
 (∀o (K:C→C→C→C→C→C→C→C→C→C→C→C→C→C→C→C→C→C→C→C→C→C→R),call22 o K=bindF o fun ys=>K (ys.getD 0 .nil) (ys.getD 1 .nil) (ys.getD 2 .nil) (ys.getD 3 .nil) (ys.getD 4 .nil) (ys.getD 5 .nil) (ys.getD 6 .nil) (ys.getD 7 .nil) (ys.getD 8 .nil) (ys.getD 9 .nil) (ys.getD 10 .nil) (ys.getD 11 .nil) (ys.getD 12 .nil) (ys.getD 13 .nil) (ys.getD 14 .nil) (ys.getD 15 .nil) (ys.getD 16 .nil) (ys.getD 17 .nil) (ys.getD 18 .nil) (ys.getD 19 .nil) (ys.getD 20 .nil) (ys.getD 21 .nil))∧
 (∀o (K:C→C→C→C→C→C→C→C→C→C→C→C→C→C→C→C→C→C→C→C→C→C→C→R),call23 o K=bindF o fun ys=>K (ys.getD 0 .nil) (ys.getD 1 .nil) (ys.getD 2 .nil) (ys.getD 3 .nil) (ys.getD 4 .nil) (ys.getD 5 .nil) (ys.getD 6 .nil) (ys.getD 7 .nil) (ys.getD 8 .nil) (ys.getD 9 .nil) (ys.getD 10 .nil) (ys.getD 11 .nil) (ys.getD 12 .nil) (ys.getD 13 .nil) (ys.getD 14 .nil) (ys.getD 15 .nil) (ys.getD 16 .nil) (ys.getD 17 .nil) (ys.getD 18 .nil) (ys.getD 19 .nil) (ys.getD 20 .nil) (ys.getD 21 .nil) (ys.getD 22 .nil))∧
 (∀o (K:C→C→C→C→C→C→C→C→C→C→C→C→C→C→C→C→C→C→C→C→C→C→C→C→R),call24 o K=bindF o fun ys=>K (ys.getD 0 .nil) (ys.getD 1 .nil) (ys.getD 2 .nil) (ys.getD 3 .nil) (ys.getD 4 .nil) (ys.getD 5 .nil) (ys.getD 6 .nil) (ys.getD 7 .nil) (ys.getD 8 .nil) (ys.getD 9 .nil) (ys.getD 10 .nil) (ys.getD 11 .nil) (ys.getD 12 .nil) (ys.getD 13 .nil) (ys.getD 14 .nil) (ys.getD 15 .nil) (ys.getD 16 .nil) (ys.getD 17 .nil) (ys.getD 18 .nil) (ys.getD 19 .nil) (ys.getD 20 .nil) (ys.getD 21 .nil) (ys.getD 22 .nil) (ys.getD 23 .nil))∧
 (∀(f:C→R) xs,ap1 f xs=f (xs.getD 0 .nil))∧
 (∀(f:C→C→R) xs,ap2 f xs=f (xs.getD 0 .nil) (xs.getD 1 .nil))∧
 (∀(f:C→C→C→R) xs,ap3 f xs=f (xs.getD 0 .nil) (xs.getD 1 .nil) (xs.getD 2 .nil))∧
 (∀(f:C→C→C→C→R) xs,ap4 f xs=f (xs.getD 0 .nil) (xs.getD 1 .nil) (xs.getD 2 .nil) (xs.getD 3 .nil))∧
 (∀(f:C→C→C→C→C→R) xs,ap5 f xs=f (xs.getD 0 .nil) (xs.getD 1 .nil) (xs.getD 2 .nil) (xs.getD 3 .nil) (xs.getD 4 .nil))∧
 (∀(f:C→C→C→C→C→C→R) xs,ap6 f xs=f (xs.getD 0 .nil) (xs.getD 1 .nil) (xs.getD 2 .nil) (xs.getD 3 .nil) (xs.getD 4 .nil) (xs.getD 5 .nil))∧
 (∀(f:C→C→C→C→C→C→C→R) xs,ap7 f xs=f (xs.getD 0 .nil) (xs.getD 1 .nil) (xs.getD 2 .nil) (xs.getD 3 .nil) (xs.getD 4 .nil) (xs.getD 5 .nil) (xs.getD 6 .nil))∧
 (∀(f:C→C→C→C→C→C→C→C→R) xs,ap8 f xs=f (xs.getD 0 .nil) (xs.getD 1 .nil) (xs.getD 2 .nil) (xs.getD 3 .nil) (xs.getD 4 .nil) (xs.getD 5 .nil) (xs.getD 6 .nil) (xs.getD 7 .nil))∧
 (∀(f:C→C→C→C→C→C→C→C→C→R) xs,ap9 f xs=f (xs.getD 0 .nil) (xs.getD 1 .nil) (xs.getD 2 .nil) (xs.getD 3 .nil) (xs.getD 4 .nil) (xs.getD 5 .nil) (xs.getD 6 .nil) (xs.getD 7 .nil) (xs.getD 8 .nil))∧
 (∀(f:C→C→C→C→C→C→C→C→C→C→R) xs,ap10 f xs=f (xs.getD 0 .nil) (xs.getD 1 .nil) (xs.getD 2 .nil) (xs.getD 3 .nil) (xs.getD 4 .nil) (xs.getD 5 .nil) (xs.getD 6 .nil) (xs.getD 7 .nil) (xs.getD 8 .nil) (xs.getD 9 .nil))∧
 (∀(f:C→C→C→C→C→C→C→C→C→C→C→R) xs,ap11 f xs=f (xs.getD 0 .nil) (xs.getD 1 .nil) (xs.getD 2 .nil) (xs.getD 3 .nil) (xs.getD 4 .nil) (xs.getD 5 .nil) (xs.getD 6 .nil) (xs.getD 7 .nil) (xs.getD 8 .nil) (xs.getD 9 .nil) (xs.getD 10 .nil))∧
 (∀(f:C→C→C→C→C→C→C→C→C→C→C→C→R) xs,ap12 f xs=f (xs.getD 0 .nil) (xs.getD 1 .nil) (xs.getD 2 .nil) (xs.getD 3 .nil) (xs.getD 4 .nil) (xs.getD 5 .nil) (xs.getD 6 .nil) (xs.getD 7 .nil) (xs.getD 8 .nil) (xs.getD 9 .nil) (xs.getD 10 .nil) (xs.getD 11 .nil))∧
 (∀(f:C→C→C→C→C→C→C→C→C→C→C→C→C→R) xs,ap13 f xs=f (xs.getD 0 .nil) (xs.getD 1 .nil) (xs.getD 2 .nil) (xs.getD 3 .nil) (xs.getD 4 .nil) (xs.getD 5 .nil) (xs.getD 6 .nil) (xs.getD 7 .nil) (xs.getD 8 .nil) (xs.getD 9 .nil) (xs.getD 10 .nil) (xs.getD 11 .nil) (xs.getD 12 .nil))∧
 (∀(f:C→C→C→C→C→C→C→C→C→C→C→C→C→C→R) xs,ap14 f xs=f (xs.getD 0 .nil) (xs.getD 1 .nil) (xs.getD 2 .nil) (xs.getD 3 .nil) (xs.getD 4 .nil) (xs.getD 5 .nil) (xs.getD 6 .nil) (xs.getD 7 .nil) (xs.getD 8 .nil) (xs.getD 9 .nil) (xs.getD 10 .nil) (xs.getD 11 .nil) (xs.getD 12 .nil) (xs.getD 13 .nil))∧
 (∀(f:C→C→C→C→C→C→C→C→C→C→C→C→C→C→C→R) xs,ap15 f xs=f (xs.getD 0 .nil) (xs.getD 1 .nil) (xs.getD 2 .nil) (xs.getD 3 .nil) (xs.getD 4 .nil) (xs.getD 5 .nil) (xs.getD 6 .nil) (xs.getD 7 .nil) (xs.getD 8 .nil) (xs.getD 9 .nil) (xs.getD 10 .nil) (xs.getD 11 .nil) (xs.getD 12 .nil) (xs.getD 13 .nil) (xs.getD 14 .nil))∧
 (∀(f:C→C→C→C→C→C→C→C→C→C→C→C→C→C→C→C→R) xs,ap16 f xs=f (xs.getD 0 .nil) (xs.getD 1 .nil) (xs.getD 2 .nil) (xs.getD 3 .nil) (xs.getD 4 .nil) (xs.getD 5 .nil) (xs.getD 6 .nil) (xs.getD 7 .nil) (xs.getD 8 .nil) (xs.getD 9 .nil) (xs.getD 10 .nil) (xs.getD 11 .nil) (xs.getD 12 .nil) (xs.getD 13 .nil) (xs.getD 14 .nil) (xs.getD 15 .nil))∧
 (∀(f:C→C→C→C→C→C→C→C→C→C→C→C→C→C→C→C→C→R) xs,ap17 f xs=f (xs.getD 0 .nil) (xs.getD 1 .nil) (xs.getD 2 .nil) (xs.getD 3 .nil) (xs.getD 4 .nil) (xs.getD 5 .nil) (xs.getD 6 .nil) (xs.getD 7 .nil) (xs.getD 8 .nil) (xs.getD 9 .nil) (xs.getD 10 .nil) (xs.getD 11 .nil) (xs.getD 12 .nil) (xs.getD 13 .nil) (xs.getD 14 .nil) (xs.getD 15 .nil) (xs.getD 16 .nil))∧
 (∀(f:C→C→C→C→C→C→C→C→C→C→C→C→C→C→C→C→C→C→R) xs,ap18 f xs=f (xs.getD 0 .nil) (xs.getD 1 .nil) (xs.getD 2 .nil) (xs.getD 3 .nil) (xs.getD 4 .nil) (xs.getD 5 .nil) (xs.getD 6 .nil) (xs.getD 7 .nil) (xs.getD 8 .nil) (xs.getD 9 .nil) (xs.getD 10 .nil) (xs.getD 11 .nil) (xs.getD 12 .nil) (xs.getD 13 .nil) (xs.getD 14 .nil) (xs.getD 15 .nil) (xs.getD 16 .nil) (xs.getD 17 .nil))∧
 (∀(f:C→C→C→C→C→C→C→C→C→C→C→C→C→C→C→C→C→C→C→R) xs,ap19 f xs=f (xs.getD 0 .nil) (xs.getD 1 .nil) (xs.getD 2 .nil) (xs.getD 3 .nil) (xs.getD 4 .nil) (xs.getD 5 .nil) (xs.getD 6 .nil) (xs.getD 7 .nil) (xs.getD 8 .nil) (xs.getD 9 .nil) (xs.getD 10 .nil) (xs.getD 11 .nil) (xs.getD 12 .nil) (xs.getD 13 .nil) (xs.getD 14 .nil) (xs.getD 15 .nil) (xs.getD 16 .nil) (xs.getD 17 .nil) (xs.getD 18 .nil))∧
 (∀(f:C→C→C→C→C→C→C→C→C→C→C→C→C→C→C→C→C→C→C→C→R) xs,ap20 f xs=f (xs.getD 0 .nil) (xs.getD 1 .nil) (xs.getD 2 .nil) (xs.getD 3 .nil) (xs.getD 4 .nil) (xs.getD 5 .nil) (xs.getD 6 .nil) (xs.getD 7 .nil) (xs.getD 8 .nil) (xs.getD 9 .nil) (xs.getD 10 .nil) (xs.getD 11 .nil) (xs.getD 12 .nil) (xs.getD 13 .nil) (xs.getD 14 .nil) (xs.getD 15 .nil) (xs.getD 16 .nil) (xs.getD 17 .nil) (xs.getD 18 .nil) (xs.getD 19 .nil))∧
 (∀(f:C→C→C→C→C→C→C→C→C→C→C→C→C→C→C→C→C→C→C→C→C→R) xs,ap21 f xs=f (xs.getD 0 .nil) (xs.getD 1 .nil) (xs.getD 2 .nil) (xs.getD 3 .nil) (xs.getD 4 .nil) (xs.getD 5 .nil) (xs.getD 6 .nil) (xs.getD 7 .nil) (xs.getD 8 .nil) (xs.getD 9 .nil) (xs.getD 10 .nil) (xs.getD 11 .nil) (xs.getD 12 .nil) (xs.getD 13 .nil) (xs.getD 14 .nil) (xs.getD 15 .nil) (xs.getD 16 .nil) (xs.getD 17 .nil) (xs.getD 18 .nil) (xs.getD 19 .nil) (xs.getD 20 .nil))∧
 (∀(f:C→C→C→C→C→C→C→C→C→C→C→C→C→C→C→C→C→C→C→C→C→C→R) xs,ap22 f xs=f (xs.getD 0 .nil) (xs.getD 1 .nil) (xs.getD 2 .nil) (xs.getD 3 .nil) (xs.getD 4 .nil) (xs.getD 5 .nil) (xs.getD 6 .nil) (xs.getD 7 .nil) (xs.getD 8 .nil) (xs.getD 9 .nil) (xs.getD 10 .nil) (xs.getD 11 .nil) (xs.getD 12 .nil) (xs.getD 13 .nil) (xs.getD 14 .nil) (xs.getD 15 .nil) (xs.getD 16 .nil) (xs.getD 17 .nil) (xs.getD 18 .nil) (xs.getD 19 .nil) (xs.getD 20 .nil) (xs.getD 21 .nil))∧
 (∀(f:C→C→C→C→C→C→C→C→C→C→C→C→C→C→C→C→C→C→C→C→C→C→C→R) xs,ap23 f xs=f (xs.getD 0 .nil) (xs.getD 1 .nil) (xs.getD 2 .nil) (xs.getD 3 .nil) (xs.getD 4 .nil) (xs.getD 5 .nil) (xs.getD 6 .nil) (xs.getD 7 .nil) (xs.getD 8 .nil) (xs.getD 9 .nil) (xs.getD 10 .nil) (xs.getD 11 .nil) (xs.getD 12 .nil) (xs.getD 13 .nil) (xs.getD 14 .nil) (xs.getD 15 .nil) (xs.getD 16 .nil) (xs.getD 17 .nil) (xs.getD 18 .nil) (xs.getD 19 .nil) (xs.getD 20 .nil) (xs.getD 21 .nil) (xs.getD 22 .nil))∧
 (∀(f:C→C→C→C→C→C→C→C→C→C→C→C→C→C→C→C→C→C→C→C→C→C→C→C→R) xs,ap24 f xs=f (xs.getD 0 .nil) (xs.getD 1 .nil) (xs.getD 2 .nil) (xs.getD 3 .nil) (xs.getD 4 .nil) (xs.getD 5 .nil) (xs.getD 6 .nil) (xs.getD 7 .nil) (xs.getD 8 .nil) (xs.getD 9 .nil) (xs.getD 10 .nil) (xs.getD 11 .nil) (xs.getD 12 .nil) (xs.getD 13 .nil) (xs.getD 14 .nil) (xs.getD 15 .nil) (xs.getD 16 .nil) (xs.getD 17 .nil) (xs.getD 18 .nil) (xs.getD 19 .nil) (xs.getD 20 .nil) (xs.getD 21 .nil) (xs.getD 22 .nil) (xs.getD 23 .nil))∧
 (∀(f:C→C→C→C→C→C→C→C→C→C→C→C→C→C→C→C→C→C→C→C→C→C→C→C→C→R) xs,ap25 f xs=f (xs.getD 0 .nil) (xs.getD 1 .nil) (xs.getD 2 .nil) (xs.getD 3 .nil) (xs.getD 4 .nil) (xs.getD 5 .nil) (xs.getD 6 .nil) (xs.getD 7 .nil) (xs.getD 8 .nil) (xs.getD 9 .nil) (xs.getD 10 .nil) (xs.getD 11 .nil) (xs.getD 12 .nil) (xs.getD 13 .nil) (xs.getD 14 .nil) (xs.getD 15 .nil) (xs.getD 16 .nil) (xs.getD 17 .nil) (xs.getD 18 .nil) (xs.getD 19 .nil) (xs.getD 20 .nil) (xs.getD 21 .nil) (xs.getD 22 .nil) (xs.getD 23 .nil) (xs.getD 24 .nil))∧
 (∀(f:C→C→C→C→C→C→C→C→C→C→C→C→C→C→C→C→C→C→C→C→C→C→C→C→C→C→R) xs,ap26 f xs=f (xs.getD 0 .nil) (xs.getD 1 .nil) (xs.getD 2 .nil) (xs.getD 3 .nil) (xs.getD 4 .nil) (xs.getD 5 .nil) (xs.getD 6 .nil) (xs.getD 7 .nil) (xs.getD 8 .nil) (xs.getD 9 .nil) (xs.getD 10 .nil) (xs.getD 11 .nil) (xs.getD 12 .nil) (xs.getD 13 .nil) (xs.getD 14 .nil) (xs.getD 15 .nil) (xs.getD 16 .nil) (xs.getD 17 .nil) (xs.getD 18 .nil) (xs.getD 19 .nil) (xs.getD 20 .nil) (xs.getD 21 .nil) (xs.getD 22 .nil) (xs.getD 23 .nil) (xs.getD 24 .nil) (xs.getD 25 .nil))∧
 (∀(f:C→C→C→C→C→C→C→C→C→C→C→C→C→C→C→C→C→C→C→C→C→C→C→C→C→C→C→R) xs,ap27 f xs=f (xs.getD 0 .nil) (xs.getD 1 .nil) (xs.getD 2 .nil) (xs.getD 3 .nil) (xs.getD 4 .nil) (xs.getD 5 .nil) (xs.getD 6 .nil) (xs.getD 7 .nil) (xs.getD 8 .nil) (xs.getD 9 .nil) (xs.getD 10 .nil) (xs.getD 11 .nil) (xs.getD 12 .nil) (xs.getD 13 .nil) (xs.getD 14 .nil) (xs.getD 15 .nil) (xs.getD 16 .nil) (xs.getD 17 .nil) (xs.getD 18 .nil) (xs.getD 19 .nil) (xs.getD 20 .nil) (xs.getD 21 .nil) (xs.getD 22 .nil) (xs.getD 23 .nil) (xs.getD 24 .nil) (xs.getD 25 .nil) (xs.getD 26 .nil))∧
 (∀(f:C→C→C→C→C→C→C→C→C→C→C→C→C→C→C→C→C→C→C→C→C→C→C→C→C→C→C→C→R) xs,ap28 f xs=f (xs.getD 0 .nil) (xs.getD 1 .nil) (xs.getD 2 .nil) (xs.getD 3 .nil) (xs.getD 4 .nil) (xs.getD 5 .nil) (xs.getD 6 .nil) (xs.getD 7 .nil) (xs.getD 8 .nil) (xs.getD 9 .nil) (xs.getD 10 .nil) (xs.getD 11 .nil) (xs.getD 12 .nil) (xs.getD 13 .nil) (xs.getD 14 .nil) (xs.getD 15 .nil) (xs.getD 16 .nil) (xs.getD 17 .nil) (xs.getD 18 .nil) (xs.getD 19 .nil) (xs.getD 20 .nil) (xs.getD 21 .nil) (xs.getD 22 .nil) (xs.getD 23 .nil) (xs.getD 24 .nil) (xs.getD 25 .nil) (xs.getD 26 .nil) (xs.getD 27 .nil))∧
 (∀(f:C→C→C→C→C→C→C→C→C→C→C→C→C→C→C→C→C→C→C→C→C→C→C→C→C→C→C→C→C→R) xs,ap29 f xs=f (xs.getD 0 .nil) (xs.getD 1 .nil) (xs.getD 2 .nil) (xs.getD 3 .nil) (xs.getD 4 .nil) (xs.getD 5 .nil) (xs.getD 6 .nil) (xs.getD 7 .nil) (xs.getD 8 .nil) (xs.getD 9 .nil) (xs.getD 10 .nil) (xs.getD 11 .nil) (xs.getD 12 .nil) (xs.getD 13 .nil) (xs.getD 14 .nil) (xs.getD 15 .nil) (xs.getD 16 .nil) (xs.getD 17 .nil) (xs.getD 18 .nil) (xs.getD 19 .nil) (xs.getD 20 .nil) (xs.getD 21 .nil) (xs.getD 22 .nil) (xs.getD 23 .nil) (xs.getD 24 .nil) (xs.getD 25 .nil) (xs.getD 26 .nil) (xs.getD 27 .nil) (xs.getD 28 .nil))∧
 (∀(f:C→C→C→C→C→C→C→C→C→C→C→C→C→C→C→C→C→C→C→C→C→C→C→C→C→C→C→C→C→C→R) xs,ap30 f xs=f (xs.getD 0 .nil) (xs.getD 1 .nil) (xs.getD 2 .nil) (xs.getD 3 .nil) (xs.getD 4 .nil) (xs.getD 5 .nil) (xs.getD 6 .nil) (xs.getD 7 .nil) (xs.getD 8 .nil) (xs.getD 9 .nil) (xs.getD 10 .nil) (xs.getD 11 .nil) (xs.getD 12 .nil) (xs.getD 13 .nil) (xs.getD 14 .nil) (xs.getD 15 .nil) (xs.getD 16 .nil) (xs.getD 17 .nil) (xs.getD 18 .nil) (xs.getD 19 .nil) (xs.getD 20 .nil) (xs.getD 21 .nil) (xs.getD 22 .nil) (xs.getD 23 .nil) (xs.getD 24 .nil) (xs.getD 25 .nil) (xs.getD 26 .nil) (xs.getD 27 .nil) (xs.getD 28 .nil) (xs.getD 29 .nil))∧
 (∀(f:C→C→C→C→C→C→C→C→C→C→C→C→C→C→C→C→C→C→C→C→C→C→C→C→C→C→C→C→C→C→C→R) xs,ap31 f xs=f (xs.getD 0 .nil) (xs.getD 1 .nil) (xs.getD 2 .nil) (xs.getD 3 .nil) (xs.getD 4 .nil) (xs.getD 5 .nil) (xs.getD 6 .nil) (xs.getD 7 .nil) (xs.getD 8 .nil) (xs.getD 9 .nil) (xs.getD 10 .nil) (xs.getD 11 .nil) (xs.getD 12 .nil) (xs.getD 13 .nil) (xs.getD 14 .nil) (xs.getD 15 .nil) (xs.getD 16 .nil) (xs.getD 17 .nil) (xs.getD 18 .nil) (xs.getD 19 .nil) (xs.getD 20 .nil) (xs.getD 21 .nil) (xs.getD 22 .nil) (xs.getD 23 .nil) (xs.getD 24 .nil) (xs.getD 25 .nil) (xs.getD 26 .nil) (xs.getD 27 .nil) (xs.getD 28 .nil) (xs.getD 29 .nil) (xs.getD 30 .nil))∧
 (∀(f:C→C→C→C→C→C→C→C→C→C→C→C→C→C→C→C→C→C→C→C→C→C→C→C→C→C→C→C→C→C→C→C→R) xs,ap32 f xs=f (xs.getD 0 .nil) (xs.getD 1 .nil) (xs.getD 2 .nil) (xs.getD 3 .nil) (xs.getD 4 .nil) (xs.getD 5 .nil) (xs.getD 6 .nil) (xs.getD 7 .nil) (xs.getD 8 .nil) (xs.getD 9 .nil) (xs.getD 10 .nil) (xs.getD 11 .nil) (xs.getD 12 .nil) (xs.getD 13 .nil) (xs.getD 14 .nil) (xs.getD 15 .nil) (xs.getD 16 .nil) (xs.getD 17 .nil) (xs.getD 18 .nil) (xs.getD 19 .nil) (xs.getD 20 .nil) (xs.getD 21 .nil) (xs.getD 22 .nil) (xs.getD 23 .nil) (xs.getD 24 .nil) (xs.getD 25 .nil) (xs.getD 26 .nil) (xs.getD 27 .nil) (xs.getD 28 .nil) (xs.getD 29 .nil) (xs.getD 30 .nil) (xs.getD 31 .nil))∧
 (∀(f:C→C→C→C→C→C→C→C→C→C→C→C→C→C→C→C→C→C→C→C→C→C→C→C→C→C→C→C→C→C→C→C→C→R) xs,ap33 f xs=f (xs.getD 0 .nil) (xs.getD 1 .nil) (xs.getD 2 .nil) (xs.getD 3 .nil) (xs.getD 4 .nil) (xs.getD 5 .nil) (xs.getD 6 .nil) (xs.getD 7 .nil) (xs.getD 8 .nil) (xs.getD 9 .nil) (xs.getD 10 .nil) (xs.getD 11 .nil) (xs.getD 12 .nil) (xs.getD 13 .nil) (xs.getD 14 .nil) (xs.getD 15 .nil) (xs.getD 16 .nil) (xs.getD 17 .nil) (xs.getD 18 .nil) (xs.getD 19 .nil) (xs.getD 20 .nil) (xs.getD 21 .nil) (xs.getD 22 .nil) (xs.getD 23 .nil) (xs.getD 24 .nil) (xs.getD 25 .nil) (xs.getD 26 .nil) (xs.getD 27 .nil) (xs.getD 28 .nil) (xs.getD 29 .nil) (xs.getD 30 .nil) (xs.getD 31 .nil) (xs.getD 32 .nil))∧
 (∀(f:C→C→C→C→C→C→C→C→C→C→C→C→C→C→C→C→C→C→C→C→C→C→C→C→C→C→C→C→C→C→C→C→C→C→R) xs,ap34 f xs=f (xs.getD 0 .nil) (xs.getD 1 .nil) (xs.getD 2 .nil) (xs.getD 3 .nil) (xs.getD 4 .nil) (xs.getD 5 .nil) (xs.getD 6 .nil) (xs.getD 7 .nil) (xs.getD 8 .nil) (xs.getD 9 .nil) (xs.getD 10 .nil) (xs.getD 11 .nil) (xs.getD 12 .nil) (xs.getD 13 .nil) (xs.getD 14 .nil) (xs.getD 15 .nil) (xs.getD 16 .nil) (xs.getD 17 .nil) (xs.getD 18 .nil) (xs.getD 19 .nil) (xs.getD 20 .nil) (xs.getD 21 .nil) (xs.getD 22 .nil) (xs.getD 23 .nil) (xs.getD 24 .nil) (xs.getD 25 .nil) (xs.getD 26 .nil) (xs.getD 27 .nil) (xs.getD 28 .nil) (xs.getD 29 .nil) (xs.getD 30 .nil) (xs.getD 31 .nil) (xs.getD 32 .nil) (xs.getD 33 .nil))∧
 (∀(f:C→C→C→C→C→C→C→C→C→C→C→C→C→C→C→C→C→C→C→C→C→C→C→C→C→C→C→C→C→C→C→C→C→C→C→R) xs,ap35 f xs=f (xs.getD 0 .nil) (xs.getD 1 .nil) (xs.getD 2 .nil) (xs.getD 3 .nil) (xs.getD 4 .nil) (xs.getD 5 .nil) (xs.getD 6 .nil) (xs.getD 7 .nil) (xs.getD 8 .nil) (xs.getD 9 .nil) (xs.getD 10 .nil) (xs.getD 11 .nil) (xs.getD 12 .nil) (xs.getD 13 .nil) (xs.getD 14 .nil) (xs.getD 15 .nil) (xs.getD 16 .nil) (xs.getD 17 .nil) (xs.getD 18 .nil) (xs.getD 19 .nil) (xs.getD 20 .nil) (xs.getD 21 .nil) (xs.getD 22 .nil) (xs.getD 23 .nil) (xs.getD 24 .nil) (xs.getD 25 .nil) (xs.getD 26 .nil) (xs.getD 27 .nil) (xs.getD 28 .nil) (xs.getD 29 .nil) (xs.getD 30 .nil) (xs.getD 31 .nil) (xs.getD 32 .nil) (xs.getD 33 .nil) (xs.getD 34 .nil))∧
 (∀(f:C→C→C→C→C→C→C→C→C→C→C→C→C→C→C→C→C→C→C→C→C→C→C→C→C→C→C→C→C→C→C→C→C→C→C→C→R) xs,ap36 f xs=f (xs.getD 0 .nil) (xs.getD 1 .nil) (xs.getD 2 .nil) (xs.getD 3 .nil) (xs.getD 4 .nil) (xs.getD 5 .nil) (xs.getD 6 .nil) (xs.getD 7 .nil) (xs.getD 8 .nil) (xs.getD 9 .nil) (xs.getD 10 .nil) (xs.getD 11 .nil) (xs.getD 12 .nil) (xs.getD 13 .nil) (xs.getD 14 .nil) (xs.getD 15 .nil) (xs.getD 16 .nil) (xs.getD 17 .nil) (xs.getD 18 .nil) (xs.getD 19 .nil) (xs.getD 20 .nil) (xs.getD 21 .nil) (xs.getD 22 .nil) (xs.getD 23 .nil) (xs.getD 24 .nil) (xs.getD 25 .nil) (xs.getD 26 .nil) (xs.getD 27 .nil) (xs.getD 28 .nil) (xs.getD 29 .nil) (xs.getD 30 .nil) (xs.getD 31 .nil) (xs.getD 32 .nil) (xs.getD 33 .nil) (xs.getD 34 .nil) (xs.getD 35 .nil))∧
 (∀(f:C→C→C→C→C→C→C→C→C→C→C→C→C→C→C→C→C→C→C→C→C→C→C→C→C→C→C→C→C→C→C→C→C→C→C→C→C→R) xs,ap37 f xs=f (xs.getD 0 .nil) (xs.getD 1 .nil) (xs.getD 2 .nil) (xs.getD 3 .nil) (xs.getD 4 .nil) (xs.getD 5 .nil) (xs.getD 6 .nil) (xs.getD 7 .nil) (xs.getD 8 .nil) (xs.getD 9 .nil) (xs.getD 10 .nil) (xs.getD 11 .nil) (xs.getD 12 .nil) (xs.getD 13 .nil) (xs.getD 14 .nil) (xs.getD 15 .nil) (xs.getD 16 .nil) (xs.getD 17 .nil) (xs.getD 18 .nil) (xs.getD 19 .nil) (xs.getD 20 .nil) (xs.getD 21 .nil) (xs.getD 22 .nil) (xs.getD 23 .nil) (xs.getD 24 .nil) (xs.getD 25 .nil) (xs.getD 26 .nil) (xs.getD 27 .nil) (xs.getD 28 .nil) (xs.getD 29 .nil) (xs.getD 30 .nil) (xs.getD 31 .nil) (xs.getD 32 .nil) (xs.getD 33 .nil) (xs.getD 34 .nil) (xs.getD 35 .nil) (xs.getD 36 .nil))∧
 (∀(f:C→C→C→C→C→C→C→C→C→C→C→C→C→C→C→C→C→C→C→C→C→C→C→C→C→C→C→C→C→C→C→C→C→C→C→C→C→C→R) xs,ap38 f xs=f (xs.getD 0 .nil) (xs.getD 1 .nil) (xs.getD 2 .nil) (xs.getD 3 .nil) (xs.getD 4 .nil) (xs.getD 5 .nil) (xs.getD 6 .nil) (xs.getD 7 .nil) (xs.getD 8 .nil) (xs.getD 9 .nil) (xs.getD 10 .nil) (xs.getD 11 .nil) (xs.getD 12 .nil) (xs.getD 13 .nil) (xs.getD 14 .nil) (xs.getD 15 .nil) (xs.getD 16 .nil) (xs.getD 17 .nil) (xs.getD 18 .nil) (xs.getD 19 .nil) (xs.getD 20 .nil) (xs.getD 21 .nil) (xs.getD 22 .nil) (xs.getD 23 .nil) (xs.getD 24 .nil) (xs.getD 25 .nil) (xs.getD 26 .nil) (xs.getD 27 .nil) (xs.getD 28 .nil) (xs.getD 29 .nil) (xs.getD 30 .nil) (xs.getD 31 .nil) (xs.getD 32 .nil) (xs.getD 33 .nil) (xs.getD 34 .nil) (xs.getD 35 .nil) (xs.getD 36 .nil) (xs.getD 37 .nil))∧
 (∀(f:C→C→C→C→C→C→C→C→C→C→C→C→C→C→C→C→C→C→C→C→C→C→C→C→C→C→C→C→C→C→C→C→C→C→C→C→C→C→C→R) xs,ap39 f xs=f (xs.getD 0 .nil) (xs.getD 1 .nil) (xs.getD 2 .nil) (xs.getD 3 .nil) (xs.getD 4 .nil) (xs.getD 5 .nil) (xs.getD 6 .nil) (xs.getD 7 .nil) (xs.getD 8 .nil) (xs.getD 9 .nil) (xs.getD 10 .nil) (xs.getD 11 .nil) (xs.getD 12 .nil) (xs.getD 13 .nil) (xs.getD 14 .nil) (xs.getD 15 .nil) (xs.getD 16 .nil) (xs.getD 17 .nil) (xs.getD 18 .nil) (xs.getD 19 .nil) (xs.getD 20 .nil) (xs.getD 21 .nil) (xs.getD 22 .nil) (xs.getD 23 .nil) (xs.getD 24 .nil) (xs.getD 25 .nil) (xs.getD 26 .nil) (xs.getD 27 .nil) (xs.getD 28 .nil) (xs.getD 29 .nil) (xs.getD 30 .nil) (xs.getD 31 .nil) (xs.getD 32 .nil) (xs.getD 33 .nil) (xs.getD 34 .nil) (xs.getD 35 .nil) (xs.getD 36 .nil) (xs.getD 37 .nil) (xs.getD 38 .nil))∧
 (∀(f:C→C→C→C→C→C→C→C→C→C→C→C→C→C→C→C→C→C→C→C→C→C→C→C→C→C→C→C→C→C→C→C→C→C→C→C→C→C→C→C→R) xs,ap40 f xs=f (xs.getD 0 .nil) (xs.getD 1 .nil) (xs.getD 2 .nil) (xs.getD 3 .nil) (xs.getD 4 .nil) (xs.getD 5 .nil) (xs.getD 6 .nil) (xs.getD 7 .nil) (xs.getD 8 .nil) (xs.getD 9 .nil) (xs.getD 10 .nil) (xs.getD 11 .nil) (xs.getD 12 .nil) (xs.getD 13 .nil) (xs.getD 14 .nil) (xs.getD 15 .nil) (xs.getD 16 .nil) (xs.getD 17 .nil) (xs.getD 18 .nil) (xs.getD 19 .nil) (xs.getD 20 .nil) (xs.getD 21 .nil) (xs.getD 22 .nil) (xs.getD 23 .nil) (xs.getD 24 .nil) (xs.getD 25 .nil) (xs.getD 26 .nil) (xs.getD 27 .nil) (xs.getD 28 .nil) (xs.getD 29 .nil) (xs.getD 30 .nil) (xs.getD 31 .nil) (xs.getD 32 .nil) (xs.getD 33 .nil) (xs.getD 34 .nil) (xs.getD 35 .nil) (xs.getD 36 .nil) (xs.getD 37 .nil) (xs.getD 38 .nil) (xs.getD 39 .nil)):=
 ⟨fun {_} {_} {_} {_}=>jA,fun {_} _=>jB _,fun {_} {_} {_} {_}=>jC,fun {_} {_} {_} {_} {_}=>jD,fun _=>jE _,fun _=>jF _,fun _=>jG _,fun _=>jH _,fun _ _=>jI _ _,fun _ _=>jJ _ _,fun _ _=>jK _ _,fun _ _=>jL _ _,fun _ _ _=>jM _ _ _,fun _ _ _=>jN _ _ _,fun _ _ _=>jO _ _ _,fun _ _ _=>jP _ _ _,fun _ _ _=>jQ _ _ _,fun {_} _ _=>jR _ _,fun {_} _ _=>jS _ _,fun _=>jT _,fun _=>jU _,fun _=>jV _,fun {_} {_} {_} _=>jW _,fun _=>jX _,fun _=>jY _,jZ,ja,fun {_} {_}=>jb,fun {_}=>jc,fun _=>jd _,fun _ _=>rfl,fun _ _=>rfl,fun _ _=>rfl,fun _ _=>rfl,fun _ _=>rfl,fun _ _=>rfl,fun _ _=>rfl,fun _ _=>rfl,fun _ _=>rfl,fun _ _=>rfl,fun _ _=>rfl,fun _ _=>rfl,fun _ _=>rfl,fun _ _=>rfl,fun _ _=>rfl,fun _ _=>rfl,fun _ _=>rfl,fun _ _=>rfl,fun _ _=>rfl,fun _ _=>rfl,fun _ _=>rfl,fun _ _=>rfl,fun _ _=>rfl,fun _ _=>rfl,fun _ _=>rfl,fun _ _=>rfl,fun _ _=>rfl,fun _ _=>rfl,fun _ _=>rfl,fun _ _=>rfl,fun _ _=>rfl,fun _ _=>rfl,fun _ _=>rfl,fun _ _=>rfl,fun _ _=>rfl,fun _ _=>rfl,fun _ _=>rfl,fun _ _=>rfl,fun _ _=>rfl,fun _ _=>rfl,fun _ _=>rfl,fun _ _=>rfl,fun _ _=>rfl,fun _ _=>rfl,fun _ _=>rfl,fun _ _=>rfl,fun _ _=>rfl,fun _ _=>rfl,fun _ _=>rfl,fun _ _=>rfl,fun _ _=>rfl,fun _ _=>rfl,fun _ _=>rfl,fun _ _=>rfl,fun _ _=>rfl,fun _ _=>rfl,fun _ _=>rfl,fun _ _=>rfl,fun _ _=>rfl,fun _ _=>rfl,fun _ _=>rfl,fun _ _=>rfl,fun _ _=>rfl,fun _ _=>rfl⟩
theorem iter_mono {body:List C→R}:∀ {k m:Nat} {xs:List C} {o:Out},k≤m→iter body k xs=some o→iter body m xs=some o
 |0,_,xs,o,_,h=>by simp[iter] at h
 |k+1,0,xs,o,hk,h=>by omega
 |k+1,m+1,xs,o,hk,h=>by
  simp only[iter] at h⊢
  split
  ·rename_i ys hb
   rw[hb] at h
   exact iter_mono (by omega) h
  ·rename_i hb
   split at h
   ·rename_i ys hb';exact absurd hb' (hb ys)
   ·exact h
theorem lim_of_iter {body:List C→R} {k:Nat} {xs:List C} {o:Out} (h:iter body k xs=some o):lim body xs=some o:=by
 have hex:∃k,(iter body k xs).isSome:=⟨k,by rw[h];rfl⟩
 unfold lim
 rw[dif_pos hex]
 have hs:=Classical.choose_spec hex
 obtain ⟨o',ho'⟩:=Option.isSome_iff_exists.1 hs
 rw[ho']
 rcases Nat.le_total k (Classical.choose hex) with hle|hle
 ·rw[iter_mono hle h] at ho';exact ho'.symm
 ·rw[iter_mono hle ho'] at h;exact h
theorem lim_again {body:List C→R} {xs ys:List C} (h:body xs=some (.again ys)):lim body xs=lim body ys:=by
 have key:∀k,iter body (k+1) xs=iter body k ys:=fun k=>by simp only[iter,h]
 cases hr:lim body ys with
 |some o=>
  obtain ⟨k,hk⟩:=lim_some hr
  exact lim_of_iter (k:=k+1) (by rw[key];exact hk)
 |none=>
  cases hl:lim body xs with
  |none=>rfl
  |some o=>
   obtain ⟨k,hk⟩:=lim_some hl
   cases k with
   |zero=>simp[iter] at hk
   |succ k=>rw[key] at hk;rw[lim_of_iter hk] at hr;simp at hr
theorem lim_ret {body:List C→R} {xs ys:List C} (h:body xs=some (.ret ys)):lim body xs=some (.ret ys):=lim_of_iter (k:=1) (by simp only[iter,h])
theorem lim_brk {body:List C→R} {xs ys:List C} {i:Nat} (h:body xs=some (.brk i ys)):lim body xs=some (.brk i ys):=lim_of_iter (k:=1) (by simp only[iter,h])
theorem w64_of {n:Int} (h1:-9223372036854775808≤n) (h2:n≤9223372036854775807):w64 n=n:=by
 show (if (true&&decide (n%18446744073709551616≥9223372036854775808))=true then n%18446744073709551616-18446744073709551616 else n%18446744073709551616)=n
 split
 ·rename_i h;simp only[Bool.true_and,decide_eq_true_eq] at h;omega
 ·rename_i h;simp only[Bool.true_and,decide_eq_true_eq] at h;omega
theorem getD_map_lt {α β:Type} (f:α→β) {l:List α} {i:Nat} (h:i<l.length) (d:β):(l.map f).getD i d=f l[i]:=by
 rw[List.getD_eq_getElem?_getD,List.getElem?_map,List.getElem?_eq_getElem h];rfl
def loopL {α σ:Type} (f:Nat→α→σ→σ ⊕ Out) (fin:σ→Out):List α→Nat→σ→Out
 |[],_,a=>fin a
 |x::r,i,a=>match f i x a with
  |.inl b=>loopL f fin r (i+1) b
  |.inr o=>o
def Out.stops:Out→Prop|.again _=>False|_=>True
theorem lim_stop {body:List C→R} {xs:List C} {o:Out} (h:body xs=some o) (ho:o.stops):lim body xs=some o:=by
 cases o with
 |ret ys=>exact lim_ret h
 |brk i ys=>exact lim_brk h
 |nrm ys=>exact lim_of_iter (k:=1) (by simp only[iter,h])
 |again ys=>exact ho.elim
def StepOk {σ:Type} (body:List C→R) (S:Nat→σ→List C) (Inv:Nat→σ→Prop) (i:Nat) (a:σ):σ ⊕ Out→Prop
 |.inl b=>body (S i a)=some (.again (S (i+1) b))∧Inv (i+1) b
 |.inr o=>body (S i a)=some o∧o.stops
theorem lim_list {α σ:Type} {l:List α} {body:List C→R} {S:Nat→σ→List C} (Inv:Nat→σ→Prop) (f:Nat→α→σ→σ ⊕ Out) (fin:σ→Out)
  (hstep:∀(i:Nat) (a:σ) (h:i<l.length),Inv i a→StepOk body S Inv i a (f i l[i] a))
  (hend:∀a,Inv l.length a→body (S l.length a)=some (fin a)∧(fin a).stops):
  ∀(n i:Nat) (a:σ),n+i=l.length→Inv i a→lim body (S i a)=some (loopL f fin (l.drop i) i a)
 |0,i,a,hn,ha=>by
  have:i=l.length:=by omega
  subst this
  obtain ⟨h1,h2⟩:=hend a ha
  rw[lim_stop h1 h2,List.drop_length];rfl
 |n+1,i,a,hn,ha=>by
  have hi:i<l.length:=by omega
  have hs:=hstep i a hi ha
  rw[List.drop_eq_getElem_cons hi]
  show _=some (match f i l[i] a with
   |.inl b=>loopL f fin (l.drop (i+1)) (i+1) b
   |.inr o=>o)
  cases hf:f i l[i] a with
  |inl b=>
   rw[hf] at hs
   rw[lim_again hs.1]
   exact lim_list Inv f fin hstep hend n (i+1) b (by omega) hs.2
  |inr o=>
   rw[hf] at hs
   exact lim_stop hs.1 hs.2
end Go.Ev
namespace Go.Ev
open Go.RowKit
inductive DB (T:Tys):CT→C→Prop
 |i (k:IntKind) (n:Int) (h:(Lit.int k n).wf=true):DB T (.int k) (.i n)
 |b (x:Bool):DB T .bool (.b x)
 |s (x:ByteArray) (h:x.size≤maxLen):DB T .str (.s x)
 |l (e:TypeId) (es:List (List C)) (h:es.length≤maxLen) (h1:∀(r:List C) (d:TD),r∈es→tget T e=some d→r.length=d.cts.length)
   (h2:∀(r:List C) (d:TD) (j:Nat) (c:C) (ct:CT),r∈es→tget T e=some d→r[j]?=some c→d.cts[j]?=some ct→DB T ct c):DB T (.sl e) (.l es)
theorem cell_some {w:World} {a:Addr} {v:Value} (h:w.cell? a=some v):a.block<w.heap.size∧a.spot=none:=by
 simp only[World.cell?] at h
 split at h
 ·rename_i c _ _ hb
  refine ⟨?_,?_⟩
  ·exact (Array.getElem?_eq_some_iff.1 hb).1
  ·split at h
   ·simp at h
   ·rename_i hs;simpa using hs
 ·simp at h
structure Rd (T:Tys) (w:World) (cts:List CT) (cs:List Value) (xs:List C):Prop where
 n:xs.length=cts.length
 m:cs.length=cts.length
 rel:∀(j:Nat) (c:C) (ct:CT) (v:Value),xs[j]?=some c→cts[j]?=some ct→cs[j]?=some v→RelC T (fun k=>k<w.heap.size) w ct c v
 db:∀(j:Nat) (c:C) (ct:CT),xs[j]?=some c→cts[j]?=some ct→DB T ct c
theorem Rd.one {T:Tys} {w:World} {ct:CT} {c:C} {v:Value} (h:RelC T (fun k=>k<w.heap.size) w ct c v) (hd:DB T ct c):Rd T w [ct] [v] [c]:=
 ⟨rfl,rfl,fun j c' ct' v' h1 h2 h3=>by
  cases j with
  |zero=>
   simp only[List.getElem?_cons_zero,Option.some.injEq] at h1 h2 h3
   subst h1;subst h2;subst h3;exact h
  |succ j=>simp at h1,fun j c' ct' h1 h2=>by
  cases j with
  |zero=>
   simp only[List.getElem?_cons_zero,Option.some.injEq] at h1 h2
   subst h1;subst h2;exact hd
  |succ j=>simp at h1⟩
def okFs (f:TypeId→Bool) (T:Tys):List (Nat×TypeId)→Nat→Nat→Bool
 |[],o,m=>Nat.beq o m
 |(o',t)::r,o,m=>andS (Nat.beq o' o) (andS (f t) (match tget T t with|some d=>okFs f T r (o+d.cts.length) m|none=>false))
def okA:Nat→Tys→TypeId→Bool
 |0,_,_=>false
 |n+1,T,t=>match tget T t with
  |some d=>match d.dv with
   |.int _=>true|.bool=>true|.str=>true
   |.sl e=>okA n T e
   |.st fs=>okFs (okA n T) T fs 0 d.cts.length
   |_=>false
  |none=>false
theorem list_of {β:Type} {p:Nat→β→Prop}:∀(n:Nat),(∀i,i<n→∃y,p i y)→∃l:List β,l.length=n∧∀i y,l[i]?=some y→p i y
 |0,_=>⟨[],rfl,fun i y h=>by simp at h⟩
 |n+1,h=>by
  obtain ⟨l,h1,h2⟩:=list_of n fun i hi=>h i (by omega)
  obtain ⟨y,hy⟩:=h n (by omega)
  refine ⟨l++[y],by simp[h1],fun i z hz=>?_⟩
  by_cases hi:i<n
  ·rw[List.getElem?_append_left (by omega)] at hz;exact h2 i z hz
  ·have hlt:=(List.getElem?_eq_some_iff.1 hz).1
   simp[h1] at hlt
   have:i=n:=by omega
   subst this
   rw[List.getElem?_append_right (by omega),h1,Nat.sub_self] at hz
   simp at hz;subst hz;exact hy
section
variable {H:Type} {enc:TypeId×Value→H} {P:Program} {w:World} {base:Nat} {sp:Nat→Bool} {held:Bool} {T:Tys}
theorem cellsOf_eq (hT:TOk P T) {t:TypeId} {d:TD} (h:tget T t=some d):P.cellsOf t=d.cts.length:=by
 obtain ⟨i,z,hi,hz,hs,hb,hzc⟩:=(hT t d h).facts
 simp[Program.cellsOf,hi,hs]
theorem rd (hT:TOk P T):∀(n:Nat) (t:TypeId) (d:TD) (fuel:Nat) (cs:List Value) (x:DataW H×List MemPlace),okA n T t=true→tget T t=some d→
  DataW.trod enc P w base sp held fuel t cs=some x→∃xs,Rd T w d.cts cs xs
 |0,t,d,fuel,cs,x,h,_,_=>by simp[okA] at h
 |n+1,t,d,fuel,cs,x,h,hd,hx=>by
  have ht:=hT t d hd
  obtain ⟨u,hu,hv⟩:=ht.desc
  have hleaf:=ht.leaf
  simp only[okA,hd] at h
  cases u with
  |bool=>
   obtain ⟨b,rfl,_⟩:=DataW.trod_bool hu hx
   rw[←hv] at hleaf;simp only[viewDesc] at hleaf;rw[hleaf]
   exact ⟨_,.one (.bool b) (.b b)⟩
  |int k=>
   obtain ⟨b,rfl,_,hb⟩:=DataW.trod_int hu hx
   rw[←hv] at hleaf;simp only[viewDesc] at hleaf;rw[hleaf]
   exact ⟨_,.one (.int k b) (.i k b hb)⟩
  |string=>
   obtain ⟨b,rfl,_,hb⟩:=DataW.trod_string hu hx
   rw[←hv] at hleaf;simp only[viewDesc] at hleaf;rw[hleaf]
   exact ⟨_,.one (.str b) (.s b hb)⟩
  |slice e=>
   rw[←hv] at hleaf h;simp only[viewDesc] at hleaf h;rw[hleaf]
   rcases DataW.trod_slice hu hx with ⟨rfl,_⟩|⟨a,len,cap,elems,rest,m,_,rfl,_,hb,hl,hm,hlen,hel,_,_⟩
   ·exact ⟨[.l []],.one (.sl0 e none 0) (.l e [] (by simp) (fun r d hr=>by simp at hr) fun r d j c ct hr=>by simp at hr)⟩
   ·obtain ⟨de,hde⟩:∃de,tget T e=some de:=by
     cases n with
     |zero=>simp[okA] at h
     |succ n=>
      simp only[okA] at h
      cases hq:tget T e with
      |none=>simp[hq] at h
      |some de=>exact ⟨de,rfl⟩
    have hpos:=(hT e de hde).pos
    have hc:=cellsOf_eq hT hde
    obtain ⟨es,h1,h2⟩:=list_of (p:=fun i ys=>∃cs',w.cells? base (a.add (i*P.cellsOf e)) (P.cellsOf e)=some cs'∧Rd T w de.cts cs' ys) len fun i hi=>by
     have:=hel i hi
     rw[List.getElem?_eq_getElem (by omega)] at this
     obtain ⟨cs',q1,q2⟩:=Option.bind_eq_some_iff.1 this
     obtain ⟨ys,q3⟩:=rd hT n e de m cs' _ h hde q2
     exact ⟨ys,cs',q1,q3⟩
    rw[hc] at h2
    have hdb:DB T (.sl e) (.l es):=.l e es (by omega) (fun r d hr hd=>by
     obtain ⟨i,hi⟩:=List.getElem?_of_mem hr
     obtain ⟨cs',_,q⟩:=h2 i r hi
     rw[hde] at hd;obtain rfl:=Option.some.inj hd
     exact q.n) fun r d j c ct hr hd hc hct=>by
     obtain ⟨i,hi⟩:=List.getElem?_of_mem hr
     obtain ⟨cs',_,q⟩:=h2 i r hi
     rw[hde] at hd;obtain rfl:=Option.some.inj hd
     exact q.db j c ct hc hct
    rcases Nat.eq_zero_or_pos len with h0|h0
    ·have:es=[]:=List.eq_nil_of_length_eq_zero (by omega)
     subst this
     subst h0
     exact ⟨[.l []],.one (.sl0 e (some a) cap) hdb⟩
    ·obtain ⟨cs0,q1,q2⟩:=h2 0 es[0] (List.getElem?_eq_getElem (by omega))
     obtain ⟨_,q3,q4⟩:=World.cells?_some q1
     have q5:=q4 0 hpos
     rw[List.getElem?_eq_getElem (by omega)] at q5
     have q6:=cell_some q5
     obtain ⟨g,o,spt⟩:=a
     have hspot:spt=none:=by
      by_cases he:spt=none
      ·exact he
      ·simp[Addr.add] at q6;exact q6.2
     subst hspot
     simp only[Addr.add_lit] at q6
     have hg:g<w.heap.size:=q6.1
     have key:=RelC.sl (T:=T) (F:=fun k=>k<w.heap.size) (w:=w) e de es g o cap (fun i j=>(w.cell? ⟨g,o+(i*de.cts.length+j),none⟩).getD undef) hde hg (by omega)
      (fun i ys hi=>by
       obtain ⟨cs',_,q⟩:=h2 i ys hi
       exact q.n)
      (fun i ys j c hi hj=>by
       obtain ⟨cs',p1,q⟩:=h2 i ys hi
       obtain ⟨_,p2,p3⟩:=World.cells?_some p1
       have hjl:j<de.cts.length:=by rw[←q.n];exact (List.getElem?_eq_some_iff.1 hj).1
       have p4:=p3 j hjl
       rw[List.getElem?_eq_getElem (by omega)] at p4
       simp only[Addr.add_lit] at p4
       rw[←Nat.add_assoc,p4];rfl)
      (fun i ys j c ct hi hj hct=>by
       obtain ⟨cs',p1,q⟩:=h2 i ys hi
       obtain ⟨_,p2,p3⟩:=World.cells?_some p1
       have hjl:j<de.cts.length:=by rw[←q.n];exact (List.getElem?_eq_some_iff.1 hj).1
       have p4:=p3 j hjl
       rw[List.getElem?_eq_getElem (by omega)] at p4
       simp only[Addr.add_lit] at p4
       rw[←Nat.add_assoc,p4]
       exact q.rel j c ct _ hj hct (List.getElem?_eq_getElem (by omega)))
     rw[h1] at key
     exact ⟨[.l es],.one key hdb⟩
  |struct fs=>
   obtain ⟨zs,m,_,_,hl,hz,hf⟩:=DataW.trod_struct hu hx
   rw[←hv] at hleaf h;simp only[viewDesc] at hleaf h
   rw[cellsOf_eq hT hd] at hl
   have key:∀(l:List Field) (o:Nat),okFs (okA n T) T (viewFields l) o d.cts.length=true→(∀q,q∈viewFields l→q∈viewFields fs.toList)→(∀f,f∈l→∃z,DataW.trod enc P w base sp held m f.type ((cs.drop f.offset).take (P.cellsOf f.type))=some z)→
     ∃xs:List C,xs.length+o=d.cts.length∧(∀(j:Nat) (c:C) (ct:CT) (v:Value),xs[j]?=some c→d.cts[o+j]?=some ct→cs[o+j]?=some v→RelC T (fun k=>k<w.heap.size) w ct c v)∧∀(j:Nat) (c:C) (ct:CT),xs[j]?=some c→d.cts[o+j]?=some ct→DB T ct c:=by
    intro l
    induction l with
    |nil=>
     intro o h _ _
     simp only[viewFields,List.map_nil,okFs] at h
     exact ⟨[],by simpa using Nat.eq_of_beq_eq_true h,fun j c ct v h=>by simp at h,fun j c ct h=>by simp at h⟩
    |cons f l ih=>
     intro o h hin hall
     simp only[viewFields,List.map_cons,okFs,andS_eq,Bool.and_eq_true] at h
     obtain ⟨ho,hok,h⟩:=h
     have ho:=Nat.eq_of_beq_eq_true ho
     cases hdf:tget T f.type with
     |none=>simp[hdf] at h
     |some df=>
      simp only[hdf] at h
      obtain ⟨z,hz⟩:=hall f (by simp)
      obtain ⟨ys,hys⟩:=rd hT n f.type df m _ z hok hdf hz
      obtain ⟨xs,h1,h2,h3⟩:=ih (o+df.cts.length) h (fun q hq=>hin q (by simp only[viewFields,List.map_cons,List.mem_cons];exact .inr hq)) (fun f' hf'=>hall f' (by simp[hf']))
      have hsub:=hleaf f.offset f.type (hin _ (by simp[viewFields])) df hdf
      rw[cellsOf_eq hT hdf] at hys
      rw[ho] at hsub hys
      refine ⟨ys++xs,by rw[List.length_append,hys.n];omega,fun j c ct v a1 a2 a3=>?_,fun j c ct a1 a2=>?_⟩
      ·by_cases hj:j<ys.length
       ·rw[List.getElem?_append_left hj] at a1
        have hjl:j<df.cts.length:=by rw[←hys.n];exact hj
        refine hys.rel j c ct v a1 ?_ ?_
        ·rw[←hsub,List.getElem?_take_of_lt hjl,List.getElem?_drop];exact a2
        ·rw[List.getElem?_take_of_lt hjl,List.getElem?_drop];exact a3
       ·rw[List.getElem?_append_right (by omega)] at a1
        have e:o+df.cts.length+(j-ys.length)=o+j:=by rw[hys.n] at hj⊢;omega
        exact h2 (j-ys.length) c ct v a1 (by rw[e];exact a2) (by rw[e];exact a3)
      ·by_cases hj:j<ys.length
       ·rw[List.getElem?_append_left hj] at a1
        have hjl:j<df.cts.length:=by rw[←hys.n];exact hj
        refine hys.db j c ct a1 ?_
        rw[←hsub,List.getElem?_take_of_lt hjl,List.getElem?_drop];exact a2
       ·rw[List.getElem?_append_right (by omega)] at a1
        have e:o+df.cts.length+(j-ys.length)=o+j:=by rw[hys.n] at hj⊢;omega
        exact h3 (j-ys.length) c ct a1 (by rw[e];exact a2)
   obtain ⟨xs,h1,h2,h3⟩:=key fs.toList 0 h (fun _ h=>h) (fun f hf'=>by
    obtain ⟨i,hi⟩:=List.getElem?_of_mem hf'
    have hi':fs[i]?=some f:=by simpa using hi
    have:=hf i f hi'
    have hil:i<zs.length:=by rw[hz];exact (Array.getElem?_eq_some_iff.1 hi').1
    rw[List.getElem?_eq_getElem hil] at this
    exact ⟨_,this⟩)
   exact ⟨xs,by simpa using h1,hl,fun j c ct v a1 a2 a3=>h2 j c ct v a1 (by simpa using a2) (by simpa using a3),fun j c ct a1 a2=>h3 j c ct a1 (by simpa using a2)⟩
  |_=>rw[←hv] at h;simp[viewDesc] at h
end
theorem ag_rel {T:Tys} {w:World} {bx:Bxs} {θ:Nat→Value} {cts:List CT} {vs:List Value} {xs:List C} (h:Rd T w cts vs xs):RelV T (fun k=>k<w.heap.size) w bx θ (.ag (List.zipWith V.c cts xs) none) (.agg vs.toArray):=by
 refine .ag _ _ vs (by simp[h.n,h.m]) noOrg fun i x v h1 h2=>?_
 rw[List.getElem?_zipWith] at h1
 split at h1
 ·rename_i ct c e1 e2
  simp only[Option.some.injEq] at h1
  subst h1
  exact .c _ _ _ (h.rel i c ct v e2 e1 h2)
 ·simp at h1
theorem lawN {P:Program} {T:Tys} {f n:Nat} {sl:List (Nat×Sk)} {Fn:List C→Option (List C)} (hf:FSOk P T f ⟨n,⟨sl,[]⟩,⟨[(0,.d .bool)],[]⟩,[],Fn⟩)
  (xs:List C) (args:Array Value) (W:World) (hs:args.size=n) (ha:∀k,k<n→RelV T (fun k=>k<W.heap.size) W (fun _=>none) (fun _=>.bool false) (((⟨sl,[]⟩:Tm).inj xs).sl k) (args.getD k undef)) (hF:Fn xs=some [.b true]):
  Calls P f args W fun e W'=>e=.returned (.bool true)∧Below W.heap.size W W':=by
 refine (hf.calls W (fun _=>False) (fun _=>False) (fun k=>k<W.heap.size) (fun _=>.bool false) xs [.b true] args ?_ hs ha hF).mono ?_
 ·exact ⟨fun b x h=>(by cases h),fun b b' x x' g h=>(by cases h),fun b x g h=>(by cases h),fun k h=>h,⟨rfl,rfl,⟨rfl,Nat.le_refl _⟩,Nat.le_refl _,fun _ _ _=>rfl⟩,fun k h=>h,fun k h=>.inl h,fun n hn=>(by cases hn),fun b x h=>(by cases h),fun b x k h=>(by cases h),fun b b' x x' k h=>(by cases h),fun k h=>h.elim⟩
 ·rintro e W' ⟨v,F1,θ1,rfl,hw,hv,_⟩
  have hv':RelV T F1 W' _ θ1 (.c .bool (.b true)) v:=hv
  cases hv' with
  |c _ _ _ h=>
   cases h
   exact ⟨rfl,⟨hw.keep.os,hw.keep.tape,hw.keep.output.1,hw.keep.size,fun k hk=>hw.keep.old k hk (fun h=>h)⟩⟩
end Go.Ev
set_option maxRecDepth 100000
namespace Go.Ev
open Go.Proofs
def zi:Sk:=.d (.int .i64)
def zt:Sk:=.d .str
def zo:Sk:=.d .bool
def zl (n:Nat):Sk:=.d (.sl n)
def z0:BSk:=.var 27 [zo,(zl 37),(zl 60),(zl 45)]
def z1:BSk:=.var 45 [zt,zt,zi,zi,zi,zi,zt,(zl 109),zi,zt,zt,zt]
def z2:Sk:=(.ag [zo,(zl 37),(zl 60),(zl 45)])
def z3:BSk:=.var 117 [(zl 5),zi]
def z4:BSk:=.var 81 [zi,zt,zt,(zl 9),zi,zi,zo,zt,zt,zi,zi,zi,zi,zt,(zl 109),zi,zt,zt,zt,zt,zt]
def z5:BSk:=.var 37 [zt,zt,(zl 9),zi,zi,zo]
def z6:Sk:=(.ag [zt,zt,zi,zi,zi,zi,zt,(zl 109),zi,zt,zt,zt])
def z7:BSk:=.var 27 [zo,(.ow 1022200),(.ow 1022201),(.ow 1022202)]
def z8:Sk:=(.ag [zt,zt,(zl 9),zi,zi,zo])
def z9:BSk:=.var 27 [zo,(.ow 1014600),(.ow 1014601),(.ow 1014602)]
def z10:BSk:=.var 27 [zo,(.ow 1149600),(.ow 1149601),(.ow 1149602)]
def z11:BSk:=.var 27 [zo,(.ow 1022203),(.ow 1022204),(.ow 1022205)]
def T0:Tys:=[(1,⟨.fn,[.fn],8⟩),
 (2,⟨(.int .i64),[(.int .i64)],8⟩),
 (3,⟨(.int .i64),[(.int .i64)],8⟩),
 (4,⟨.bool,[.bool],1⟩),
 (5,⟨(.int .u8),[(.int .u8)],1⟩),
 (6,⟨(.int .u8),[(.int .u8)],1⟩),
 (7,⟨(.st [(0,2),(1,3),(2,4),(3,6)]),[(.int .i64),(.int .i64),.bool,(.int .u8)],24⟩),
 (8,⟨(.st [(0,2),(1,3),(2,4),(3,6)]),[(.int .i64),(.int .i64),.bool,(.int .u8)],24⟩),
 (9,⟨.str,[.str],16⟩),
 (10,⟨.str,[.str],16⟩),
 (11,⟨.str,[.str],16⟩),
 (12,⟨(.int .u64),[(.int .u64)],8⟩),
 (13,⟨(.st [(0,9),(1,12)]),[.str,(.int .u64)],24⟩),
 (14,⟨(.st [(0,9),(1,12)]),[.str,(.int .u64)],24⟩),
 (15,⟨(.pt 239),[(.pt 239)],8⟩),
 (16,⟨(.pt 242),[(.pt 242)],8⟩),
 (17,⟨(.pt 250),[(.pt 250)],8⟩),
 (18,⟨(.st [(0,17)]),[(.pt 250)],8⟩),
 (19,⟨(.st [(0,17)]),[(.pt 250)],8⟩),
 (21,⟨(.int .i32),[(.int .i32)],4⟩),
 (22,⟨(.sl 5),[(.sl 5)],24⟩),
 (23,⟨(.sl 37),[(.sl 37)],24⟩),
 (24,⟨(.sl 60),[(.sl 60)],24⟩),
 (25,⟨(.sl 45),[(.sl 45)],24⟩),
 (26,⟨(.st [(0,4),(1,23),(2,24),(3,25)]),[.bool,(.sl 37),(.sl 60),(.sl 45)],80⟩),
 (27,⟨(.st [(0,4),(1,23),(2,24),(3,25)]),[.bool,(.sl 37),(.sl 60),(.sl 45)],80⟩),
 (29,⟨.fn,[.fn],8⟩),
 (30,⟨.fn,[.fn],8⟩),
 (31,⟨(.sl 9),[(.sl 9)],24⟩),
 (32,⟨.fn,[.fn],8⟩),
 (33,⟨.fn,[.fn],8⟩),
 (34,⟨.fn,[.fn],8⟩),
 (35,⟨.fn,[.fn],8⟩),
 (36,⟨(.st [(0,9),(1,9),(2,31),(3,3),(4,3),(5,4)]),[.str,.str,(.sl 9),(.int .i64),(.int .i64),.bool],80⟩),
 (37,⟨(.st [(0,9),(1,9),(2,31),(3,3),(4,3),(5,4)]),[.str,.str,(.sl 9),(.int .i64),(.int .i64),.bool],80⟩),
 (38,⟨.fn,[.fn],8⟩),
 (39,⟨.fn,[.fn],8⟩),
 (41,⟨.fn,[.fn],8⟩),
 (42,⟨.fn,[.fn],8⟩),
 (43,⟨(.sl 109),[(.sl 109)],24⟩),
 (44,⟨(.st [(0,9),(1,9),(2,3),(3,3),(4,3),(5,3),(6,9),(7,43),(8,3),(9,9),(10,9),(11,9)]),[.str,.str,(.int .i64),(.int .i64),(.int .i64),(.int .i64),.str,(.sl 109),(.int .i64),.str,.str,.str],160⟩),
 (45,⟨(.st [(0,9),(1,9),(2,3),(3,3),(4,3),(5,3),(6,9),(7,43),(8,3),(9,9),(10,9),(11,9)]),[.str,.str,(.int .i64),(.int .i64),(.int .i64),(.int .i64),.str,(.sl 109),(.int .i64),.str,.str,.str],160⟩),
 (47,⟨.fn,[.fn],8⟩),
 (48,⟨(.st [(0,3),(1,3),(2,3),(3,3)]),[(.int .i64),(.int .i64),(.int .i64),(.int .i64)],32⟩),
 (49,⟨(.st [(0,3),(1,3),(2,3),(3,3)]),[(.int .i64),(.int .i64),(.int .i64),(.int .i64)],32⟩),
 (50,⟨.fn,[.fn],8⟩),
 (51,⟨.fn,[.fn],8⟩),
 (52,⟨(.st [(0,9),(1,9),(2,31)]),[.str,.str,(.sl 9)],56⟩),
 (53,⟨(.st [(0,9),(1,9),(2,31)]),[.str,.str,(.sl 9)],56⟩),
 (55,⟨.fn,[.fn],8⟩),
 (57,⟨.fn,[.fn],8⟩),
 (58,⟨.fn,[.fn],8⟩),
 (59,⟨(.st [(0,9),(1,3)]),[.str,(.int .i64)],24⟩),
 (60,⟨(.st [(0,9),(1,3)]),[.str,(.int .i64)],24⟩),
 (61,⟨.fn,[.fn],8⟩),
 (62,⟨(.sl 53),[(.sl 53)],24⟩),
 (64,⟨.fn,[.fn],8⟩),
 (65,⟨.fn,[.fn],8⟩),
 (66,⟨.fn,[.fn],8⟩),
 (68,⟨.fn,[.fn],8⟩),
 (69,⟨.fn,[.fn],8⟩),
 (71,⟨.fn,[.fn],8⟩),
 (72,⟨.fn,[.fn],8⟩),
 (73,⟨(.sl 3),[(.sl 3)],24⟩),
 (74,⟨.fn,[.fn],8⟩),
 (76,⟨.fn,[.fn],8⟩),
 (77,⟨.fn,[.fn],8⟩),
 (79,⟨.fn,[.fn],8⟩),
 (80,⟨(.st [(0,3),(1,37),(7,45),(19,9),(20,9)]),[(.int .i64),.str,.str,(.sl 9),(.int .i64),(.int .i64),.bool,.str,.str,(.int .i64),(.int .i64),(.int .i64),(.int .i64),.str,(.sl 109),(.int .i64),.str,.str,.str,.str,.str],280⟩),
 (81,⟨(.st [(0,3),(1,37),(7,45),(19,9),(20,9)]),[(.int .i64),.str,.str,(.sl 9),(.int .i64),(.int .i64),.bool,.str,.str,(.int .i64),(.int .i64),(.int .i64),(.int .i64),.str,(.sl 109),(.int .i64),.str,.str,.str,.str,.str],280⟩),
 (82,⟨(.pt 117),[(.pt 117)],8⟩),
 (83,⟨.fn,[.fn],8⟩),
 (84,⟨.fn,[.fn],8⟩),
 (85,⟨.fn,[.fn],8⟩),
 (86,⟨.fn,[.fn],8⟩),
 (87,⟨.fn,[.fn],8⟩),
 (88,⟨.fn,[.fn],8⟩),
 (89,⟨.fn,[.fn],8⟩),
 (90,⟨.fn,[.fn],8⟩),
 (92,⟨.fn,[.fn],8⟩),
 (93,⟨.fn,[.fn],8⟩),
 (96,⟨.fn,[.fn],8⟩),
 (97,⟨.fn,[.fn],8⟩),
 (99,⟨.fn,[.fn],8⟩),
 (100,⟨.fn,[.fn],8⟩),
 (101,⟨.fn,[.fn],8⟩),
 (102,⟨.fn,[.fn],8⟩),
 (103,⟨.fn,[.fn],8⟩),
 (104,⟨.fn,[.fn],8⟩),
 (105,⟨.fn,[.fn],8⟩),
 (106,⟨(.pt 27),[(.pt 27)],8⟩),
 (107,⟨.fn,[.fn],8⟩),
 (108,⟨(.st [(0,9),(1,3)]),[.str,(.int .i64)],24⟩),
 (109,⟨(.st [(0,9),(1,3)]),[.str,(.int .i64)],24⟩),
 (111,⟨.fn,[.fn],8⟩),
 (112,⟨.fn,[.fn],8⟩),
 (113,⟨.fn,[.fn],8⟩),
 (114,⟨.fn,[.fn],8⟩),
 (115,⟨.fn,[.fn],8⟩),
 (116,⟨(.st [(0,22),(1,3)]),[(.sl 5),(.int .i64)],32⟩),
 (117,⟨(.st [(0,22),(1,3)]),[(.sl 5),(.int .i64)],32⟩),
 (118,⟨.fn,[.fn],8⟩),
 (119,⟨.fn,[.fn],8⟩),
 (120,⟨.fn,[.fn],8⟩),
 (121,⟨.fn,[.fn],8⟩),
 (122,⟨.fn,[.fn],8⟩),
 (123,⟨.fn,[.fn],8⟩),
 (124,⟨.fn,[.fn],8⟩),
 (126,⟨.fn,[.fn],8⟩),
 (127,⟨(.pt 155),[(.pt 155)],8⟩),
 (129,⟨.fn,[.fn],8⟩),
 (130,⟨.fn,[.fn],8⟩),
 (131,⟨.fn,[.fn],8⟩),
 (132,⟨.fn,[.fn],8⟩),
 (133,⟨.fn,[.fn],8⟩),
 (134,⟨.fn,[.fn],8⟩),
 (135,⟨.fn,[.fn],8⟩),
 (136,⟨.fn,[.fn],8⟩),
 (137,⟨.fn,[.fn],8⟩),
 (138,⟨(.int .u64),[(.int .u64)],8⟩),
 (139,⟨.fn,[.fn],8⟩),
 (140,⟨.fn,[.fn],8⟩),
 (141,⟨.fn,[.fn],8⟩),
 (142,⟨.fn,[.fn],8⟩),
 (143,⟨(.sl 31),[(.sl 31)],24⟩),
 (144,⟨(.sl 184),[(.sl 184)],24⟩),
 (145,⟨(.st [(0,144)]),[(.sl 184)],24⟩),
 (146,⟨(.st [(0,144)]),[(.sl 184)],24⟩),
 (148,⟨.fn,[.fn],8⟩),
 (149,⟨.fn,[.fn],8⟩),
 (150,⟨.fn,[.fn],8⟩),
 (151,⟨.fn,[.fn],8⟩),
 (152,⟨.fn,[.fn],8⟩),
 (153,⟨(.sl 127),[(.sl 127)],24⟩),
 (154,⟨(.st [(0,3),(1,9),(2,9),(3,153)]),[(.int .i64),.str,.str,(.sl 127)],64⟩),
 (155,⟨(.st [(0,3),(1,9),(2,9),(3,153)]),[(.int .i64),.str,.str,(.sl 127)],64⟩),
 (156,⟨(.pt 158),[(.pt 158)],8⟩),
 (157,⟨(.st [(0,9),(1,3),(2,4)]),[.str,(.int .i64),.bool],32⟩),
 (158,⟨(.st [(0,9),(1,3),(2,4)]),[.str,(.int .i64),.bool],32⟩),
 (159,⟨.fn,[.fn],8⟩),
 (160,⟨.fn,[.fn],8⟩),
 (161,⟨.fn,[.fn],8⟩),
 (162,⟨.fn,[.fn],8⟩),
 (163,⟨.fn,[.fn],8⟩),
 (164,⟨.fn,[.fn],8⟩),
 (165,⟨.fn,[.fn],8⟩),
 (166,⟨.fn,[.fn],8⟩),
 (167,⟨.fn,[.fn],8⟩),
 (168,⟨(.int .i64),[(.int .i64)],8⟩),
 (170,⟨.fn,[.fn],8⟩),
 (171,⟨.fn,[.fn],8⟩),
 (172,⟨.fn,[.fn],8⟩),
 (173,⟨.fn,[.fn],8⟩),
 (175,⟨.fn,[.fn],8⟩),
 (176,⟨.fn,[.fn],8⟩),
 (177,⟨(.int .u32),[(.int .u32)],4⟩),
 (178,⟨.fn,[.fn],8⟩),
 (179,⟨(.int .u64),[(.int .u64)],8⟩),
 (180,⟨.fn,[.fn],8⟩),
 (181,⟨.fn,[.fn],8⟩),
 (182,⟨.fn,[.fn],8⟩),
 (183,⟨(.st [(0,3),(1,9),(2,9),(3,3)]),[(.int .i64),.str,.str,(.int .i64)],48⟩),
 (184,⟨(.st [(0,3),(1,9),(2,9),(3,3)]),[(.int .i64),.str,.str,(.int .i64)],48⟩),
 (185,⟨(.pt 187),[(.pt 187)],8⟩),
 (186,⟨(.st [(0,31),(1,3),(2,4)]),[(.sl 9),(.int .i64),.bool],40⟩),
 (187,⟨(.st [(0,31),(1,3),(2,4)]),[(.sl 9),(.int .i64),.bool],40⟩),
 (188,⟨.fn,[.fn],8⟩),
 (189,⟨.fn,[.fn],8⟩),
 (190,⟨(.sl 73),[(.sl 73)],24⟩),
 (192,⟨.fn,[.fn],8⟩),
 (193,⟨.fn,[.fn],8⟩),
 (194,⟨.fn,[.fn],8⟩),
 (198,⟨.fn,[.fn],8⟩),
 (199,⟨.fn,[.fn],8⟩),
 (200,⟨(.pt 196),[(.pt 196)],8⟩),
 (201,⟨.fn,[.fn],8⟩),
 (202,⟨(.int .u64),[(.int .u64)],8⟩),
 (203,⟨.fn,[.fn],8⟩),
 (204,⟨.fn,[.fn],8⟩),
 (205,⟨.fn,[.fn],8⟩),
 (206,⟨(.pt 3),[(.pt 3)],8⟩),
 (207,⟨.fn,[.fn],8⟩),
 (208,⟨.fn,[.fn],8⟩),
 (209,⟨.fn,[.fn],8⟩),
 (210,⟨.fn,[.fn],8⟩),
 (211,⟨.fn,[.fn],8⟩),
 (213,⟨.fn,[.fn],8⟩),
 (214,⟨.fn,[.fn],8⟩),
 (215,⟨.fn,[.fn],8⟩),
 (216,⟨.fn,[.fn],8⟩),
 (217,⟨.fn,[.fn],8⟩),
 (218,⟨.fn,[.fn],8⟩),
 (219,⟨.fn,[.fn],8⟩),
 (220,⟨(.pt 202),[(.pt 202)],8⟩),
 (221,⟨.fn,[.fn],8⟩),
 (222,⟨.fn,[.fn],8⟩),
 (223,⟨.fn,[.fn],8⟩),
 (224,⟨(.sl 144),[(.sl 144)],24⟩),
 (225,⟨.fn,[.fn],8⟩),
 (226,⟨.fn,[.fn],8⟩),
 (227,⟨.fn,[.fn],8⟩),
 (228,⟨.fn,[.fn],8⟩),
 (229,⟨.fn,[.fn],8⟩),
 (231,⟨.fn,[.fn],8⟩),
 (233,⟨(.st [(0,5),(1,5)]),[(.int .u8),(.int .u8)],2⟩),
 (234,⟨(.st [(0,5),(1,5)]),[(.int .u8),(.int .u8)],2⟩),
 (236,⟨.fn,[.fn],8⟩),
 (237,⟨.fn,[.fn],8⟩),
 (238,⟨(.st [(0,17),(1,17),(2,17),(3,9)]),[(.pt 250),(.pt 250),(.pt 250),.str],40⟩),
 (239,⟨(.st [(0,17),(1,17),(2,17),(3,9)]),[(.pt 250),(.pt 250),(.pt 250),.str],40⟩),
 (243,⟨(.int .u8),[(.int .u8)],1⟩),
 (244,⟨(.int .u8),[(.int .u8)],1⟩),
 (245,⟨.fn,[.fn],8⟩),
 (246,⟨(.pt 5),[(.pt 5)],8⟩),
 (247,⟨(.int .i32),[(.int .i32)],4⟩),
 (248,⟨(.int .i32),[(.int .i32)],4⟩),
 (249,⟨(.st [(0,12),(1,12),(2,177),(3,243),(4,5),(5,5),(6,244),(7,245),(8,246),(9,247),(10,248)]),[(.int .u64),(.int .u64),(.int .u32),(.int .u8),(.int .u8),(.int .u8),(.int .u8),.fn,(.pt 5),(.int .i32),(.int .i32)],48⟩),
 (250,⟨(.st [(0,12),(1,12),(2,177),(3,243),(4,5),(5,5),(6,244),(7,245),(8,246),(9,247),(10,248)]),[(.int .u64),(.int .u64),(.int .u32),(.int .u8),(.int .u8),(.int .u8),(.int .u8),.fn,(.pt 5),(.int .i32),(.int .i32)],48⟩)]
def eqT0:List Nat:=[]
def mpT0:List (Nat×Nat):=[(94,4),(95,3)]
theorem base0:Base Tryz.checked.prog T0 eqT0 mpT0:=Base.of (by kernel_rfl) (by kernel_rfl) (by kernel_rfl) (by kernel_rfl)
end Go.Ev
namespace Go.Proofs
set_option maxHeartbeats 1000000 in
set_option maxRecDepth 100000 in
theorem stringslite_IndexByte (s:ByteArray) (c:Int) (w:World):
  Calls Tryz.prog 215 #[.string s,.int .u8 c] w fun e w'=>e=.returned (.int .i64 (Lib.indexByte s.data.toList c.toNat.toUInt8))∧w'=w:=by
 go_enter Tryz.func215,Tryz.ntmps215
 go_wp2
 rw[run_callFunc_extern Tryz.func229 (by kernel_rfl) (by kernel_rfl) (by kernel_rfl) (e:=Extern.BytealgIndexByte.indexByte) (by kernel_rfl),Lib.run_indexByteString]
 simp only[Result.andThen]
 rw[Oper.upon_value]
 go_wp2
 go_ret
 exact ⟨rfl,rfl⟩
end Go.Proofs
namespace Go.Ev
open Go.Proofs
def ibF:List C→Option (List C):=fun xs=>some [.i (Lib.indexByte (xs.getD 0 .nil).S.data.toList (xs.getD 1 .nil).I.toNat.toUInt8)]
theorem ib_ok:FSOk Tryz.checked.prog T0 215 ⟨2,⟨[(0,.d .str),(1,.d (.int .u8))],[]⟩,⟨[(0,.d (.int .i64))],[]⟩,[],ibF⟩:=by
 refine ⟨⟨Tryz.f215,_,Tryz.func215,rfl,by kernel_rfl⟩,?_⟩
 intro W wr nl F0 θ xs ys args hW hsz hargs hF
 obtain ⟨a0,a1,rfl⟩:∃a0 a1,args= #[a0,a1]:=by
  obtain ⟨l⟩:=args
  simp only[List.size_toArray] at hsz
  match l,hsz with
  |[a,b],_=>exact ⟨a,b,rfl⟩
 have r0:RelV T0 F0 W (fun _=>none) θ (.c .str (xs.getD 0 .nil)) a0:=hargs 0 (by decide)
 have r1:RelV T0 F0 W (fun _=>none) θ (.c (.int .u8) (xs.getD 1 .nil)) a1:=hargs 1 (by decide)
 simp only[ibF,Option.some.injEq] at hF
 subst hF
 generalize hx0:xs.getD 0 .nil=x0 at*
 generalize hx1:xs.getD 1 .nil=x1 at*
 cases r0 with
 |c _ _ _ hc=>
 cases hc with
 |str s=>
 cases r1 with
 |c _ _ _ hc=>
 cases hc with
 |int _ m=>
 refine (stringslite_IndexByte s m W).mono ?_
 rintro e w' ⟨rfl,rfl⟩
 exact ⟨_,F0,θ,rfl,hW,.c _ _ _ (.int _ _),fun n _ hn=>by simp at hn⟩
end Go.Ev
namespace Go.Ev
open Go.Proofs
noncomputable section
def s_l1Open.d1 (a:C):R:=(bif (decide ((a.L.length:Int)>2000)) then (bif (decide (2000≤(a.L.length:Int))) then (some (.ret [.l ((a.L.take 2000).drop 0),.i 0])) else none) else (some (.ret [a,.i 0])))
def s_l1Open:List C→Option (List C):=fun xs=>finR (ap1 s_l1Open.d1 xs)
def s_l1Open_fs:FS:=⟨1,⟨[(0,(zl 5))],[]⟩,⟨[(0,(.pt 3000 0))],[(3000,z3)]⟩,[],s_l1Open⟩
theorem s_l1Open_ok:FSOk Tryz.checked.prog T0 48 s_l1Open_fs:=okOf base0 (fn:=Tryz.f48) (c:=Tryz.f48.body.getD .skip) s_l1Open_fs .leaf [] .nil (by kernel_rfl) (by kernel_rfl) (by kernel_rfl) (fun xs=>by kernel_rfl)
def s_l1Rd_pick.d1 (a b c:C):R:=(bif (!(decide (a.I<1))) then (bif ((b.L.length:Int)==0) then (some (.ret [.i 0,b,.i (w64 (c.I+1))])) else (bif (decide ((w64 ((w64 (c.I+1))-1))<(b.L.length:Int))) then (bif (decide (0≤(w64 ((w64 (c.I+1))-1)))) then (bif (decide ((w64 ((w64 (c.I+1))-1))<(b.L.length:Int))) then (bif (a.I !=0) then (some (.ret [.i ((w64 (((b.L.getD (w64 ((w64 (c.I+1))-1)).toNat []).getD 0 .nil).I)).tmod a.I),b,.i (w64 (c.I+1))])) else none) else none) else none) else (bif ((b.L.length:Int) !=0) then (bif (decide (0≤((w64 ((w64 (c.I+1))-1)).tmod (b.L.length:Int)))) then (bif (decide (((w64 ((w64 (c.I+1))-1)).tmod (b.L.length:Int))<(b.L.length:Int))) then (bif ((b.L.length:Int) !=0) then (bif (decide (0≤((w64 ((w64 ((w64 ((w64 (c.I+1))-1))*7))+3)).tmod (b.L.length:Int)))) then (bif (decide (((w64 ((w64 ((w64 ((w64 (c.I+1))-1))*7))+3)).tmod (b.L.length:Int))<(b.L.length:Int))) then (bif ((b.L.length:Int) !=0) then (bif (a.I !=0) then (some (.ret [.i ((w64 ((BitVec.ofInt (IntKind.bits .i64) (w64 ((w64 ((w64 ((w64 ((w64 (((b.L.getD ((w64 ((w64 (c.I+1))-1)).tmod (b.L.length:Int)).toNat []).getD 0 .nil).I))*131))+(w64 ((w64 (((b.L.getD ((w64 ((w64 ((w64 ((w64 (c.I+1))-1))*7))+3)).tmod (b.L.length:Int)).toNat []).getD 0 .nil).I))*1117))))+(w64 ((w64 ((w64 (c.I+1))-1))*29))))+(w64 ((w64 ((w64 ((w64 (c.I+1))-1)).tdiv (b.L.length:Int)))*53))))^^^BitVec.ofInt (IntKind.bits .i64) (w64 ((w64 ((w64 ((w64 ((w64 ((w64 (((b.L.getD ((w64 ((w64 (c.I+1))-1)).tmod (b.L.length:Int)).toNat []).getD 0 .nil).I))*131))+(w64 ((w64 (((b.L.getD ((w64 ((w64 ((w64 ((w64 (c.I+1))-1))*7))+3)).tmod (b.L.length:Int)).toNat []).getD 0 .nil).I))*1117))))+(w64 ((w64 ((w64 (c.I+1))-1))*29))))+(w64 ((w64 ((w64 ((w64 (c.I+1))-1)).tdiv (b.L.length:Int)))*53)))).tdiv 64))).toNat:Int)).tmod a.I),b,.i (w64 (c.I+1))])) else none) else none) else none) else none) else none) else none) else none) else none))) else (some (.ret [.i 0,b,.i (w64 (c.I+1))])))
def s_l1Rd_pick:List C→Option (List C):=fun xs=>finR (ap3 s_l1Rd_pick.d1 xs)
def s_l1Rd_pick_fs:FS:=⟨2,⟨[(0,(.pt 2000 0)),(1,zi)],[(2000,z3)]⟩,⟨[(0,zi)],[(2000,z3)]⟩,[2000],s_l1Rd_pick⟩
theorem s_l1Rd_pick_ok:FSOk Tryz.checked.prog T0 76 s_l1Rd_pick_fs:=okOf base0 (fn:=Tryz.f76) (c:=Tryz.f76.body.getD .skip) s_l1Rd_pick_fs .leaf [] .nil (by kernel_rfl) (by kernel_rfl) (by kernel_rfl) (fun xs=>by kernel_rfl)
def s_l9Dec.d1 (G0:List C→Option (List C)) (a:C):R:=(bif (decide (a.I<0)) then (call1 (G0 [.i (w64 (0-a.I))]) fun b=>(bif (decide ((bs #[45]).size+b.S.size≤4294967296)) then (some (.ret [.s ((bs #[45])++b.S)])) else none)) else (bif (decide (a.I<10)) then (some (.ret [.s (mkBy (rows [[.i (IntKind.wrap .u8 (w64 (48+a.I)))]]))])) else (call1 (G0 [.i (w64 (a.I.tdiv 10))]) fun c=>(bif (decide (c.S.size+(mkBy (rows [[.i (IntKind.wrap .u8 (w64 (48+(a.I.tmod 10))))]])).size≤4294967296)) then (some (.ret [.s (c.S++(mkBy (rows [[.i (IntKind.wrap .u8 (w64 (48+(a.I.tmod 10))))]])))])) else none))))
def s_l9Dec.step (G0:List C→Option (List C)):List C→Option (List C):=fun xs=>finR (ap1 (s_l9Dec.d1 G0) xs)
def s_l9Dec_fs (G:List C→Option (List C)):FS:=⟨1,⟨[(0,(.d (.int .i64)))],[]⟩,⟨[(0,(.d .str))],[]⟩,[],G⟩
theorem s_l9Dec_st {G0:List C→Option (List C)} (h0:FSOk Tryz.checked.prog T0 131 (s_l9Dec_fs G0)):FSOk Tryz.checked.prog T0 131 (s_l9Dec_fs (s_l9Dec.step G0)):=okOf base0 (fn:=Tryz.f131) (c:=Tryz.f131.body.getD .skip) (s_l9Dec_fs (s_l9Dec.step G0)) .leaf [(131,some 7,(s_l9Dec_fs G0)),(131,some 18,(s_l9Dec_fs G0))] (.cons h0 (.cons h0 .nil)) (by kernel_rfl) (by kernel_rfl) (by kernel_rfl) (fun xs=>by kernel_rfl)
def s_l9Dec.g:Nat→Nat→List C→Option (List C)
 |0,_=>fun _=>none
 |k+1,0=>s_l9Dec.step (s_l9Dec.g k 0)
 |_,_=>fun _=>none
theorem s_l9Dec_rec:∀k:Nat,FSOk Tryz.checked.prog T0 131 (s_l9Dec_fs (s_l9Dec.g k 0))
 |0=>noneOk (fn:=Tryz.f131) (c:=Tryz.f131.body.getD .skip) (1) (⟨[(0,(.d (.int .i64)))],[]⟩) (⟨[(0,(.d .str))],[]⟩) [] (by kernel_rfl) (by kernel_rfl) (by kernel_rfl)
 |k+1=>s_l9Dec_st (s_l9Dec_rec k)
def s_l9Dec:List C→Option (List C):=s_l9Dec.g FUEL 0
theorem s_l9Dec_ok:FSOk Tryz.checked.prog T0 131 (s_l9Dec_fs s_l9Dec):=s_l9Dec_rec FUEL
def s_l2Full.d1 (a b c d e f g h i j k:C):R:=(bif (decide (a.I<2)) then (call1 (s_l9Dec [a]) fun l=>(bif (decide ((bs #[98]).size+l.S.size≤4294967296)) then (bif (decide (i.L.length+(rows [[.s ((bs #[98])++l.S),.s (bs #[101,97,115,116]),.l nils,.i 30,.i 30,.b false]]).length≤4294967296)) then (some (.again [.i (w64 (a.I+1)),b,c,d,e,.l f.L,.l g.L,.l h.L,.l (i.L++(rows [[.s ((bs #[98])++l.S),.s (bs #[101,97,115,116]),.l nils,.i 30,.i 30,.b false]])),.l j.L,.l k.L])) else none) else none)) else (some (.brk 0 [b,c,d,e,.l f.L,.l g.L,.l h.L,.l i.L,.l j.L,.l k.L])))
def s_l2Full.d2 (a b c d e f g h i j k l:C):R:=(bif (decide (b.I<(w64 (a.I+2)))) then (bif (decide ((bs #[99]).size+(mkBy (rows [[.i (IntKind.wrap .u8 (w64 (97+b.I)))]])).size≤4294967296)) then (call3 (s_l1Rd_pick [.i 3,c,d]) fun m n o=>(call3 (s_l1Rd_pick [.i 2,n,o]) fun p q r=>(bif (decide (b.I<a.I)) then (bif (decide (l.L.length+(rows [[.s ((bs #[99])++(mkBy (rows [[.i (IntKind.wrap .u8 (w64 (97+b.I)))]]))),.s (bs #[119,101,98]),m,.i 0,.i 1,p,.s (bs #[]),.l nils,.i 0,.s (bs #[]),.s (bs #[]),.s (bs #[98,48])]]).length≤4294967296)) then (some (.again [a,.i (w64 (b.I+1)),q,r,e,f,.l g.L,.l h.L,.l i.L,.l j.L,.l k.L,.l (l.L++(rows [[.s ((bs #[99])++(mkBy (rows [[.i (IntKind.wrap .u8 (w64 (97+b.I)))]]))),.s (bs #[119,101,98]),m,.i 0,.i 1,p,.s (bs #[]),.l nils,.i 0,.s (bs #[]),.s (bs #[]),.s (bs #[98,48])]]))])) else none) else (call3 (s_l1Rd_pick [.i 3,q,r]) fun s t u=>(bif (decide (s.I>0)) then (call3 (s_l1Rd_pick [.i 4,t,u]) fun v w x=>(bif (decide (l.L.length+(rows [[.s ((bs #[99])++(mkBy (rows [[.i (IntKind.wrap .u8 (w64 (97+b.I)))]]))),.s (bs #[119,101,98]),.i (w64 (1+v.I)),.i 0,.i 1,p,.s (bs #[]),.l nils,.i 0,.s (bs #[]),.s (bs #[98,48]),.s (bs #[])]]).length≤4294967296)) then (some (.again [a,.i (w64 (b.I+1)),w,x,e,f,.l g.L,.l h.L,.l i.L,.l j.L,.l k.L,.l (l.L++(rows [[.s ((bs #[99])++(mkBy (rows [[.i (IntKind.wrap .u8 (w64 (97+b.I)))]]))),.s (bs #[119,101,98]),.i (w64 (1+v.I)),.i 0,.i 1,p,.s (bs #[]),.l nils,.i 0,.s (bs #[]),.s (bs #[98,48]),.s (bs #[])]]))])) else none)) else (bif (decide (l.L.length+(rows [[.s ((bs #[99])++(mkBy (rows [[.i (IntKind.wrap .u8 (w64 (97+b.I)))]]))),.s (bs #[119,101,98]),m,.i 0,.i 1,p,.s (bs #[]),.l nils,.i 0,.s (bs #[]),.s (bs #[]),.s (bs #[])]]).length≤4294967296)) then (some (.again [a,.i (w64 (b.I+1)),t,u,e,f,.l g.L,.l h.L,.l i.L,.l j.L,.l k.L,.l (l.L++(rows [[.s ((bs #[99])++(mkBy (rows [[.i (IntKind.wrap .u8 (w64 (97+b.I)))]]))),.s (bs #[119,101,98]),m,.i 0,.i 1,p,.s (bs #[]),.l nils,.i 0,.s (bs #[]),.s (bs #[]),.s (bs #[])]]))])) else none)))))) else none) else (some (.brk 2 [c,d,e,f,.l g.L,.l h.L,.l i.L,.l j.L,.l k.L,.l l.L])))
def s_l2Full.d3 (a b c d e f g h i j:C):R:=(some (.ret [d,a,b,.l h.L,.l i.L,.l j.L]))
def s_l2Full.d4 (a b c d e f g h i j:C):R:=(call3 (s_l1Rd_pick [.i 2,a,b]) fun k l m=>(bindBlk 2 (lim (ap12 s_l2Full.d2) [.i (w64 (10-k.I)),.i 0,l,m,c,d,.l e.L,.l f.L,.l g.L,.l h.L,.l i.L,.l j.L]) (ap10 s_l2Full.d3)))
def s_l2Full.d5 (a b:C):R:=(call3 (s_l1Rd_pick [.i 2,a,b]) fun c d e=>(call3 (s_l1Rd_pick [.i 9,d,e]) fun f g h=>(bindBlk 0 (lim (ap11 s_l2Full.d1) [.i 0,g,h,.b false,.b (c.I==0),.l nils,.l nils,.l nils,.l nils,.l (rows [[.s (bs #[119,101,98]),f]]),.l nils]) (ap10 s_l2Full.d4))))
def s_l2Full:List C→Option (List C):=fun xs=>finR (ap2 s_l2Full.d5 xs)
def s_l2Full_fs:FS:=⟨1,⟨[(0,(.pt 2000 0))],[(2000,z3)]⟩,⟨[(0,(.ag [zo,(.ow 3001),(.ow 3002),(.ow 3003)]))],[(2000,z3),(3001,.arr 37 1),(3002,.arr 60 1),(3003,.arr 45 1)]⟩,[2000],s_l2Full⟩
theorem s_l2Full_ok:FSOk Tryz.checked.prog T0 96 s_l2Full_fs:=okOfT base0 [26,64] false (fn:=Tryz.f96) (c:=Tryz.f96.body.getD .skip) s_l2Full_fs (.seq .leaf (.seq .leaf (.seq (.seq .leaf (.block ⟨[(0,(.pt 2000 0)),(2,(.pt 2 0)),(3,(.pt 3 0))],[(2000,z3),(2,z9),(3,.var 27 [zo,(.ow 1014603),(.ow 14),(.ow 1014604)]),(1014600,.arr 37 1),(1014601,.arr 60 1),(1014602,.arr 45 1),(1014603,.arr 37 1),(14,.arr 60 1),(1014604,.arr 45 1)]⟩ (.loop ⟨[(0,(.pt 2000 0)),(2,(.pt 2 0)),(3,(.pt 3 0)),(4,zi)],[(2000,z3),(2,z9),(3,.var 27 [zo,(.ow 1014603),(.ow 14),(.ow 1014604)]),(1014600,.arr 37 1),(1014601,.arr 60 1),(1014602,.arr 45 1),(1014603,.arr 37 1),(14,.arr 60 1),(1014604,.arr 45 1)]⟩ .leaf))) (.seq .leaf (.seq (.seq .leaf (.block ⟨[(2,(.pt 2 0)),(3,(.pt 3 0))],[(2000,z3),(2,z9),(3,.var 27 [zo,(.ow 1014603),(.ow 14),(.ow 1014604)]),(1014600,.arr 37 1),(1014601,.arr 60 1),(1014602,.arr 45 1),(1014603,.arr 37 1),(14,.arr 60 1),(1014604,.arr 45 1)]⟩ (.loop ⟨[(0,(.pt 2000 0)),(2,(.pt 2 0)),(3,(.pt 3 0)),(5,zi),(6,zi)],[(2000,z3),(2,z9),(3,.var 27 [zo,(.ow 1014603),(.ow 14),(.ow 1014604)]),(1014600,.arr 37 1),(1014601,.arr 60 1),(1014602,.arr 45 1),(1014603,.arr 37 1),(14,.arr 60 1),(1014604,.arr 45 1)]⟩ .leaf))) .leaf))))) [(76,some 9,s_l1Rd_pick_fs),(76,some 12,s_l1Rd_pick_fs),(76,some 30,s_l1Rd_pick_fs),(76,some 45,s_l1Rd_pick_fs),(76,some 47,s_l1Rd_pick_fs),(76,some 54,s_l1Rd_pick_fs),(76,some 58,s_l1Rd_pick_fs),(131,some 23,(s_l9Dec_fs s_l9Dec))] (.cons s_l1Rd_pick_ok (.cons s_l1Rd_pick_ok (.cons s_l1Rd_pick_ok (.cons s_l1Rd_pick_ok (.cons s_l1Rd_pick_ok (.cons s_l1Rd_pick_ok (.cons s_l1Rd_pick_ok (.cons s_l9Dec_ok .nil)))))))) (by kernel_rfl) (by kernel_rfl) (by kernel_rfl) (fun xs=>by kernel_rfl)
def s_l1Marks.d1 (a b c:C):R:=(call3 (s_l1Rd_pick [.i 2,a,b]) fun d e f=>(bif (d.I==0) then (call3 (s_l1Rd_pick [.i 2,e,f]) fun g h i=>(bif (decide (0≤g.I)) then (bif (decide (g.I<((rows [[.s (bs #[115,115,100])],[.s (bs #[115,115,100,61,97])]]).length:Int))) then (bif (decide (c.L.length+(rows [[(((rows [[.s (bs #[115,115,100])],[.s (bs #[115,115,100,61,97])]]).getD g.I.toNat []).getD 0 .nil)]]).length≤4294967296)) then (some (.ret [h,i,.l (c.L++(rows [[(((rows [[.s (bs #[115,115,100])],[.s (bs #[115,115,100,61,97])]]).getD g.I.toNat []).getD 0 .nil)]]))])) else none) else none) else none)) else (some (.ret [e,f,.l c.L]))))
def s_l1Marks.d2 (a b c:C):R:=(bindNrm (call3 (s_l1Rd_pick [.i 3,a,b]) fun d e f=>(bif (d.I==0) then (bif (decide (c.L.length+(rows [[.s (bs #[111,108,100])]]).length≤4294967296)) then (some (.nrm [e,f,.l (c.L++(rows [[.s (bs #[111,108,100])]]))])) else none) else (some (.nrm [e,f,.l c.L])))) (ap3 s_l1Marks.d1))
def s_l1Marks.d3 (a b c:C):R:=(bindNrm (call3 (s_l1Rd_pick [.i 3,a,b]) fun d e f=>(bif (d.I==0) then (bif (decide (c.L.length+(rows [[.s (bs #[103,112,117])]]).length≤4294967296)) then (some (.nrm [e,f,.l (c.L++(rows [[.s (bs #[103,112,117])]]))])) else none) else (some (.nrm [e,f,.l c.L])))) (ap3 s_l1Marks.d2))
def s_l1Marks.d4 (a b:C):R:=(bindNrm (call3 (s_l1Rd_pick [.i 2,a,b]) fun c d e=>(bif (c.I==0) then (call3 (s_l1Rd_pick [.i 2,d,e]) fun f g h=>(bif (decide (0≤f.I)) then (bif (decide (f.I<((rows [[.s (bs #[114,101,100])],[.s (bs #[97])]]).length:Int))) then (bif (decide ((bs #[99,111,108,111,114,61]).size+((((rows [[.s (bs #[114,101,100])],[.s (bs #[97])]]).getD f.I.toNat []).getD 0 .nil).S).size≤4294967296)) then (bif (decide (nils.length+(rows [[.s ((bs #[99,111,108,111,114,61])++(((rows [[.s (bs #[114,101,100])],[.s (bs #[97])]]).getD f.I.toNat []).getD 0 .nil).S)]]).length≤4294967296)) then (some (.nrm [g,h,.l (nils++(rows [[.s ((bs #[99,111,108,111,114,61])++(((rows [[.s (bs #[114,101,100])],[.s (bs #[97])]]).getD f.I.toNat []).getD 0 .nil).S)]]))])) else none) else none) else none) else none)) else (some (.nrm [d,e,.l nils])))) (ap3 s_l1Marks.d3))
def s_l1Marks:List C→Option (List C):=fun xs=>finR (ap2 s_l1Marks.d4 xs)
def s_l1Marks_fs:FS:=⟨1,⟨[(0,(.pt 2000 0))],[(2000,z3)]⟩,⟨[(0,(.ow 3001))],[(2000,z3),(3001,.arr 9 1)]⟩,[2000],s_l1Marks⟩
theorem s_l1Marks_ok:FSOk Tryz.checked.prog T0 163 s_l1Marks_fs:=okOf base0 (fn:=Tryz.f163) (c:=Tryz.f163.body.getD .skip) s_l1Marks_fs (.seq .leaf (.seq .leaf (.seq (.join ⟨[(0,(.pt 2000 0)),(3,(.ow 4))],[(2000,z3),(4,.arr 9 1)]⟩ .leaf) (.seq (.join ⟨[(0,(.pt 2000 0)),(3,(.ow 4))],[(2000,z3),(4,.arr 9 1)]⟩ .leaf) (.seq (.join ⟨[(0,(.pt 2000 0)),(3,(.ow 4))],[(2000,z3),(4,.arr 9 1)]⟩ .leaf) .leaf))))) [(76,some 6,s_l1Rd_pick_fs),(76,some 11,s_l1Rd_pick_fs),(76,some 18,s_l1Rd_pick_fs),(76,some 24,s_l1Rd_pick_fs),(76,some 30,s_l1Rd_pick_fs),(76,some 35,s_l1Rd_pick_fs)] (.cons s_l1Rd_pick_ok (.cons s_l1Rd_pick_ok (.cons s_l1Rd_pick_ok (.cons s_l1Rd_pick_ok (.cons s_l1Rd_pick_ok (.cons s_l1Rd_pick_ok .nil)))))) (by kernel_rfl) (by kernel_rfl) (by kernel_rfl) (fun xs=>by kernel_rfl)
def s_l2DrawBerth.d1 (a b c:C):R:=(call3 (s_l1Rd_pick [.i 3,b,c]) fun d e f=>(bif (decide (0≤d.I)) then (bif (decide (d.I<((rows [[.s (bs #[101,97,115,116])],[.s (bs #[119,101,115,116])],[.s (bs #[110,111,114,116,104])]]).length:Int))) then (call3 (s_l1Marks [e,f]) fun g h i=>(call3 (s_l1Rd_pick [.i 20,g,h]) fun j k l=>(call3 (s_l1Rd_pick [.i 20,k,l]) fun m n o=>(call3 (s_l1Rd_pick [.i 10,n,o]) fun p q r=>(some (.ret [a,(((rows [[.s (bs #[101,97,115,116])],[.s (bs #[119,101,115,116])],[.s (bs #[110,111,114,116,104])]]).getD d.I.toNat []).getD 0 .nil),.i (w64 (4+j.I)),.i (w64 (4+m.I)),.b (p.I==0),q,r,.l i.L])))))) else none) else none))
def s_l2DrawBerth:List C→Option (List C):=fun xs=>finR (ap3 s_l2DrawBerth.d1 xs)
def s_l2DrawBerth_fs:FS:=⟨2,⟨[(0,(.pt 2000 0)),(1,zt)],[(2000,z3)]⟩,⟨[(0,(.ag [zt,zt,(.ow 3001),zi,zi,zo]))],[(2000,z3),(3001,.arr 9 1)]⟩,[2000],s_l2DrawBerth⟩
theorem s_l2DrawBerth_ok:FSOk Tryz.checked.prog T0 132 s_l2DrawBerth_fs:=okOf base0 (fn:=Tryz.f132) (c:=Tryz.f132.body.getD .skip) s_l2DrawBerth_fs .leaf [(76,some 8,s_l1Rd_pick_fs),(76,some 14,s_l1Rd_pick_fs),(76,some 17,s_l1Rd_pick_fs),(76,some 20,s_l1Rd_pick_fs),(163,some 12,s_l1Marks_fs)] (.cons s_l1Rd_pick_ok (.cons s_l1Rd_pick_ok (.cons s_l1Rd_pick_ok (.cons s_l1Rd_pick_ok (.cons s_l1Marks_ok .nil))))) (by kernel_rfl) (by kernel_rfl) (by kernel_rfl) (fun xs=>by kernel_rfl)
def s_l1Word.d1 (a b:C):R:=(call3 (s_l1Rd_pick [.i 8,a,b]) fun c d e=>(bif (decide (0≤c.I)) then (bif (decide (c.I<((rows [[.s (bs #[115,115,100])],[.s (bs #[111,108,100])],[.s (bs #[103,112,117])],[.s (bs #[122,111,110,101])],[.s (bs #[99,111,108,111,114])],[.s (bs #[97])],[.s (bs #[98,45,49])],[.s (bs #[120,95,50])]]).length:Int))) then (some (.ret [(((rows [[.s (bs #[115,115,100])],[.s (bs #[111,108,100])],[.s (bs #[103,112,117])],[.s (bs #[122,111,110,101])],[.s (bs #[99,111,108,111,114])],[.s (bs #[97])],[.s (bs #[98,45,49])],[.s (bs #[120,95,50])]]).getD c.I.toNat []).getD 0 .nil),d,e])) else none) else none))
def s_l1Word:List C→Option (List C):=fun xs=>finR (ap2 s_l1Word.d1 xs)
def s_l1Word_fs:FS:=⟨1,⟨[(0,(.pt 2000 0))],[(2000,z3)]⟩,⟨[(0,zt)],[(2000,z3)]⟩,[2000],s_l1Word⟩
theorem s_l1Word_ok:FSOk Tryz.checked.prog T0 227 s_l1Word_fs:=okOf base0 (fn:=Tryz.f227) (c:=Tryz.f227.body.getD .skip) s_l1Word_fs .leaf [(76,some 5,s_l1Rd_pick_fs)] (.cons s_l1Rd_pick_ok .nil) (by kernel_rfl) (by kernel_rfl) (by kernel_rfl) (fun xs=>by kernel_rfl)
def s_l1Leaf.d1 (a b:C):R:=(call3 (s_l1Rd_pick [.i 2,a,b]) fun c d e=>(bif (c.I==0) then (call3 (s_l1Word [d,e]) fun f g h=>(some (.ret [g,h,.l (rows [[.i 1,f,.s (bs #[]),.i 0]])]))) else (call3 (s_l1Rd_pick [.i 3,d,e]) fun i j k=>(bif (decide (0≤i.I)) then (bif (decide (i.I<((rows [[.s (bs #[122,111,110,101])],[.s (bs #[99,111,108,111,114])],[.s (bs #[115,115,100])]]).length:Int))) then (call3 (s_l1Rd_pick [.i 4,j,k]) fun l m n=>(bif (decide (0≤l.I)) then (bif (decide (l.I<((rows [[.s (bs #[101,97,115,116])],[.s (bs #[119,101,115,116])],[.s (bs #[114,101,100])],[.s (bs #[97])]]).length:Int))) then (some (.ret [m,n,.l (rows [[.i 2,(((rows [[.s (bs #[122,111,110,101])],[.s (bs #[99,111,108,111,114])],[.s (bs #[115,115,100])]]).getD i.I.toNat []).getD 0 .nil),(((rows [[.s (bs #[101,97,115,116])],[.s (bs #[119,101,115,116])],[.s (bs #[114,101,100])],[.s (bs #[97])]]).getD l.I.toNat []).getD 0 .nil),.i 0]])])) else none) else none)) else none) else none))))
def s_l1Leaf:List C→Option (List C):=fun xs=>finR (ap2 s_l1Leaf.d1 xs)
def s_l1Leaf_fs:FS:=⟨1,⟨[(0,(.pt 2000 0))],[(2000,z3)]⟩,⟨[(0,(.ow 3001))],[(2000,z3),(3001,.arr 184 1)]⟩,[2000],s_l1Leaf⟩
theorem s_l1Leaf_ok:FSOk Tryz.checked.prog T0 212 s_l1Leaf_fs:=okOf base0 (fn:=Tryz.f212) (c:=Tryz.f212.body.getD .skip) s_l1Leaf_fs .leaf [(76,some 4,s_l1Rd_pick_fs),(76,some 12,s_l1Rd_pick_fs),(76,some 17,s_l1Rd_pick_fs),(227,some 7,s_l1Word_fs)] (.cons s_l1Rd_pick_ok (.cons s_l1Rd_pick_ok (.cons s_l1Rd_pick_ok (.cons s_l1Word_ok .nil)))) (by kernel_rfl) (by kernel_rfl) (by kernel_rfl) (fun xs=>by kernel_rfl)
def s_l1Over.d1 (a b c d e:C):R:=(bif (decide (c.I<(d.L.length:Int))) then (bif (decide (0≤c.I)) then (bif (decide (c.I<(d.L.length:Int))) then (bif (decide (e.L.length+(((d.L.getD c.I.toNat []).getD 0 .nil).L).length≤4294967296)) then (some (.again [a,b,.i (w64 (c.I+1)),.l d.L,.l (e.L++(((d.L.getD c.I.toNat []).getD 0 .nil).L))])) else none) else none) else none) else (some (.brk 0 [a,b,.l d.L,.l e.L])))
def s_l1Over.d2 (a b c d:C):R:=(bif (decide (d.L.length+(rows [[a,.s (bs #[]),.s (bs #[]),b]]).length≤4294967296)) then (some (.ret [.l c.L,.l (d.L++(rows [[a,.s (bs #[]),.s (bs #[]),b]]))])) else none)
def s_l1Over.d3 (a b c:C):R:=(bindBlk 0 (lim (ap5 s_l1Over.d1) [a,b,.i 0,.l c.L,.l nils]) (ap4 s_l1Over.d2))
def s_l1Over:List C→Option (List C):=fun xs=>finR (ap3 s_l1Over.d3 xs)
def s_l1Over_fs:FS:=⟨3,⟨[(0,zi),(1,zi),(2,(.ow 2000))],[(2000,.arr 144 1)]⟩,⟨[(0,(.ow 3001))],[(2000,.arr 144 1),(3001,.arr 184 1)]⟩,[2000],s_l1Over⟩
theorem s_l1Over_ok:FSOk Tryz.checked.prog T0 192 s_l1Over_fs:=okOf base0 (fn:=Tryz.f192) (c:=Tryz.f192.body.getD .skip) s_l1Over_fs (.seq .leaf (.seq .leaf (.seq (.seq .leaf (.block ⟨[(0,zi),(1,zi),(7,(.ow 9))],[(2000,.arr 144 1),(9,.arr 184 1)]⟩ (.loop ⟨[(0,zi),(1,zi),(2,(.ow 2000)),(7,(.ow 9)),(8,zi)],[(2000,.arr 144 1),(9,.arr 184 1)]⟩ .leaf))) .leaf))) [] .nil (by kernel_rfl) (by kernel_rfl) (by kernel_rfl) (fun xs=>by kernel_rfl)
def s_l1Over_v1_fs:FS:=⟨3,⟨[(0,zi),(1,zi),(2,(.ow 2000))],[(2000,.arr 144)]⟩,⟨[(0,(.ow 3001))],[(2000,.arr 144),(3001,.arr 184 1)]⟩,[2000],s_l1Over⟩
theorem s_l1Over_v1_ok:FSOk Tryz.checked.prog T0 192 s_l1Over_v1_fs:=okOf base0 (fn:=Tryz.f192) (c:=Tryz.f192.body.getD .skip) s_l1Over_v1_fs (.seq .leaf (.seq .leaf (.seq (.seq .leaf (.block ⟨[(0,zi),(1,zi),(7,(.ow 9))],[(2000,.arr 144),(9,.arr 184 1)]⟩ (.loop ⟨[(0,zi),(1,zi),(2,(.ow 2000)),(7,(.ow 9)),(8,zi)],[(2000,.arr 144),(9,.arr 184 1)]⟩ .leaf))) .leaf))) [] .nil (by kernel_rfl) (by kernel_rfl) (by kernel_rfl) (fun xs=>by kernel_rfl)
def s_l1Draw.d1 (G0:List C→Option (List C)) (a b c:C):R:=(bif (!(decide (a.I≤0))) then (call3 (s_l1Rd_pick [.i 3,b,c]) fun d e f=>(bif (d.I==0) then (call3 (s_l1Leaf [e,f]) fun g h i=>(some (.ret [g,h,.l i.L]))) else (call3 (s_l1Rd_pick [.i 3,e,f]) fun j k l=>(bif (j.I==0) then (call3 (G0 [.i (w64 (a.I-1)),k,l]) fun m n o=>(call2 (s_l1Over [.i 3,.i 1,.l (rows [[.l o.L]])]) fun p q=>(some (.ret [m,n,.l q.L])))) else (bif (j.I==1) then (call3 (G0 [.i (w64 (a.I-1)),k,l]) fun r s t=>(call3 (G0 [.i (w64 (a.I-1)),r,s]) fun u v w=>(call2 (s_l1Over [.i 4,.i 2,.l (rows [[.l t.L],[.l w.L]])]) fun x y=>(some (.ret [u,v,.l y.L]))))) else (call3 (G0 [.i (w64 (a.I-1)),k,l]) fun z a0 a1=>(call3 (G0 [.i (w64 (a.I-1)),z,a0]) fun a2 a3 a4=>(call2 (s_l1Over [.i 5,.i 2,.l (rows [[.l a1.L],[.l a4.L]])]) fun a5 a6=>(some (.ret [a2,a3,.l a6.L])))))))))) else (call3 (s_l1Leaf [b,c]) fun a7 a8 a9=>(some (.ret [a7,a8,.l a9.L]))))
def s_l1Draw.step (G0:List C→Option (List C)):List C→Option (List C):=fun xs=>finR (ap3 (s_l1Draw.d1 G0) xs)
def s_l1Draw_fs (G:List C→Option (List C)):FS:=⟨2,⟨[(0,(.pt 2000 0)),(1,(.d (.int .i64)))],[(2000,.var 117 [(.d (.sl 5)),(.d (.int .i64))])]⟩,⟨[(0,(.ow 3001))],[(2000,.var 117 [(.d (.sl 5)),(.d (.int .i64))]),(3001,.arr 184 1)]⟩,[2000],G⟩
theorem s_l1Draw_st {G0:List C→Option (List C)} (h0:FSOk Tryz.checked.prog T0 189 (s_l1Draw_fs G0)):FSOk Tryz.checked.prog T0 189 (s_l1Draw_fs (s_l1Draw.step G0)):=okOf base0 (fn:=Tryz.f189) (c:=Tryz.f189.body.getD .skip) (s_l1Draw_fs (s_l1Draw.step G0)) .leaf [(76,some 11,s_l1Rd_pick_fs),(76,some 17,s_l1Rd_pick_fs),(189,some 23,(s_l1Draw_fs G0)),(189,some 31,(s_l1Draw_fs G0)),(189,some 36,(s_l1Draw_fs G0)),(189,some 42,(s_l1Draw_fs G0)),(189,some 47,(s_l1Draw_fs G0)),(192,some 25,s_l1Over_fs),(192,some 38,s_l1Over_v1_fs),(192,some 49,s_l1Over_v1_fs),(212,some 15,s_l1Leaf_fs)] (.cons s_l1Rd_pick_ok (.cons s_l1Rd_pick_ok (.cons h0 (.cons h0 (.cons h0 (.cons h0 (.cons h0 (.cons s_l1Over_ok (.cons s_l1Over_v1_ok (.cons s_l1Over_v1_ok (.cons s_l1Leaf_ok .nil))))))))))) (by kernel_rfl) (by kernel_rfl) (by kernel_rfl) (fun xs=>by kernel_rfl)
def s_l1Draw.g:Nat→Nat→List C→Option (List C)
 |0,_=>fun _=>none
 |k+1,0=>s_l1Draw.step (s_l1Draw.g k 0)
 |_,_=>fun _=>none
theorem s_l1Draw_rec:∀k:Nat,FSOk Tryz.checked.prog T0 189 (s_l1Draw_fs (s_l1Draw.g k 0))
 |0=>noneOk (fn:=Tryz.f189) (c:=Tryz.f189.body.getD .skip) (2) (⟨[(0,(.pt 2000 0)),(1,(.d (.int .i64)))],[(2000,.var 117 [(.d (.sl 5)),(.d (.int .i64))])]⟩) (⟨[(0,(.ow 3001))],[(2000,.var 117 [(.d (.sl 5)),(.d (.int .i64))]),(3001,.arr 184 1)]⟩) [2000] (by kernel_rfl) (by kernel_rfl) (by kernel_rfl)
 |k+1=>s_l1Draw_st (s_l1Draw_rec k)
def s_l1Draw:List C→Option (List C):=s_l1Draw.g FUEL 0
theorem s_l1Draw_ok:FSOk Tryz.checked.prog T0 189 (s_l1Draw_fs s_l1Draw):=s_l1Draw_rec FUEL
def s_l1Kids.d1 (a b c d:C):R:=(bif (decide (a.I<(b.L.length:Int))) then (bif (decide (0≤a.I)) then (bif (decide (a.I<(b.L.length:Int))) then (bif (!(decide (((b.L.getD a.I.toNat []).getD 3 .nil).I<0))) then (bif (decide (((b.L.getD a.I.toNat []).getD 3 .nil).I>(d.L.length:Int))) then (some (.ret [.b false,.l c.L])) else (bif (decide (0≤(w64 ((d.L.length:Int)-((b.L.getD a.I.toNat []).getD 3 .nil).I)))) then (bif (decide ((w64 ((d.L.length:Int)-((b.L.getD a.I.toNat []).getD 3 .nil).I))≤(d.L.length:Int))) then (bif (decide ((d.L.length:Int)≤(d.L.length:Int))) then (bif (decide (nils.length+((d.L.take (d.L.length:Int).toNat).drop (w64 ((d.L.length:Int)-((b.L.getD a.I.toNat []).getD 3 .nil).I)).toNat).length≤4294967296)) then (bif (decide (c.L.length+(rows [[.l (nils++((d.L.take (d.L.length:Int).toNat).drop (w64 ((d.L.length:Int)-((b.L.getD a.I.toNat []).getD 3 .nil).I)).toNat))]]).length≤4294967296)) then (bif (decide (0≤(w64 ((d.L.length:Int)-((b.L.getD a.I.toNat []).getD 3 .nil).I)))) then (bif (decide ((w64 ((d.L.length:Int)-((b.L.getD a.I.toNat []).getD 3 .nil).I))≤(d.L.length:Int))) then (bif (decide (((d.L.take (w64 ((d.L.length:Int)-((b.L.getD a.I.toNat []).getD 3 .nil).I)).toNat).drop 0).length+(rows [[a]]).length≤4294967296)) then (some (.again [.i (w64 (a.I+1)),b,.l (c.L++(rows [[.l (nils++((d.L.take (d.L.length:Int).toNat).drop (w64 ((d.L.length:Int)-((b.L.getD a.I.toNat []).getD 3 .nil).I)).toNat))]])),.l (((d.L.take (w64 ((d.L.length:Int)-((b.L.getD a.I.toNat []).getD 3 .nil).I)).toNat).drop 0)++(rows [[a]]))])) else none) else none) else none) else none) else none) else none) else none) else none)) else (some (.ret [.b false,.l c.L]))) else none) else none) else (some (.brk 0 [.l c.L,.l d.L])))
def s_l1Kids.d2 (a b:C):R:=(some (.ret [.b ((b.L.length:Int)==1),.l a.L]))
def s_l1Kids.d3 (a:C):R:=(bindBlk 0 (lim (ap4 s_l1Kids.d1) [.i 0,a,.l nils,.l nils]) (ap2 s_l1Kids.d2))
def s_l1Kids:List C→Option (List C):=fun xs=>finR (ap1 s_l1Kids.d3 xs)
def s_l1Kids_fs:FS:=⟨1,⟨[(0,(.ag [(zl 184)]))],[]⟩,⟨[(0,(.tu [(.ow 3000),zo]))],[(3000,.arr 73 1)]⟩,[],s_l1Kids⟩
theorem s_l1Kids_ok:FSOk Tryz.checked.prog T0 168 s_l1Kids_fs:=okOfT base0 [41] false (fn:=Tryz.f168) (c:=Tryz.f168.body.getD .skip) s_l1Kids_fs (.seq .leaf (.seq .leaf (.seq .leaf (.seq (.seq .leaf (.block ⟨[(4,(.ow 8)),(5,(.ow 9))],[(8,.arr 73 1),(9,.arr 3 1)]⟩ (.loop ⟨[(1,(.pt 1 0)),(4,(.ow 8)),(5,(.ow 9)),(6,zi)],[(1,.var 146 [(zl 184)]),(8,.arr 73 1),(9,.arr 3 1)]⟩ .leaf))) .leaf)))) [] .nil (by kernel_rfl) (by kernel_rfl) (by kernel_rfl) (fun xs=>by kernel_rfl)
def s_l1In.d1 (a b c:C):R:=(bif (decide (a.I≥b.I)) then (some (.ret [.b (decide (a.I≤c.I))])) else (some (.ret [.b false])))
def s_l1In:List C→Option (List C):=fun xs=>finR (ap3 s_l1In.d1 xs)
def s_l1In_fs:FS:=⟨3,⟨[(0,zi),(1,zi),(2,zi)],[]⟩,⟨[(0,zo)],[]⟩,[],s_l1In⟩
theorem s_l1In_ok:FSOk Tryz.checked.prog T0 59 s_l1In_fs:=okOf base0 (fn:=Tryz.f59) (c:=Tryz.f59.body.getD .skip) s_l1In_fs .leaf [] .nil (by kernel_rfl) (by kernel_rfl) (by kernel_rfl) (fun xs=>by kernel_rfl)
def s_l1Letter.d1 (a:C):R:=(bif (decide (a.I≥97)) then (bif (!(decide (a.I≤122))) then (bif (decide (a.I≥48)) then (bif (!(decide (a.I≤57))) then (bif (!(a.I==45)) then (some (.ret [.b (a.I==95)])) else (some (.ret [.b true]))) else (some (.ret [.b true]))) else (bif (!(a.I==45)) then (some (.ret [.b (a.I==95)])) else (some (.ret [.b true])))) else (some (.ret [.b true]))) else (bif (decide (a.I≥48)) then (bif (!(decide (a.I≤57))) then (bif (!(a.I==45)) then (some (.ret [.b (a.I==95)])) else (some (.ret [.b true]))) else (some (.ret [.b true]))) else (bif (!(a.I==45)) then (some (.ret [.b (a.I==95)])) else (some (.ret [.b true])))))
def s_l1Letter:List C→Option (List C):=fun xs=>finR (ap1 s_l1Letter.d1 xs)
def s_l1Letter_fs:FS:=⟨1,⟨[(0,(.d (.int .u8)))],[]⟩,⟨[(0,zo)],[]⟩,[],s_l1Letter⟩
theorem s_l1Letter_ok:FSOk Tryz.checked.prog T0 108 s_l1Letter_fs:=okOf base0 (fn:=Tryz.f108) (c:=Tryz.f108.body.getD .skip) s_l1Letter_fs .leaf [] .nil (by kernel_rfl) (by kernel_rfl) (by kernel_rfl) (fun xs=>by kernel_rfl)
def s_l1NameOk.d1 (a b:C):R:=(bif (decide (b.I<(a.S.size:Int))) then (bif (decide (0≤b.I)) then (bif (decide (b.I<(a.S.size:Int))) then (call1 (s_l1Letter [.i ((a.S.data.getD b.I.toNat 0).toNat:Int)]) fun c=>(bif (!c.B) then (some (.ret [.b false])) else (some (.again [a,.i (w64 (b.I+1))])))) else none) else none) else (some (.brk 0 [])))
def s_l1NameOk.d2:R:=(some (.ret [.b true]))
def s_l1NameOk.d3 (a:C):R:=(call1 (s_l1In [.i (a.S.size:Int),.i 1,.i 20]) fun b=>(bif (!b.B) then (some (.ret [.b false])) else (bindBlk 0 (lim (ap2 s_l1NameOk.d1) [a,.i 0]) (fun xs=>s_l1NameOk.d2))))
def s_l1NameOk:List C→Option (List C):=fun xs=>finR (ap1 s_l1NameOk.d3 xs)
def s_l1NameOk_fs:FS:=⟨1,⟨[(0,zt)],[]⟩,⟨[(0,zo)],[]⟩,[],s_l1NameOk⟩
theorem s_l1NameOk_ok:FSOk Tryz.checked.prog T0 58 s_l1NameOk_fs:=okOf base0 (fn:=Tryz.f58) (c:=Tryz.f58.body.getD .skip) s_l1NameOk_fs (.seq .leaf (.seq .leaf (.seq (.seq .leaf (.block ⟨[],[]⟩ (.loop ⟨[(0,zt),(3,zi)],[]⟩ .leaf))) .leaf))) [(59,some 6,s_l1In_fs),(108,some 17,s_l1Letter_fs)] (.cons s_l1In_ok (.cons s_l1Letter_ok .nil)) (by kernel_rfl) (by kernel_rfl) (by kernel_rfl) (fun xs=>by kernel_rfl)
def s_l1Tree.d1 (a b c:C):R:=(bif b.B then (some (.ret [.b false])) else (some (.again [.i (w64 (a.I+1)),c])))
def s_l1Tree.d2 (a b c d e f g:C):R:=(bindNrm (bif b.B then (call1 (s_l1NameOk [e]) fun h=>(bif (!(!h.B)) then (bif (!b.B) then (bif (!(!(e.S.toList==(bs #[]).toList))) then (bif (d.I==2) then (call1 (s_l1NameOk [f]) fun i=>(bif (!(!i.B)) then (bif (d.I !=2) then (some (.nrm [a,.b (!(f.S.toList==(bs #[]).toList)),c])) else (some (.nrm [a,.b false,c]))) else (some (.nrm [a,.b true,c])))) else (bif (d.I !=2) then (some (.nrm [a,.b (!(f.S.toList==(bs #[]).toList)),c])) else (some (.nrm [a,.b false,c])))) else (some (.nrm [a,.b true,c]))) else (bif (d.I==2) then (call1 (s_l1NameOk [f]) fun j=>(bif (!(!j.B)) then (bif (d.I !=2) then (some (.nrm [a,.b (!(f.S.toList==(bs #[]).toList)),c])) else (some (.nrm [a,.b false,c]))) else (some (.nrm [a,.b true,c])))) else (bif (d.I !=2) then (some (.nrm [a,.b (!(f.S.toList==(bs #[]).toList)),c])) else (some (.nrm [a,.b false,c]))))) else (some (.nrm [a,.b true,c])))) else (bif (!b.B) then (bif (!(!(e.S.toList==(bs #[]).toList))) then (bif (d.I==2) then (call1 (s_l1NameOk [f]) fun k=>(bif (!(!k.B)) then (bif (d.I !=2) then (some (.nrm [a,.b (!(f.S.toList==(bs #[]).toList)),c])) else (some (.nrm [a,.b false,c]))) else (some (.nrm [a,.b true,c])))) else (bif (d.I !=2) then (some (.nrm [a,.b (!(f.S.toList==(bs #[]).toList)),c])) else (some (.nrm [a,.b false,c])))) else (some (.nrm [a,.b true,c]))) else (bif (d.I==2) then (call1 (s_l1NameOk [f]) fun l=>(bif (!(!l.B)) then (bif (d.I !=2) then (some (.nrm [a,.b (!(f.S.toList==(bs #[]).toList)),c])) else (some (.nrm [a,.b false,c]))) else (some (.nrm [a,.b true,c])))) else (bif (d.I !=2) then (some (.nrm [a,.b (!(f.S.toList==(bs #[]).toList)),c])) else (some (.nrm [a,.b false,c])))))) (ap3 s_l1Tree.d1))
def s_l1Tree.d3 (a b c d e f:C):R:=(bindNrm (bif (!(c.I==1)) then (some (.nrm [a,.b (c.I==2),b,c,d,e,f])) else (some (.nrm [a,.b true,b,c,d,e,f]))) (ap7 s_l1Tree.d2))
def s_l1Tree.d4 (a b:C):R:=(bif (decide (a.I<(b.L.length:Int))) then (bif (decide (0≤a.I)) then (bif (decide (a.I<(b.L.length:Int))) then (bindNrm (call1 (s_l1In [((b.L.getD a.I.toNat []).getD 0 .nil),.i 0,.i 5]) fun c=>(bif (!(!c.B)) then (bif (decide (0≤((b.L.getD a.I.toNat []).getD 0 .nil).I)) then (bif (decide (((b.L.getD a.I.toNat []).getD 0 .nil).I<((rows [[.i 0],[.i 0],[.i 0],[.i 1],[.i 2],[.i 2]]).length:Int))) then (bif (!(((b.L.getD a.I.toNat []).getD 3 .nil).I !=(((rows [[.i 0],[.i 0],[.i 0],[.i 1],[.i 2],[.i 2]]).getD (((b.L.getD a.I.toNat []).getD 0 .nil).I).toNat []).getD 0 .nil).I)) then (bif (((b.L.getD a.I.toNat []).getD 0 .nil).I==0) then (bif (decide ((b.L.length:Int)>1)) then (some (.ret [.b false])) else (some (.nrm [a,b,((b.L.getD a.I.toNat []).getD 0 .nil),((b.L.getD a.I.toNat []).getD 1 .nil),((b.L.getD a.I.toNat []).getD 2 .nil),((b.L.getD a.I.toNat []).getD 3 .nil)]))) else (some (.nrm [a,b,((b.L.getD a.I.toNat []).getD 0 .nil),((b.L.getD a.I.toNat []).getD 1 .nil),((b.L.getD a.I.toNat []).getD 2 .nil),((b.L.getD a.I.toNat []).getD 3 .nil)]))) else (some (.ret [.b false]))) else none) else none) else (some (.ret [.b false])))) (ap6 s_l1Tree.d3)) else none) else none) else (some (.brk 0 [])))
def s_l1Tree.d5:R:=(some (.ret [.b true]))
def s_l1Tree.d6 (a:C):R:=(bif (decide ((a.L.length:Int)>400)) then (some (.ret [.b false])) else (call2 (s_l1Kids [a]) fun b c=>(bif (!b.B) then (some (.ret [.b false])) else (bindBlk 0 (lim (ap2 s_l1Tree.d4) [.i 0,a]) (fun xs=>s_l1Tree.d5)))))
def s_l1Tree:List C→Option (List C):=fun xs=>finR (ap1 s_l1Tree.d6 xs)
def s_l1Tree_fs:FS:=⟨1,⟨[(0,(.ag [(zl 184)]))],[]⟩,⟨[(0,zo)],[]⟩,[],s_l1Tree⟩
theorem s_l1Tree_ok:FSOk Tryz.checked.prog T0 193 s_l1Tree_fs:=okOf base0 (fn:=Tryz.f193) (c:=Tryz.f193.body.getD .skip) s_l1Tree_fs (.seq .leaf (.seq .leaf (.seq .leaf (.seq .leaf (.seq (.seq .leaf (.block ⟨[],[]⟩ (.loop ⟨[(1,(.pt 1 0)),(5,zi)],[(1,.var 146 [(zl 184)])]⟩ (.seq .leaf (.seq (.skip (.seq .leaf (.seq (.join ⟨[(1,(.pt 1 0)),(5,zi),(6,(.pt 6 0))],[(1,.var 146 [(zl 184)]),(6,.var 184 [zi,zt,zt,zi])]⟩ .leaf) (.seq (.join ⟨[(1,(.pt 1 0)),(5,zi),(6,(.pt 6 0)),(7,zo)],[(1,.var 146 [(zl 184)]),(6,.var 184 [zi,zt,zt,zi])]⟩ .leaf) (.seq (.join ⟨[(1,(.pt 1 0)),(5,zi),(100,zo)],[(1,.var 146 [(zl 184)])]⟩ .leaf) .leaf))))) .leaf))))) .leaf))))) [(58,some 68,s_l1NameOk_fs),(58,some 87,s_l1NameOk_fs),(59,some 33,s_l1In_fs),(168,some 14,s_l1Kids_fs)] (.cons s_l1NameOk_ok (.cons s_l1NameOk_ok (.cons s_l1In_ok (.cons s_l1Kids_ok .nil)))) (by kernel_rfl) (by kernel_rfl) (by kernel_rfl) (fun xs=>by kernel_rfl)
def s_l1Nest.d1 (G0:List C→Option (List C)) (a b c d:C):R:=(bif (decide (0≤b.I)) then (bif (decide (b.I<(a.L.length:Int))) then (bif (decide (d.I<((((a.L.getD b.I.toNat []).getD 0 .nil).L).length:Int))) then (bif (decide (0≤b.I)) then (bif (decide (b.I<(a.L.length:Int))) then (bif (decide (0≤d.I)) then (bif (decide (d.I<((((a.L.getD b.I.toNat []).getD 0 .nil).L).length:Int))) then (call1 (G0 [a,(((((a.L.getD b.I.toNat []).getD 0 .nil).L).getD d.I.toNat []).getD 0 .nil)]) fun e=>(bif (decide ((w64 (e.I+1))>c.I)) then (some (.again [a,b,.i (w64 (e.I+1)),.i (w64 (d.I+1))])) else (some (.again [a,b,c,.i (w64 (d.I+1))])))) else none) else none) else none) else none) else (some (.brk 0 [c]))) else none) else none)
def s_l1Nest.d2 (G0:List C→Option (List C)) (a:C):R:=(some (.ret [a]))
def s_l1Nest.d3 (G0:List C→Option (List C)) (a b:C):R:=(bindBlk 0 (lim (ap4 (s_l1Nest.d1 G0)) [a,b,.i 0,.i 0]) (ap1 (s_l1Nest.d2 G0)))
def s_l1Nest.step (G0:List C→Option (List C)):List C→Option (List C):=fun xs=>finR (ap2 (s_l1Nest.d3 G0) xs)
def s_l1Nest_fs (G:List C→Option (List C)):FS:=⟨2,⟨[(0,(.d (.sl 73))),(1,(.d (.int .i64)))],[]⟩,⟨[(0,(.d (.int .i64)))],[]⟩,[],G⟩
theorem s_l1Nest_st {G0:List C→Option (List C)} (h0:FSOk Tryz.checked.prog T0 194 (s_l1Nest_fs G0)):FSOk Tryz.checked.prog T0 194 (s_l1Nest_fs (s_l1Nest.step G0)):=okOf base0 (fn:=Tryz.f194) (c:=Tryz.f194.body.getD .skip) (s_l1Nest_fs (s_l1Nest.step G0)) (.seq .leaf (.seq .leaf (.seq (.seq .leaf (.block ⟨[(5,(.d (.int .i64)))],[]⟩ (.loop ⟨[(0,(.d (.sl 73))),(1,(.d (.int .i64))),(5,(.d (.int .i64))),(6,(.d (.int .i64)))],[]⟩ .leaf))) .leaf))) [(194,some 25,(s_l1Nest_fs G0))] (.cons h0 .nil) (by kernel_rfl) (by kernel_rfl) (by kernel_rfl) (fun xs=>by kernel_rfl)
def s_l1Nest.g:Nat→Nat→List C→Option (List C)
 |0,_=>fun _=>none
 |k+1,0=>s_l1Nest.step (s_l1Nest.g k 0)
 |_,_=>fun _=>none
theorem s_l1Nest_rec:∀k:Nat,FSOk Tryz.checked.prog T0 194 (s_l1Nest_fs (s_l1Nest.g k 0))
 |0=>noneOk (fn:=Tryz.f194) (c:=Tryz.f194.body.getD .skip) (2) (⟨[(0,(.d (.sl 73))),(1,(.d (.int .i64)))],[]⟩) (⟨[(0,(.d (.int .i64)))],[]⟩) [] (by kernel_rfl) (by kernel_rfl) (by kernel_rfl)
 |k+1=>s_l1Nest_st (s_l1Nest_rec k)
def s_l1Nest:List C→Option (List C):=s_l1Nest.g FUEL 0
theorem s_l1Nest_ok:FSOk Tryz.checked.prog T0 194 (s_l1Nest_fs s_l1Nest):=s_l1Nest_rec FUEL
def s_l1Valid.d1 (a:C):R:=(call1 (s_l1Tree [a]) fun b=>(bif (!b.B) then (some (.ret [.b false])) else (call2 (s_l1Kids [a]) fun c d=>(call1 (s_l1Nest [.l d.L,.i (w64 ((a.L.length:Int)-1))]) fun e=>(some (.ret [.b (decide (e.I≤20))]))))))
def s_l1Valid:List C→Option (List C):=fun xs=>finR (ap1 s_l1Valid.d1 xs)
def s_l1Valid_fs:FS:=⟨1,⟨[(0,(.ag [(zl 184)]))],[]⟩,⟨[(0,zo)],[]⟩,[],s_l1Valid⟩
theorem s_l1Valid_ok:FSOk Tryz.checked.prog T0 167 s_l1Valid_fs:=okOf base0 (fn:=Tryz.f167) (c:=Tryz.f167.body.getD .skip) s_l1Valid_fs .leaf [(168,some 10,s_l1Kids_fs),(193,some 6,s_l1Tree_fs),(194,some 18,(s_l1Nest_fs s_l1Nest))] (.cons s_l1Kids_ok (.cons s_l1Tree_ok (.cons s_l1Nest_ok .nil))) (by kernel_rfl) (by kernel_rfl) (by kernel_rfl) (fun xs=>by kernel_rfl)
def s_l1Bind.d1 (a:C):R:=(bif (a.I==5) then (some (.ret [.i 1])) else (bif (a.I==4) then (some (.ret [.i 2])) else (some (.ret [.i 3]))))
def s_l1Bind:List C→Option (List C):=fun xs=>finR (ap1 s_l1Bind.d1 xs)
def s_l1Bind_fs:FS:=⟨1,⟨[(0,zi)],[]⟩,⟨[(0,zi)],[]⟩,[],s_l1Bind⟩
theorem s_l1Bind_ok:FSOk Tryz.checked.prog T0 226 s_l1Bind_fs:=okOf base0 (fn:=Tryz.f226) (c:=Tryz.f226.body.getD .skip) s_l1Bind_fs .leaf [] .nil (by kernel_rfl) (by kernel_rfl) (by kernel_rfl) (fun xs=>by kernel_rfl)
def s_l1Write.d1 (G0:List C→Option (List C)) (a b c d e f:C):R:=(call1 (s_l1Bind [c]) fun g=>(bif (decide (g.I<a.I)) then (bif (decide ((bs #[40]).size+b.S.size≤4294967296)) then (bif (decide (((bs #[40])++b.S).size+(bs #[41]).size≤4294967296)) then (some (.ret [.s (((bs #[40])++b.S)++(bs #[41]))])) else none) else none) else (some (.ret [b]))))
def s_l1Write.d2 (G0:List C→Option (List C)) (a b c d:C):R:=(bif (decide (0≤c.I)) then (bif (decide (c.I<(a.L.length:Int))) then (bindNrm (bif (((a.L.getD c.I.toNat []).getD 0 .nil).I==1) then (some (.nrm [d,((a.L.getD c.I.toNat []).getD 1 .nil),((a.L.getD c.I.toNat []).getD 0 .nil),((a.L.getD c.I.toNat []).getD 1 .nil),((a.L.getD c.I.toNat []).getD 2 .nil),((a.L.getD c.I.toNat []).getD 3 .nil)])) else (bif (((a.L.getD c.I.toNat []).getD 0 .nil).I==2) then (bif (decide ((((a.L.getD c.I.toNat []).getD 1 .nil).S).size+(bs #[61]).size≤4294967296)) then (bif (decide ((((a.L.getD c.I.toNat []).getD 1 .nil).S++(bs #[61])).size+(((a.L.getD c.I.toNat []).getD 2 .nil).S).size≤4294967296)) then (some (.nrm [d,.s ((((a.L.getD c.I.toNat []).getD 1 .nil).S++(bs #[61]))++((a.L.getD c.I.toNat []).getD 2 .nil).S),((a.L.getD c.I.toNat []).getD 0 .nil),((a.L.getD c.I.toNat []).getD 1 .nil),((a.L.getD c.I.toNat []).getD 2 .nil),((a.L.getD c.I.toNat []).getD 3 .nil)])) else none) else none) else (bif (((a.L.getD c.I.toNat []).getD 0 .nil).I==3) then (bif (decide (0≤c.I)) then (bif (decide (c.I<(b.L.length:Int))) then (bif (decide (0<((((b.L.getD c.I.toNat []).getD 0 .nil).L).length:Int))) then (call1 (G0 [a,b,(((((b.L.getD c.I.toNat []).getD 0 .nil).L).getD 0 []).getD 0 .nil),.i 3]) fun e=>(bif (decide ((bs #[33]).size+e.S.size≤4294967296)) then (some (.nrm [d,.s ((bs #[33])++e.S),((a.L.getD c.I.toNat []).getD 0 .nil),((a.L.getD c.I.toNat []).getD 1 .nil),((a.L.getD c.I.toNat []).getD 2 .nil),((a.L.getD c.I.toNat []).getD 3 .nil)])) else none)) else none) else none) else none) else (bif (((a.L.getD c.I.toNat []).getD 0 .nil).I==4) then (bif (decide (0≤c.I)) then (bif (decide (c.I<(b.L.length:Int))) then (bif (decide (0<((((b.L.getD c.I.toNat []).getD 0 .nil).L).length:Int))) then (call1 (G0 [a,b,(((((b.L.getD c.I.toNat []).getD 0 .nil).L).getD 0 []).getD 0 .nil),.i 2]) fun f=>(bif (decide (f.S.size+(bs #[32,38,32]).size≤4294967296)) then (bif (decide (0≤c.I)) then (bif (decide (c.I<(b.L.length:Int))) then (bif (decide (1<((((b.L.getD c.I.toNat []).getD 0 .nil).L).length:Int))) then (call1 (G0 [a,b,(((((b.L.getD c.I.toNat []).getD 0 .nil).L).getD 1 []).getD 0 .nil),.i 3]) fun g=>(bif (decide ((f.S++(bs #[32,38,32])).size+g.S.size≤4294967296)) then (some (.nrm [d,.s ((f.S++(bs #[32,38,32]))++g.S),((a.L.getD c.I.toNat []).getD 0 .nil),((a.L.getD c.I.toNat []).getD 1 .nil),((a.L.getD c.I.toNat []).getD 2 .nil),((a.L.getD c.I.toNat []).getD 3 .nil)])) else none)) else none) else none) else none) else none)) else none) else none) else none) else (bif (((a.L.getD c.I.toNat []).getD 0 .nil).I==5) then (bif (decide (0≤c.I)) then (bif (decide (c.I<(b.L.length:Int))) then (bif (decide (0<((((b.L.getD c.I.toNat []).getD 0 .nil).L).length:Int))) then (call1 (G0 [a,b,(((((b.L.getD c.I.toNat []).getD 0 .nil).L).getD 0 []).getD 0 .nil),.i 1]) fun h=>(bif (decide (h.S.size+(bs #[32,124,32]).size≤4294967296)) then (bif (decide (0≤c.I)) then (bif (decide (c.I<(b.L.length:Int))) then (bif (decide (1<((((b.L.getD c.I.toNat []).getD 0 .nil).L).length:Int))) then (call1 (G0 [a,b,(((((b.L.getD c.I.toNat []).getD 0 .nil).L).getD 1 []).getD 0 .nil),.i 2]) fun i=>(bif (decide ((h.S++(bs #[32,124,32])).size+i.S.size≤4294967296)) then (some (.nrm [d,.s ((h.S++(bs #[32,124,32]))++i.S),((a.L.getD c.I.toNat []).getD 0 .nil),((a.L.getD c.I.toNat []).getD 1 .nil),((a.L.getD c.I.toNat []).getD 2 .nil),((a.L.getD c.I.toNat []).getD 3 .nil)])) else none)) else none) else none) else none) else none)) else none) else none) else none) else (some (.nrm [d,.s (bs #[]),((a.L.getD c.I.toNat []).getD 0 .nil),((a.L.getD c.I.toNat []).getD 1 .nil),((a.L.getD c.I.toNat []).getD 2 .nil),((a.L.getD c.I.toNat []).getD 3 .nil)]))))))) (ap6 (s_l1Write.d1 G0))) else none) else none)
def s_l1Write.step (G0:List C→Option (List C)):List C→Option (List C):=fun xs=>finR (ap4 (s_l1Write.d2 G0) xs)
def s_l1Write_fs (G:List C→Option (List C)):FS:=⟨4,⟨[(0,(.ag [(.d (.sl 184))])),(1,(.d (.sl 73))),(2,(.d (.int .i64))),(3,(.d (.int .i64)))],[]⟩,⟨[(0,(.d .str))],[]⟩,[],G⟩
theorem s_l1Write_st {G0:List C→Option (List C)} (h0:FSOk Tryz.checked.prog T0 211 (s_l1Write_fs G0)):FSOk Tryz.checked.prog T0 211 (s_l1Write_fs (s_l1Write.step G0)):=okOf base0 (fn:=Tryz.f211) (c:=Tryz.f211.body.getD .skip) (s_l1Write_fs (s_l1Write.step G0)) (.seq .leaf (.seq .leaf (.seq .leaf (.seq (.join ⟨[(3,(.d (.int .i64))),(9,(.pt 9 0)),(10,(.d .str))],[(9,.var 184 [(.d (.int .i64)),(.d .str),(.d .str),(.d (.int .i64))])]⟩ .leaf) .leaf)))) [(211,some 40,(s_l1Write_fs G0)),(211,some 52,(s_l1Write_fs G0)),(211,some 62,(s_l1Write_fs G0)),(211,some 74,(s_l1Write_fs G0)),(211,some 84,(s_l1Write_fs G0)),(226,some 88,s_l1Bind_fs)] (.cons h0 (.cons h0 (.cons h0 (.cons h0 (.cons h0 (.cons s_l1Bind_ok .nil)))))) (by kernel_rfl) (by kernel_rfl) (by kernel_rfl) (fun xs=>by kernel_rfl)
def s_l1Write.g:Nat→Nat→List C→Option (List C)
 |0,_=>fun _=>none
 |k+1,0=>s_l1Write.step (s_l1Write.g k 0)
 |_,_=>fun _=>none
theorem s_l1Write_rec:∀k:Nat,FSOk Tryz.checked.prog T0 211 (s_l1Write_fs (s_l1Write.g k 0))
 |0=>noneOk (fn:=Tryz.f211) (c:=Tryz.f211.body.getD .skip) (4) (⟨[(0,(.ag [(.d (.sl 184))])),(1,(.d (.sl 73))),(2,(.d (.int .i64))),(3,(.d (.int .i64)))],[]⟩) (⟨[(0,(.d .str))],[]⟩) [] (by kernel_rfl) (by kernel_rfl) (by kernel_rfl)
 |k+1=>s_l1Write_st (s_l1Write_rec k)
def s_l1Write:List C→Option (List C):=s_l1Write.g FUEL 0
theorem s_l1Write_ok:FSOk Tryz.checked.prog T0 211 (s_l1Write_fs s_l1Write):=s_l1Write_rec FUEL
def s_PilotPrint.d1 (a:C):R:=(call1 (s_l1Valid [a]) fun b=>(bif (!b.B) then (some (.ret [.s (bs #[])])) else (call2 (s_l1Kids [a]) fun c d=>(call1 (s_l1Write [a,.l d.L,.i (w64 ((a.L.length:Int)-1)),.i 1]) fun e=>(bif (decide ((e.S.size:Int)>200)) then (some (.ret [.s (bs #[])])) else (some (.ret [e])))))))
def s_PilotPrint:List C→Option (List C):=fun xs=>finR (ap1 s_PilotPrint.d1 xs)
def s_PilotPrint_fs:FS:=⟨1,⟨[(0,(.ag [(zl 184)]))],[]⟩,⟨[(0,zt)],[]⟩,[],s_PilotPrint⟩
theorem s_PilotPrint_ok:FSOk Tryz.checked.prog T0 188 s_PilotPrint_fs:=okOf base0 (fn:=Tryz.f188) (c:=Tryz.f188.body.getD .skip) s_PilotPrint_fs .leaf [(167,some 7,s_l1Valid_fs),(168,some 11,s_l1Kids_fs),(211,some 20,(s_l1Write_fs s_l1Write))] (.cons s_l1Valid_ok (.cons s_l1Kids_ok (.cons s_l1Write_ok .nil))) (by kernel_rfl) (by kernel_rfl) (by kernel_rfl) (fun xs=>by kernel_rfl)
def s_l2DrawSelect.d1 (a b:C):R:=(call3 (s_l1Rd_pick [.i 2,a,b]) fun c d e=>(bif (c.I==0) then (some (.ret [.s (bs #[]),d,e])) else (call3 (s_l1Rd_pick [.i 3,d,e]) fun f g h=>(bif (f.I==0) then (call3 (s_l1Rd_pick [.i 6,g,h]) fun i j k=>(bif (decide (0≤i.I)) then (bif (decide (i.I<((rows [[.s (bs #[122,111,110,101,61,101,97,115,116])],[.s (bs #[33,111,108,100])],[.s (bs #[115,115,100])],[.s (bs #[122,111,110,101,61,101,97,115,116,32,124,32,122,111,110,101,61,119,101,115,116])],[.s (bs #[33,122,111,110,101,61,110,111,114,116,104])],[.s (bs #[99,111,108,111,114,61,114,101,100,32,124,32,103,112,117])]]).length:Int))) then (some (.ret [(((rows [[.s (bs #[122,111,110,101,61,101,97,115,116])],[.s (bs #[33,111,108,100])],[.s (bs #[115,115,100])],[.s (bs #[122,111,110,101,61,101,97,115,116,32,124,32,122,111,110,101,61,119,101,115,116])],[.s (bs #[33,122,111,110,101,61,110,111,114,116,104])],[.s (bs #[99,111,108,111,114,61,114,101,100,32,124,32,103,112,117])]]).getD i.I.toNat []).getD 0 .nil),j,k])) else none) else none)) else (call3 (s_l1Draw [.i 2,g,h]) fun l m n=>(call1 (s_PilotPrint [.l n.L]) fun o=>(some (.ret [o,l,m]))))))))
def s_l2DrawSelect:List C→Option (List C):=fun xs=>finR (ap2 s_l2DrawSelect.d1 xs)
def s_l2DrawSelect_fs:FS:=⟨1,⟨[(0,(.pt 2000 0))],[(2000,z3)]⟩,⟨[(0,zt)],[(2000,z3)]⟩,[2000],s_l2DrawSelect⟩
theorem s_l2DrawSelect_ok:FSOk Tryz.checked.prog T0 164 s_l2DrawSelect_fs:=okOf base0 (fn:=Tryz.f164) (c:=Tryz.f164.body.getD .skip) s_l2DrawSelect_fs .leaf [(76,some 4,s_l1Rd_pick_fs),(76,some 7,s_l1Rd_pick_fs),(76,some 11,s_l1Rd_pick_fs),(188,some 17,s_PilotPrint_fs),(189,some 15,(s_l1Draw_fs s_l1Draw))] (.cons s_l1Rd_pick_ok (.cons s_l1Rd_pick_ok (.cons s_l1Rd_pick_ok (.cons s_PilotPrint_ok (.cons s_l1Draw_ok .nil))))) (by kernel_rfl) (by kernel_rfl) (by kernel_rfl) (fun xs=>by kernel_rfl)
def s_l2DrawCopy.d1 (a b c d e f g h i j k l m n o p q r s t u v w x y z a0 a1:C):R:=(bif (decide (b.I>0)) then (call3 (s_l2DrawSelect [c,d]) fun a2 a3 a4=>(call3 (s_l1Rd_pick [.i 19,a3,a4]) fun a5 a6 a7=>(bif (decide (a1.L.length+(rows [[a2,.i (w64 (a5.I-9))]]).length≤4294967296)) then (some (.again [a,.i (w64 (b.I-1)),a6,a7,e,f,g,h,i,j,k,l,m,n,o,p,q,r,s,t,u,v,w,x,y,z,.l a0.L,.l (a1.L++(rows [[a2,.i (w64 (a5.I-9))]]))])) else none))) else (some (.brk 0 [a,c,d,e,f,g,h,i,j,k,l,m,n,o,p,q,r,s,t,u,v,w,x,y,z,.l a0.L,.l a1.L])))
def s_l2DrawCopy.d2 (a b c d e f g h i j k l m n o p q r s t u v w x y z a0:C):R:=(call3 (s_l1Rd_pick [.i 8,b,c]) fun a1 a2 a3=>(bif (a1.I==0) then (some (.ret [o,p,q,r,s,t,u,.l a0.L,.i 1,w,x,y,a2,a3])) else (bif (a1.I==1) then (some (.ret [o,p,q,r,s,t,u,.l a0.L,.i 2,w,x,y,a2,a3])) else (bif (a1.I==2) then (call3 (s_l1Rd_pick [.i 4,a2,a3]) fun a4 a5 a6=>(bif (decide (0≤a4.I)) then (bif (decide (a4.I<((rows [[.s (bs #[119,101,98])],[.s (bs #[100,98])],[.s (bs #[103,111,110,101])],[a]]).length:Int))) then (some (.ret [o,p,q,r,s,t,u,.l a0.L,v,(((rows [[.s (bs #[119,101,98])],[.s (bs #[100,98])],[.s (bs #[103,111,110,101])],[a]]).getD a4.I.toNat []).getD 0 .nil),x,y,a5,a6])) else none) else none)) else (bif (a1.I==3) then (call3 (s_l1Rd_pick [.i 3,a2,a3]) fun a7 a8 a9=>(bif (a7.I==0) then (call3 (s_l1Rd_pick [.i 4,a8,a9]) fun b0 b1 b2=>(call1 (s_l9Dec [b0]) fun b3=>(bif (decide ((bs #[98]).size+b3.S.size≤4294967296)) then (some (.ret [o,p,q,r,s,t,u,.l a0.L,v,w,.s ((bs #[98])++b3.S),y,b1,b2])) else none))) else (some (.ret [o,p,q,r,s,t,u,.l a0.L,v,w,x,y,a8,a9])))) else (some (.ret [o,p,q,r,s,t,u,.l a0.L,v,w,x,y,a2,a3])))))))
def s_l2DrawCopy.d3 (a b c:C):R:=(call3 (s_l1Rd_pick [.i 4,b,c]) fun d e f=>(bif (decide (0≤d.I)) then (bif (decide (d.I<((rows [[.s (bs #[119,101,98])],[.s (bs #[100,98])],[.s (bs #[106,111,98])],[.s (bs #[99,97,99,104,101])]]).length:Int))) then (bif (decide (((((rows [[.s (bs #[119,101,98])],[.s (bs #[100,98])],[.s (bs #[106,111,98])],[.s (bs #[99,97,99,104,101])]]).getD d.I.toNat []).getD 0 .nil).S).size+(bs #[45]).size≤4294967296)) then (call1 (s_l9Dec [a]) fun g=>(bif (decide (((((rows [[.s (bs #[119,101,98])],[.s (bs #[100,98])],[.s (bs #[106,111,98])],[.s (bs #[99,97,99,104,101])]]).getD d.I.toNat []).getD 0 .nil).S++(bs #[45])).size+g.S.size≤4294967296)) then (call3 (s_l1Rd_pick [.i 6,e,f]) fun h i j=>(bif (decide (0≤h.I)) then (bif (decide (h.I<((rows [[.i 1],[.i 1],[.i 5],[.i 5],[.i 9],[.i 50]]).length:Int))) then (call3 (s_l1Rd_pick [.i 30,i,j]) fun k l m=>(call3 (s_l1Rd_pick [.i 7,l,m]) fun n o p=>(call3 (s_l1Rd_pick [.i 8,o,p]) fun q r s=>(call3 (s_l2DrawSelect [r,s]) fun t u v=>(call3 (s_l1Rd_pick [.i 5,u,v]) fun w x y=>(bindBlk 0 (lim (ap28 s_l2DrawCopy.d1) [(((rows [[.s (bs #[119,101,98])],[.s (bs #[100,98])],[.s (bs #[106,111,98])],[.s (bs #[99,97,99,104,101])]]).getD d.I.toNat []).getD 0 .nil),.i (w64 (w.I-2)),x,y,.s (bs #[]),.s (bs #[]),.i 0,.i 0,.i 0,.i 0,.s (bs #[]),.i 0,.s (bs #[]),.s (bs #[]),.s (bs #[]),.s (((((rows [[.s (bs #[119,101,98])],[.s (bs #[100,98])],[.s (bs #[106,111,98])],[.s (bs #[99,97,99,104,101])]]).getD d.I.toNat []).getD 0 .nil).S++(bs #[45]))++g.S),(((rows [[.s (bs #[119,101,98])],[.s (bs #[100,98])],[.s (bs #[106,111,98])],[.s (bs #[99,97,99,104,101])]]).getD d.I.toNat []).getD 0 .nil),(((rows [[.i 1],[.i 1],[.i 5],[.i 5],[.i 9],[.i 50]]).getD h.I.toNat []).getD 0 .nil),k,.i (w64 (1+n.I)),q,t,.i 0,.s (bs #[]),.s (bs #[]),.s (bs #[]),.l nils,.l nils]) (ap27 s_l2DrawCopy.d2))))))) else none) else none)) else none)) else none) else none) else none))
def s_l2DrawCopy:List C→Option (List C):=fun xs=>finR (ap3 s_l2DrawCopy.d3 xs)
def s_l2DrawCopy_fs:FS:=⟨2,⟨[(0,(.pt 2000 0)),(1,zi)],[(2000,z3)]⟩,⟨[(0,z6)],[(2000,z3)]⟩,[2000],s_l2DrawCopy⟩
theorem s_l2DrawCopy_ok:FSOk Tryz.checked.prog T0 133 s_l2DrawCopy_fs:=okOf base0 (fn:=Tryz.f133) (c:=Tryz.f133.body.getD .skip) s_l2DrawCopy_fs (.seq .leaf (.seq .leaf (.seq .leaf (.seq (.seq .leaf (.block ⟨[(0,(.pt 2000 0)),(4,(.pt 4 0)),(5,zt),(6,(.pt 6 0))],[(2000,z3),(4,.var 45 [zt,zt,zi,zi,zi,zi,zt,(.ow 1035300),zi,zt,zt,zt]),(6,.var 45 [zt,zt,zi,zi,zi,zi,zt,(.ow 1035301),zi,zt,zt,zt]),(1035300,.arr 109 1),(1035301,.arr 109 1)]⟩ (.loop ⟨[(0,(.pt 2000 0)),(4,(.pt 4 0)),(5,zt),(6,(.pt 6 0)),(7,zi)],[(2000,z3),(4,.var 45 [zt,zt,zi,zi,zi,zi,zt,(.ow 1035300),zi,zt,zt,zt]),(6,.var 45 [zt,zt,zi,zi,zi,zi,zt,(.ow 1035301),zi,zt,zt,zt]),(1035300,.arr 109 1),(1035301,.arr 109 1)]⟩ .leaf))) (.seq .leaf (.seq .leaf (.frz [1035301] .leaf))))))) [(76,some 10,s_l1Rd_pick_fs),(76,some 21,s_l1Rd_pick_fs),(76,some 25,s_l1Rd_pick_fs),(76,some 27,s_l1Rd_pick_fs),(76,some 30,s_l1Rd_pick_fs),(76,some 35,s_l1Rd_pick_fs),(76,some 46,s_l1Rd_pick_fs),(76,some 53,s_l1Rd_pick_fs),(76,some 65,s_l1Rd_pick_fs),(76,some 72,s_l1Rd_pick_fs),(76,some 75,s_l1Rd_pick_fs),(131,some 16,(s_l9Dec_fs s_l9Dec)),(131,some 76,(s_l9Dec_fs s_l9Dec)),(164,some 32,s_l2DrawSelect_fs),(164,some 44,s_l2DrawSelect_fs)] (.cons s_l1Rd_pick_ok (.cons s_l1Rd_pick_ok (.cons s_l1Rd_pick_ok (.cons s_l1Rd_pick_ok (.cons s_l1Rd_pick_ok (.cons s_l1Rd_pick_ok (.cons s_l1Rd_pick_ok (.cons s_l1Rd_pick_ok (.cons s_l1Rd_pick_ok (.cons s_l1Rd_pick_ok (.cons s_l1Rd_pick_ok (.cons s_l9Dec_ok (.cons s_l9Dec_ok (.cons s_l2DrawSelect_ok (.cons s_l2DrawSelect_ok .nil))))))))))))))) (by kernel_rfl) (by kernel_rfl) (by kernel_rfl) (fun xs=>by kernel_rfl)
end
end Go.Ev
