/- Proved here: the law FnPilotAgeCard of the given program answers true at every input, and leaves the input as it was; no condition. This text: lemmas on the way (an evaluator of the program's code, sound once for all; the functions it prints; plain proofs on these). -/
import Derived.Test.YtkbmkhncjganfaaGreatDoorP1
import Derived.LoopN
import Derived.ScopeJumps
import Derived.ChangeArms
import Derived.WalkKit
import Derived.ProofKit
import Derived.OpenShut
import Derived.ShutString
import Derived.ChangeOld
import Derived.Below
import Derived.SizedLaws
import Derived.Test.YtkbmkhncjganfaaGreatDoorChecked
import Derived.Lib.Strings
import Derived.Lib.Slices
import Derived.Lib.Walk
import Derived.Lib.Bytealg
import Derived.Sort.Grow
import Derived.Sort.Row
import Derived.Shelf.SlSortCmp.InsertionK
import Derived.Deep.Draws
import Derived.Shelf.Lays
import Derived.Shelf.Small.Strs
import Derived.Shelf.SlLaysF0
import Derived.Shelf.SlSortCmp.WholeK
import Derived.Shelf.SlSortCmp.NoneTotal
set_option linter.all false
set_option autoImplicit false
namespace Go.Ev
theorem j9 {ρ ρ':bS}:∀ {l:List Operand},(∀x,x∈l→bL ρ x=bL ρ' x)→iq ρ l=iq ρ' l
 |[],_=>rfl
 |x::r,h=>by
  show bL ρ x::iq ρ r=bL ρ' x::iq ρ' r
  rw[h x (List.mem_cons_self ..),j9 fun y hy=>h y (List.mem_cons_of_mem _ hy)]
theorem uc {T:Tys} {fs:List (Nat×TypeId)} {ρ ρ':bS}:∀ {ps:List (Nat×Operand)} {cs:List V},(∀x,x∈ps.map (·.2)→bL ρ x=bL ρ' x)→uH T fs ρ ps cs=uH T fs ρ' ps cs
 |[],cs,_=>rfl
 |(i,x)::r,cs,h=>by
  have e:=h x (by simp)
  simp only[uH,e]
  split
  ·split
   ·rw[uc fun y hy=>h y (by simp at hy⊢;exact .inr hy)]
   ·rfl
  ·rfl
theorem ue {ρ ρ':bS}:∀ {ps:List (Nat×Operand)},(∀x,x∈ps.map (·.2)→bL ρ x=bL ρ' x)→uy ρ ps=uy ρ' ps
 |[],h=>rfl
 |(i,x)::r,h=>by
  simp only[uy]
  rw[h x (by simp),ue fun y hy=>h y (by simp at hy⊢;exact .inr hy)]
theorem CE (K:List KE) {ρ ρ':bS} {x:Operand} (h:bL ρ x=bL ρ' x):bL (sL K ρ) x=bL (sL K ρ') x:=by
 cases x with
 |tmp d=>
  show sL K ρ d=sL K ρ' d
  rw[qc,qc]
  exact congrArg _ h
 |const v=>rfl
 |func f=>rfl
 |global g=>rfl
theorem uj {cts:List CT} {ρ ρ':bS}:∀ {ps:List (Nat×Operand)} {es:List (List C)},(∀x,x∈ps.map (·.2)→bL ρ x=bL ρ' x)→qH cts ρ ps es=qH cts ρ' ps es
 |[],es,_=>rfl
 |(i,x)::r,es,h=>by
  have e:=h x (by simp)
  simp only[qH,e]
  split
  ·rw[uj fun y hy=>h y (by simp at hy⊢;exact .inr hy)]
  ·rfl
theorem zp (X:Cx) (dst:Option Tmp) {ρ ρ':bS} (op:Op) (h:∀x,x∈op.operands.toList→bL ρ x=bL ρ' x):evalOp X dst ρ op=evalOp X dst ρ' op:=by
 cases op with
 |pick c a b=>
  simp only[Op.operands] at h
  simp only[evalOp]
  rw[h c (by simp),h a (by simp),h b (by simp)]
 |build t ps=>
  simp only[Op.operands] at h
  simp only[evalOp,tF]
  congr 1;funext d
  split
  ·congr 1;funext _
   rw[uc fun x hx=>h x (by simpa using hx)]
  ·rfl
 |buildSlice t n ps=>
  simp only[Op.operands] at h
  simp only[evalOp,iS]
  congr 1;funext d
  congr 1;funext d
  rw[ue fun x hx=>h x (by simpa using hx)]
  congr 1;funext q
  congr 1;funext K
  rw[uj fun x hx=>CE K (h x (by simpa using hx))]
 |makeFunc fn first caps=>
  simp only[Op.operands] at h
  cases fn with
  |func f=>
   simp only[evalOp]
   rw[j9 fun x hx=>h x (by simp at hx⊢;exact .inr hx)]
  |_=>rfl
 |slice t x lo hi mx=>
  simp only[Op.operands] at h
  simp only[evalOp]
  have e1:=h x (by simp)
  have e2:vZ ρ lo=vZ ρ' lo:=by
   cases lo with
   |none=>rfl
   |some y=>show some _=some _;rw[h y (by simp)]
  have e3:vZ ρ hi=vZ ρ' hi:=by
   cases hi with
   |none=>rfl
   |some y=>show some _=some _;rw[h y (by simp)]
  rw[e1,e2,e3]
 |call c=>
  obtain ⟨callee,args,argTypes⟩:=c
  simp only[Op.operands,Call.operands] at h
  cases callee with
  |value f=>
   simp only[evalOp,ke]
   rw[h f (by simp),j9 (l:=args.toList) fun x hx=>h x (by simp at hx⊢;exact .inr hx)]
  |invoke _ _=>rfl
  |builtin b=>
   have ha:∀x,x∈args.toList→bL ρ x=bL ρ' x:=fun x hx=>h x (by simpa using hx)
   simp only[evalOp,ke]
   cases b with
   |len=>
    simp only
    rcases hx:args.toList with _|⟨x,_|⟨y,l⟩⟩
    ·rfl
    ·have e1:=ha x (by simp[hx])
     rcases argTypes.toList with _|⟨t,_|⟨t',l'⟩⟩
     ·rfl
     ·show B2 X.T t (bL ρ x)=B2 X.T t (bL ρ' x)
      rw[e1]
     ·rfl
    ·rfl
   |clear=>
    simp only
    rcases hx:args.toList with _|⟨x,_|⟨y,l⟩⟩
    ·rfl
    ·have e1:=ha x (by simp[hx])
     rcases argTypes.toList with _|⟨t,_|⟨t',l'⟩⟩
     ·rfl
     ·show tI X.T t (bL ρ x)=tI X.T t (bL ρ' x)
      rw[e1]
     ·rfl
    ·rfl
   |append=>
    simp only
    rcases hx:args.toList with _|⟨x,_|⟨y,_|⟨z,l⟩⟩⟩
    ·rfl
    ·rfl
    ·have e1:=ha x (by simp[hx])
     have e2:=ha y (by simp[hx])
     rcases argTypes.toList with _|⟨t,_|⟨t',_|⟨t'',l'⟩⟩⟩
     ·rfl
     ·rfl
     ·show (do aU (Nat.beq t t');C2 X t (lM dst) (bL ρ x) (bL ρ y):M Eff)=(do aU (Nat.beq t t');C2 X t (lM dst) (bL ρ' x) (bL ρ' y):M Eff)
      rw[e1,e2]
     ·rfl
    ·rfl
   |min=>simp only;rw[j9 ha]
   |max=>simp only;rw[j9 ha]
   |_=>rfl
 |unOp op t x=>
  simp only[Op.operands] at h
  simp only[evalOp]
  rw[h x (by simp)]
 |extract x i=>
  simp only[Op.operands] at h
  simp only[evalOp]
  rw[h x (by simp)]
 |alloc t=>rfl
 |box t x=>simp only[Op.operands] at h;simp only[evalOp];rw[h x (by simp)]
 |move x=>simp only[Op.operands] at h;simp only[evalOp];rw[h x (by simp)]
 |assign x=>simp only[Op.operands] at h;simp only[evalOp];rw[h x (by simp)]
 |load t x=>simp only[Op.operands] at h;simp only[evalOp];rw[h x (by simp)]
 |store t x y=>simp only[Op.operands] at h;simp only[evalOp];rw[h x (by simp),h y (by simp)]
 |nilCheck x=>simp only[Op.operands] at h;simp only[evalOp];rw[h x (by simp)]
 |binOp op t x y e=>simp only[Op.operands] at h;simp only[evalOp];rw[h x (by simp),h y (by simp)]
 |convert s d x=>simp only[Op.operands] at h;simp only[evalOp];rw[h x (by simp)]
 |makeSlice t x y=>simp only[Op.operands] at h;simp only[evalOp];rw[h x (by simp),h y (by simp)]
 |fieldAddr s x f=>simp only[Op.operands] at h;simp only[evalOp];rw[h x (by simp)]
 |field s x f=>simp only[Op.operands] at h;simp only[evalOp];rw[h x (by simp)]
 |indexAddr t x y=>simp only[Op.operands] at h;simp only[evalOp];rw[h x (by simp),h y (by simp)]
 |index t x y=>simp only[Op.operands] at h;simp only[evalOp];rw[h x (by simp),h y (by simp)]
 |makeMap t c=>cases c<;>rfl
 |lookup t x y ok=>simp only[Op.operands] at h;simp only[evalOp];rw[h x (by simp),h y (by simp)]
 |mapUpdate t x y z=>simp only[Op.operands] at h;simp only[evalOp];rw[h x (by simp),h y (by simp),h z (by simp)]
 |_=>rfl
theorem zN (X:Cx) (dst:Option Tmp) (ρ:bS) (c:Call):Loc (ke X dst ρ c):=by
 unfold ke
 split
 ·split
  ·exact Hn _ _ _
  ·exact Loc.fail
 ·split
  ·exact Loc.bind (Loc.aU _) fun _=>Hf _ _ _ _ _
  ·exact Loc.fail
 ·split
  ·unfold tI
   refine Loc.bind (Loc.opt _) fun _=>Loc.bind (Loc.opt _) fun _=>?_
   split
   ·refine Loc.bind (Loc.bG _) fun _=>?_
    split
    ·exact Loc.bind (Loc.aU _) fun _=>Loc.ret _
    ·exact Loc.fail
   ·exact Loc.fail
  ·exact Loc.fail
 ·split
  ·exact Co _ _ _
  ·exact Loc.fail
 ·split
  ·exact Co _ _ _
  ·exact Loc.fail
 ·split
  ·exact Loc.bind (Loc.opt _) fun _=>ER _ _ _ _ _
  ·exact Loc.fail
 ·exact Loc.fail
theorem xC (X:Cx) (dst:Option Tmp) (ρ:bS) (op:Op):Loc (evalOp X dst ρ op):=by
 cases op with
 |pick c a b=>
  simp only[evalOp]
  split
  ·exact E9 _ _ _
  ·exact Loc.fail
 |build t ps=>exact EH _ _ _ _
 |buildSlice t n ps=>exact xI _ _ _ _ _ _
 |load t x=>exact Loc.bind (yp _ _) fun _=>I9 _ _ _
 |store t x y=>exact HQ _ _ _ _
 |nilCheck x=>exact zd _ _
 |binOp op t x y e=>
  simp only[evalOp]
  unfold E8
  split
  ·unfold Ht
   refine Loc.bind (Loc.aU _) fun _=>Loc.bind (Loc.opt _) fun _=>Loc.bind (Loc.opt _) fun _=>?_
   split
   ·exact Loc.rv _
   ·exact Loc.rv _
   ·exact Loc.fail
  ·exact HG _ _ _ _ _
 |unOp op t x=>simp only[evalOp];repeat (first|exact Loc.rv _|exact Loc.ret _|exact Loc.fail|exact Loc.opt _|exact Loc.chk _|exact Loc.aU _|exact Loc.bG _|exact Loc.cY _|exact Loc.pure _|refine Loc.bind ?_ (fun _=>?_)|split)
 |convert s d x=>exact FM _ _ _ _
 |makeFunc fn first caps=>cases fn<;>first|exact Loc.fail|exact Loc.bind (Loc.aU _) fun _=>Loc.rv _
 |makeSlice t x y=>exact Fc _ _ _ _ _
 |slice t x lo hi mx=>exact Loc.bind (Loc.aU _) fun _=>EP _ _ _ _ _
 |fieldAddr s x f=>exact Loc.bind (yp _ _) fun _=>ya _ _ _ _
 |field s x f=>exact Ew _ _ _ _
 |indexAddr t x y=>exact xP _ _ _ _
 |index t x y=>exact E5 _ _ _ _
 |makeMap t c=>
  cases c with
  |some c=>exact Loc.fail
  |none=>exact Loc.bind (Loc.opt _) fun _=>Loc.bind (Loc.opt _) fun _=>Loc.bind (Loc.opt _) fun _=>Loc.bind (Loc.cY _) fun _=>Loc.ret _
 |lookup t x y ok=>
  simp only[evalOp]
  unfold vC
  split
  ·refine Loc.bind (Loc.opt _) fun _=>Loc.bind (Loc.opt _) fun _=>Loc.bind (Loc.opt _) fun _=>Loc.bind (Loc.bG _) fun _=>?_
   split
   ·exact Loc.bind (Loc.aU _) fun _=>Loc.rv _
   ·exact Loc.fail
  ·exact Loc.fail
 |mapUpdate t x y z=>
  simp only[evalOp]
  unfold nU
  split
  ·refine Loc.bind (Loc.opt _) fun _=>Loc.bind (Loc.opt _) fun _=>Loc.bind (Loc.opt _) fun _=>Loc.bind (Loc.bG _) fun _=>?_
   split
   ·exact Loc.bind (Loc.aU _) fun _=>Loc.ret _
   ·exact Loc.fail
  ·exact Loc.fail
 |extract x i=>
  simp only[evalOp]
  split
  ·exact Loc.bind (Loc.opt _) fun _=>Loc.rv _
  ·exact Loc.fail
 |call c=>exact zN _ _ _ _
 |alloc t=>exact Loc.bind (Loc.opt _) fun _=>Loc.bind (Loc.cY _) fun _=>Loc.ret _
 |box t x=>exact Loc.bind (Loc.opt _) fun _=>Loc.bind (Loc.cY _) fun _=>Loc.bind (Loc.aU _) fun _=>Loc.bind (Loc.aU _) fun _=>Loc.ret _
 |move x=>exact Loc.rv _
 |assign x=>exact Loc.rv _
 |_=>exact Loc.fail
end Go.Ev
namespace Go.Ev
inductive mV (X:Cx) (ops:List Oper) (o:Oper) (σ:St) (v:V) (up:List (Nat×Box)) (lg:Lg):Prop
 |plain (e:Eff) (rd:List Nat) (hg:guardOf ops o=none) (h:∀k,evalOp X o.dst σ.sl o.op σ.bx k=k e rd) (hv:v=nf e.v) (hu:up=e.up) (hl:lg=⟨rd,bM e.up⟩)
 |yes (gd:Nat) (want:Bool) (e:Eff) (rd:List Nat) (hg:guardOf ops o=some (some gd,want)) (hs:σ.sl gd=.c .bool (.b want)) (h:∀k,evalOp X o.dst σ.sl o.op σ.bx k=k e rd) (hv:v=nf e.v) (hu:up=e.up) (hl:lg=⟨rd,bM e.up⟩)
 |no (gd:Nat) (want:Bool) (hg:guardOf ops o=some (some gd,want)) (hs:σ.sl gd=.c .bool (.b (!want))∨σ.sl gd=.ud) (hv:v=.ud) (hu:up=[]) (hl:lg=⟨[],[]⟩)
def St.step (σ:St) (o:Oper) (v:V) (up:List (Nat×Box)):St:=⟨su σ.sl o.dst v,dC σ.bx up⟩
theorem wQ {X:Cx} {dst:Option Tmp} {ρ:bS} {op:Op} {bx:Bxs} {k:Eff→List Nat→R} {r:Out} (h:evalOp X dst ρ op bx k=some r):
  ∃e rd,k e rd=some r∧∀k',evalOp X dst ρ op bx k'=k' e rd:=by
 obtain ⟨e,rd,h1,h2⟩:=xC X dst ρ op bx k r h
 exact ⟨e,rd,h1,fun k'=>h2 bx (fun _ _=>rfl) k'⟩
theorem mV.wr {X:Cx} {ops:List Oper} {o:Oper} {σ:St} {v:V} {up:List (Nat×Box)} {lg:Lg} (h:mV X ops o σ v up lg):lg.wr=bM up:=by
 cases h with
 |plain e rd hg h hv hu hl=>rw[hl,hu]
 |yes gd want e rd hg hs h hv hu hl=>rw[hl,hu]
 |no gd want hg hs hv hu hl=>rw[hl,hu];rfl
theorem zx {l:List Operand} {t:Nat} (h:Operand.tmp t∈l):t∈pO l:=by
 induction l with
 |nil=>simp at h
 |cons x r ih=>
  cases h with
  |head=>exact List.mem_cons_self ..
  |tail _ h=>
   have:=ih h
   cases x<;>simp only[pO]<;>first|exact List.mem_cons_of_mem _ this|exact this
theorem mV.at {X:Cx} {ops:List Oper} {o:Oper} {σ σ2:St} {v:V} {up:List (Nat×Box)} {lg:Lg} (h:mV X ops o σ v up lg) (hs:∀d,d∈looks ops o→σ2.sl d=σ.sl d) (hb:∀b,b∈lg.rd→σ2.bx b=σ.bx b):
  mV X ops o σ2 v up lg:=by
 have hev:∀(e:Eff) (rd:List Nat),lg=⟨rd,bM e.up⟩→(∀k,evalOp X o.dst σ.sl o.op σ.bx k=k e rd)→∀k,evalOp X o.dst σ2.sl o.op σ2.bx k=k e rd:=by
  intro e rd hl h k
  have hc:evalOp X o.dst σ2.sl o.op=evalOp X o.dst σ.sl o.op:=zp X o.dst o.op fun x hx=>by
   cases x with
   |tmp t=>exact hs t (by unfold looks;rw[fq];exact List.mem_append_left _ (zx hx))
   |_=>rfl
  rw[hc]
  have h1:=h fun e' rd'=>some (.ret [])
  obtain ⟨e2,rd2,g1,g2⟩:=xC X o.dst σ.sl o.op σ.bx _ _ h1
  have h3:∀k:Eff→List Nat→R,k e rd=k e2 rd2:=fun k=>by rw[←h k,g2 σ.bx (fun _ _=>rfl) k]
  have hbx:∀b,b∈rd2→σ2.bx b=σ.bx b:=by
   have key:rd=rd2:=by
    open Classical in
    have:=h3 fun _ l=>if l=rd2 then some (.ret []) else none
    simp only[if_true] at this
    by_cases hh:rd=rd2
    ·exact hh
    ·rw[if_neg hh] at this;simp at this
   intro b hb'
   rw[←key] at hb'
   exact hb b (by rw[hl];exact hb')
  rw[g2 σ2.bx hbx k,h3 k]
 have hgd:∀gd want,guardOf ops o=some (some gd,want)→σ2.sl gd=σ.sl gd:=fun gd want hg=>hs gd (by unfold looks;rw[hg,fq];exact List.mem_append_right _ (List.mem_cons_self ..))
 cases h with
 |plain e rd hg h hv hu hl=>exact .plain e rd hg (hev e rd hl h) hv hu hl
 |yes gd want e rd hg hs' h hv hu hl=>exact .yes gd want e rd hg (by rw[hgd gd want hg];exact hs') (hev e rd hl h) hv hu hl
 |no gd want hg hs' hv hu hl=>exact .no gd want hg (by rw[hgd gd want hg];exact hs') hv hu hl
theorem pv {a b:List Nat} (h:meets a b=false):∀x,x∈a→¬x∈b:=by
 induction a with
 |nil=>intro x hx;simp at hx
 |cons y r ih=>
  simp only[meets,jQ,Bool.or_eq_false_iff] at h
  intro x hx hb
  rcases List.mem_cons.1 hx with rfl|hx
  ·rw[(cE _ _).2 hb] at h;simp at h
  ·exact ih h.2 x hx hb
theorem zQ {f:bS} {d:Option Tmp} {v:V} {k:Nat} (h:d≠some k):su f d v k=f k:=by
 cases d with
 |none=>rfl
 |some d=>exact aO _ _ (fun e=>h (by rw[e]))
theorem EX {f:bS} {d d':Option Tmp} {v v':V} (h:∀k,d=some k→d'≠some k):su (su f d v) d' v'=su (su f d' v') d v:=by
 funext k
 cases d with
 |none=>rfl
 |some d=>cases d' with
  |none=>rfl
  |some d'=>
   have hne:d≠d':=fun e=>h d rfl (by rw[e])
   show upd (upd f d v) d' v' k=upd (upd f d' v') d v k
   simp only[qb]
   split
   ·rename_i e;subst e;rw[if_neg (Ne.symm hne)]
   ·rfl
theorem BU:∀ {l:List (Nat×Box)} {f f':Bxs} {b:Nat},f b=f' b→dC f l b=dC f' l b
 |[],f,f',b,h=>h
 |(c,x)::r,f,f',b,h=>by
  show dC (upd f c (some x)) r b=dC (upd f' c (some x)) r b
  refine BU ?_
  simp only[qb]
  split<;>first|rfl|exact h
theorem tn:∀ {l:List (Nat×Box)} {f f':Bxs} {b:Nat},b∈bM l→dC f l b=dC f' l b
 |[],f,f',b,h=>by simp[bM] at h
 |(c,x)::r,f,f',b,h=>by
  show dC (upd f c (some x)) r b=dC (upd f' c (some x)) r b
  by_cases hb:b∈bM r
  ·exact tn hb
  ·have:b=c:=by
    simp only[bM,List.mem_cons] at h
    exact h.resolve_right hb
   subst this
   exact BU (by simp only[al])
theorem EW {f:Bxs} {l m:List (Nat×Box)} (h:∀b,b∈bM l→¬b∈bM m):dC (dC f l) m=dC (dC f m) l:=by
 funext b
 by_cases h1:b∈bM l
 ·rw[gG (h b h1)]
  exact tn h1
 ·by_cases h2:b∈bM m
  ·rw[gG (l:=l) h1]
   exact tn h2
  ·rw[gG h2,gG h1,gG h1,gG h2]
theorem BJ {ops:List Oper} {x y:Oper} (h:ov ops x y=true):(∀d,x.dst=some d→¬d∈looks ops y)∧(∀d,x.dst=some d→y.dst≠some d)∧∀d,y.dst=some d→¬d∈looks ops x:=by
 have nm:∀ {l:List Nat} {d:Nat},dM (cR l d)=true→¬d∈l:=fun h hm=>by rw[(cE _ _).2 hm] at h;simp[dM] at h
 unfold ov at h
 simp only[ak,Bool.and_eq_true] at h
 refine ⟨fun d hd=>?_,fun d hd=>?_,fun d hd=>?_⟩
 ·have h1:=h.1
  rw[hd] at h1
  simp only[Bool.and_eq_true] at h1
  exact nm h1.1
 ·have h1:=h.1
  rw[hd] at h1
  simp only[Bool.and_eq_true] at h1
  intro hy
  have h2:=h1.2
  rw[hy] at h2
  simp only[Nat.beq_refl,dM] at h2
  simp at h2
 ·have h1:=h.2
  rw[hd] at h1
  exact nm h1
theorem swap {X:Cx} {ops:List Oper} {q o:Oper} {σ:St} {vq vo:V} {uq uo:List (Nat×Box)} {h g:Lg} (h1:mV X ops q σ vq uq h) (h2:mV X ops o (σ.step q vq uq) vo uo g) (ha:ov ops q o=true) (hc:Lg.ua h g=false):
  mV X ops o σ vo uo g∧mV X ops q (σ.step o vo uo) vq uq h∧(σ.step o vo uo).step q vq uq=(σ.step q vq uq).step o vo uo:=by
 obtain ⟨a1,a2,a3⟩:=BJ ha
 simp only[Lg.ua,jQ,Bool.or_eq_false_iff] at hc
 obtain ⟨c1,c2,c3⟩:=hc
 have c1:=pv c1
 have c2:=pv c2
 have c3:=pv c3
 rw[h1.wr] at c1 c2
 rw[h2.wr] at c2 c3
 refine ⟨h2.at (fun d hd=>?_) (fun b hb=>?_),h1.at (fun d hd=>?_) (fun b hb=>?_),?_⟩
 ·exact (zQ (fun e=>a1 d e hd)).symm
 ·exact (gG (fun e=>c1 b e hb)).symm
 ·exact zQ (fun e=>a3 d e hd)
 ·exact gG (fun e=>c3 b e hb)
 ·unfold St.step
  rw[EX a2,EW c2]
inductive ub (X:Cx) (ops:List Oper):St→List (Nat×Oper×Lg)→St→Prop
 |nil (σ:St):ub X ops σ [] σ
 |cons {σ σ':St} {i:Nat} {o:Oper} {lg:Lg} {v:V} {up:List (Nat×Box)} {L:List (Nat×Oper×Lg)} (hd:yK X.n o.dst=true) (h:mV X ops o σ v up lg) (hr:ub X ops (σ.step o v up) L σ'):ub X ops σ ((i,o,lg)::L) σ'
theorem Gr {X:Cx} {ops:List Oper} {i:Nat} {o:Oper} {g:Lg} {post:List (Nat×Oper×Lg)} {σ':St}:∀(pre:List (Nat×Oper×Lg)) (σ:St),ub X ops σ (pre++(i,o,g)::post) σ'→
  (∀j q h,(j,q,h)∈pre→ov ops q o=true∧Lg.ua h g=false)→ub X ops σ ((i,o,g)::(pre++post)) σ'
 |[],σ,hc,_=>hc
 |(j,q,h)::pre,σ,hc,ha=>by
  cases hc with
  |cons hd hs hr=>
   have hb:=Gr pre _ hr fun j q h hm=>ha j q h (List.mem_cons_of_mem _ hm)
   obtain ⟨x1,x2⟩:=ha j q h (List.mem_cons_self ..)
   cases hb with
   |cons hd2 hs2 hr2=>
    obtain ⟨s1,s2,s3⟩:=swap hs hs2 x1 x2
    refine .cons hd2 s1 (.cons hd s2 ?_)
    rw[s3]
    exact hr2
end Go.Ev
namespace Go.Ev
theorem yO {ops:List Oper} {an:List Nat} {o:Oper} {g:Lg}:∀ {l:List (Oper×Lg)} {j0:Nat},mj ops an o g l j0=true→∀(j:Nat) (q:Oper) (h:Lg),l[j]?=some (q,h)→cR an (j0+j)=true∨(ov ops q o=true∧Lg.ua h g=false)
 |[],j0,_,j,q,h,hj=>by simp at hj
 |(q',h')::r,j0,hl,j,q,h,hj=>by
  simp only[mj,ak,jQ,cN,Bool.and_eq_true,Bool.or_eq_true,Bool.not_eq_true'] at hl
  cases j with
  |zero=>simp at hj;obtain ⟨rfl,rfl⟩:=hj;exact hl.1
  |succ j=>
   have:=yO hl.2 j q h (by simpa using hj)
   rw[show j0+(j+1)=j0+1+j from by omega]
   exact this
def Ao (n:Nat) (ops:List Oper) (σ:St):Prop:=∀j q d x,j<n→ops[j]?=some q→q.dst=some d→σ.sl d=.c .bool x→∃v,x=.b v
theorem zI {v:V} {x:C} (h:nf v=.c .bool x):∃b,x=.b b:=by
 cases v with
 |c t y=>cases t with
  |bool=>
   simp only[nf,V.c.injEq,true_and] at h
   exact ⟨_,h.symm⟩
  |_=>simp[nf] at h
 |_=>simp[nf] at h
theorem Ao.step {n:Nat} {ops:List Oper} {σ:St} {o:Oper} {v:V} {up:List (Nat×Box)} (h:Ao n ops σ) (ho:ops[n]?=some o) (hv:∀x,v=.c .bool x→∃b,x=.b b):Ao (n+1) ops (σ.step o v up):=by
 intro j q d x hj hq hd hx
 by_cases he:o.dst=some d
 ·have:(σ.step o v up).sl d=v:=by show su σ.sl o.dst v d=v;rw[he];exact al _ _ _
  rw[this] at hx
  exact hv x hx
 ·have:(σ.step o v up).sl d=σ.sl d:=zQ he
  rw[this] at hx
  have hjn:j≠n:=by
   rintro rfl
   rw[ho] at hq
   obtain rfl:=Option.some.inj hq
   exact he hd
  exact h j q d x (by omega) hq hd hx
theorem AV {f:bS} {d:Nat} {v:V} (h:f d=v):upd f d v=f:=by
 funext k
 rw[qb]
 split
 ·rename_i e;rw[e,h]
 ·rfl
structure Run (X:Cx) (draw:Bool) (ops:List Oper) (an:List (List Nat)) (κ:St→R) (r:Out) (rem:List Oper) (lg:List (Oper×Lg)) (σ:St):Prop where
 ex:∃(L:List (Nat×Oper×Lg)) (σ':St),ub X ops σ L σ'∧κ σ'=some r∧L.map (fun p=>(p.1,p.2.1))=(rem.zipIdx lg.length).map (fun p=>(p.2,p.1))∧
  (draw=true→∀(p:Nat) (i:Nat) (o:Oper) (g:Lg),L[p]?=some (i,o,g)→∀(j:Nat) (q:Oper) (h:Lg),(lg++L.map (·.2))[j]?=some (q,h)→j<lg.length+p→cR (nth [] an i) j=true∨(ov ops q o=true∧Lg.ua h g=false))
theorem rU {X:Cx} {draw:Bool} {ops:List Oper} {an:List (List Nat)} {κ:St→R} {r:Out}:∀(rem:List Oper) (lg:List (Oper×Lg)) (σ:St),(∀(i:Nat) (o:Oper),rem[i]?=some o→ops[lg.length+i]?=some o)→Ao lg.length ops σ→
  js X draw ops an κ rem lg σ=some r→Run X draw ops an κ r rem lg σ
 |[],lg,σ,_,_,h=>⟨[],σ,.nil σ,h,rfl,fun _ p i o g hp=>by simp at hp⟩
 |o::rem,lg,σ,hrem,hpr,h=>by
  have ho:ops[lg.length]?=some o:=hrem 0 o rfl
  cases hd:ax (yK X.n o.dst) (zL (len lg) o) with
  |false=>
   simp only[js,hd,sif] at h
   simp at h
  |true=>
  have hd':=hd
  simp only[ak,Bool.and_eq_true,dg] at hd'
  have key:∀(v:V) (up:List (Nat×Box)) (g:Lg),mV X ops o σ v up g→(∀x,v=.c .bool x→∃b,x=.b b)→orS (dM draw) (mj ops (nth [] an (len lg)) o g lg 0)=true→
    js X draw ops an κ rem (app lg [(o,g)]) (σ.step o v up)=some r→Run X draw ops an κ r (o::rem) lg σ:=by
   intro v up g hs hv hlog hrun
   rw[fq] at hrun
   have hlen:(lg++[(o,g)]).length=lg.length+1:=by simp
   obtain ⟨⟨L,σ',c1,c2,c3,c4⟩⟩:=rU rem (lg++[(o,g)]) (σ.step o v up) (fun i q hq=>by
    rw[hlen,show lg.length+1+i=lg.length+(i+1) from by omega]
    exact hrem (i+1) q (by simpa using hq)) (by rw[hlen];exact hpr.step ho hv) hrun
   refine ⟨(lg.length,o,g)::L,σ',.cons hd'.1 hs c1,c2,?_,fun hdr p i q' g' hp j q h hj hjl=>?_⟩
   ·rw[hlen] at c3
    simp[List.zipIdx_cons,c3]
   ·cases p with
    |zero=>
     simp only[List.getElem?_cons_zero,Option.some.injEq,Prod.mk.injEq] at hp
     obtain ⟨rfl,rfl,rfl⟩:=hp
     rw[hdr] at hlog
     simp only[jQ,cN,Bool.not_true,Bool.false_or,dg] at hlog
     rw[List.getElem?_append_left (by omega)] at hj
     have:=yO hlog j q h hj
     simpa using this
    |succ p=>
     have e:lg++((lg.length,o,g)::L).map (·.2)=lg++[(o,g)]++L.map (·.2):=by simp
     rw[e] at hj
     exact c4 hdr p i q' g' (by simpa using hp) j q h hj (by rw[hlen];omega)
  simp only[js,hd,af] at h
  have fin:∀(e:Eff) (rd:List Nat) (ρ:bS),ρ=σ.sl→(∀k,evalOp X o.dst σ.sl o.op σ.bx k=k e rd)→mV X ops o σ (nf e.v) e.up ⟨rd,bM e.up⟩→
    (sif (orS (dM draw) (mj ops (nth [] an (len lg)) o ⟨rd,bM e.up⟩ lg 0))
     (e.v.force fun v=>tQ e.up fun up=>js X draw ops an κ rem (app lg [(o,⟨rd,bM e.up⟩)]) (Ak ⟨ρ,σ.bx⟩ o.dst ⟨nf v,up⟩)) none)=some r→Run X draw ops an κ r (o::rem) lg σ:=by
   intro e rd ρ hρ hall hs h
   cases hl:orS (dM draw) (mj ops (nth [] an (len lg)) o ⟨rd,bM e.up⟩ lg 0) with
   |false=>simp[hl,sif] at h
   |true=>
    rw[hl,af,force_eq,ym] at h
    subst hρ
    exact key _ _ _ hs (fun x hx=>zI hx) hl h
  split at h
  ·rename_i hg
   obtain ⟨e,rd,h1,h2⟩:=wQ h
   exact fin e rd σ.sl rfl h2 (.plain e rd hg h2 rfl rfl rfl) h1
  ·rename_i gd want hg
   have hprop:∀x,σ.sl gd=.c .bool x→∃v,x=.b v:=by
    intro x hx
    unfold guardOf at hg
    split at hg
    ·simp at hg
    ·rename_i gi want' hgu
     simp only[Option.some.injEq,Prod.mk.injEq] at hg
     obtain ⟨hq,rfl⟩:=hg
     have hlt:gi<lg.length:=by
      have:=hd'.2
      simp only[zL,hgu] at this
      simp[Nat.blt] at this
      omega
     rw[mo] at hq
     split at hq
     ·rename_i q hqq
      exact hpr gi q gd x hlt hqq hq hx
     ·simp at hq
   split at h
   ·rename_i x hx
    obtain ⟨v,rfl⟩:=hprop x hx
    have hcond:(sif want v (!v))=(v==want):=by cases want<;>cases v<;>rfl
    replace h:cond (sif want v (!v))
     (evalOp X o.dst (upd σ.sl gd (.c .bool (.b want))) o.op σ.bx fun e rd=>
      sif (orS (dM draw) (mj ops (nth [] an (len lg)) o ⟨rd,bM e.up⟩ lg 0))
       (e.v.force fun v=>tQ e.up fun up=>js X draw ops an κ rem (app lg [(o,⟨rd,bM e.up⟩)]) (Ak ⟨upd σ.sl gd (.c .bool (.b want)),σ.bx⟩ o.dst ⟨nf v,up⟩)) none)
     (sif (orS (dM draw) (mj ops (nth [] an (len lg)) o ⟨[],[]⟩ lg 0))
      (js X draw ops an κ rem (app lg [(o,⟨[],[]⟩)]) ⟨su (upd σ.sl gd (.c .bool (.b (dM want)))) o.dst .ud,σ.bx⟩) none)=some r:=h
    rw[hcond] at h
    by_cases hvw:v=want
    ·subst hvw
     rw[show (v==v)=true from beq_self_eq_true v] at h
     simp only[cond_true] at h
     rw[AV hx] at h
     obtain ⟨e,rd,h1,h2⟩:=wQ h
     exact fin e rd σ.sl rfl h2 (.yes gd v e rd hg hx h2 rfl rfl rfl) h1
    ·rw[show (v==want)=false from by simpa using hvw] at h
     simp only[cond_false] at h
     have hv':v=!want:=by cases v<;>cases want<;>simp_all
     rw[cN want,←hv',AV hx] at h
     cases hl:orS (dM draw) (mj ops (nth [] an (len lg)) o ⟨[],[]⟩ lg 0) with
     |false=>simp[hl,sif] at h
     |true=>
      rw[hl,af] at h
      exact key .ud [] ⟨[],[]⟩ (.no gd want hg (.inl (by rw[hx,hv'])) rfl rfl rfl) (fun x hx=>by simp at hx) hl h
   ·rename_i hx
    cases hl:orS (dM draw) (mj ops (nth [] an (len lg)) o ⟨[],[]⟩ lg 0) with
    |false=>simp[hl,sif] at h
    |true=>
     rw[hl,af] at h
     exact key .ud [] ⟨[],[]⟩ (.no gd want hg (.inr hx) rfl rfl rfl) (fun x hx=>by simp at hx) hl h
   ·simp at h
  ·simp at h
section
variable {P:Program} {X:Cx} {fr:Fr}
theorem GJ {T:Tys} {F:Nat→Prop} {w:World} {bx:Bxs} {θ:Nat→Value} {x:V} {v:Value} (h:ah T F w bx θ x v):ah T F w bx θ (nf x) v:=by
 cases x with
 |c t y=>cases t with
  |bool=>
   cases h with
   |c t y v hr=>cases hr with
    |bool b=>exact .c _ _ _ (.bool b)
  |_=>exact h
 |_=>exact h
theorem Fi {a:Act} {dst:Option Tmp} {v:Value} {n:Nat} (hn:a.tmps.size=n) (hd:yK n dst=true) (k:Nat):(a.put dst v).tmps.getD k undef=if dst=some k then v else a.tmps.getD k undef:=by
 cases dst with
 |none=>simp[Act.put]
 |some d=>
  have hlt:d<a.tmps.size:=by rw[hn];exact Nat.le_of_ble_eq_true hd
  simp only[Act.put,Array.getD_eq_getD_getElem?,Option.some.injEq]
  rw[Array.getElem?_setIfInBounds]
  split
  ·rename_i e;subst e;simp[hlt]
  ·rfl
theorem F4 (a:Act) (dst:Option Tmp) (v:Value):(a.put dst v).tmps.size=a.tmps.size:=by cases dst<;>simp[Act.put]
theorem put_defers (a:Act) (dst:Option Tmp) (v:Value):(a.put dst v).defers=a.defers:=by cases dst<;>rfl
theorem FU {f:bS} {d:Option Tmp} {v:V} (k:Nat):su f d v k=if d=some k then v else f k:=by
 cases d with
 |none=>simp[su]
 |some d=>
  show upd f d v k=_
  rw[qb]
  by_cases h:k=d
  ·subst h;simp
  ·rw[if_neg h,if_neg (fun e=>h (Option.some.inj e).symm)]
theorem Bv {T:Tys} {F:Nat→Prop} {w w':World} {θ:Nat→Value} {σ:St} {a:Act} {n:Nat} {o:Oper} {e:Eff} {v:Value} {x:V} (hs:SlR T F w σ.bx θ n σ.sl a) (hd:yK n o.dst=true)
  (h:Aft T fr F w σ.bx θ e v w') (hx:∀F' θ',ah T F' w' (dC σ.bx e.up) θ' e.v v→ah T F' w' (dC σ.bx e.up) θ' x v):Sim T fr n (σ.step o x e.up) (a.put o.dst v) w':=by
 obtain ⟨F',θ',h1,h2,h3⟩:=h
 refine ⟨F',θ',h1,⟨fun k=>?_,by rw[F4];exact hs.n,by rw[put_defers];exact hs.defers⟩⟩
 rw[Fi hs.n hd]
 show ah T F' w' (dC σ.bx e.up) θ' (su σ.sl o.dst x k) _
 rw[FU]
 split
 ·exact hx _ _ h3
 ·exact (hs.sl k).mv h2
theorem vV {ops:List Oper} {a:Act} {g:Nat} {gd:Nat} (hq:(match sr ops g with|some q=>q.dst|none=>none)=some gd):yielded ops.toArray a.tmps g=match a.tmps[gd]? with|some (.bool b)=>some b|_=>none:=by
 unfold yielded
 rw[mo] at hq
 split at hq
 ·rename_i q hqq
  simp[hqq,hq]
  cases a.tmps[gd]? with
  |none=>rfl
  |some u=>cases u<;>rfl
 ·simp at hq
theorem Ds {a:Act} {gd:Nat} {v:Bool} (h:a.tmps.getD gd undef=.bool v):a.tmps[gd]?=some (.bool v):=by
 rw[Array.getD_eq_getD_getElem?] at h
 cases hh:a.tmps[gd]? with
 |none=>rw[hh] at h;simp[undef] at h
 |some u=>rw[hh] at h;simp at h;rw[h]
theorem DQ (hX:Env P X) {ops:List Oper} {i:Nat} {o:Oper} {σ:St} {v:V} {up:List (Nat×Box)} {lg:Lg} {a:Act} {w:World} (hi:ops[i]?=some o) (hd:yK X.n o.dst=true) (h:mV X ops o σ v up lg) (hs:Sim X.T fr X.n σ a w)
  {K:Act→World→Prop} {Q:Exit→Act→World→Prop} (hK:∀a' w',Sim X.T fr X.n (σ.step o v up) a' w'→K a' w'):wpOp P ops.toArray Q i K a w:=by
 unfold wpOp
 have hi':ops.toArray[i]?=some o:=by simpa using hi
 rw[hi']
 simp only
 obtain ⟨F,θ,hw,hsl⟩:=hs
 have run:∀(e:Eff) (rd:List Nat),(∀k,evalOp X o.dst σ.sl o.op σ.bx k=k e rd)→v=nf e.v→up=e.up→o.wp P a w K Q:=by
  intro e rd hall hv hu
  have h1:=hall fun e rd=>some (.ret [])
  have ho:=DM (ρ:=σ.sl) (a:=a) hsl.sl
  have open_:∀(p:Eff→List Nat→Prop),p e rd→True:=fun _ _=>trivial
  obtain ⟨e2,rd2,g1,g2⟩:=AB (k:=fun e' rd'=>open Classical in if e'=e∧rd'=rd then some (.ret []) else none) (r:=.ret []) hX hw ho (by rw[hall];simp)
  have he:e2=e:=by
   open Classical in
   by_cases hh:e2=e∧rd2=rd
   ·exact hh.1
   ·simp only[hh,if_false] at g1;simp at g1
  subst he
  refine g2 K Q fun u w' hA=>hK _ _ ?_
  rw[hv,hu]
  exact Bv hsl hd hA fun F' θ' hr=>GJ hr
 cases h with
 |plain e rd hg hall hv hu hl=>
  have hwant:Region.wanted o (yielded ops.toArray a.tmps)=true:=by
   unfold guardOf at hg
   unfold Region.wanted
   split at hg
   ·rename_i hgu;rw[hgu]
   ·simp at hg
  rw[if_pos hwant]
  exact .inl (run e rd hall hv hu)
 |yes gd want e rd hg hsg hall hv hu hl=>
  have hwant:Region.wanted o (yielded ops.toArray a.tmps)=true:=by
   unfold guardOf at hg
   unfold Region.wanted
   split at hg
   ·simp at hg
   ·rename_i g want' hgu
    simp only[Option.some.injEq,Prod.mk.injEq] at hg
    obtain ⟨hq,rfl⟩:=hg
    rw[hgu]
    simp only
    rw[vV hq]
    have hr:=hsl.sl gd
    rw[hsg] at hr
    rw[Ds (lh hr)]
    simp[C.B]
  rw[if_pos hwant]
  exact .inl (run e rd hall hv hu)
 |no gd want hg hsg hv hu hl=>
  have hwant:¬Region.wanted o (yielded ops.toArray a.tmps)=true:=by
   unfold guardOf at hg
   unfold Region.wanted
   split at hg
   ·simp at hg
   ·rename_i g want' hgu
    simp only[Option.some.injEq,Prod.mk.injEq] at hg
    obtain ⟨hq,rfl⟩:=hg
    rw[hgu]
    simp only
    rw[vV hq]
    have hr:=hsl.sl gd
    rcases hsg with hsg|hsg
    ·rw[hsg] at hr
     rw[Ds (lh hr)]
     cases want'<;>simp[C.B]
    ·rw[hsg] at hr
     generalize hz:a.tmps.getD gd undef=z at hr
     cases hr
     rw[Array.getD_eq_getD_getElem?] at hz
     cases hh:a.tmps[gd]? with
     |none=>simp
     |some u=>rw[hh] at hz;simp at hz;subst hz;simp[undef]
  rw[if_neg hwant]
  refine hK _ _ ?_
  rw[hv,hu]
  exact Bv (e:=⟨.ud,[]⟩) hsl hd (Aft.same hw .ud) fun F' θ' hr=>hr
theorem Bh (hX:Env P X) {ops:List Oper} {Q:Exit→Act→World→Prop} {σ':St}:∀(L:List (Nat×Oper×Lg)) (σ:St) (a:Act) (w:World),ub X ops σ L σ'→(∀i o g,(i,o,g)∈L→ops[i]?=some o)→Sim X.T fr X.n σ a w→
  (∀a' w',Sim X.T fr X.n σ' a' w'→Q .normal a' w')→wpOps P ops.toArray Q (L.map (·.1)) a w
 |[],σ,a,w,hc,_,hs,hQ=>by
  cases hc
  exact hQ a w hs
 |(i,o,g)::L,σ,a,w,hc,hi,hs,hQ=>by
  cases hc with
  |cons hd h hr=>
   show wpOps P ops.toArray Q (i::L.map (·.1)) a w
   rw[wpOps_cons]
   exact DQ hX (hi i o g (List.mem_cons_self ..)) hd h hs fun a' w' hs'=>Bh hX L _ a' w' hr (fun i o g hm=>hi i o g (List.mem_cons_of_mem _ hm)) hs' hQ
end
end Go.Ev
namespace Go.Ev
theorem xe {j:Nat}:∀ {l m:List Nat},j∈EV l m→j∈l∨j∈m
 |[],m,h=>.inr h
 |a::r,m,h=>by
  replace h:j∈sif (cR m a) (EV r m) (a::EV r m):=h
  cases hm:cR m a with
  |true=>rw[hm,af] at h;exact (xe h).imp (List.mem_cons_of_mem _) id
  |false=>
   rw[hm,aN] at h
   rcases List.mem_cons.1 h with rfl|h
   ·exact .inl (List.mem_cons_self ..)
   ·exact (xe h).imp (List.mem_cons_of_mem _) id
theorem G8 {j:Nat} {l m:List Nat} (h:j∈uni l m):j∈l∨j∈m:=by
 unfold uni at h
 split at h
 ·exact .inl h
 ·exact xe h
theorem yX {acc:List (List Nat)} {j:Nat}:∀(l:List Edge) (s:List Nat),j∈l.foldl (fun s e=>sif (jz e) (sif (cR s e.on) s (e.on::uni (nth [] acc e.on) s)) s) s→j∈s∨∃e,e∈l∧jz e=true∧(j=e.on∨j∈nth [] acc e.on)
 |[],s,h=>.inl h
 |e::r,s,h=>by
  rcases yX r _ h with h|⟨e',h1,h2⟩
  ·replace h:j∈sif (jz e) (sif (cR s e.on) s (e.on::uni (nth [] acc e.on) s)) s:=h
   cases hb:jz e with
   |false=>rw[hb,aN] at h;exact .inl h
   |true=>
    rw[hb,af] at h
    cases hm:cR s e.on with
    |true=>rw[hm,af] at h;exact .inl h
    |false=>
     rw[hm,aN] at h
     rcases List.mem_cons.1 h with h|h
     ·exact .inr ⟨e,List.mem_cons_self ..,hb,.inl h⟩
     ·rcases G8 h with h|h
      ·exact .inr ⟨e,List.mem_cons_self ..,hb,.inr h⟩
      ·exact .inl h
  ·exact .inr ⟨e',List.mem_cons_of_mem _ h1,h2⟩
theorem rR:∀(l:List Oper) (acc:List (List Nat)),(∀i,i<acc.length→(anc l acc)[i]?=acc[i]?)∧
  ∀(i:Nat) (o:Oper),l[i]?=some o→∀j,j∈nth [] (anc l acc) (acc.length+i)→∃e,e∈o.after.toList∧jz e=true∧(j=e.on∨j∈nth [] (anc l acc) e.on)
 |[],acc=>⟨fun i _=>rfl,fun i o h=>by simp at h⟩
 |o::r,acc=>by
  have e0:∃x,x=o.after.toList.foldl (fun s e=>sif (jz e) (sif (cR s e.on) s (e.on::uni (nth [] acc e.on) s)) s) []:=⟨_,rfl⟩
  obtain ⟨x,hx⟩:=e0
  have e1:anc (o::r) acc=anc r (acc++[x]):=by
   show anc r (app acc [_])=_
   rw[fq,←hx]
  obtain ⟨h1,h2⟩:=rR r (acc++[x])
  have hlen:(acc++[x]).length=acc.length+1:=by simp
  rw[e1]
  refine ⟨fun i hi=>?_,fun i q hq j hj=>?_⟩
  ·rw[h1 i (by omega),List.getElem?_append_left hi]
  ·cases i with
   |zero=>
    simp at hq;subst hq
    rw[Nat.add_zero,rb,List.getD_eq_getElem?_getD,h1 acc.length (by omega),List.getElem?_append_right (Nat.le_refl _)] at hj
    simp at hj
    rw[hx] at hj
    rcases yX _ _ hj with h|⟨e,a1,a2,a3⟩
    ·simp at h
    ·refine ⟨e,a1,a2,a3.imp id fun hm=>?_⟩
     rw[rb,List.getD_eq_getElem?_getD] at hm⊢
     by_cases hlt:e.on<acc.length
     ·rw[h1 e.on (by omega),List.getElem?_append_left hlt];exact hm
     ·rw[List.getElem?_eq_none (by omega)] at hm;simp at hm
   |succ i=>
    have:=h2 i q (by simpa using hq) j (by rw[hlen,show acc.length+1+i=acc.length+(i+1) from by omega];exact hj)
    exact this
theorem mc:∀ {l:List Oper} {n:Nat},nY l n=true→∀(i:Nat) (o:Oper),l[i]?=some o→∀e,e∈o.after.toList→jz e=true→e.on<n+i
 |[],n,_,i,o,h,_,_,_=>by simp at h
 |q::r,n,h,i,o,ho,e,he,hb=>by
  simp only[nY,ak,Bool.and_eq_true] at h
  cases i with
  |zero=>
   simp at ho;subst ho
   have key:∀ {l:List Edge},Hu (sP n) l=true→∀e,e∈l→sP n e=true:=by
    intro l
    induction l with
    |nil=>intro _ e he;simp at he
    |cons y r ih=>
     intro hl e he
     simp only[Hu,ak,Bool.and_eq_true] at hl
     rcases List.mem_cons.1 he with rfl|he
     ·exact hl.1
     ·exact ih hl.2 e he
   have:=key h.1 e he
   simp only[sP,jQ,cN,hb,Bool.not_true,Bool.false_or] at this
   exact Nat.le_of_ble_eq_true this
  |succ i=>
   have:=mc h.2 i o (by simpa using ho) e he hb
   omega
section
variable {P:Program} {X:Cx} {fr:Fr}
structure Inv (ops:List Oper) (listed:Array Bool) (L:List (Nat×Oper×Lg)):Prop where
 size:listed.size=ops.length
 mem:∀i o g,(i,o,g)∈L→ops[i]?=some o∧listed.getD i false=false
 all:∀i,i<ops.length→listed.getD i false=false→∃o g,(i,o,g)∈L
 sorted:L.Pairwise fun a b=>a.1<b.1
 ind:L.Pairwise fun a b=>cR (nth [] (anc ops []) b.1) a.1=true∨(ov ops a.2.1 b.2.1=true∧Lg.ua a.2.2 b.2.2=false)
 closed:∀i o,listed.getD i false=true→ops[i]?=some o→∀e,e∈o.after.toList→jz e=true→listed.getD e.on false=true
theorem sQ {ops:List Oper} {listed:Array Bool} (hsz:listed.size=ops.length) (i:Nat):i∈Region.ready .any ops.toArray listed↔∃o,ops[i]?=some o∧listed.getD i false=false∧∀e,e∈o.after.toList→jz e=true→listed.getD e.on false=true:=by
 unfold Region.ready
 simp only[List.mem_filter,List.mem_range,List.size_toArray,Bool.and_eq_true,Bool.not_eq_true']
 constructor
 ·rintro ⟨h1,h2,h3⟩
  have ho:ops[i]?=some ops[i]:=List.getElem?_eq_getElem h1
  refine ⟨_,ho,?_,fun e he hb=>?_⟩
  ·simp only[Array.getD_eq_getD_getElem?] at h2⊢
   rw[Array.getElem?_eq_getElem (by omega)] at h2⊢
   simpa using h2
  ·rw[show ops.toArray[i]?=some ops[i] from by simpa using ho] at h3
   simp only[Option.map_some,Option.getD_some] at h3
   rw[←Array.all_toList,List.all_eq_true] at h3
   have:=h3 e he
   unfold jz at hb
   rw[hb] at this
   simpa using this
 ·rintro ⟨o,ho,h2,h3⟩
  have h1:i<ops.length:=(List.getElem?_eq_some_iff.1 ho).1
  refine ⟨h1,?_,?_⟩
  ·simp only[Array.getD_eq_getD_getElem?] at h2⊢
   rw[Array.getElem?_eq_getElem (by omega)] at h2⊢
   simpa using h2
  ·rw[show ops.toArray[i]?=some o from by simpa using ho]
   simp only[Option.map_some,Option.getD_some]
   rw[←Array.all_toList,List.all_eq_true]
   intro e he
   cases hb:Region.binds .any e with
   |false=>rfl
   |true=>
    have:=h3 e he hb
    simpa using this
theorem Cj {ops:List Oper} {listed:Array Bool} (hB:nY ops 0=true) (hcl:∀i o,listed.getD i false=true→ops[i]?=some o→∀e,e∈o.after.toList→jz e=true→listed.getD e.on false=true):
  ∀(n m:Nat),m≤n→listed.getD m false=true→∀j,j∈nth [] (anc ops []) m→listed.getD j false=true:=by
 intro n
 induction n with
 |zero=>
  intro m hm hl j hj
  cases ho:ops[m]? with
  |none=>
   have:(anc ops [])[m]?=none:=by
    have key:∀(l:List Oper) (acc:List (List Nat)),(anc l acc).length=acc.length+l.length:=by
     intro l
     induction l with
     |nil=>intro acc;rfl
     |cons o r ih=>intro acc;show (anc r (app acc [_])).length=_;rw[ih,fq];simp;omega
    rw[List.getElem?_eq_none_iff,key]
    rw[List.getElem?_eq_none_iff] at ho
    simpa using ho
   rw[rb,List.getD_eq_getElem?_getD,this] at hj
   simp at hj
  |some o=>
   obtain ⟨e,h1,h2,h3⟩:=(rR ops []).2 m o ho j (by simpa using hj)
   have:=mc hB m o ho e h1 h2
   omega
 |succ n ih=>
  intro m hm hl j hj
  cases ho:ops[m]? with
  |none=>
   have:(anc ops [])[m]?=none:=by
    have key:∀(l:List Oper) (acc:List (List Nat)),(anc l acc).length=acc.length+l.length:=by
     intro l
     induction l with
     |nil=>intro acc;rfl
     |cons o r ih=>intro acc;show (anc r (app acc [_])).length=_;rw[ih,fq];simp;omega
    rw[List.getElem?_eq_none_iff,key]
    rw[List.getElem?_eq_none_iff] at ho
    simpa using ho
   rw[rb,List.getD_eq_getElem?_getD,this] at hj
   simp at hj
  |some o=>
   obtain ⟨e,h1,h2,h3⟩:=(rR ops []).2 m o ho j (by simpa using hj)
   have hlt:=mc hB m o ho e h1 h2
   have hle:=hcl m o hl ho e h1 h2
   rcases h3 with rfl|h3
   ·exact hle
   ·exact ih e.on (by omega) hle j h3
theorem IJ (hX:Env P X) {ops:List Oper} {Q:Exit→Act→World→Prop} {σ':St} (hB:nY ops 0=true) (hQ:∀a' w',Sim X.T fr X.n σ' a' w'→Q .normal a' w'):
  ∀(fuel:Nat) (listed:Array Bool) (L:List (Nat×Oper×Lg)) (σ:St) (a:Act) (w:World),Inv ops listed L→L.length≤fuel→ub X ops σ L σ'→Sim X.T fr X.n σ a w→wpAny P .any ops.toArray Q fuel listed a w:=by
 intro fuel
 induction fuel with
 |zero=>
  intro listed L σ a w hI hlen hc hs
  have:L=[]:=List.eq_nil_of_length_eq_zero (by omega)
  subst this
  cases hc
  refine ⟨?_,hQ a w hs⟩
  cases hr:Region.ready .any ops.toArray listed with
  |nil=>rfl
  |cons i t=>
   have:i∈Region.ready .any ops.toArray listed:=by rw[hr];exact List.mem_cons_self ..
   obtain ⟨o,h1,h2,_⟩:=(sQ hI.size i).1 this
   obtain ⟨o',g,hm⟩:=hI.all i (List.getElem?_eq_some_iff.1 h1).1 h2
   simp at hm
 |succ fuel ih=>
  intro listed L σ a w hI hlen hc hs
  refine ⟨fun hr=>?_,fun i hi=>?_⟩
  ·cases L with
   |nil=>cases hc;exact hQ a w hs
   |cons p L=>
    obtain ⟨i,o,g⟩:=p
    exfalso
    obtain ⟨h1,h2⟩:=hI.mem i o g (List.mem_cons_self ..)
    have:i∈Region.ready .any ops.toArray listed:=by
     refine (sQ hI.size i).2 ⟨o,h1,h2,fun e he hb=>?_⟩
     have hlt:=mc hB i o h1 e he hb
     cases hl:listed.getD e.on false with
     |true=>rfl
     |false=>
      obtain ⟨o',g',hm⟩:=hI.all e.on (by have:=(List.getElem?_eq_some_iff.1 h1).1;omega) hl
      rcases List.mem_cons.1 hm with heq|hm
      ·simp only[Prod.mk.injEq] at heq;omega
      ·have:=(List.pairwise_cons.1 hI.sorted).1 _ hm
       simp only at this
       omega
    rw[hr] at this
    simp at this
  ·obtain ⟨o,h1,h2,h3⟩:=(sQ hI.size i).1 hi
   obtain ⟨o',g,hm⟩:=hI.all i (List.getElem?_eq_some_iff.1 h1).1 h2
   have ho:=(hI.mem i o' g hm).1
   rw[h1] at ho;obtain rfl:=Option.some.inj ho
   obtain ⟨pre,post,rfl⟩:=List.append_of_mem hm
   have hpre:∀j q h,(j,q,h)∈pre→ov ops q o=true∧Lg.ua h g=false:=by
    intro j q h hj
    have hind:=(List.pairwise_append.1 hI.ind).2.2 (j,q,h) hj (i,o,g) (List.mem_cons_self ..)
    refine hind.resolve_left fun hmb=>?_
    have hjun:=(hI.mem j q h (List.mem_append_left _ hj)).2
    have:listed.getD j false=true:=by
     obtain ⟨e,e1,e2,e3⟩:=(rR ops []).2 i o h1 j (by simpa using (cE _ _).1 hmb)
     have hle:=h3 e e1 e2
     rcases e3 with rfl|e3
     ·exact hle
     ·exact Cj hB hI.closed e.on e.on (Nat.le_refl _) hle j e3
    rw[this] at hjun;simp at hjun
   have hb:=Gr pre σ hc hpre
   cases hb with
   |cons hd hstep hr=>
    refine DQ hX h1 hd hstep hs fun a' w' hs'=>?_
    refine ih _ (pre++post) _ a' w' ?_ (by simp at hlen⊢;omega) hr hs'
    have hil:i<listed.size:=by rw[hI.size];exact (List.getElem?_eq_some_iff.1 h1).1
    have hset:∀k,(listed.setIfInBounds i true).getD k false=if k=i then true else listed.getD k false:=by
     intro k
     simp only[Array.getD_eq_getD_getElem?,Array.getElem?_setIfInBounds]
     by_cases hk:k=i
     ·subst hk;simp[hil]
     ·rw[if_neg (Ne.symm hk),if_neg hk]
    have hsub:List.Sublist (pre++post) (pre++(i,o,g)::post):=List.Sublist.append_left (List.sublist_cons_self ..) _
    have hne:∀p,p∈pre++post→p.1≠i:=by
     intro p hp
     have hs:=List.pairwise_append.1 hI.sorted
     rcases List.mem_append.1 hp with hp|hp
     ·have:=hs.2.2 p hp (i,o,g) (List.mem_cons_self ..);simp only at this;omega
     ·have:=(List.pairwise_cons.1 hs.2.1).1 p hp;simp only at this;omega
    refine ⟨by simpa using hI.size,fun k q h hk=>?_,fun k hk hl=>?_,hI.sorted.sublist hsub,hI.ind.sublist hsub,fun k q hl hq e he hbe=>?_⟩
    ·have:=hI.mem k q h (hsub.subset hk)
     refine ⟨this.1,?_⟩
     rw[hset,if_neg (hne _ hk)]
     exact this.2
    ·rw[hset] at hl
     split at hl
     ·simp at hl
     ·rename_i hki
      obtain ⟨q,h,hm⟩:=hI.all k hk hl
      refine ⟨q,h,?_⟩
      rcases List.mem_append.1 hm with hm|hm
      ·exact List.mem_append_left _ hm
      ·rcases List.mem_cons.1 hm with he|hm
       ·simp only[Prod.mk.injEq] at he;exact absurd he.1 hki
       ·exact List.mem_append_right _ hm
    ·rw[hset]
     split
     ·rfl
     ·rw[hset] at hl
      split at hl
      ·rename_i hki
       subst hki
       rw[h1] at hq;obtain rfl:=Option.some.inj hq
       exact h3 e he hbe
      ·exact hI.closed k q hl hq e he hbe
end
end Go.Ev
namespace Go.Ev
section
variable {T:Tys} {fr:Fr} {F:Nat→Prop} {w:World} {bx:Bxs} {θ:Nat→Value} {bs:List Nat}
def xj (T:Tys) (bx:Bxs) (bs:List Nat):Bxs:=fun b=>match bx b with|some x=>some (sif (cR bs b) (.dead (x.ver+1)) (x.frz T bx bs))|none=>none
theorem nA (T:Tys) (bx:Bxs) (bs:List Nat):∀(l:List V) (i:Nat),(V.xn T bx bs l)[i]?=(l[i]?).map (V.frz T bx bs)
 |[],i=>by simp[V.xn]
 |v::r,0=>by simp[V.xn]
 |v::r,i+1=>by simp[V.xn,nA T bx bs r i]
theorem nh (T:Tys) (bx:Bxs) (bs:List Nat) (l:List V):(V.xn T bx bs l).length=l.length:=by
 induction l with
 |nil=>rfl
 |cons v r ih=>simp[V.xn,ih]
theorem lW {b:Nat} {x:Box} (h:bx b=some x) (hb:cR bs b=false):xj T bx bs b=some (x.frz T bx bs):=by
 unfold xj;rw[h];simp only;rw[hb,aN]
theorem Hh {b:Nat} {x:Box} (h:bx b=some x) (hb:cR bs b=true):xj T bx bs b=some (.dead (x.ver+1)):=by
 unfold xj;rw[h];simp only;rw[hb,af]
theorem h9 (x:Box):(x.frz T bx bs).ver=x.ver:=by cases x<;>rfl
theorem GL {F':Nat→Prop} {b ver m:Nat} {lo hi:Int} {t:TypeId} {es:List (List C)} {v:Value} (hy:bx b=some (.arr ver t es m)) (hR:ib T F' w bx θ b (.arr ver t es 0)) (hx:ah T F w bx θ (.vw b ver lo hi) v) (hg:∀g,br (θ b)=some g→F' g):
  cg T F' w (.sl t) (.l ((es.take hi.toNat).drop lo.toNat)) v:=by
 obtain ⟨_,d,A',c',hd',h0,hlh,hhi,rfl,hcc,hblk,_⟩:=qQ hx hy (Nat.beq_refl _)
 have hsl:=vT h0 hlh hhi
 rcases Int.lt_or_eq_of_le hlh with hlt|rfl
 ·obtain ⟨g,og,e2,rfl⟩:=hblk hlt
  obtain ⟨A,cap,us,hth,hul,hrw,hA⟩:=mU hR hd'
  rw[←hsl]
  have hp:=hrw.part lo.toNat hi.toNat
  refine .sl t d _ g (og+lo.toNat*d.cts.length) c' (fun i j=>((us.take (hi.toNat*d.cts.length)).drop (lo.toNat*d.cts.length)).getD (i*d.cts.length+j) undef) hd' (hg g (by rw[e2];rfl)) (by omega) hp.len (fun i c j x a1 a2=>?_) (fun i c j x ct a1 a2 a3=>?_)
  ·rcases hA with ⟨rfl,rfl,rfl⟩|⟨g',o',cs,rfl,h1,h2,h3,rfl⟩
   ·simp at hhi;omega
   ·rw[hth] at e2
    simp only[Value.slice.injEq,Option.some.injEq,Addr.mk.injEq,true_and] at e2
    obtain ⟨⟨rfl,rfl,_⟩,_⟩:=e2
    have hi':i<(hi-lo).toNat:=by rw[←hsl];exact (List.getElem?_eq_some_iff.1 a1).1
    have hj:j<d.cts.length:=by rw[←hp.len i c a1];exact (List.getElem?_eq_some_iff.1 a2).1
    have q1:lo.toNat*d.cts.length+(i*d.cts.length+j)<hi.toNat*d.cts.length:=by
     have:=jN (show lo.toNat+i<hi.toNat by omega) hj
     rw[Nat.add_mul] at this;omega
    have q2:hi.toNat*d.cts.length≤es.length*d.cts.length:=Nat.mul_le_mul_right _ (by omega)
    have q3:es.length*d.cts.length≤cap*d.cts.length:=Nat.mul_le_mul_right _ h3.1
    have q4:o'+(lo.toNat*d.cts.length+(i*d.cts.length+j))<cs.size:=by omega
    simp only[List.getD_eq_getElem?_getD,List.getElem?_drop,List.getElem?_take]
    rw[if_pos q1,if_pos (by omega),Nat.add_assoc]
    simp[World.cell?,h1,q4]
  ·clear hA
   have hi':i<(hi-lo).toNat:=by rw[←hsl];exact (List.getElem?_eq_some_iff.1 a1).1
   have hj:j<d.cts.length:=(List.getElem?_eq_some_iff.1 a3).1
   have q1:lo.toNat*d.cts.length+(i*d.cts.length+j)<hi.toNat*d.cts.length:=by
    have:=jN (show lo.toNat+i<hi.toNat by omega) hj
    rw[Nat.add_mul] at this;omega
   have q2:hi.toNat*d.cts.length≤es.length*d.cts.length:=Nat.mul_le_mul_right _ (by omega)
   have hlen:i*d.cts.length+j<((us.take (hi.toNat*d.cts.length)).drop (lo.toNat*d.cts.length)).length:=by
    rw[List.length_drop,List.length_take,hul];omega
   refine hp.rel i c j x ct _ a1 a2 a3 ?_
   rw[List.getD_eq_getElem?_getD,List.getElem?_eq_getElem hlen];rfl
 ·have:((es.take lo.toNat).drop lo.toNat)=[]:=by simp
  rw[this]
  have:(lo-lo).toNat=0:=by omega
  rw[this]
  exact .sl0 _ _ _
theorem tp:∀ {f:List Nat},yT bs f=true→∀c,c∈f→cR bs c=true
 |b::r,h,c,hc=>by
  simp only[yT,ak,Bool.and_eq_true] at h
  rcases List.mem_cons.1 hc with rfl|hc
  ·exact h.1
  ·exact tp h.2 c hc
theorem Jl {m:Nat} (h:dM (Nat.beq m 3)=true):m≠3:=by
 rintro rfl
 simp[dM] at h
theorem Hq (hw:WR T fr F w bx θ) {b v m:Nat} {t:TypeId} {es:List (List C)} (hm:cR bs b=true) (hb:bx b=some (.arr v t es m)) (hm3:m≠3):ib T (FzF T F w bx θ bs) w bx θ b (.arr v t es 0):=by
 by_cases h2:2≤m
 ·have h0:m≠0:=by omega
  exact ib.GN (m':=0) (hw.box b _ hb) ((hw.lin b _ hb h0).1 hm3) (by decide) (fun _ k hk=>.inr ⟨b,_,(cE _ _).1 hm,hb,.inr ⟨h0,hk⟩⟩) rfl
 ·obtain ⟨d,A,cap,q1,q2,q3,q4⟩:=o8 hw hb h2
  refine ⟨d,A,cap,q1,q2,q3,q4.imp id ?_⟩
  rintro ⟨g,o,cs,g1,g2,g3,g4,g5⟩
  exact ⟨g,o,cs,g1,g2,g3,g4,fun i c j x ct v a1 a2 a3 a4=>CR.mv (m:=0) (g5 i c j x ct v a1 a2 a3 a4) (fun _ h=>.inl h) (fun _ _=>rfl) fun _ _ _=>rfl⟩
theorem DA (hw:WR T fr F w bx θ) {x:V} {v:Value} (h:ah T F w bx θ x v):ah T (FzF T F w bx θ bs) w (xj T bx bs) θ (x.frz T bx bs) v:=by
 have hin:∀ {b:Nat} {y:Box},cR bs b=true→bx b=some y→y.live=true→∀g,br (θ b)=some g→FzF T F w bx θ bs g:=fun hb hy hl g hg=>.inr ⟨_,_,(cE _ _).1 hb,hy,.inl ⟨hl,hg⟩⟩
 induction h with
 |un v=>exact .un v
 |ud=>exact .ud
 |c t x v hr=>exact .c t x v (hr.mv (fun _ h=>.inl h) fun _ _=>rfl)
 |nl=>exact .nl
 |np=>exact .np
 |ow b ver v y hb hv hs hh=>
  show ah T _ w _ θ (sif (cR bs b) (match bx b with
   |some (.arr v t es m)=>sif (ax (Nat.beq v ver) (dM (Nat.beq m 3))) (.c (.sl t) (.l es)) .un
   |_=>.un) (.ow b ver)) v
  cases hm:cR bs b with
  |true=>
   rw[af,hb]
   cases y with
   |arr v' t es md=>
    simp only
    cases hc:ax (Nat.beq v' ver) (dM (Nat.beq md 3)) with
    |false=>exact .un _
    |true=>
     rw[af]
     rw[ak,Bool.and_eq_true] at hc
     obtain ⟨_,rfl⟩:=mL (T:=T) (F:=F) (w:=w) (.ow b ver v _ hb hv hs hh) hb hc.1
     exact .c _ _ _ (nK (Hq hw hm hb (Jl hc.2)) (fun _ h=>h) (hin hm hb rfl))
   |_=>exact .un _
  |false=>
   rw[aN]
   refine .ow b ver v _ (lW hb hm) (by rw[h9];exact hv) hs fun e=>?_
   rw[h9] at e
   obtain ⟨t,es,md,rfl,hvv⟩:=hh e
   exact ⟨t,es,md,rfl,hvv⟩
 |vw b ver lo hi v y hb hv hs hh=>
  show ah T _ w _ θ (sif (cR bs b) (match bx b with
   |some (.arr v t es m)=>sif (ax (Nat.beq v ver) (dM (Nat.beq m 3))) (.c (.sl t) (.l ((es.take hi.toNat).drop lo.toNat))) .un
   |_=>.un) (.vw b ver lo hi)) v
  cases hm:cR bs b with
  |true=>
   rw[af,hb]
   cases y with
   |arr v' t es md=>
    simp only
    cases hc:ax (Nat.beq v' ver) (dM (Nat.beq md 3)) with
    |false=>exact .un _
    |true=>
     rw[af]
     rw[ak,Bool.and_eq_true] at hc
     have:=Nat.eq_of_beq_eq_true hc.1;subst this
     exact .c _ _ _ (GL (F:=F) hb (Hq hw hm hb (Jl hc.2)) (.vw b v' lo hi v _ hb hv hs hh) (hin hm hb rfl))
   |_=>exact .un _
  |false=>
   rw[aN]
   refine .vw b ver lo hi v _ (lW hb hm) (by rw[h9];exact hv) hs fun e=>?_
   rw[h9] at e
   obtain ⟨t,es,md,d,A,c,rfl,hrest⟩:=hh e
   exact ⟨t,es,md,d,A,c,rfl,hrest⟩
 |rf b ver ix off e v y hb hv hs hh=>
  show ah T _ w _ θ (sif (cR bs b) .un (.rf b ver ix off e)) v
  cases hm:cR bs b with
  |true=>rw[af];exact .un _
  |false=>
   rw[aN]
   refine .rf b ver ix off e v _ (lW hb hm) (by rw[h9];exact hv) hs fun e1 e2=>?_
   rw[h9] at e1
   obtain ⟨t,es,d,g,o,cap,rfl,hrest⟩:=hh e1 (by cases y<;>first|exact e2|simp[Box.m,Box.frz] at e2)
   exact ⟨t,es,d,g,o,cap,rfl,hrest⟩
 |mp b ver v y hb hv hs hh=>
  show ah T _ w _ θ (sif (cR bs b) .un (.mp b ver)) v
  cases hm:cR bs b with
  |true=>rw[af];exact .un _
  |false=>
   rw[aN]
   refine .mp b ver v _ (lW hb hm) (by rw[h9];exact hv) hs fun e=>?_
   rw[h9] at e
   obtain ⟨t,es,rfl,hvv⟩:=hh e
   exact ⟨t,es,rfl,hvv⟩
 |pt b ver off v y hb hv hs hh=>
  show ah T _ w _ θ (sif (cR bs b) (match bx b with
   |some (.var v t cells)=>sif (Nat.beq v ver) (match aV T t with
    |some d=>match iV bx d.cts cells with
     |some (cs,f)=>sif (yT bs f) (match (generalizing:=false) off with|0=>.c (.pt t) (.p cs)|off=>.fa d.cts cs off) .un
     |none=>.un
    |none=>.un) .un
   |_=>.un) (.pt b ver off)) v
  cases hm:cR bs b with
  |true=>
   rw[af,hb]
   cases y with
   |var v' t cells=>
    simp only
    cases hc:Nat.beq v' ver with
    |false=>exact .un _
    |true=>
     rw[af]
     have:=Nat.eq_of_beq_eq_true hc;subst this
     cases htd:aV T t with
     |none=>exact .un _
     |some td=>
      simp only
      cases hcs:iV bx td.cts cells with
      |none=>exact .un _
      |some q=>
       obtain ⟨cs,f⟩:=q
       simp only
       cases hmf:yT bs f with
       |false=>exact .un _
       |true=>
        rw[af]
        obtain ⟨t2,cells2,g,e3,e4,rfl⟩:=hh rfl
        simp only[Box.var.injEq,true_and] at e3
        obtain ⟨rfl,rfl⟩:=e3
        obtain ⟨g',wcs,ee,d,k1,k2,k3,k4,k5,k6⟩:=hw.box b _ hb
        rw[e4] at k1
        simp only[Value.pointer.injEq,Option.some.injEq,Addr.mk.injEq,true_and] at k1
        obtain ⟨rfl,_⟩:=k1
        rw[htd] at k4
        obtain rfl:=Option.some.inj k4
        obtain ⟨l1,l2⟩:=vp (T:=T) (F:=F) (F':=FzF T F w bx θ bs) (w:=w) (θ:=θ) hcs
        have l3:=l2 (fun _ h=>.inl h) (fun c hc v t es md hbc h3=>nK (Hq hw (tp hmf c hc) hbc h3) (fun _ h=>h) (hin (tp hmf c hc) hbc rfl))
        have c1:∀(j:Nat) (c:C),cs[j]?=some c→w.cell? ⟨g,0+j,none⟩=some (wcs.getD j undef):=fun j c hj=>by
         have hj':j<wcs.size:=by rw[k3,k5,←l1];exact (List.getElem?_eq_some_iff.1 hj).1
         simp[World.cell?,k2,hj']
        have c2:∀(j:Nat) (c:C) (ct:CT),cs[j]?=some c→td.cts[j]?=some ct→cg T (FzF T F w bx θ bs) w ct c (wcs.getD j undef):=fun j c ct hj hct=>by
         obtain ⟨x,a1,a2⟩:=l3 j c ct hj hct
         have hj':j<wcs.size:=by rw[k3];exact (List.getElem?_eq_some_iff.1 a1).1
         refine a2 _ (k6 j x _ a1 ?_)
         simp[hj']
        cases off with
        |zero=>exact .c _ _ _ (.pt t td cs g 0 _ htd (hin hm hb rfl g (by rw[e4];rfl)) l1 c1 c2)
        |succ off=>
         have:=ah.fa (T:=T) (F:=FzF T F w bx θ bs) (w:=w) (bx:=xj T bx bs) (θ:=θ) td.cts cs (off+1) g 0 (fun j=>wcs.getD j undef) (hin hm hb rfl g (by rw[e4];rfl)) l1 c1 c2
         rwa [Nat.zero_add] at this
   |_=>exact .un _
  |false=>
   rw[aN]
   refine .pt b ver off v _ (lW hb hm) (by rw[h9];exact hv) hs fun e=>?_
   rw[h9] at e
   obtain ⟨t,cells,g,rfl,h1,h2⟩:=hh e
   exact ⟨t,_,g,rfl,h1,h2⟩
 |pe b ver ix off nb v y hb hv hs hh=>
  show ah T _ w _ θ (sif (cR bs b) (match bx b with
   |some (.arr v t es m)=>sif (ax (ax (Nat.beq v ver) (dM (Nat.beq m 3))) (dM nb)) (match aV T t with|some d=>.fa d.cts (es.getD ix.toNat []) off|none=>.un) .un
   |_=>.un) (.pe b ver ix off nb)) v
  cases hm:cR bs b with
  |true=>
   rw[af,hb]
   cases y with
   |arr v' t es md=>
    simp only
    cases hc:ax (ax (Nat.beq v' ver) (dM (Nat.beq md 3))) (dM nb) with
    |false=>exact .un _
    |true=>
     rw[af]
     rw[ak,ak,Bool.and_eq_true,Bool.and_eq_true] at hc
     have hm3:=Jl hc.1.2
     simp only[cN,Bool.and_eq_true,Bool.not_eq_true'] at hc
     obtain ⟨rfl,d,hd,hp⟩:=qP (F:=F) (w:=w) (.pe b ver ix off nb v _ hb hv hs hh) hb hc.1.1
     rw[hd]
     simp only
     rcases hp with ⟨h1,_⟩|⟨h0,hlt,g,og,cap,h2,rfl⟩
     ·rw[hc.2] at h1;simp at h1
     ·obtain ⟨A,cap',us,hth,hul,hrw,hA⟩:=mU (Hq (bs:=bs) hw hm hb hm3) hd
      have hn:ix.toNat<es.length:=by omega
      have hnn:es[ix.toNat]?=some es[ix.toNat]:=List.getElem?_eq_getElem hn
      have hgd:es.getD ix.toNat []=es[ix.toNat]:=by rw[List.getD_eq_getElem?_getD,hnn];rfl
      have hrl:=hrw.len _ _ hnn
      rw[hgd]
      rcases hA with ⟨rfl,rfl,rfl⟩|⟨g',o',cs,rfl,q1,q2,q3,rfl⟩
      ·simp at hn
      ·rw[hth] at h2
       simp only[Value.slice.injEq,Option.some.injEq,Addr.mk.injEq,true_and] at h2
       obtain ⟨⟨rfl,rfl,_⟩,_⟩:=h2
       have hlt':∀j,j<d.cts.length→ix.toNat*d.cts.length+j<es.length*d.cts.length:=fun j hj=>jN hn hj
       have q4:o'+es.length*d.cts.length≤cs.size:=by rw[q2];exact Nat.add_le_add_left (Nat.mul_le_mul_right _ q3.1) o'
       rw[←Nat.add_assoc]
       refine .fa d.cts es[ix.toNat] off g' (o'+ix.toNat*d.cts.length) (fun j=>cs.getD (o'+(ix.toNat*d.cts.length+j)) undef) (hin hm hb rfl g' (by rw[hth];rfl)) hrl (fun j c hc=>?_) (fun j c t' hc ht=>?_)
       ·have hj:j<d.cts.length:=by rw[←hrl];exact (List.getElem?_eq_some_iff.1 hc).1
        have:=hlt' j hj
        simp[World.cell?,q1,Array.getD,Nat.add_assoc,show o'+(ix.toNat*d.cts.length+j)<cs.size by omega]
       ·have hj:j<d.cts.length:=(List.getElem?_eq_some_iff.1 ht).1
        have:=hlt' j hj
        refine hrw.rel _ _ j c t' _ hnn hc ht ?_
        rw[List.getElem?_take_of_lt this,List.getElem?_drop]
        simp[Array.getD,show o'+(ix.toNat*d.cts.length+j)<cs.size by omega]
   |_=>exact .un _
  |false=>
   rw[aN]
   refine .pe b ver ix off nb v _ (lW hb hm) (by rw[h9];exact hv) hs fun e=>?_
   rw[h9] at e
   obtain ⟨t,es,md,d,rfl,hrest⟩:=hh e
   exact ⟨t,es,md,d,rfl,hrest⟩
 |fa cts cs off g o cv hF hlen hc hr=>exact .fa cts cs off g o cv (.inl hF) hlen hc fun j c t h1 h2=>(hr j c t h1 h2).mv (fun _ h=>.inl h) fun _ _=>rfl
 |ag l o vs hl ho h ih=>
  refine .ag _ _ vs (by rw[nh];exact hl) (fun x hx=>by
   obtain ⟨cs,e1,e2,e3⟩:=ho x hx
   refine ⟨cs,e1,by rw[nh];exact e2,fun i v hv=>?_⟩
   rw[nA] at hv
   obtain ⟨z,hz,rfl⟩:=Option.map_eq_some_iff.1 hv
   obtain ⟨t,rfl⟩:=e3 i z hz
   exact ⟨t,rfl⟩) fun i x v h1 h2=>?_
  rw[nA] at h1
  obtain ⟨y,hy,rfl⟩:=Option.map_eq_some_iff.1 h1
  exact ih i y v hy h2
 |tu l vs hl h ih=>
  refine .tu _ vs (by rw[nh];exact hl) fun i x v h1 h2=>?_
  rw[nA] at h1
  obtain ⟨y,hy,rfl⟩:=Option.map_eq_some_iff.1 h1
  exact ih i y v hy h2
 |fn f l vs hl h ih=>
  refine .fn f _ vs (by rw[nh];exact hl) fun i x v h1 h2=>?_
  rw[nA] at h1
  obtain ⟨y,hy,rfl⟩:=Option.map_eq_some_iff.1 h1
  exact ih i y v hy h2
theorem IH {n:Nat} {σ:St} {a:Act} (bs:List Nat) (h:Sim T fr n σ a w):Sim T fr n (σ.frz T bs) a w:=by
 obtain ⟨F,θ,hw,hs⟩:=h
 have hb:(σ.frz T bs).bx=xj T σ.bx bs:=rfl
 have hget:∀b y,xj T σ.bx bs b=some y→∃x,σ.bx b=some x∧((cR bs b=true∧y=.dead (x.ver+1))∨(cR bs b=false∧y=x.frz T σ.bx bs)):=by
  intro b y hy
  unfold xj at hy
  cases hx:σ.bx b with
  |none=>rw[hx] at hy;simp at hy
  |some x=>
   rw[hx] at hy
   simp only[Option.some.injEq] at hy
   cases hm:cR bs b with
   |true=>rw[hm,af] at hy;exact ⟨x,rfl,.inl ⟨rfl,hy.symm⟩⟩
   |false=>rw[hm,aN] at hy;exact ⟨x,rfl,.inr ⟨rfl,hy.symm⟩⟩
 have hlive:∀b y,xj T σ.bx bs b=some y→y.live=true→∃x,σ.bx b=some x∧x.live=true∧cR bs b=false:=by
  intro b y hy hl
  obtain ⟨x,hx,⟨hm,rfl⟩|⟨hm,rfl⟩⟩:=hget b y hy
  ·simp[Box.live] at hl
  ·exact ⟨x,hx,by cases x<;>simp_all [Box.live,Box.frz],hm⟩
 have hnst:∀b y k,xj T σ.bx bs b=some y→y.nst T w (θ b) k→∃x,σ.bx b=some x∧cR bs b=false∧x.nst T w (θ b) k∧y.m=x.m:=by
  intro b y k hy hk
  obtain ⟨x,hx,⟨hm,rfl⟩|⟨hm,rfl⟩⟩:=hget b y hy
  ·exact hk.elim
  ·refine ⟨x,hx,hm,?_⟩
   cases x with
   |arr v t es m=>exact ⟨hk,rfl⟩
   |_=>exact hk.elim
 refine ⟨FzF T F w σ.bx θ bs,θ,⟨?_,?_,?_,B9 hw,hw.keep,fun k hk=>.inl (hw.sub k hk),Dw hw,?_,fun b y hy=>?_,fun b y k hy hk=>?_,fun b b' y y' k hy hy' hk hk'=>?_,fun k hk=>.inl (hw.nlF k hk)⟩,⟨fun k=>?_,hs.n,hs.defers⟩⟩
 ·intro b y hy
  obtain ⟨x,hx,⟨hm,rfl⟩|⟨hm,rfl⟩⟩:=hget b y hy
  ·trivial
  ·have hbx:=hw.box b x hx
   cases x with
   |var ver t cells=>
    obtain ⟨g,cs,e,d,q1,q2,q3,q4,q5,q6⟩:=hbx
    refine ⟨g,cs,e,d,q1,q2,by rw[nh];exact q3,q4,by rw[nh];exact q5,fun i z v h1 h2=>?_⟩
    rw[nA] at h1
    obtain ⟨u,hu,rfl⟩:=Option.map_eq_some_iff.1 h1
    exact DA hw (q6 i u v hu h2)
   |arr ver t es md=>
    obtain ⟨d,A,cap,q1,q2,q3,q4⟩:=hbx
    refine ⟨d,A,cap,q1,q2,q3,q4.imp id ?_⟩
    rintro ⟨g,o,cs,g1,g2,g3,g4,g5⟩
    exact ⟨g,o,cs,g1,g2,g3,g4,fun i c j x ct v a1 a2 a3 a4=>CR.mv (m:=md) (g5 i c j x ct v a1 a2 a3 a4) (fun _ h=>.inl h) (fun _ _=>rfl) fun _ _ _=>rfl⟩
   |mp ver t es=>exact hbx
   |dead v=>trivial
 ·intro b b' y y' g hy hy' hl hl' hg hg'
  obtain ⟨x,h1,h2,_⟩:=hlive b y hy hl
  obtain ⟨x',h1',h2',_⟩:=hlive b' y' hy' hl'
  exact hw.disj b b' x x' g h1 h1' h2 h2' hg hg'
 ·intro b y g hy hl hg
  obtain ⟨x,h1,h2,h3⟩:=hlive b y hy hl
  obtain ⟨q1,q2⟩:=hw.out b x g h1 h2 hg
  refine ⟨?_,q2⟩
  rintro (h|⟨c,z,c1,c2,⟨c3,c4⟩|c3⟩)
  ·exact q1 h
  ·have:=hw.disj b c x z g h1 c2 h2 c3 hg c4
   subst this
   rw[(cE _ _).2 c1] at h3
   simp at h3
  ·exact (hw.own c z g c2 c3).2.2.2.2 b x h1 h2 hg
 ·intro n hn
  obtain ⟨x,h1,h2⟩:=hw.stay n hn
  cases hm:cR bs n with
  |true=>exact ⟨_,Hh h1 hm,fun e=>by simp[Box.ver] at e⟩
  |false=>
   refine ⟨_,lW h1 hm,fun e=>?_⟩
   obtain ⟨p1,p2⟩:=h2 (by rw[h9] at e;exact e)
   exact ⟨p1,fun hm2=>p2 (by cases x<;>first|exact hm2|simp[Box.m,Box.frz] at hm2)⟩
 ·obtain ⟨x,hx,⟨hm,rfl⟩|⟨hm,rfl⟩⟩:=hget b y hy
  ·trivial
  ·have:=hw.lin b x hx
   cases x<;>first|exact this|trivial
 ·obtain ⟨x,h1,h2,h3,h4⟩:=hnst b y k hy hk
  obtain ⟨o1,o2,o3,o4,o5⟩:=hw.own b x k h1 h3
  rw[h4]
  refine ⟨o1,fun hm=>?_,fun hm=>.inl (o3 hm),o4,fun b' y' hy' hl' hg'=>?_⟩
  ·rintro (h|⟨c,z,c1,c2,⟨c3,c4⟩|c3⟩)
   ·exact o2 hm h
   ·exact o5 c z c2 c3 c4
   ·have:=hw.odj b c x z k h1 c2 h3 c3
    subst this
    rw[(cE _ _).2 c1] at h2
    simp at h2
  ·obtain ⟨x',q1,q2,_⟩:=hlive b' y' hy' hl'
   exact o5 b' x' q1 q2 hg'
 ·obtain ⟨x,h1,_,h3,_⟩:=hnst b y k hy hk
  obtain ⟨x',h1',_,h3',_⟩:=hnst b' y' k hy' hk'
  exact hw.odj b b' x x' k h1 h1' h3 h3'
 ·exact DA hw (hs.sl k)
theorem AA {n:Nat} {σ:St} {a:Act} {d b v md:Nat} {lo hi:Int} {t:TypeId} {es:List (List C)} (hsl:σ.sl d=.vw b v lo hi) (hbx:σ.bx b=some (.arr v t es md)) (hmd:¬2≤md) (hlo:lo=0∨lo<hi) (h:Sim T fr n σ a w):
  Sim T fr n ⟨upd σ.sl d (.ow b (v+1)),upd σ.bx b (some (.arr (v+1) t ((es.take hi.toNat).drop lo.toNat) (mT T t)))⟩ a w:=by
 obtain ⟨F,θ,hw,hs⟩:=h
 have hx:=hs.sl d
 rw[hsl] at hx
 obtain ⟨dd,_,_,hdd,_⟩:=hw.box b _ hbx
 have hmT:mT T t=mF dd:=by simp[mT,hdd]
 obtain ⟨hput,hva⟩:=zO (md:=mT T t) hx hbx hmd hdd (by rw[hmT];exact xM dd) hlo hw
 refine ⟨F,_,hput.1,⟨fun k=>?_,hs.n,hs.defers⟩⟩
 by_cases hk:k=d
 ·subst hk
  show ah T F w (upd σ.bx b _) _ (upd σ.sl k _ k) _
  rw[al]
  exact .ow b (v+1) _ _ (al _ _ _) (Nat.le_refl _) hva fun _=>⟨t,_,_,rfl,(al _ _ _).symm⟩
 ·show ah T F w (upd σ.bx b _) _ (upd σ.sl d _ k) _
  rw[aO _ _ hk]
  exact (hs.sl k).mv hput.2
theorem yZ {n:Nat} {σ:St} {a:Act} {m i b v vw md:Nat} {lo hi:Int} {t tw:TypeId} {es:List (List C)} {cells:List V} (hm:σ.bx m=some (.var vw tw cells)) (hci:cells[i]?=some (.vw b v lo hi)) (hbx:σ.bx b=some (.arr v t es md)) (hmd:¬2≤md) (hlo:lo=0∨lo<hi) (h:Sim T fr n σ a w):
  Sim T fr n ⟨σ.sl,upd (upd σ.bx b (some (.arr (v+1) t ((es.take hi.toNat).drop lo.toNat) (mT T t)))) m (some (.var vw tw (cells.set i (.ow b (v+1)))))⟩ a w:=by
 obtain ⟨F,θ,hw,hs⟩:=h
 have hmb:m≠b:=by rintro rfl;rw[hm] at hbx;simp at hbx
 obtain ⟨g,cs,e,dt,q1,q2,q3,q4,q5,q6⟩:=hw.box m _ hm
 have hil:i<cells.length:=(List.getElem?_eq_some_iff.1 hci).1
 have hcs:cs[i]?=some (cs[i]'(by omega)):=Array.getElem?_eq_getElem (by omega)
 have hx:=q6 i _ _ hci hcs
 obtain ⟨dd,_,_,hdd,_⟩:=hw.box b _ hbx
 have hmT:mT T t=mF dd:=by simp[mT,hdd]
 obtain ⟨hput,hva⟩:=zO (md:=mT T t) hx hbx hmd hdd (by rw[hmT];exact xM dd) hlo hw
 have hm':(upd σ.bx b (some (.arr (v+1) t ((es.take hi.toNat).drop lo.toNat) (mT T t)))) m=some (.var vw tw cells):=by rw[aO _ _ hmb];exact hm
 have hthm:(upd θ b (cs[i]'(by omega))) m=θ m:=aO _ _ hmb
 have hput2:=hput.1.put m (.var vw tw (cells.set i (.ow b (v+1)))) (θ m) w (fun z hz=>by
   rw[hm'] at hz;obtain rfl:=Option.some.inj hz
   exact .inr ⟨rfl,by simp[Box.same],hthm.symm,fun h=>by simp[Box.m] at h⟩) (fun q hq=>.inl rfl) (Nat.le_refl _) rfl rfl ⟨rfl,Nat.le_refl _⟩
  (fun q hq=>.inr ⟨_,hm',rfl,by rw[hthm];exact hq⟩) (fun _ h=>h) trivial (fun mv=>by
   refine ⟨g,cs,e,dt,by rw[al];exact q1,q2,by rw[List.length_set];exact q3,q4,by rw[List.length_set];exact q5,fun k x u hk hu=>?_⟩
   rw[List.getElem?_set] at hk
   split at hk
   ·rename_i e
    subst e
    obtain rfl:=Option.some.inj hk
    rw[hcs] at hu
    obtain rfl:=Option.some.inj hu
    exact (ah.ow b (v+1) _ _ (al _ _ _) (Nat.le_refl _) hva fun _=>⟨t,_,_,rfl,(al _ _ _).symm⟩).mv mv
   ·exact ((q6 k x u hk hu).mv hput.2).mv mv)
 exact ⟨F,_,hput2.1,⟨fun k=>((hs.sl k).mv hput.2).mv hput2.2,hs.n,hs.defers⟩⟩
theorem Ho {n:Nat} {σ:St} {a:Act} (m i:Nat) (hc:σ.xl m i=true) (h:Sim T fr n σ a w):Sim T fr n (σ.FX T m i) a w:=by
 unfold St.FX
 unfold St.xl at hc
 split
 ·rename_i vw tw cells hm
  rw[hm] at hc
  simp only at hc
  split
  ·rename_i b ver lo hi hci
   rw[hci] at hc
   simp only at hc
   rw[mo] at hci
   split
   ·rename_i v t es md hbx
    cases hv:ax (Nat.beq v ver) (Nat.blt md 2) with
    |false=>exact h
    |true=>
     have hv':=hv
     rw[ak,Bool.and_eq_true] at hv'
     have hmd:=jU hv'.2
     have e:=Nat.eq_of_beq_eq_true hv'.1
     subst e
     rw[af]
     split
     ·have:=yZ hm hci hbx hmd (.inl rfl) h
      simpa [vE] using this
     ·rename_i hne
      have:=yZ hm hci hbx hmd (by
       split at hc
       ·exact (hne rfl).elim
       ·exact .inr (by simpa using hc)) h
      simpa [vE] using this
   ·exact h
  ·exact h
 ·exact h
theorem Je {n:Nat} {σ:St} {a:Act} (d:Nat) (hc:σ.Bj d=true) (h:Sim T fr n σ a w):Sim T fr n (σ.cut T d) a w:=by
 unfold St.cut
 unfold St.Bj at hc
 split
 ·rename_i b ver lo hi hsl
  rw[hsl] at hc
  simp only at hc
  split
  ·rename_i v t es md hbx
   cases hv:ax (Nat.beq v ver) (Nat.blt md 2) with
   |false=>exact h
   |true=>
    have hv':=hv
    rw[ak,Bool.and_eq_true] at hv'
    have hmd:=jU hv'.2
    have e:=Nat.eq_of_beq_eq_true hv'.1
    subst e
    rw[af]
    split
    ·have:=AA hsl hbx hmd (.inl rfl) h
     simpa using this
    ·rename_i hne
     refine AA hsl hbx hmd ?_ h
     split at hc
     ·exact (hne rfl).elim
     ·exact .inr (by simpa using hc)
  ·exact h
 ·exact h
end
end Go.Ev
namespace Go.Ev
section
variable {P:Program} {X:Cx} {fr:Fr}
theorem GG {T:Tys} {n:Nat} {σ:St} {a:Act} {w w':World} (h:Sim T fr n σ a w) (hh:w'.heap=w.heap) (hos:w'.os=w.os) (htp:w'.tape=w.tape) (hou:w'.output=w.output∧w.drawn≤w'.drawn):Sim T fr n σ a w':=by
 obtain ⟨F,θ,hw,hs⟩:=h
 have m:Mv F w σ.bx θ F w' σ.bx θ:=⟨fun _ h=>h,fun k _=>by rw[hh],fun b x hx=>⟨x,hx,Nat.le_refl _,fun _=>⟨x.jx,rfl,fun h=>⟨h,fun g o n cap e p A l c hc=>(fE (show w'.heap[g]?=w.heap[g]? by rw[hh]) p).trans hc⟩⟩⟩⟩
 have hb:∀(b:Nat) (x:Box) (k:Nat),x.nst T w' (θ b) k→x.nst T w (θ b) k:=fun b x k hk=>y9 hk (fun g _=>by rw[hh]) fun k _=>by rw[hh]
 refine ⟨F,θ,⟨fun b x hx=>(hw.box b x hx).mv m rfl (fun g _=>by rw[hh]) fun k _=>by rw[hh],hw.disj,fun b x g h1 h2 h3=>by rw[hh];exact hw.out b x g h1 h2 h3,fun k hk=>by rw[hh];exact hw.lt k hk,
  hw.keep.next hos htp hou (by rw[hh];exact Nat.le_refl _) fun k _ _=>by rw[hh],hw.sub,hw.new,qv hw.stay m,fun b x hx=>zv (hw.lin b x hx) (fun g _=>by rw[hh]) fun k _=>by rw[hh],fun b x k hx hk=>by rw[hh];exact hw.own b x k hx (hb b x k hk),
  fun b b' x x' k hx hx' hk hk'=>hw.odj b b' x x' k hx hx' (hb b x k hk) (hb b' x' k hk'),hw.nlF⟩,⟨fun k=>(hs.sl k).mv m,hs.n,hs.defers⟩⟩
theorem Ed (hX:Env P X) {id:Nat} {ops:Array Oper} {draw:Bool} {κ:St→R} {σ:St} {r:Out} {a:Act} {w:World} {Q:Exit→Act→World→Prop}
  (h:sif (orS (dM draw) (nY ops.toList 0)) (js X draw ops.toList (sif draw (anc ops.toList []) []) κ ops.toList [] σ) none=some r) (hs:Sim X.T fr X.n σ a w)
  (hκ:∀σ' a' w',κ σ'=some r→Sim X.T fr X.n σ' a' w'→Q .normal a' w'):(Code.region id ops draw).wp P Q a w:=by
 cases hB:orS (dM draw) (nY ops.toList 0) with
 |false=>rw[hB,aN] at h;simp at h
 |true=>
  rw[hB,af] at h
  obtain ⟨⟨L,σ',c1,c2,c3,c4⟩⟩:=rU ops.toList [] σ (fun i o ho=>by simpa using ho) (fun j q d x hj=>by simp at hj) h
  simp only[List.length_nil] at c3
  have hget:∀(p i:Nat) (o:Oper) (g:Lg),L[p]?=some (i,o,g)→i=p∧ops.toList[p]?=some o:=by
   intro p i o g hp
   have h1:(L.map fun p=>(p.1,p.2.1))[p]?=some (i,o):=by simp[hp]
   rw[c3] at h1
   simp only[List.getElem?_map,Option.map_eq_some_iff] at h1
   obtain ⟨⟨o',i'⟩,h2,h3⟩:=h1
   simp only[Prod.mk.injEq] at h3
   obtain ⟨rfl,rfl⟩:=h3
   rw[List.getElem?_zipIdx] at h2
   obtain ⟨z,hz,he⟩:=Option.map_eq_some_iff.1 h2
   simp only[Prod.mk.injEq] at he
   obtain ⟨rfl,rfl⟩:=he
   exact ⟨by omega,hz⟩
  have hlen:L.length=ops.size:=by
   have:=congrArg List.length c3
   simpa using this
  have hmem:∀i o g,(i,o,g)∈L→ops.toList[i]?=some o:=by
   intro i o g hm
   obtain ⟨p,hp,he⟩:=List.mem_iff_getElem.1 hm
   obtain ⟨rfl,h2⟩:=hget p i o g (by rw[List.getElem?_eq_getElem hp,he])
   exact h2
  cases draw with
  |false=>
   refine wp_region ?_
   have:=Bh hX (Q:=Q) L σ a w c1 hmem hs fun a' w' hs'=>hκ σ' a' w' c2 hs'
   have e:L.map (·.1)=List.range ops.size:=by
    refine List.ext_getElem? fun p=>?_
    rw[List.getElem?_map]
    rcases Nat.lt_or_ge p L.length with hp|hp
    ·have hp':=List.getElem?_eq_getElem hp
     obtain ⟨h1,h2⟩:=hget p _ _ _ hp'
     rw[hp',List.getElem?_range (by omega)]
     exact congrArg some h1
    ·rw[List.getElem?_eq_none hp,List.getElem?_eq_none (by simp;omega)];rfl
   rw[e] at this
   simpa using this
  |true=>
   refine wp_region_any hX.mixed ?_
   have hB':nY ops.toList 0=true:=by simpa [jQ,cN] using hB
   have hs':Sim X.T fr X.n σ a {w with drawn:=w.drawn+1}:=GG hs rfl rfl rfl ⟨rfl,Nat.le_succ _⟩
   have hI:Inv ops.toList (Array.replicate ops.size false) L:=by
    refine ⟨by simp,fun i o g hm=>⟨hmem i o g hm,?_⟩,fun i hi _=>?_,?_,?_,fun i o hl=>?_⟩
    ·have:=(List.getElem?_eq_some_iff.1 (hmem i o g hm)).1
     simp at this
     simp[Array.getD,this]
    ·have hi':i<L.length:=by rw[hlen];simpa using hi
     have hp':=List.getElem?_eq_getElem hi'
     obtain ⟨h1,h2⟩:=hget i _ _ _ hp'
     refine ⟨L[i].2.1,L[i].2.2,?_⟩
     have hm:=List.getElem_mem hi'
     have e:L[i]=(i,L[i].2.1,L[i].2.2):=Prod.ext h1 rfl
     rw[e] at hm
     exact hm
    ·refine List.pairwise_iff_getElem.2 fun p q hp hq hpq=>?_
     have h1:L[p].1=p:=(hget p _ _ _ (List.getElem?_eq_getElem hp)).1
     have h2:L[q].1=q:=(hget q _ _ _ (List.getElem?_eq_getElem hq)).1
     omega
    ·refine List.pairwise_iff_getElem.2 fun p q hp hq hpq=>?_
     have h1:L[p].1=p:=(hget p _ _ _ (List.getElem?_eq_getElem hp)).1
     have h2:=c4 rfl q L[q].1 L[q].2.1 L[q].2.2 (List.getElem?_eq_getElem hq) p L[p].2.1 L[p].2.2 (by simp[hp]) (by simpa using hpq)
     rw[h1]
     exact h2
    ·by_cases hi:i<ops.size
     ·simp[Array.getD,hi] at hl
     ·simp[Array.getD,hi] at hl
   have:=IJ hX (Q:=Q) hB' (fun a' w' hs''=>hκ σ' a' w' c2 hs'') ops.size _ L σ a _ hI (by omega) c1 hs'
   simpa using this
def xT (id:Nat):Exit:=if id≤999999 then .exit id else .goto (id-1000000)
theorem Bi {id:Nat} (h:id≤999999):xT id=.exit id:=if_pos h
theorem tS (l:Nat):xT (Nat.add 1000000 l)=.goto l:=by
 rw[Nat.add_eq]
 unfold xT
 rw[if_neg (by omega),Nat.add_sub_cancel_left]
theorem DG {K:Act→World→Prop} {Q:Exit→Act→World→Prop} {id:Nat} {a:Act} {w:World} (h:Q (xT id) a w):Exit.then K Q (xT id) a w:=by
 unfold xT at h⊢
 by_cases hl:id≤999999
 ·rw[if_pos hl] at h⊢;exact h
 ·rw[if_neg hl] at h⊢;exact h
def Snd (P:Program) (X:Cx) (fr:Fr) (J:Jn) (c:Code) (m:Ann→(St→R)→St→R):Prop:=
 ∀(n:Ann) (κ:St→R) (σ:St) (r:Out) (Q:Exit→Act→World→Prop) (a:Act) (w:World),m n κ σ=some r→Sim X.T fr X.n σ a w→
  (∀σ' a' w',κ σ'=some r→Sim X.T fr X.n σ' a' w'→Q .normal a' w')→
  (∀id t xs a' w',pM J id=some t→r=.brk id xs→Sim X.T fr X.n (t.inj xs) a' w'→Q (xT id) a' w')→
  (∀σ' a' w',pN X σ'=some r→Sim X.T fr X.n σ' a' w'→Q .ret a' w')→c.wp P Q a w
theorem AY {β:Type} (xs:List C):∀(q:List (Nat×Sk)) (p:Nat) (f:bS) (k:bS→Nat→β),Gm xs q p f k=k (cd nm0 xs q p f).1 (cd nm0 xs q p f).2
 |[],p,f,k=>rfl
 |(d,s)::r,p,f,k=>by
  show (s.inst nm0 xs p).1.force _=_
  rw[force_eq,AY xs r]
  rfl
theorem si {β:Type} (xs:List C):∀(q:List (Nat×BSk)) (p:Nat) (f:Bxs) (k:Bxs→β),vY xs q p f k=k (bR nm0 xs q p f)
 |[],p,f,k=>rfl
 |(b,.var t cells)::r,p,f,k=>by
  show V.pI _ _=_
  rw[ln,si xs r]
  rfl
 |(b,.arr t m)::r,p,f,k=>by
  show vY xs r _ _ k=_
  rw[si xs r]
  rfl
 |(b,.mp t)::r,p,f,k=>by
  show vY xs r _ _ k=_
  rw[si xs r]
  rfl
theorem qe {β:Type} (t:Tm) (xs:List C) (k:St→β):t.pA xs k=k (t.inj xs):=by
 unfold Tm.pA
 rw[AY,si]
 rfl
theorem jq {σ:St} {r:Out} (h:pN X σ=some r):∃ys,r=.ret ys:=by
 unfold pN at h
 split at h
 ·cases hc:ax (Ce σ.bx X.ip) (lS X.inT.bx X.ip) with
  |false=>rw[hc,aN] at h;simp at h
  |true=>
   rw[hc,af] at h
   split at h
   ·rename_i e _
    cases hz:isNil e.fz with
    |false=>rw[hz,aN] at h;simp at h
    |true=>rw[hz,af] at h;exact ⟨_,(Option.some.inj h).symm⟩
   ·simp at h
 ·simp at h
theorem im {J:Jn} {c:Code} {f:Ann→(St→R)→St→R} (hst:fr.st=X.ip) (hf:Snd P X fr J c f):Snd P X fr J c (wrap X f):=by
 intro n
 induction n with
 |frz bs x ih=>
  intro κ σ r Q a w h hs h1 h2 h3
  exact ih κ (σ.frz X.T bs) r Q a w h (IH bs hs) h1 h2 h3
 |cut d x ih=>
  intro κ σ r Q a w h hs h1 h2 h3
  replace h:cond (σ.Bj d) (wrap X f x κ (σ.cut X.T d)) none=some r:=h
  cases hc:σ.Bj d with
  |false=>rw[hc] at h;simp at h
  |true=>rw[hc] at h;exact ih κ (σ.cut X.T d) r Q a w h (Je d hc hs) h1 h2 h3
 |cutc m i x ih=>
  intro κ σ r Q a w h hs h1 h2 h3
  replace h:cond (σ.xl m i) (wrap X f x κ (σ.FX X.T m i)) none=some r:=h
  cases hc:σ.xl m i with
  |false=>rw[hc] at h;simp at h
  |true=>rw[hc] at h;exact ih κ (σ.FX X.T m i) r Q a w h (Ho m i hc hs) h1 h2 h3
 |join t x ih=>
  intro κ σ r Q a w h hs h1 h2 h3
  replace h:bd (wrap X f x (fun σ'=>oP X t σ' .nrm) σ) (fun xs=>t.pA xs κ)=some r:=h
  cases hr1:wrap X f x (fun σ'=>oP X t σ' .nrm) σ with
  |none=>rw[hr1] at h;simp[bd] at h
  |some r1=>
   rw[hr1] at h
   refine ih _ σ r1 Q a w hr1 hs (fun σ' a' w' hk hs'=>?_) (fun id t' xs a' w' hj he hs'=>?_) (fun σ' a' w' hk hs'=>?_)
   ·obtain ⟨xs,rfl,hs''⟩:=qj hst hk hs'
    replace h:t.pA xs κ=some r:=h
    rw[qe] at h
    exact h1 _ a' w' h hs''
   ·subst he
    have e:r=.brk id xs:=(Option.some.inj h).symm
    exact h2 id t' xs a' w' hj e hs'
   ·obtain ⟨ys,rfl⟩:=jq hk
    have e:r=.ret ys:=(Option.some.inj h).symm
    rw[←e] at hk
    exact h3 σ' a' w' hk hs'
 |leaf=>exact hf .leaf
 |seq x y _ _=>exact hf (.seq x y)
 |cond x y _ _=>exact hf (.cond x y)
 |block t x _=>exact hf (.block t x)
 |loop t x _=>exact hf (.loop t x)
 |skip x _=>exact hf (.skip x)
 |scp l t x y _ _=>exact hf (.scp l t x y)
theorem Bd (id:Nat):∀(J:Jn),pM (tR id J) id=none∧∀k t,pM (tR id J) k=some t→pM J k=some t
 |[]=>⟨rfl,fun k t h=>h⟩
 |(m,u)::r=>by
  obtain ⟨h1,h2⟩:=Bd id r
  cases hb:Nat.beq m id with
  |true=>
   have e:tR id ((m,u)::r)=tR id r:=by show sif (Nat.beq m id) _ _=_;rw[hb];rfl
   rw[e]
   refine ⟨h1,fun k t hk=>?_⟩
   have hmk:Nat.beq m k=false:=by
    cases hmk:Nat.beq m k with
    |false=>rfl
    |true=>
     have a1:=Nat.eq_of_beq_eq_true hb
     have a2:=Nat.eq_of_beq_eq_true hmk
     subst a1;subst a2
     rw[h1] at hk;simp at hk
   show sif (Nat.beq m k) _ _=_
   rw[hmk]
   exact h2 k t hk
  |false=>
   have e:tR id ((m,u)::r)=(m,u)::tR id r:=by show sif (Nat.beq m id) _ _=_;rw[hb];rfl
   rw[e]
   refine ⟨?_,fun k t hk=>?_⟩
   ·show sif (Nat.beq m id) _ _=_
    rw[hb];exact h1
   ·replace hk:sif (Nat.beq m k) (some u) (pM (tR id r) k)=some t:=hk
    show sif (Nat.beq m k) (some u) (pM r k)=some t
    cases hmk:Nat.beq m k with
    |true=>rw[hmk] at hk;exact hk
    |false=>rw[hmk] at hk;exact h2 k t hk
theorem rO {body:List C→R} {xs:List C} {r:Out} (h:lim body xs=some r):∃k,iter body k xs=some r:=by
 unfold lim at h
 split at h
 ·exact ⟨_,h⟩
 ·simp at h
theorem zh (hX:Env P X) (hst:fr.st=X.ip):∀(c:Code) (J:Jn),Snd P X fr J c (ev X c J):=by
 intro c
 induction c with
 |skip=>
  intro J
  refine im hst ?_
  intro n κ σ r Q a w h hs h1 h2 h3
  exact wp_skip (h1 σ a w h hs)
 |region id ops draw=>
  intro J
  refine im hst ?_
  intro n κ σ r Q a w h hs h1 h2 h3
  exact Ed hX h hs h1
 |seq x y ihx ihy=>
  intro J
  refine im hst ?_
  intro n κ σ r Q a w h hs h1 h2 h3
  have key:∀n1 n2,ev X x J n1 (fun σ=>ev X y J n2 κ σ) σ=some r→(Code.seq x y).wp P Q a w:=by
   intro n1 n2 h
   refine wp_seq (ihx J n1 _ σ r _ a w h hs (fun σ' a' w' hk hs'=>?_) (fun id t xs a' w' h4 h5 h6=>DG (h2 id t xs a' w' h4 h5 h6)) h3)
   exact ihy J n2 κ σ' r Q a' w' hk hs' h1 h2 h3
  cases n with
  |seq n1 n2=>exact key n1 n2 h
  |_=>exact key _ _ h
 |cond q x y ihx ihy=>
  intro J
  refine im hst ?_
  intro n κ σ r Q a w h hs h1 h2 h3
  have hv:ah X.T _ _ _ _ (bL σ.sl q) (a.eval q):=DM hs.ex.choose_spec.choose_spec.2.sl q
  dsimp only at h
  generalize ho:bL σ.sl q=oq at h hv
  cases oq with
  |c t z=>cases t with
   |bool=>
    have hb:=lh hv
    have key:∀n1 n2,cond z.B (ev X x J n1 κ σ) (ev X y J n2 κ σ)=some r→(Code.cond q x y).wp P Q a w:=by
     intro n1 n2 h
     refine wp_cond_split hb (fun ht=>?_) (fun hf=>?_)
     ·rw[ht] at h;exact ihx J n1 κ σ r Q a w h hs h1 h2 h3
     ·rw[hf] at h;exact ihy J n2 κ σ r Q a w h hs h1 h2 h3
    cases n with
    |cond n1 n2=>exact key n1 n2 h
    |_=>exact key _ _ h
   |_=>exact absurd (show (none:R)=some r from h) (by simp)
  |_=>exact absurd (show (none:R)=some r from h) (by simp)
 |block id x ih=>
  intro J
  refine im hst ?_
  intro n κ σ r Q a w h hs h1 h2 h3
  cases hlow:Nat.ble id 999999 with
  |false=>dsimp only at h;rw[hlow,aN] at h;simp at h
  |true=>
  dsimp only at h
  rw[hlow,af] at h
  have hlow':=Nat.le_of_ble_eq_true hlow
  have hblk:∀(id':Nat) (a':Act) (w':World),id'≠id→Q (xT id') a' w'→Exit.inBlock id Q (xT id') a' w':=by
   intro id' a' w' hid hq
   unfold xT at hq⊢
   by_cases hl:id'≤999999
   ·rw[if_pos hl] at hq⊢
    show if id'=id then _ else _
    rw[if_neg hid];exact hq
   ·rw[if_neg hl] at hq⊢;exact hq
  have key:∀n1,ev X x (tR id J) n1 κ σ=some r→(Code.block id x).wp P Q a w:=by
   intro n1 h
   refine wp_block (ih (tR id J) n1 κ σ r _ a w h hs h1 (fun id' t xs a' w' hj he hs'=>?_) h3)
   obtain ⟨d1,d2⟩:=Bd id J
   by_cases hid:id'=id
   ·subst hid;rw[d1] at hj;simp at hj
   ·exact hblk id' a' w' hid (h2 id' t xs a' w' (d2 _ _ hj) he hs')
  cases n with
  |block t n1=>
   replace h:ai id (ev X x ((id,t)::J) n1 (fun σ'=>oP X t σ' (.brk id)) σ) (fun xs=>t.pA xs κ)=some r:=h
   cases hr1:ev X x ((id,t)::J) n1 (fun σ'=>oP X t σ' (.brk id)) σ with
   |none=>rw[hr1] at h;simp[ai] at h
   |some r1=>
    rw[hr1] at h
    have hbrk:∀xs a' w',r1=.brk id xs→Sim X.T fr X.n (t.inj xs) a' w'→Q .normal a' w':=by
     intro xs a' w' he hs'
     subst he
     replace h:sif (Nat.beq id id) (t.pA xs κ) (some (.brk id xs))=some r:=h
     rw[Nat.beq_refl,af,qe] at h
     exact h1 _ a' w' h hs'
    refine wp_block (ih ((id,t)::J) n1 _ σ r1 _ a w hr1 hs (fun σ' a' w' hk hs'=>?_) (fun id' t' xs a' w' hj he hs'=>?_) (fun σ' a' w' hk hs'=>?_))
    ·obtain ⟨xs,he,hs''⟩:=qj hst hk hs'
     exact hbrk xs a' w' he hs''
    ·by_cases hid:id'=id
     ·subst hid
      replace hj:sif (Nat.beq id' id') (some t) (pM J id')=some t':=hj
      rw[Nat.beq_refl,af] at hj
      obtain rfl:=Option.some.inj hj
      rw[Bi hlow']
      show if id'=id' then _ else _
      rw[if_pos rfl]
      exact hbrk xs a' w' he hs'
     ·refine hblk id' a' w' hid ?_
      have hb1:Nat.beq id id'=false:=by
       cases hb:Nat.beq id id' with
       |false=>rfl
       |true=>exact absurd (Nat.eq_of_beq_eq_true hb).symm hid
      have hb2:Nat.beq id' id=false:=by
       cases hb:Nat.beq id' id with
       |false=>rfl
       |true=>exact absurd (Nat.eq_of_beq_eq_true hb) hid
      replace hj:sif (Nat.beq id id') (some t) (pM J id')=some t':=hj
      rw[hb1,aN] at hj
      subst he
      replace h:sif (Nat.beq id' id) (t.pA xs κ) (some (.brk id' xs))=some r:=h
      rw[hb2,aN] at h
      exact h2 id' t' xs a' w' hj (Option.some.inj h).symm hs'
    ·obtain ⟨ys,rfl⟩:=jq hk
     have e:r=.ret ys:=(Option.some.inj h).symm
     rw[←e] at hk
     exact h3 σ' a' w' hk hs'
  |skip n1=>exact key n1 h
  |_=>exact key _ h
 |loop x ih=>
  intro J
  refine im hst ?_
  intro n κ σ r Q a w h hs h1 h2 h3
  cases n with
  |loop t n1=>
   replace h:sif (ti X t σ) (match t.data X.T (vU X.ip) σ with
    |some xs=>lim (fun xs=>t.pA xs (ev X x J n1 fun σ'=>oP X t σ' .again)) xs
    |none=>none) none=some r:=h
   cases hj:ti X t σ with
   |false=>rw[hj,aN] at h;simp at h
   |true=>
    rw[hj,af] at h
    split at h
    ·rename_i xs hxs
     have h0:oP X t σ .again=some (.again xs):=by unfold oP;rw[hj,af,hxs]
     obtain ⟨xs',he,hs0⟩:=qj hst h0 hs
     simp only[Out.again.injEq] at he
     subst he
     obtain ⟨k,hk⟩:=rO h
     refine wp_loop_rounds k ?_
     have rounds:∀(k:Nat) (xs:List C) (a:Act) (w:World),iter (fun xs=>t.pA xs (ev X x J n1 fun σ'=>oP X t σ' .again)) k xs=some r→Sim X.T fr X.n (t.inj xs) a w→Code.rounds P x Q k a w:=by
      intro k
      induction k with
      |zero=>intro xs a w hk _;simp[iter] at hk
      |succ k ihk=>
       intro xs a w hk hs
       show x.wp P (Exit.then (Code.rounds P x Q k) Q) a w
       simp only[iter] at hk
       rw[qe] at hk
       cases hr1:ev X x J n1 (fun σ'=>oP X t σ' .again) (t.inj xs) with
       |none=>rw[hr1] at hk;simp at hk
       |some r1=>
        rw[hr1] at hk
        refine ih J n1 _ _ r1 _ a w hr1 hs (fun σ' a' w' hk' hs'=>?_) (fun id' t' ys a' w' hj he hs'=>?_) (fun σ' a' w' hk' hs'=>?_)
        ·obtain ⟨ys,rfl,hs''⟩:=qj hst hk' hs'
         exact ihk ys a' w' hk hs''
        ·subst he
         exact DG (h2 id' t' ys a' w' hj (Option.some.inj hk).symm hs')
        ·obtain ⟨ys,rfl⟩:=jq hk'
         have e:r=.ret ys:=(Option.some.inj hk).symm
         rw[←e] at hk'
         exact h3 σ' a' w' hk' hs'
     exact rounds k _ a w hk hs0
    ·simp at h
  |_=>exact absurd (show (none:R)=some r from h) (by simp)
 |exit id=>
  intro J
  refine im hst ?_
  intro n κ σ r Q a w h hs h1 h2 h3
  replace h:sif (Nat.ble id 999999) (match pM J id with
   |some t=>oP X t σ (.brk id)
   |none=>none) none=some r:=h
  cases hlow:Nat.ble id 999999 with
  |false=>rw[hlow,aN] at h;simp at h
  |true=>
   rw[hlow,af] at h
   split at h
   ·rename_i t hj
    obtain ⟨xs,he,hs'⟩:=qj hst h hs
    have:=h2 id t xs a w hj he hs'
    rw[Bi (Nat.le_of_ble_eq_true hlow)] at this
    exact wp_exit this
   ·simp at h
 |label l=>
  intro J
  refine im hst ?_
  intro n κ σ r Q a w h hs h1 h2 h3
  exact wp_label (h1 σ a w h hs)
 |goto l=>
  intro J
  refine im hst ?_
  intro n κ σ r Q a w h hs h1 h2 h3
  replace h:(match pM J (Nat.add 1000000 l) with
   |some t=>oP X t σ (.brk (Nat.add 1000000 l))
   |none=>none)=some r:=h
  split at h
  ·rename_i t hj
   obtain ⟨xs,he,hs'⟩:=qj hst h hs
   have:=h2 _ t xs a w hj he hs'
   rw[tS] at this
   exact wp_goto this
  ·simp at h
 |ret=>
  intro J
  refine im hst ?_
  intro n κ σ r Q a w h hs h1 h2 h3
  exact wp_ret (h3 σ a w h hs)
 |_=>
  intro J n κ σ r Q a w h
  exact absurd (show (none:R)=some r from h) (by simp)
theorem uU {c rest:Code} {Q:Exit→Act→World→Prop} {a:Act} {w:World} (l:Nat) (R:Nat→Act→World→Prop) (hf:findLabel c l=some rest)
  (first:c.wp P (Exit.jump l (fun a w=>∃k,R k a w) Q) a w)
  (pass:∀k a w,R k a w→rest.wp P (Exit.jump l (fun a' w'=>∃j,j<k∧R j a' w') Q) a w):(Code.scope c).wp P Q a w:=by
 intro b k cs
 have hg:gotoIn l (.inScope c::k)=some (.code rest::.inScope c::k):=by simp[gotoIn,hf]
 have key:∀n a w,R n a w→∃e a' w',Q e a' w'∧Arrives P (lone (b.at a (.code rest::.inScope c::k)) cs w) b k cs e a' w':=by
  intro n
  induction n using Nat.strongRecOn with
  |_ n ih=>
   intro a w hR
   obtain ⟨e,a₁,w₁,hq,harr⟩:=pass n a w hR b (.inScope c::k) cs
   cases e with
   |normal=>exact ⟨.normal,a₁,w₁,hq,Steps.trans harr (.one step_inScope)⟩
   |exit id=>exact ⟨.exit id,a₁,w₁,hq,fun k' hk=>harr k' (by simp[exitTo,hk])⟩
   |goto l'=>
    obtain ⟨rfl,j,hj,hR'⟩:=hq
    obtain ⟨e₂,a₂,w₂,hq₂,harr₂⟩:=ih j hj a₁ w₁ hR'
    exact ⟨e₂,a₂,w₂,hq₂,.of_steps (harr _ hg) harr₂⟩
   |ret=>exact ⟨_,a₁,w₁,hq,harr⟩
   |panic ch=>exact ⟨_,a₁,w₁,hq,harr⟩
   |outgrown=>exact ⟨_,a₁,w₁,hq,harr⟩
 obtain ⟨e,a₁,w₁,hq,harr⟩:=first b (.inScope c::k) cs
 cases e with
 |normal=>exact ⟨.normal,a₁,w₁,hq,.head step_scope (Steps.trans harr (.one step_inScope))⟩
 |exit id=>exact ⟨.exit id,a₁,w₁,hq,fun k' hk=>.head step_scope (harr k' (by simp[exitTo,hk]))⟩
 |goto l'=>
  obtain ⟨rfl,j,hR'⟩:=hq
  obtain ⟨e₂,a₂,w₂,hq₂,harr₂⟩:=key j a₁ w₁ hR'
  exact ⟨e₂,a₂,w₂,hq₂,.of_steps (.head step_scope (harr _ hg)) harr₂⟩
 |ret=>exact ⟨_,a₁,w₁,hq,.of_steps (.one step_scope) harr⟩
 |panic ch=>exact ⟨_,a₁,w₁,hq,.of_steps (.one step_scope) harr⟩
 |outgrown=>exact ⟨_,a₁,w₁,hq,.of_steps (.one step_scope) harr⟩
theorem HS (hX:Env P X) (hst:fr.st=X.ip) {c:Code} {l:Nat} {t:Tm} {x y:Ann} {σ:St} {ys:List C} {Q:Exit→Act→World→Prop} {a:Act} {w:World} (h:evS X l t x y c σ=some (.ret ys)) (hs:Sim X.T fr X.n σ a w)
  (h1:∀σ' a' w',pN X σ'=some (.ret ys)→Sim X.T fr X.n σ' a' w'→Q .normal a' w') (h3:∀σ' a' w',pN X σ'=some (.ret ys)→Sim X.T fr X.n σ' a' w'→Q .ret a' w'):(Code.scope c).wp P Q a w:=by
 unfold evS at h
 split at h
 ·rename_i c' hc'
  have hjg:pM [(Nat.add 1000000 l,t)] (Nat.add 1000000 l)=some t:=by
   show sif (Nat.beq _ _) _ _=_
   rw[Nat.beq_refl];rfl
  have hjo:∀id t',pM [(Nat.add 1000000 l,t)] id=some t'→id=Nat.add 1000000 l∧t'=t:=by
   intro id t' h
   replace h:sif (Nat.beq (Nat.add 1000000 l) id) (some t) none=some t':=h
   cases hb:Nat.beq (Nat.add 1000000 l) id with
   |false=>rw[hb,aN] at h;simp at h
   |true=>rw[hb,af] at h;exact ⟨(Nat.eq_of_beq_eq_true hb).symm,(Option.some.inj h).symm⟩
  let body:List C→R:=fun xs=>goA (Nat.add 1000000 l) (t.pA xs (ev X c' [(Nat.add 1000000 l,t)] y fun σ=>pN X σ))
  refine uU l (fun k a w=>∃xs,iter body k xs=some (.ret ys)∧Sim X.T fr X.n (t.inj xs) a w) hc' ?_ ?_
  ·cases hr1:ev X c [(Nat.add 1000000 l,t)] x (fun σ=>pN X σ) σ with
   |none=>rw[hr1] at h;simp[qW] at h
   |some r1=>
    rw[hr1] at h
    refine zh hX hst c _ x _ _ r1 _ _ w hr1 hs (fun σ' a' w' hk hs'=>?_) (fun id t' xs a' w' hj he hs'=>?_) (fun σ' a' w' hk hs'=>?_)
    ·obtain ⟨zs,rfl⟩:=jq hk
     have e:zs=ys:=by simpa [qW] using h
     exact h1 σ' a' w' (e▸hk) hs'
    ·obtain ⟨rfl,rfl⟩:=hjo _ _ hj
     subst he
     replace h:sif (Nat.beq (Nat.add 1000000 l) (Nat.add 1000000 l)) (lim body xs) none=some (.ret ys):=h
     rw[Nat.beq_refl,af] at h
     obtain ⟨k,hk⟩:=rO h
     rw[tS]
     exact ⟨rfl,k,xs,hk,hs'⟩
    ·obtain ⟨zs,rfl⟩:=jq hk
     have e:zs=ys:=by simpa [qW] using h
     exact h3 σ' a' w' (e▸hk) hs'
  ·rintro k a w ⟨xs,hk,hs⟩
   cases k with
   |zero=>simp[iter] at hk
   |succ k=>
    simp only[iter] at hk
    cases hr2:ev X c' [(Nat.add 1000000 l,t)] y (fun σ=>pN X σ) (t.inj xs) with
    |none=>
     have e:body xs=none:=by show goA _ (t.pA xs _)=none;rw[qe,hr2];rfl
     rw[e] at hk;simp at hk
    |some r1=>
     have e:body xs=goA (Nat.add 1000000 l) (some r1):=by show goA _ (t.pA xs _)=_;rw[qe,hr2]
     rw[e] at hk
     refine zh hX hst c' _ y _ _ r1 _ _ w hr2 hs (fun σ' a' w' hk' hs'=>?_) (fun id t' zs a' w' hj he hs'=>?_) (fun σ' a' w' hk' hs'=>?_)
     ·obtain ⟨zs,rfl⟩:=jq hk'
      have e:zs=ys:=by simpa [goA] using hk
      exact h1 σ' a' w' (e▸hk') hs'
     ·obtain ⟨rfl,rfl⟩:=hjo _ _ hj
      subst he
      have e2:goA (Nat.add 1000000 l) (some (.brk (Nat.add 1000000 l) zs))=some (.again zs):=by
       show sif (Nat.beq _ _) _ _=_
       rw[Nat.beq_refl];rfl
      rw[e2] at hk
      rw[tS]
      exact ⟨rfl,k,Nat.lt_succ_self k,zs,hk,hs'⟩
     ·obtain ⟨zs,rfl⟩:=jq hk'
      have e:zs=ys:=by simpa [goA] using hk
      exact h3 σ' a' w' (e▸hk') hs'
 ·simp at h
theorem HB (hX:Env P X) (hst:fr.st=X.ip) {c:Code} {an:Ann} {σ:St} {ys:List C} {Q:Exit→Act→World→Prop} {a:Act} {w:World} (h:evT X an c σ=some (.ret ys)) (hs:Sim X.T fr X.n σ a w)
  (h1:∀σ' a' w',pN X σ'=some (.ret ys)→Sim X.T fr X.n σ' a' w'→Q .normal a' w') (h3:∀σ' a' w',pN X σ'=some (.ret ys)→Sim X.T fr X.n σ' a' w'→Q .ret a' w'):c.wp P Q a w:=by
 have flat:∀an,ev X c [] an (fun σ=>pN X σ) σ=some (.ret ys)→c.wp P Q a w:=fun an h=>
  zh hX hst c [] an _ _ _ _ _ w h hs h1 (fun id t xs a' w' h=>by simp[pM] at h) h3
 unfold evT at h
 split at h
 ·rename_i x l t y z b c
  exact wp_seq (zh hX hst b [] x _ _ _ _ _ w h hs (fun σ' a' w' hk hs'=>HS hX hst hk hs' h1 h3) (fun id t xs a' w' h=>by simp[pM] at h) h3)
 ·exact flat _ h
end
end Go.Ev
namespace Go.Ev
section
variable {P:Program} {T:Tys} {X:Cx} {fr:Fr} {F:Nat→Prop} {w:World} {θ:Nat→Value}
def wh (tmps:Array Value):ResultVar→Sem Value
 |.tmp t=>pure (tmps.getD t undef)
 |.cell a t=>do loadVar t (←asAddr (tmps.getD a undef))
theorem EY (hT:TOk P T) {σ:St} {n:Nat} {a:Act} (hw:WR T fr F w σ.bx θ) (hs:SlR T F w σ.bx θ n σ.sl a) {q:ResultVar} {v:V} (h:zS T σ q=some v):
  ∃u,(wh a.tmps q).run P w=.ok u w∧ah T F w σ.bx θ v u:=by
 cases q with
 |tmp t=>
  simp only[zS,Option.some.injEq] at h
  subst h
  exact ⟨_,by simp[wh],hs.sl t⟩
 |cell b t=>
  simp only[zS] at h
  split at h
  ·rename_i d b' ver off hd hb
   have hv:=hs.sl b
   rw[hb] at hv
   split at h
   ·rename_i v' t' cells hbx
    cases hc:ax (Nat.beq v' ver) (Nat.ble (off+len d.cts) (len cells)) with
    |false=>rw[hc,aN] at h;simp at h
    |true=>
     rw[hc,af] at h
     simp only[ak,Bool.and_eq_true,dg] at hc
     obtain ⟨g,hth,hvv,rfl⟩:=xm hv hbx hc.1
     obtain ⟨g',cs,e,d',q1,q2,q3,q4,q5,q6⟩:=hw.box b' _ hbx
     rw[hth] at q1
     simp only[Value.pointer.injEq,Option.some.injEq,Addr.mk.injEq,and_true] at q1
     subst q1
     have hle:=Nat.le_of_ble_eq_true hc.2
     rw[pG,p7,dg] at h
     have ht:=ck hT hd
     have hl:((cs.toList.drop off).take d.cts.length).length=d.cts.length:=by
      rw[List.length_take,List.length_drop];simp;omega
     have hl2:((cells.drop off).take d.cts.length).length=d.cts.length:=by
      rw[List.length_take,List.length_drop];omega
     have hrun:=ht.me (w:=w) (g:=g) (o:=off) hl (fun j u hj=>by
      rw[List.getElem?_take] at hj
      split at hj
      ·rw[List.getElem?_drop] at hj
       simp[World.cell?,q2];simpa using hj
      ·simp at hj)
     refine ⟨_,?_,CJ ht h (by rw[hl,hl2]) (fun i x u h1 h2=>?_)⟩
     ·simp[wh,hvv,asAddr,hrun]
     ·rw[List.getElem?_take] at h1 h2
      split at h1
      ·rename_i hi
       rw[if_pos hi] at h2
       rw[List.getElem?_drop] at h1 h2
       exact q6 _ x u h1 (by simpa using h2)
      ·simp at h1
   ·simp at h
  ·simp at h
theorem yt (hT:TOk P T) {σ:St} {n:Nat} {a:Act} (hw:WR T fr F w σ.bx θ) (hs:SlR T F w σ.bx θ n σ.sl a):∀(qs:List ResultVar) (vs:List V),tl T σ qs=some vs→
  ∃us:List Value,(qs.mapM (wh a.tmps)).run P w=.ok us w∧us.length=vs.length∧∀(i:Nat) (x:V) (v:Value),vs[i]?=some x→us[i]?=some v→ah T F w σ.bx θ x v
 |[],vs,h=>by
  simp only[tl,Option.some.injEq] at h
  subst h
  exact ⟨[],by simp,rfl,fun i x v h=>by simp at h⟩
 |q::r,vs,h=>by
  simp only[tl] at h
  split at h
  ·rename_i v hv
   split at h
   ·rename_i vs' hvs
    simp only[Option.some.injEq] at h
    subst h
    obtain ⟨u,h1,h2⟩:=EY (P:=P) hT hw hs hv
    obtain ⟨us,h3,h4,h5⟩:=yt hT hw hs r vs' hvs
    refine ⟨u::us,by simp[List.mapM_cons,h1,h3],by simp[h4],fun i x z a1 a2=>?_⟩
    cases i with
    |zero=>simp at a1 a2;subst a1;subst a2;exact h2
    |succ i=>exact h5 i x z (by simpa using a1) (by simpa using a2)
   ·simp at h
  ·simp at h
theorem Hj (hT:TOk P T) {σ:St} {n:Nat} {a:Act} (hw:WR T fr F w σ.bx θ) (hs:SlR T F w σ.bx θ n σ.sl a) {fn:Func} {v:V} (h:IU T σ fn.results.toList=some v):
  ∃u,(results fn a.tmps).run P w=.ok u w∧ah T F w σ.bx θ v u:=by
 unfold IU at h
 have key:∀vs,tl T σ fn.results.toList=some vs→∃us:List Value,(results fn a.tmps).run P w=.ok (if h:us.toArray.size=1 then us.toArray[0] else .tuple us.toArray) w∧us.length=vs.length∧∀(i:Nat) (x:V) (v:Value),vs[i]?=some x→us[i]?=some v→ah T F w σ.bx θ x v:=by
  intro vs hvs
  obtain ⟨us,h1,h2,h3⟩:=yt (P:=P) hT hw hs _ vs hvs
  refine ⟨us,?_,h2,h3⟩
  have e:results fn a.tmps=(do let vs←fn.results.mapM (wh a.tmps);pure (if h:vs.size=1 then vs[0] else .tuple vs)):=by
   unfold results
   congr 1
  rw[e]
  simp[Array.mapM_eq_mapM_toList,h1]
 split at h
 ·rename_i x hx
  simp only[Option.some.injEq] at h
  subst h
  obtain ⟨us,h1,h2,h3⟩:=key _ hx
  match us,h2 with
  |[u],_=>exact ⟨u,by simpa using h1,h3 0 _ u rfl rfl⟩
 ·rename_i vs hne hx
  simp only[Option.some.injEq] at h
  subst h
  obtain ⟨us,h1,h2,h3⟩:=key _ hx
  have hl:¬us.length=1:=by
   intro hl
   match vs,(h2.symm.trans hl) with
   |[x],_=>exact hne x rfl
  exact ⟨.tuple us.toArray,by simpa [hl] using h1,.tu _ us h2 h3⟩
 ·simp at h
theorem aA.JC (hX:Env P X) {f:FuncId} {fn:Func} {c:Code} {fs:FS} {an:Ann} (hf:P.funcs[f]?=some fn) (hb:fn.body=some c) (hname:(fn.name== "runtime.NumGoroutine")=false)
  (hn:fn.ntmps=X.n) (hres:fn.results.toList=X.res) (hin:X.inT=fs.inT) (hout:X.outT=fs.outT) (hip:X.ip=fs.ip) (hle:fs.n≤fn.ntmps) (hsl:∀xs k,fs.n≤k→(fs.inT.inj xs).sl k=.un)
  (hF:∀xs ys,fs.F xs=some ys→evF X c an xs=some ys):aA P X.T f fs:=by
 refine ⟨⟨fn,c,hf,hb,hname⟩,?_⟩
 intro w wr nl F0 θ xs ys args hw hsz hr hys
 refine calls_of_wp hf hb ?_
 have hev:=hF xs ys hys
 unfold evF at hev
 rw[hin,qe] at hev
 have hr1:evT X an c (fs.inT.inj xs)=some (.ret ys):=by
  unfold aZ at hev
  split at hev
  ·rename_i ys' h;rw[h];simp only[Option.some.injEq] at hev;rw[hev]
  ·simp at hev
 have hs:Sim X.T ⟨w,wr,F0,θ,fs.ip,nl⟩ X.n (fs.inT.inj xs) {tmps:=args++Array.replicate (fn.ntmps-args.size) undef,defers:=[]} w:=by
  refine ⟨F0,θ,hw,⟨fun k=>?_,by simp;omega,rfl⟩⟩
  by_cases hk:k<fs.n
  ·have:=hr k hk
   have e:(args++Array.replicate (fn.ntmps-args.size) undef).getD k undef=args.getD k undef:=by
    simp only[Array.getD_eq_getD_getElem?]
    rw[Array.getElem?_append_left (by omega)]
   show ah _ _ _ _ _ _ ((args++Array.replicate (fn.ntmps-args.size) undef).getD k undef)
   rw[e]
   exact this
  ·rw[hsl xs k (by omega)];exact .un _
 have hfin:∀(σ':St) (a':Act) (w':World),pN X σ'=some (.ret ys)→Sim X.T ⟨w,wr,F0,θ,fs.ip,nl⟩ X.n σ' a' w'→a'.defers=[]∧∃v,(results fn a'.tmps).run P w'=.ok v w'∧∃v' F1 θ1,Ending.returned v=.returned v'∧WR X.T ⟨w,wr,F0,θ,[],nl⟩ F1 w' (fs.outT.inj ys).bx θ1∧ah X.T F1 w' (fs.outT.inj ys).bx θ1 ((fs.outT.inj ys).sl 0) v'∧
   ∀n x,n∈fs.ip→(fs.outT.inj ys).bx n=some x→θ1 n=θ n∧(x.m=2→Hdr w w' (θ n)):=by
  intro σ' a' w' hret hsim
  obtain ⟨F,θ',hw',hs'⟩:=hsim
  refine ⟨hs'.defers,?_⟩
  unfold pN at hret
  split at hret
  ·rename_i v hv
   cases hc:ax (Ce σ'.bx X.ip) (lS X.inT.bx X.ip) with
   |false=>rw[hc,aN] at hret;simp at hret
   |true=>
    rw[hc,af] at hret
    simp only[ak,Bool.and_eq_true] at hc
    split at hret
    ·rename_i e he
     cases hz:isNil e.fz with
     |false=>rw[hz,aN] at hret;simp at hret
     |true=>
      rw[hz,af] at hret
      simp only[Option.some.injEq,Out.ret.injEq] at hret
      obtain ⟨u,hu,hru⟩:=Hj (P:=P) (fn:=fn) hX.T hw' hs' (by rw[hres];exact hv)
      have hval:∀d,ah X.T F w' σ'.bx θ' (upd (fun _=>V.un) 0 v d) (if d=0 then u else undef):=by
       intro d
       by_cases hd:d=0
       ·subst hd;rw[al,if_pos rfl];exact hru
       ·rw[aO _ _ hd];exact .un _
      have hi:=tg hw' hval he
      have hle':=Ff hw' hval he
      rw[hret] at hi
      rw[hout] at hi he
      refine ⟨u,hu,u,_,_,rfl,hi.wr hw' (st:=[]) (fun n hn=>by simp at hn),?_,fun n x' hn hx=>?_⟩
      ·have:=hi.sl 0;simpa using this
      ·rw[hip,hin] at hc
       have hf':=hle' n _ (qY (l:=X.ip) (by rw[hip];exact hn))
       obtain ⟨x,q1,q2⟩:=hw'.stay n hn
       obtain ⟨y,q3,q4,q5⟩:=vX hc.1 n hn
       rw[q1] at q3;obtain rfl:=Option.some.inj q3
       have hth:mI θ' e.r n=θ n:=by simp only[mI,hf'];exact (q2 q4).1
       refine ⟨hth,fun hm=>?_⟩
       obtain ⟨x2,p1,p2⟩:=hi.has n (hi.hasnt n x' hx)
       have hx2:x2=x':=by
        rw[hx] at p1;exact (Option.some.inj p1).symm
       subst hx2
       have:=(q2 q4).2 ?_
       ·rw[(q2 q4).1] at this;exact this
       ·rcases p2.2 with ⟨b',y',r1,r2,r3,r4,_⟩|⟨r1,_⟩
        ·rw[hf'] at r1
         simp only[Option.some.injEq] at r1
         subst r1
         rw[q1] at r2;obtain rfl:=Option.some.inj r2
         exact w8 r4 q5 hm
        ·rw[hf'] at r1;simp at r1
    ·simp at hret
  ·simp at hret
 refine HB hX (fr:=⟨w,wr,F0,θ,fs.ip,nl⟩) hip.symm hr1 hs (fun σ' a' w' h1 h2=>?_) (fun σ' a' w' h1 h2=>?_)
 ·exact hfin σ' a' w' h1 h2
 ·exact hfin σ' a' w' h1 h2
end
end Go.Ev
namespace Go.Ev
def isZero:CT→Value→Bool
 |.int k,.int k' n=>ax (wo k k') (match n with|.ofNat 0=>true|_=>false)
 |.bool,.bool b=>dM b
 |.str,.string s=>match s with|⟨⟨[]⟩⟩=>true|_=>false
 |.sl _,.slice none 0 0=>true
 |.pt _,.pointer none=>true
 |.fn,.nilFunc=>true
 |_,_=>false
theorem yu {c:CT} {v:Value} (h:isZero c v=true):v=bO c:=by
 unfold isZero at h
 split at h
 ·rename_i k k' n
  simp only[ak,Bool.and_eq_true] at h
  have:=mu h.1;subst this
  have h2:=h.2
  split at h2
  ·rfl
  ·simp at h2
 ·rename_i b;cases b<;>simp[dM] at h⊢;rfl
 ·split at h
  ·rfl
  ·simp at h
 ·rfl
 ·rfl
 ·rfl
 ·simp at h
def tC:List CT→List Value→Bool
 |[],[]=>true
 |c::cs,v::vs=>ax (isZero c v) (tC cs vs)
 |_,_=>false
theorem ye:∀ {cs:List CT} {vs:List Value},tC cs vs=true→vs=cs.map bO
 |[],[],_=>rfl
 |[],_::_,h=>by simp[tC] at h
 |_::_,[],h=>by simp[tC] at h
 |c::cs,v::vs,h=>by
  simp only[tC,ak,Bool.and_eq_true] at h
  rw[yu h.1,ye h.2];rfl
def Gk (d:TD) (v:Value):Bool:=match d.agg with
 |true=>match v with|.agg cs=>tC d.cts cs.toList|_=>false
 |false=>match d.cts with|[t]=>isZero t v|_=>false
theorem Gh {d:TD} {v:Value} (h:Gk d v=true):v=zeroOf d:=by
 unfold Gk at h
 unfold zeroOf
 split at h
 ·rename_i ha
  rw[ha,if_pos rfl]
  split at h
  ·rw[←ye h]
  ·simp at h
 ·rename_i ha
  rw[ha,if_neg (by simp)]
  split at h
  ·rename_i t ht
   rw[ht]
   exact yu h
  ·simp at h
def oH:List CT→List CT→Bool
 |[],[]=>true
 |a::r,b::s=>ax (iw a b) (oH r s)
 |_,_=>false
theorem xx:∀ {a b:List CT},oH a b=true→a=b
 |[],[],_=>rfl
 |[],_::_,h=>by simp[oH] at h
 |_::_,[],h=>by simp[oH] at h
 |x::r,y::s,h=>by
  simp only[oH,ak,Bool.and_eq_true] at h
  rw[fY h.1,xx h.2]
def Ec:List (Nat×TypeId)→List (Nat×TypeId)→Bool
 |[],[]=>true
 |(a,b)::r,(c,d)::s=>ax (Nat.beq a c) (ax (Nat.beq b d) (Ec r s))
 |_,_=>false
theorem Dl:∀ {a b:List (Nat×TypeId)},Ec a b=true→a=b
 |[],[],_=>rfl
 |[],_::_,h=>by simp[Ec] at h
 |_::_,[],h=>by simp[Ec] at h
 |(x,x')::r,(y,y')::s,h=>by
  simp only[Ec,ak,Bool.and_eq_true] at h
  rw[Nat.eq_of_beq_eq_true h.1,Nat.eq_of_beq_eq_true h.2.1,Dl h.2.2]
def I8:DV→DV→Bool
 |.bool,.bool=>true|.int k,.int k'=>wo k k'|.str,.str=>true|.sl e,.sl e'=>Nat.beq e e'|.pt e,.pt e'=>Nat.beq e e'|.st f,.st f'=>Ec f f'|.fn,.fn=>true|_,_=>false
theorem GU {a b:DV} (h:I8 a b=true):a=b:=by
 unfold I8 at h
 split at h
 ·rfl
 ·rw[mu h]
 ·rfl
 ·rw[Nat.eq_of_beq_eq_true h]
 ·rw[Nat.eq_of_beq_eq_true h]
 ·rw[Dl h]
 ·rfl
 ·simp at h
def Hp (T:Tys) (cts:List CT):List (Nat×TypeId)→Bool
 |[]=>true
 |(o,f)::r=>ax (match aV T f with|some df=>oH (tak (len df.cts) (drp o cts)) df.cts|none=>true) (Hp T cts r)
theorem D3 {T:Tys} {cts:List CT}:∀ {fs:List (Nat×TypeId)},Hp T cts fs=true→∀o f,(o,f)∈fs→∀df,aV T f=some df→(cts.drop o).take df.cts.length=df.cts
 |[],_,o,f,h,_,_=>by simp at h
 |(o',f')::r,h,o,f,hm,df,hd=>by
  simp only[Hp,ak,Bool.and_eq_true] at h
  rcases List.mem_cons.1 hm with e|hm
  ·simp only[Prod.mk.injEq] at e
   obtain ⟨rfl,rfl⟩:=e
   have h1:=h.1
   rw[hd] at h1
   have:=xx h1
   rw[pG,p7,dg] at this
   exact this
  ·exact D3 h.2 o f hm df hd
def Ih (T:Tys) (d:TD):Bool:=match d.dv with
 |.bool=>oH d.cts [.bool]|.int k=>oH d.cts [.int k]|.str=>oH d.cts [.str]|.sl e=>oH d.cts [.sl e]|.pt e=>oH d.cts [.pt e]|.fn=>oH d.cts [.fn]
 |.st fs=>Hp T d.cts fs
 |.other=>false
def tyB (P:Program) (T:Tys) (t:TypeId) (d:TD):Bool:=
 match P.info? t,P.underlying t with
 |some i,some u=>ax (match i.zero with|some z=>Gk d z|none=>false) (ax (Nat.beq i.size (len d.cts)) (ax (Nat.beq i.bytes d.bytes) (ax (I8 (dV u) d.dv) (ax (Nat.blt 0 (len d.cts)) (Ih T d)))))
 |_,_=>false
theorem ID {P:Program} {T:Tys} {t:TypeId} {d:TD} (h:tyB P T t d=true):kU P T t d:=by
 unfold tyB at h
 split at h
 ·rename_i i u hi hu
  simp only[ak,Bool.and_eq_true] at h
  obtain ⟨h1,h2,h3,h4,h5,h6⟩:=h
  have h2:=Nat.eq_of_beq_eq_true h2
  have h5:=Nat.le_of_ble_eq_true h5
  rw[dg] at h2 h5
  refine ⟨⟨i,hi,?_,h2,Nat.eq_of_beq_eq_true h3⟩,⟨u,hu,GU h4⟩,h5,?_⟩
  ·split at h1
   ·rename_i z hz;rw[hz,Gh h1]
   ·simp at h1
  ·unfold Ih at h6
   cases hd:d.dv with
   |st fs=>rw[hd] at h6;exact D3 h6
   |other=>rw[hd] at h6;simp at h6
   |_=>rw[hd] at h6;exact xx h6
 ·simp at h
def Fj (P:Program) (T:Tys):List (Nat×TD)→Bool
 |[]=>true
 |(t,d)::r=>ax (ax (tyB P T t d) (match d.dv with|.sl e=>(P.info? e).isSome|_=>true)) (Fj P T r)
theorem xt {t:Nat} {d:TD}:∀ {T:Tys},aV T t=some d→(t,d)∈T
 |[],h=>by simp[aV] at h
 |(n,d')::r,h=>by
  replace h:sif (Nat.beq n t) (some d') (aV r t)=some d:=h
  cases hb:Nat.beq n t with
  |true=>
   rw[hb,af] at h
   rw[Option.some.inj h,Nat.eq_of_beq_eq_true hb]
   exact List.mem_cons_self ..
  |false=>rw[hb,aN] at h;exact List.mem_cons_of_mem _ (xt h)
theorem Df {P:Program} {T:Tys} (h:Fj P T T=true):TOk P T∧∀t e,eh T t=some e→(P.info? e).isSome=true:=by
 have key:∀ {l:List (Nat×TD)},Fj P T l=true→∀t d,(t,d)∈l→tyB P T t d=true∧(match d.dv with|.sl e=>(P.info? e).isSome|_=>true)=true:=by
  intro l
  induction l with
  |nil=>intro _ t d h;simp at h
  |cons p r ih=>
   obtain ⟨t',d'⟩:=p
   intro h t d hm
   simp only[Fj,ak,Bool.and_eq_true] at h
   rcases List.mem_cons.1 hm with e|hm
   ·simp only[Prod.mk.injEq] at e;obtain ⟨rfl,rfl⟩:=e;exact h.1
   ·exact ih h.2 t d hm
 refine ⟨fun t d hd=>ID (key h t d (xt hd)).1,fun t e he=>?_⟩
 unfold eh at he
 split at he
 ·rename_i e' cts b hd
  simp only[Option.some.injEq] at he
  subst he
  exact (key h t _ (xt hd)).2
 ·simp at he
def qp (P:Program) (f:TypeId):CT→Bool
 |.int k=>match P.underlying f with|some (.int k')=>wo k' k|_=>false
 |.bool=>match P.underlying f with|some .bool=>true|_=>false
 |.str=>match P.underlying f with|some .string=>true|_=>false
 |_=>false
theorem CZ {P:Program} {f:TypeId} {ct:CT} (h:qp P f ct=true):qV P f ct:=by
 cases ct with
 |int k=>
  simp only[qp] at h
  split at h
  ·rename_i k' hu;simp only[qV];rw[hu,mu h]
  ·simp at h
 |bool=>
  simp only[qp] at h
  split at h
  ·rename_i hu;exact hu
  ·simp at h
 |str=>
  simp only[qp] at h
  split at h
  ·rename_i hu;exact hu
  ·simp at h
 |_=>simp[qp] at h
def qo (P:Program):List Field→List CT→Nat→Bool
 |[],[],_=>true
 |f::fs,ct::cts,j=>ax (dM (f.name== "_")) (ax (Nat.beq f.offset j) (ax (qp P f.type ct) (qo P fs cts (j+1))))
 |_,_,_=>false
theorem xG {P:Program}:∀ {fs:List Field} {cts:List CT} {j:Nat},qo P fs cts j=true→fs.length=cts.length∧∀(i:Nat) (f:Field) (ct:CT),fs[i]?=some f→cts[i]?=some ct→f.name≠ "_" ∧f.offset=j+i∧qV P f.type ct
 |[],[],j,_=>⟨rfl,fun i f ct h=>by simp at h⟩
 |[],_::_,j,h=>by simp[qo] at h
 |_::_,[],j,h=>by simp[qo] at h
 |f::fs,ct::cts,j,h=>by
  simp only[qo,ak,cN,Bool.and_eq_true] at h
  obtain ⟨h1,h2,h3,h4⟩:=h
  obtain ⟨a,b⟩:=xG h4
  refine ⟨by simp[a],fun i g c hg hc=>?_⟩
  cases i with
  |zero=>
   simp only[List.getElem?_cons_zero,Option.some.injEq] at hg hc
   subst hg;subst hc
   refine ⟨fun e=>?_,by simpa using Nat.eq_of_beq_eq_true h2,CZ h3⟩
   rw[e] at h1
   simp at h1
  |succ i=>
   obtain ⟨c1,c2,c3⟩:=b i g c (by simpa using hg) (by simpa using hc)
   exact ⟨c1,by omega,c3⟩
def eqB (P:Program) (T:Tys) (t:TypeId):Bool:=
 match P.underlying t,aV T t with
 |some (.struct fs),some d=>ax (dM (P.stoodInHeld t)) (ax (dM (P.eqGuardType P.depth t)) (qo P fs.toList d.cts 0))
 |_,_=>false
theorem Jo {P:Program} {T:Tys} {t:TypeId} (h:eqB P T t=true):Gx P T t:=by
 unfold eqB at h
 split at h
 ·rename_i fs d hu hd
  simp only[ak,cN,Bool.and_eq_true,Bool.not_eq_true'] at h
  have hf:P.fieldsOf t=fs:=by simp[Program.fieldsOf,hu]
  refine ⟨by rw[hf];exact hu,h.1,h.2.1,fun d' hd'=>?_⟩
  rw[hd] at hd'
  obtain rfl:=Option.some.inj hd'
  obtain ⟨a,b⟩:=xG h.2.2
  rw[hf]
  exact ⟨a,fun i f ct h1 h2=>by have:=b i f ct h1 h2;simpa using this⟩
 ·simp at h
def HH (P:Program) (T:Tys):List Nat→Bool|[]=>true|t::r=>ax (eqB P T t) (HH P T r)
theorem C8 {P:Program} {T:Tys}:∀ {l:List Nat},HH P T l=true→∀t,cR l t=true→Gx P T t
 |[],_,t,h=>by simp[cR] at h
 |a::r,h,t,hm=>by
  simp only[HH,ak,Bool.and_eq_true] at h
  rw[cE] at hm
  rcases List.mem_cons.1 hm with rfl|hm
  ·exact Jo h.1
  ·exact C8 h.2 t ((cE _ _).2 hm)
end Go.Ev
namespace Go.Ev
abbrev bs (l:Array UInt8):ByteArray:=⟨l⟩
abbrev ao:List (List C):=[]
abbrev rows (l:List (List C)):List (List C):=l
abbrev w64 (n:Int):Int:=IntKind.wrap .i64 n
def ad (o:Option (List C)) (K:C→R):R:=ig o fun ys=>K (ys.getD 0 .nil)
def call2 (o:Option (List C)) (K:C→C→R):R:=ig o fun ys=>K (ys.getD 0 .nil) (ys.getD 1 .nil)
def call3 (o:Option (List C)) (K:C→C→C→R):R:=ig o fun ys=>K (ys.getD 0 .nil) (ys.getD 1 .nil) (ys.getD 2 .nil)
def call4 (o:Option (List C)) (K:C→C→C→C→R):R:=ig o fun ys=>K (ys.getD 0 .nil) (ys.getD 1 .nil) (ys.getD 2 .nil) (ys.getD 3 .nil)
def call5 (o:Option (List C)) (K:C→C→C→C→C→R):R:=ig o fun ys=>K (ys.getD 0 .nil) (ys.getD 1 .nil) (ys.getD 2 .nil) (ys.getD 3 .nil) (ys.getD 4 .nil)
def call6 (o:Option (List C)) (K:C→C→C→C→C→C→R):R:=ig o fun ys=>K (ys.getD 0 .nil) (ys.getD 1 .nil) (ys.getD 2 .nil) (ys.getD 3 .nil) (ys.getD 4 .nil) (ys.getD 5 .nil)
def call8 (o:Option (List C)) (K:C→C→C→C→C→C→C→C→R):R:=ig o fun ys=>K (ys.getD 0 .nil) (ys.getD 1 .nil) (ys.getD 2 .nil) (ys.getD 3 .nil) (ys.getD 4 .nil) (ys.getD 5 .nil) (ys.getD 6 .nil) (ys.getD 7 .nil)
def call12 (o:Option (List C)) (K:C→C→C→C→C→C→C→C→C→C→C→C→R):R:=ig o fun ys=>K (ys.getD 0 .nil) (ys.getD 1 .nil) (ys.getD 2 .nil) (ys.getD 3 .nil) (ys.getD 4 .nil) (ys.getD 5 .nil) (ys.getD 6 .nil) (ys.getD 7 .nil) (ys.getD 8 .nil) (ys.getD 9 .nil) (ys.getD 10 .nil) (ys.getD 11 .nil)
def call13 (o:Option (List C)) (K:C→C→C→C→C→C→C→C→C→C→C→C→C→R):R:=ig o fun ys=>K (ys.getD 0 .nil) (ys.getD 1 .nil) (ys.getD 2 .nil) (ys.getD 3 .nil) (ys.getD 4 .nil) (ys.getD 5 .nil) (ys.getD 6 .nil) (ys.getD 7 .nil) (ys.getD 8 .nil) (ys.getD 9 .nil) (ys.getD 10 .nil) (ys.getD 11 .nil) (ys.getD 12 .nil)
def call14 (o:Option (List C)) (K:C→C→C→C→C→C→C→C→C→C→C→C→C→C→R):R:=ig o fun ys=>K (ys.getD 0 .nil) (ys.getD 1 .nil) (ys.getD 2 .nil) (ys.getD 3 .nil) (ys.getD 4 .nil) (ys.getD 5 .nil) (ys.getD 6 .nil) (ys.getD 7 .nil) (ys.getD 8 .nil) (ys.getD 9 .nil) (ys.getD 10 .nil) (ys.getD 11 .nil) (ys.getD 12 .nil) (ys.getD 13 .nil)
def ap1 (f:C→R) (xs:List C):R:=f (xs.getD 0 .nil)
def ap2 (f:C→C→R) (xs:List C):R:=f (xs.getD 0 .nil) (xs.getD 1 .nil)
def ap3 (f:C→C→C→R) (xs:List C):R:=f (xs.getD 0 .nil) (xs.getD 1 .nil) (xs.getD 2 .nil)
def ap4 (f:C→C→C→C→R) (xs:List C):R:=f (xs.getD 0 .nil) (xs.getD 1 .nil) (xs.getD 2 .nil) (xs.getD 3 .nil)
def ap5 (f:C→C→C→C→C→R) (xs:List C):R:=f (xs.getD 0 .nil) (xs.getD 1 .nil) (xs.getD 2 .nil) (xs.getD 3 .nil) (xs.getD 4 .nil)
def ap6 (f:C→C→C→C→C→C→R) (xs:List C):R:=f (xs.getD 0 .nil) (xs.getD 1 .nil) (xs.getD 2 .nil) (xs.getD 3 .nil) (xs.getD 4 .nil) (xs.getD 5 .nil)
def ap7 (f:C→C→C→C→C→C→C→R) (xs:List C):R:=f (xs.getD 0 .nil) (xs.getD 1 .nil) (xs.getD 2 .nil) (xs.getD 3 .nil) (xs.getD 4 .nil) (xs.getD 5 .nil) (xs.getD 6 .nil)
def ap8 (f:C→C→C→C→C→C→C→C→R) (xs:List C):R:=f (xs.getD 0 .nil) (xs.getD 1 .nil) (xs.getD 2 .nil) (xs.getD 3 .nil) (xs.getD 4 .nil) (xs.getD 5 .nil) (xs.getD 6 .nil) (xs.getD 7 .nil)
def ap9 (f:C→C→C→C→C→C→C→C→C→R) (xs:List C):R:=f (xs.getD 0 .nil) (xs.getD 1 .nil) (xs.getD 2 .nil) (xs.getD 3 .nil) (xs.getD 4 .nil) (xs.getD 5 .nil) (xs.getD 6 .nil) (xs.getD 7 .nil) (xs.getD 8 .nil)
def s7 (f:C→C→C→C→C→C→C→C→C→C→R) (xs:List C):R:=f (xs.getD 0 .nil) (xs.getD 1 .nil) (xs.getD 2 .nil) (xs.getD 3 .nil) (xs.getD 4 .nil) (xs.getD 5 .nil) (xs.getD 6 .nil) (xs.getD 7 .nil) (xs.getD 8 .nil) (xs.getD 9 .nil)
def Aw (f:C→C→C→C→C→C→C→C→C→C→C→R) (xs:List C):R:=f (xs.getD 0 .nil) (xs.getD 1 .nil) (xs.getD 2 .nil) (xs.getD 3 .nil) (xs.getD 4 .nil) (xs.getD 5 .nil) (xs.getD 6 .nil) (xs.getD 7 .nil) (xs.getD 8 .nil) (xs.getD 9 .nil) (xs.getD 10 .nil)
def jk (f:C→C→C→C→C→C→C→C→C→C→C→C→R) (xs:List C):R:=f (xs.getD 0 .nil) (xs.getD 1 .nil) (xs.getD 2 .nil) (xs.getD 3 .nil) (xs.getD 4 .nil) (xs.getD 5 .nil) (xs.getD 6 .nil) (xs.getD 7 .nil) (xs.getD 8 .nil) (xs.getD 9 .nil) (xs.getD 10 .nil) (xs.getD 11 .nil)
def oQ (f:C→C→C→C→C→C→C→C→C→C→C→C→C→R) (xs:List C):R:=f (xs.getD 0 .nil) (xs.getD 1 .nil) (xs.getD 2 .nil) (xs.getD 3 .nil) (xs.getD 4 .nil) (xs.getD 5 .nil) (xs.getD 6 .nil) (xs.getD 7 .nil) (xs.getD 8 .nil) (xs.getD 9 .nil) (xs.getD 10 .nil) (xs.getD 11 .nil) (xs.getD 12 .nil)
def Kh (f:C→C→C→C→C→C→C→C→C→C→C→C→C→C→R) (xs:List C):R:=f (xs.getD 0 .nil) (xs.getD 1 .nil) (xs.getD 2 .nil) (xs.getD 3 .nil) (xs.getD 4 .nil) (xs.getD 5 .nil) (xs.getD 6 .nil) (xs.getD 7 .nil) (xs.getD 8 .nil) (xs.getD 9 .nil) (xs.getD 10 .nil) (xs.getD 11 .nil) (xs.getD 12 .nil) (xs.getD 13 .nil)
def IS (f:C→C→C→C→C→C→C→C→C→C→C→C→C→C→C→R) (xs:List C):R:=f (xs.getD 0 .nil) (xs.getD 1 .nil) (xs.getD 2 .nil) (xs.getD 3 .nil) (xs.getD 4 .nil) (xs.getD 5 .nil) (xs.getD 6 .nil) (xs.getD 7 .nil) (xs.getD 8 .nil) (xs.getD 9 .nil) (xs.getD 10 .nil) (xs.getD 11 .nil) (xs.getD 12 .nil) (xs.getD 13 .nil) (xs.getD 14 .nil)
def I0 (f:C→C→C→C→C→C→C→C→C→C→C→C→C→C→C→C→R) (xs:List C):R:=f (xs.getD 0 .nil) (xs.getD 1 .nil) (xs.getD 2 .nil) (xs.getD 3 .nil) (xs.getD 4 .nil) (xs.getD 5 .nil) (xs.getD 6 .nil) (xs.getD 7 .nil) (xs.getD 8 .nil) (xs.getD 9 .nil) (xs.getD 10 .nil) (xs.getD 11 .nil) (xs.getD 12 .nil) (xs.getD 13 .nil) (xs.getD 14 .nil) (xs.getD 15 .nil)
def Kn (f:C→C→C→C→C→C→C→C→C→C→C→C→C→C→C→C→C→R) (xs:List C):R:=f (xs.getD 0 .nil) (xs.getD 1 .nil) (xs.getD 2 .nil) (xs.getD 3 .nil) (xs.getD 4 .nil) (xs.getD 5 .nil) (xs.getD 6 .nil) (xs.getD 7 .nil) (xs.getD 8 .nil) (xs.getD 9 .nil) (xs.getD 10 .nil) (xs.getD 11 .nil) (xs.getD 12 .nil) (xs.getD 13 .nil) (xs.getD 14 .nil) (xs.getD 15 .nil) (xs.getD 16 .nil)
def Ci (f:C→C→C→C→C→C→C→C→C→C→C→C→C→C→C→C→C→C→R) (xs:List C):R:=f (xs.getD 0 .nil) (xs.getD 1 .nil) (xs.getD 2 .nil) (xs.getD 3 .nil) (xs.getD 4 .nil) (xs.getD 5 .nil) (xs.getD 6 .nil) (xs.getD 7 .nil) (xs.getD 8 .nil) (xs.getD 9 .nil) (xs.getD 10 .nil) (xs.getD 11 .nil) (xs.getD 12 .nil) (xs.getD 13 .nil) (xs.getD 14 .nil) (xs.getD 15 .nil) (xs.getD 16 .nil) (xs.getD 17 .nil)
def wk (f:C→C→C→C→C→C→C→C→C→C→C→C→C→C→C→C→C→C→C→R) (xs:List C):R:=f (xs.getD 0 .nil) (xs.getD 1 .nil) (xs.getD 2 .nil) (xs.getD 3 .nil) (xs.getD 4 .nil) (xs.getD 5 .nil) (xs.getD 6 .nil) (xs.getD 7 .nil) (xs.getD 8 .nil) (xs.getD 9 .nil) (xs.getD 10 .nil) (xs.getD 11 .nil) (xs.getD 12 .nil) (xs.getD 13 .nil) (xs.getD 14 .nil) (xs.getD 15 .nil) (xs.getD 16 .nil) (xs.getD 17 .nil) (xs.getD 18 .nil)
def Kd (f:C→C→C→C→C→C→C→C→C→C→C→C→C→C→C→C→C→C→C→C→R) (xs:List C):R:=f (xs.getD 0 .nil) (xs.getD 1 .nil) (xs.getD 2 .nil) (xs.getD 3 .nil) (xs.getD 4 .nil) (xs.getD 5 .nil) (xs.getD 6 .nil) (xs.getD 7 .nil) (xs.getD 8 .nil) (xs.getD 9 .nil) (xs.getD 10 .nil) (xs.getD 11 .nil) (xs.getD 12 .nil) (xs.getD 13 .nil) (xs.getD 14 .nil) (xs.getD 15 .nil) (xs.getD 16 .nil) (xs.getD 17 .nil) (xs.getD 18 .nil) (xs.getD 19 .nil)
def Kg (f:C→C→C→C→C→C→C→C→C→C→C→C→C→C→C→C→C→C→C→C→C→R) (xs:List C):R:=f (xs.getD 0 .nil) (xs.getD 1 .nil) (xs.getD 2 .nil) (xs.getD 3 .nil) (xs.getD 4 .nil) (xs.getD 5 .nil) (xs.getD 6 .nil) (xs.getD 7 .nil) (xs.getD 8 .nil) (xs.getD 9 .nil) (xs.getD 10 .nil) (xs.getD 11 .nil) (xs.getD 12 .nil) (xs.getD 13 .nil) (xs.getD 14 .nil) (xs.getD 15 .nil) (xs.getD 16 .nil) (xs.getD 17 .nil) (xs.getD 18 .nil) (xs.getD 19 .nil) (xs.getD 20 .nil)
def Ac (f:C→C→C→C→C→C→C→C→C→C→C→C→C→C→C→C→C→C→C→C→C→C→R) (xs:List C):R:=f (xs.getD 0 .nil) (xs.getD 1 .nil) (xs.getD 2 .nil) (xs.getD 3 .nil) (xs.getD 4 .nil) (xs.getD 5 .nil) (xs.getD 6 .nil) (xs.getD 7 .nil) (xs.getD 8 .nil) (xs.getD 9 .nil) (xs.getD 10 .nil) (xs.getD 11 .nil) (xs.getD 12 .nil) (xs.getD 13 .nil) (xs.getD 14 .nil) (xs.getD 15 .nil) (xs.getD 16 .nil) (xs.getD 17 .nil) (xs.getD 18 .nil) (xs.getD 19 .nil) (xs.getD 20 .nil) (xs.getD 21 .nil)
def Eh (f:C→C→C→C→C→C→C→C→C→C→C→C→C→C→C→C→C→C→C→C→C→C→C→R) (xs:List C):R:=f (xs.getD 0 .nil) (xs.getD 1 .nil) (xs.getD 2 .nil) (xs.getD 3 .nil) (xs.getD 4 .nil) (xs.getD 5 .nil) (xs.getD 6 .nil) (xs.getD 7 .nil) (xs.getD 8 .nil) (xs.getD 9 .nil) (xs.getD 10 .nil) (xs.getD 11 .nil) (xs.getD 12 .nil) (xs.getD 13 .nil) (xs.getD 14 .nil) (xs.getD 15 .nil) (xs.getD 16 .nil) (xs.getD 17 .nil) (xs.getD 18 .nil) (xs.getD 19 .nil) (xs.getD 20 .nil) (xs.getD 21 .nil) (xs.getD 22 .nil)
def xc (f:C→C→C→C→C→C→C→C→C→C→C→C→C→C→C→C→C→C→C→C→C→C→C→C→R) (xs:List C):R:=f (xs.getD 0 .nil) (xs.getD 1 .nil) (xs.getD 2 .nil) (xs.getD 3 .nil) (xs.getD 4 .nil) (xs.getD 5 .nil) (xs.getD 6 .nil) (xs.getD 7 .nil) (xs.getD 8 .nil) (xs.getD 9 .nil) (xs.getD 10 .nil) (xs.getD 11 .nil) (xs.getD 12 .nil) (xs.getD 13 .nil) (xs.getD 14 .nil) (xs.getD 15 .nil) (xs.getD 16 .nil) (xs.getD 17 .nil) (xs.getD 18 .nil) (xs.getD 19 .nil) (xs.getD 20 .nil) (xs.getD 21 .nil) (xs.getD 22 .nil) (xs.getD 23 .nil)
def Gg (f:C→C→C→C→C→C→C→C→C→C→C→C→C→C→C→C→C→C→C→C→C→C→C→C→C→R) (xs:List C):R:=f (xs.getD 0 .nil) (xs.getD 1 .nil) (xs.getD 2 .nil) (xs.getD 3 .nil) (xs.getD 4 .nil) (xs.getD 5 .nil) (xs.getD 6 .nil) (xs.getD 7 .nil) (xs.getD 8 .nil) (xs.getD 9 .nil) (xs.getD 10 .nil) (xs.getD 11 .nil) (xs.getD 12 .nil) (xs.getD 13 .nil) (xs.getD 14 .nil) (xs.getD 15 .nil) (xs.getD 16 .nil) (xs.getD 17 .nil) (xs.getD 18 .nil) (xs.getD 19 .nil) (xs.getD 20 .nil) (xs.getD 21 .nil) (xs.getD 22 .nil) (xs.getD 23 .nil) (xs.getD 24 .nil)
def Ha (f:C→C→C→C→C→C→C→C→C→C→C→C→C→C→C→C→C→C→C→C→C→C→C→C→C→C→R) (xs:List C):R:=f (xs.getD 0 .nil) (xs.getD 1 .nil) (xs.getD 2 .nil) (xs.getD 3 .nil) (xs.getD 4 .nil) (xs.getD 5 .nil) (xs.getD 6 .nil) (xs.getD 7 .nil) (xs.getD 8 .nil) (xs.getD 9 .nil) (xs.getD 10 .nil) (xs.getD 11 .nil) (xs.getD 12 .nil) (xs.getD 13 .nil) (xs.getD 14 .nil) (xs.getD 15 .nil) (xs.getD 16 .nil) (xs.getD 17 .nil) (xs.getD 18 .nil) (xs.getD 19 .nil) (xs.getD 20 .nil) (xs.getD 21 .nil) (xs.getD 22 .nil) (xs.getD 23 .nil) (xs.getD 24 .nil) (xs.getD 25 .nil)
def Fp (f:C→C→C→C→C→C→C→C→C→C→C→C→C→C→C→C→C→C→C→C→C→C→C→C→C→C→C→R) (xs:List C):R:=f (xs.getD 0 .nil) (xs.getD 1 .nil) (xs.getD 2 .nil) (xs.getD 3 .nil) (xs.getD 4 .nil) (xs.getD 5 .nil) (xs.getD 6 .nil) (xs.getD 7 .nil) (xs.getD 8 .nil) (xs.getD 9 .nil) (xs.getD 10 .nil) (xs.getD 11 .nil) (xs.getD 12 .nil) (xs.getD 13 .nil) (xs.getD 14 .nil) (xs.getD 15 .nil) (xs.getD 16 .nil) (xs.getD 17 .nil) (xs.getD 18 .nil) (xs.getD 19 .nil) (xs.getD 20 .nil) (xs.getD 21 .nil) (xs.getD 22 .nil) (xs.getD 23 .nil) (xs.getD 24 .nil) (xs.getD 25 .nil) (xs.getD 26 .nil)
def HC (f:C→C→C→C→C→C→C→C→C→C→C→C→C→C→C→C→C→C→C→C→C→C→C→C→C→C→C→C→R) (xs:List C):R:=f (xs.getD 0 .nil) (xs.getD 1 .nil) (xs.getD 2 .nil) (xs.getD 3 .nil) (xs.getD 4 .nil) (xs.getD 5 .nil) (xs.getD 6 .nil) (xs.getD 7 .nil) (xs.getD 8 .nil) (xs.getD 9 .nil) (xs.getD 10 .nil) (xs.getD 11 .nil) (xs.getD 12 .nil) (xs.getD 13 .nil) (xs.getD 14 .nil) (xs.getD 15 .nil) (xs.getD 16 .nil) (xs.getD 17 .nil) (xs.getD 18 .nil) (xs.getD 19 .nil) (xs.getD 20 .nil) (xs.getD 21 .nil) (xs.getD 22 .nil) (xs.getD 23 .nil) (xs.getD 24 .nil) (xs.getD 25 .nil) (xs.getD 26 .nil) (xs.getD 27 .nil)
def Kq (f:C→C→C→C→C→C→C→C→C→C→C→C→C→C→C→C→C→C→C→C→C→C→C→C→C→C→C→C→C→R) (xs:List C):R:=f (xs.getD 0 .nil) (xs.getD 1 .nil) (xs.getD 2 .nil) (xs.getD 3 .nil) (xs.getD 4 .nil) (xs.getD 5 .nil) (xs.getD 6 .nil) (xs.getD 7 .nil) (xs.getD 8 .nil) (xs.getD 9 .nil) (xs.getD 10 .nil) (xs.getD 11 .nil) (xs.getD 12 .nil) (xs.getD 13 .nil) (xs.getD 14 .nil) (xs.getD 15 .nil) (xs.getD 16 .nil) (xs.getD 17 .nil) (xs.getD 18 .nil) (xs.getD 19 .nil) (xs.getD 20 .nil) (xs.getD 21 .nil) (xs.getD 22 .nil) (xs.getD 23 .nil) (xs.getD 24 .nil) (xs.getD 25 .nil) (xs.getD 26 .nil) (xs.getD 27 .nil) (xs.getD 28 .nil)
def tD (f:C→C→C→C→C→C→C→C→C→C→C→C→C→C→C→C→C→C→C→C→C→C→C→C→C→C→C→C→C→C→R) (xs:List C):R:=f (xs.getD 0 .nil) (xs.getD 1 .nil) (xs.getD 2 .nil) (xs.getD 3 .nil) (xs.getD 4 .nil) (xs.getD 5 .nil) (xs.getD 6 .nil) (xs.getD 7 .nil) (xs.getD 8 .nil) (xs.getD 9 .nil) (xs.getD 10 .nil) (xs.getD 11 .nil) (xs.getD 12 .nil) (xs.getD 13 .nil) (xs.getD 14 .nil) (xs.getD 15 .nil) (xs.getD 16 .nil) (xs.getD 17 .nil) (xs.getD 18 .nil) (xs.getD 19 .nil) (xs.getD 20 .nil) (xs.getD 21 .nil) (xs.getD 22 .nil) (xs.getD 23 .nil) (xs.getD 24 .nil) (xs.getD 25 .nil) (xs.getD 26 .nil) (xs.getD 27 .nil) (xs.getD 28 .nil) (xs.getD 29 .nil)
def rr (f:C→C→C→C→C→C→C→C→C→C→C→C→C→C→C→C→C→C→C→C→C→C→C→C→C→C→C→C→C→C→C→R) (xs:List C):R:=f (xs.getD 0 .nil) (xs.getD 1 .nil) (xs.getD 2 .nil) (xs.getD 3 .nil) (xs.getD 4 .nil) (xs.getD 5 .nil) (xs.getD 6 .nil) (xs.getD 7 .nil) (xs.getD 8 .nil) (xs.getD 9 .nil) (xs.getD 10 .nil) (xs.getD 11 .nil) (xs.getD 12 .nil) (xs.getD 13 .nil) (xs.getD 14 .nil) (xs.getD 15 .nil) (xs.getD 16 .nil) (xs.getD 17 .nil) (xs.getD 18 .nil) (xs.getD 19 .nil) (xs.getD 20 .nil) (xs.getD 21 .nil) (xs.getD 22 .nil) (xs.getD 23 .nil) (xs.getD 24 .nil) (xs.getD 25 .nil) (xs.getD 26 .nil) (xs.getD 27 .nil) (xs.getD 28 .nil) (xs.getD 29 .nil) (xs.getD 30 .nil)
def Kt (f:C→C→C→C→C→C→C→C→C→C→C→C→C→C→C→C→C→C→C→C→C→C→C→C→C→C→C→C→C→C→C→C→R) (xs:List C):R:=f (xs.getD 0 .nil) (xs.getD 1 .nil) (xs.getD 2 .nil) (xs.getD 3 .nil) (xs.getD 4 .nil) (xs.getD 5 .nil) (xs.getD 6 .nil) (xs.getD 7 .nil) (xs.getD 8 .nil) (xs.getD 9 .nil) (xs.getD 10 .nil) (xs.getD 11 .nil) (xs.getD 12 .nil) (xs.getD 13 .nil) (xs.getD 14 .nil) (xs.getD 15 .nil) (xs.getD 16 .nil) (xs.getD 17 .nil) (xs.getD 18 .nil) (xs.getD 19 .nil) (xs.getD 20 .nil) (xs.getD 21 .nil) (xs.getD 22 .nil) (xs.getD 23 .nil) (xs.getD 24 .nil) (xs.getD 25 .nil) (xs.getD 26 .nil) (xs.getD 27 .nil) (xs.getD 28 .nil) (xs.getD 29 .nil) (xs.getD 30 .nil) (xs.getD 31 .nil)
def El (f:C→C→C→C→C→C→C→C→C→C→C→C→C→C→C→C→C→C→C→C→C→C→C→C→C→C→C→C→C→C→C→C→C→R) (xs:List C):R:=f (xs.getD 0 .nil) (xs.getD 1 .nil) (xs.getD 2 .nil) (xs.getD 3 .nil) (xs.getD 4 .nil) (xs.getD 5 .nil) (xs.getD 6 .nil) (xs.getD 7 .nil) (xs.getD 8 .nil) (xs.getD 9 .nil) (xs.getD 10 .nil) (xs.getD 11 .nil) (xs.getD 12 .nil) (xs.getD 13 .nil) (xs.getD 14 .nil) (xs.getD 15 .nil) (xs.getD 16 .nil) (xs.getD 17 .nil) (xs.getD 18 .nil) (xs.getD 19 .nil) (xs.getD 20 .nil) (xs.getD 21 .nil) (xs.getD 22 .nil) (xs.getD 23 .nil) (xs.getD 24 .nil) (xs.getD 25 .nil) (xs.getD 26 .nil) (xs.getD 27 .nil) (xs.getD 28 .nil) (xs.getD 29 .nil) (xs.getD 30 .nil) (xs.getD 31 .nil) (xs.getD 32 .nil)
def Kl (f:C→C→C→C→C→C→C→C→C→C→C→C→C→C→C→C→C→C→C→C→C→C→C→C→C→C→C→C→C→C→C→C→C→C→R) (xs:List C):R:=f (xs.getD 0 .nil) (xs.getD 1 .nil) (xs.getD 2 .nil) (xs.getD 3 .nil) (xs.getD 4 .nil) (xs.getD 5 .nil) (xs.getD 6 .nil) (xs.getD 7 .nil) (xs.getD 8 .nil) (xs.getD 9 .nil) (xs.getD 10 .nil) (xs.getD 11 .nil) (xs.getD 12 .nil) (xs.getD 13 .nil) (xs.getD 14 .nil) (xs.getD 15 .nil) (xs.getD 16 .nil) (xs.getD 17 .nil) (xs.getD 18 .nil) (xs.getD 19 .nil) (xs.getD 20 .nil) (xs.getD 21 .nil) (xs.getD 22 .nil) (xs.getD 23 .nil) (xs.getD 24 .nil) (xs.getD 25 .nil) (xs.getD 26 .nil) (xs.getD 27 .nil) (xs.getD 28 .nil) (xs.getD 29 .nil) (xs.getD 30 .nil) (xs.getD 31 .nil) (xs.getD 32 .nil) (xs.getD 33 .nil)
def Jt (f:C→C→C→C→C→C→C→C→C→C→C→C→C→C→C→C→C→C→C→C→C→C→C→C→C→C→C→C→C→C→C→C→C→C→C→R) (xs:List C):R:=f (xs.getD 0 .nil) (xs.getD 1 .nil) (xs.getD 2 .nil) (xs.getD 3 .nil) (xs.getD 4 .nil) (xs.getD 5 .nil) (xs.getD 6 .nil) (xs.getD 7 .nil) (xs.getD 8 .nil) (xs.getD 9 .nil) (xs.getD 10 .nil) (xs.getD 11 .nil) (xs.getD 12 .nil) (xs.getD 13 .nil) (xs.getD 14 .nil) (xs.getD 15 .nil) (xs.getD 16 .nil) (xs.getD 17 .nil) (xs.getD 18 .nil) (xs.getD 19 .nil) (xs.getD 20 .nil) (xs.getD 21 .nil) (xs.getD 22 .nil) (xs.getD 23 .nil) (xs.getD 24 .nil) (xs.getD 25 .nil) (xs.getD 26 .nil) (xs.getD 27 .nil) (xs.getD 28 .nil) (xs.getD 29 .nil) (xs.getD 30 .nil) (xs.getD 31 .nil) (xs.getD 32 .nil) (xs.getD 33 .nil) (xs.getD 34 .nil)
def Kf (f:C→C→C→C→C→C→C→C→C→C→C→C→C→C→C→C→C→C→C→C→C→C→C→C→C→C→C→C→C→C→C→C→C→C→C→C→R) (xs:List C):R:=f (xs.getD 0 .nil) (xs.getD 1 .nil) (xs.getD 2 .nil) (xs.getD 3 .nil) (xs.getD 4 .nil) (xs.getD 5 .nil) (xs.getD 6 .nil) (xs.getD 7 .nil) (xs.getD 8 .nil) (xs.getD 9 .nil) (xs.getD 10 .nil) (xs.getD 11 .nil) (xs.getD 12 .nil) (xs.getD 13 .nil) (xs.getD 14 .nil) (xs.getD 15 .nil) (xs.getD 16 .nil) (xs.getD 17 .nil) (xs.getD 18 .nil) (xs.getD 19 .nil) (xs.getD 20 .nil) (xs.getD 21 .nil) (xs.getD 22 .nil) (xs.getD 23 .nil) (xs.getD 24 .nil) (xs.getD 25 .nil) (xs.getD 26 .nil) (xs.getD 27 .nil) (xs.getD 28 .nil) (xs.getD 29 .nil) (xs.getD 30 .nil) (xs.getD 31 .nil) (xs.getD 32 .nil) (xs.getD 33 .nil) (xs.getD 34 .nil) (xs.getD 35 .nil)
def Ki (f:C→C→C→C→C→C→C→C→C→C→C→C→C→C→C→C→C→C→C→C→C→C→C→C→C→C→C→C→C→C→C→C→C→C→C→C→C→R) (xs:List C):R:=f (xs.getD 0 .nil) (xs.getD 1 .nil) (xs.getD 2 .nil) (xs.getD 3 .nil) (xs.getD 4 .nil) (xs.getD 5 .nil) (xs.getD 6 .nil) (xs.getD 7 .nil) (xs.getD 8 .nil) (xs.getD 9 .nil) (xs.getD 10 .nil) (xs.getD 11 .nil) (xs.getD 12 .nil) (xs.getD 13 .nil) (xs.getD 14 .nil) (xs.getD 15 .nil) (xs.getD 16 .nil) (xs.getD 17 .nil) (xs.getD 18 .nil) (xs.getD 19 .nil) (xs.getD 20 .nil) (xs.getD 21 .nil) (xs.getD 22 .nil) (xs.getD 23 .nil) (xs.getD 24 .nil) (xs.getD 25 .nil) (xs.getD 26 .nil) (xs.getD 27 .nil) (xs.getD 28 .nil) (xs.getD 29 .nil) (xs.getD 30 .nil) (xs.getD 31 .nil) (xs.getD 32 .nil) (xs.getD 33 .nil) (xs.getD 34 .nil) (xs.getD 35 .nil) (xs.getD 36 .nil)
def J9 (f:C→C→C→C→C→C→C→C→C→C→C→C→C→C→C→C→C→C→C→C→C→C→C→C→C→C→C→C→C→C→C→C→C→C→C→C→C→C→R) (xs:List C):R:=f (xs.getD 0 .nil) (xs.getD 1 .nil) (xs.getD 2 .nil) (xs.getD 3 .nil) (xs.getD 4 .nil) (xs.getD 5 .nil) (xs.getD 6 .nil) (xs.getD 7 .nil) (xs.getD 8 .nil) (xs.getD 9 .nil) (xs.getD 10 .nil) (xs.getD 11 .nil) (xs.getD 12 .nil) (xs.getD 13 .nil) (xs.getD 14 .nil) (xs.getD 15 .nil) (xs.getD 16 .nil) (xs.getD 17 .nil) (xs.getD 18 .nil) (xs.getD 19 .nil) (xs.getD 20 .nil) (xs.getD 21 .nil) (xs.getD 22 .nil) (xs.getD 23 .nil) (xs.getD 24 .nil) (xs.getD 25 .nil) (xs.getD 26 .nil) (xs.getD 27 .nil) (xs.getD 28 .nil) (xs.getD 29 .nil) (xs.getD 30 .nil) (xs.getD 31 .nil) (xs.getD 32 .nil) (xs.getD 33 .nil) (xs.getD 34 .nil) (xs.getD 35 .nil) (xs.getD 36 .nil) (xs.getD 37 .nil)
def Ko (f:C→C→C→C→C→C→C→C→C→C→C→C→C→C→C→C→C→C→C→C→C→C→C→C→C→C→C→C→C→C→C→C→C→C→C→C→C→C→C→R) (xs:List C):R:=f (xs.getD 0 .nil) (xs.getD 1 .nil) (xs.getD 2 .nil) (xs.getD 3 .nil) (xs.getD 4 .nil) (xs.getD 5 .nil) (xs.getD 6 .nil) (xs.getD 7 .nil) (xs.getD 8 .nil) (xs.getD 9 .nil) (xs.getD 10 .nil) (xs.getD 11 .nil) (xs.getD 12 .nil) (xs.getD 13 .nil) (xs.getD 14 .nil) (xs.getD 15 .nil) (xs.getD 16 .nil) (xs.getD 17 .nil) (xs.getD 18 .nil) (xs.getD 19 .nil) (xs.getD 20 .nil) (xs.getD 21 .nil) (xs.getD 22 .nil) (xs.getD 23 .nil) (xs.getD 24 .nil) (xs.getD 25 .nil) (xs.getD 26 .nil) (xs.getD 27 .nil) (xs.getD 28 .nil) (xs.getD 29 .nil) (xs.getD 30 .nil) (xs.getD 31 .nil) (xs.getD 32 .nil) (xs.getD 33 .nil) (xs.getD 34 .nil) (xs.getD 35 .nil) (xs.getD 36 .nil) (xs.getD 37 .nil) (xs.getD 38 .nil)
def Jy (f:C→C→C→C→C→C→C→C→C→C→C→C→C→C→C→C→C→C→C→C→C→C→C→C→C→C→C→C→C→C→C→C→C→C→C→C→C→C→C→C→R) (xs:List C):R:=f (xs.getD 0 .nil) (xs.getD 1 .nil) (xs.getD 2 .nil) (xs.getD 3 .nil) (xs.getD 4 .nil) (xs.getD 5 .nil) (xs.getD 6 .nil) (xs.getD 7 .nil) (xs.getD 8 .nil) (xs.getD 9 .nil) (xs.getD 10 .nil) (xs.getD 11 .nil) (xs.getD 12 .nil) (xs.getD 13 .nil) (xs.getD 14 .nil) (xs.getD 15 .nil) (xs.getD 16 .nil) (xs.getD 17 .nil) (xs.getD 18 .nil) (xs.getD 19 .nil) (xs.getD 20 .nil) (xs.getD 21 .nil) (xs.getD 22 .nil) (xs.getD 23 .nil) (xs.getD 24 .nil) (xs.getD 25 .nil) (xs.getD 26 .nil) (xs.getD 27 .nil) (xs.getD 28 .nil) (xs.getD 29 .nil) (xs.getD 30 .nil) (xs.getD 31 .nil) (xs.getD 32 .nil) (xs.getD 33 .nil) (xs.getD 34 .nil) (xs.getD 35 .nil) (xs.getD 36 .nil) (xs.getD 37 .nil) (xs.getD 38 .nil) (xs.getD 39 .nil)
def phi:List (Nat×Option Nat×FS)→FuncId→Option Tmp→Option FS
 |[],_,_=>none
 |(g,d,fs)::r,f,o=>sif (ax (Nat.beq g f) (onb d o)) (some fs) (phi r f o)
def qF (P:Program) (T:Tys):List (Nat×Option Nat×FS)→Prop
 |[]=>True
 |(g,_,fs)::r=>aA P T g fs∧qF P T r
theorem qF.nil {P:Program} {T:Tys}:qF P T []:=trivial
theorem qF.cons {P:Program} {T:Tys} {g:FuncId} {d:Option Nat} {fs:FS} {r:List (Nat×Option Nat×FS)} (h:aA P T g fs) (hr:qF P T r):qF P T ((g,d,fs)::r):=⟨h,hr⟩
theorem Gz {P:Program} {T:Tys}:∀ {l:List (Nat×Option Nat×FS)},qF P T l→∀f d fs,phi l f d=some fs→aA P T f fs
 |[],_,f,d,fs,h=>by simp[phi] at h
 |(g,d',fs')::r,hl,f,d,fs,h=>by
  replace h:sif (ax (Nat.beq g f) (onb d' d)) (some fs') (phi r f d)=some fs:=h
  cases hc:ax (Nat.beq g f) (onb d' d) with
  |true=>
   rw[hc,af] at h
   simp only[ak,Bool.and_eq_true] at hc
   have e:=Nat.eq_of_beq_eq_true hc.1
   subst e
   obtain rfl:=Option.some.inj h
   exact hl.1
  |false=>rw[hc,aN] at h;exact Gz hl.2 f d fs h
def GX (P:Program):List (Nat×Nat)→Bool
 |[]=>true
 |(t,e)::r=>(match P.underlying t with|some (.map k e')=>(match P.underlying k with|some .string=>e==e'|_=>false)|_=>false)&&GX P r
theorem Dv {P:Program}:∀ {l:List (Nat×Nat)},GX P l=true→MOk P l
 |[],_,t,e,h=>by simp[xy] at h
 |(t',e')::r,hb,t,e,h=>by
  simp only[GX,Bool.and_eq_true] at hb
  replace h:sif (Nat.beq t' t) (some e') (xy r t)=some e:=h
  cases hc:Nat.beq t' t with
  |false=>rw[hc,aN] at h;exact Dv hb.2 t e h
  |true=>
   rw[hc,af] at h
   obtain rfl:=Option.some.inj h
   have:=Nat.eq_of_beq_eq_true hc;subst this
   have h1:=hb.1
   split at h1
   ·rename_i k e2 hu
    split at h1
    ·rename_i hk
     have:e'=e2:=by simpa using h1
     subst this
     exact ⟨k,hu,hk⟩
    ·simp at h1
   ·simp at h1
structure CB (P:Program) (T:Tys) (eqT:List Nat) (mp:List (Nat×Nat)):Prop where
 tok:TOk P T
 E:∀t e,eh T t=some e→(P.info? e).isSome=true
 mixed:P.follows .mixedOrders=true
 Q:∀t,cR eqT t=true→Gx P T t
 M:MOk P mp
theorem CB.of {P:Program} {T:Tys} {eqT:List Nat} {mp:List (Nat×Nat)} (h1:Fj P T T=true) (h2:P.follows .mixedOrders=true) (h3:HH P T eqT=true) (h4:GX P mp=true):CB P T eqT mp:=
 ⟨(Df h1).1,(Df h1).2,h2,C8 h3,Dv h4⟩
def slB (n:Nat):List (Nat×Sk)→Bool|[]=>true|(d,_)::r=>ax (Nat.blt d n) (slB n r)
theorem xa {nm:Nm} {xs:List C} {n:Nat}:∀ {l:List (Nat×Sk)} {p:Nat} {f:bS},slB n l=true→(∀k,n≤k→f k=.un)→∀k,n≤k→(cd nm xs l p f).1 k=.un
 |[],p,f,_,hf,k,hk=>hf k hk
 |(d,q)::r,p,f,h,hf,k,hk=>by
  simp only[slB,ak,Bool.and_eq_true] at h
  refine xa h.2 (fun k hk=>?_) k hk
  have hd:d<n:=Nat.le_of_ble_eq_true h.1
  rw[aO _ _ (by omega)]
  exact hf k hk
def stat (fn:Func) (fs:FS):Bool:=ax (dM (fn.name== "runtime.NumGoroutine")) (ax (Nat.ble fs.n fn.ntmps) (slB fs.n fs.inT.sl))
theorem Iy {P:Program} {T:Tys} {eqT:List Nat} {mp:List (Nat×Nat)} (B:CB P T eqT mp) (mv:List Nat) (tr:Bool) (nt:List Nat) {f:FuncId} {fn:Func} {c:Code} (fs:FS) (an:Ann) (l:List (Nat×Option Nat×FS)) (hl:qF P T l)
  (hf:P.funcs[f]?=some fn) (hb:fn.body=some c) (hs:stat fn fs=true)
  (hF:∀xs,evF ⟨T,phi l,fn.ntmps,fn.results.toList,fs.inT,fs.outT,fs.ip,eqT,mp,mv,tr,nt⟩ c an xs=fs.F xs):aA P T f fs:=by
 simp only[stat,ak,cN,Bool.and_eq_true,Bool.not_eq_true'] at hs
 exact aA.JC (X:=⟨T,phi l,fn.ntmps,fn.results.toList,fs.inT,fs.outT,fs.ip,eqT,mp,mv,tr,nt⟩) ⟨B.tok,B.E,Gz hl,B.Q,B.M,B.mixed⟩ hf hb hs.1 rfl rfl rfl rfl rfl (Nat.le_of_ble_eq_true hs.2.1)
  (fun xs k hk=>xa hs.2.2 (fun _ _=>rfl) k hk) (fun xs ys h=>by rw[hF];exact h)
theorem oZ {P:Program} {T:Tys} {eqT:List Nat} {mp:List (Nat×Nat)} (B:CB P T eqT mp) (mv:List Nat) (tr:Bool) {f:FuncId} {fn:Func} {c:Code} (fs:FS) (an:Ann) (l:List (Nat×Option Nat×FS)) (hl:qF P T l)
  (hf:P.funcs[f]?=some fn) (hb:fn.body=some c) (hs:stat fn fs=true)
  (hF:∀xs,evF ⟨T,phi l,fn.ntmps,fn.results.toList,fs.inT,fs.outT,fs.ip,eqT,mp,mv,tr,[]⟩ c an xs=fs.F xs):aA P T f fs:=Iy B mv tr [] fs an l hl hf hb hs hF
theorem bC {P:Program} {T:Tys} {eqT:List Nat} {mp:List (Nat×Nat)} (B:CB P T eqT mp) {f:FuncId} {fn:Func} {c:Code} (fs:FS) (an:Ann) (l:List (Nat×Option Nat×FS)) (hl:qF P T l)
  (hf:P.funcs[f]?=some fn) (hb:fn.body=some c) (hs:stat fn fs=true)
  (hF:∀xs,evF ⟨T,phi l,fn.ntmps,fn.results.toList,fs.inT,fs.outT,fs.ip,eqT,mp,[],false,[]⟩ c an xs=fs.F xs):aA P T f fs:=oZ B [] false fs an l hl hf hb hs hF
theorem jl {P:Program} {T:Tys} {f:FuncId} {fn:Func} {c:Code} (n:Nat) (i o:Tm) (ip:List Nat) (hf:P.funcs[f]?=some fn) (hb:fn.body=some c) (hs:stat fn ⟨n,i,o,ip,fun _=>none⟩=true):aA P T f ⟨n,i,o,ip,fun _=>none⟩:=by
 simp only[stat,ak,cN,Bool.and_eq_true,Bool.not_eq_true'] at hs
 exact ⟨⟨fn,c,hf,hb,hs.1⟩,fun w wr nl F0 θ xs ys args h1 h2 h3 h4=>absurd h4 (by simp)⟩
noncomputable def ik:Nat:=Classical.choose (⟨1000000,Nat.le_refl _⟩:∃n,1000000≤n)
theorem lk:1000000≤ik:=Classical.choose_spec (⟨1000000,Nat.le_refl _⟩:∃n,1000000≤n)
end Go.Ev
namespace Go.Ev
@[simp] theorem C.I_i (n:Int):(C.i n).I=n:=rfl
@[simp] theorem C.B_b (x:Bool):(C.b x).B=x:=rfl
@[simp] theorem C.S_s (x:ByteArray):(C.s x).S=x:=rfl
@[simp] theorem C.L_l (x:List (List C)):(C.l x).L=x:=rfl
@[simp] theorem C.P_p (x:List C):(C.p x).P=x:=rfl
@[simp] theorem C.ui (x:List C):(C.p x).isP=true:=rfl
@[simp] theorem C.JZ:C.nil.isP=false:=rfl
@[simp] theorem C.Kv:C.nil.L=[]:=rfl
@[simp] theorem Js (ys:List C):aZ (some (.ret ys))=some ys:=rfl
@[simp] theorem Jd (ys:List C) (K:List C→R):ig (some ys) K=K ys:=rfl
@[simp] theorem Iw (xs:List C) (K:List C→R):bd (some (.nrm xs)) K=K xs:=rfl
@[simp] theorem uv (xs:List C) (K:List C→R):bd (some (.ret xs)) K=some (.ret xs):=rfl
@[simp] theorem Io (i:Nat) (xs:List C) (K:List C→R):bd (some (.brk i xs)) K=some (.brk i xs):=rfl
@[simp] theorem GQ (xs:List C) (K:List C→R):bd (some (.again xs)) K=some (.again xs):=rfl
@[simp] theorem uw (i:Nat) (xs:List C) (K:List C→R):ai i (some (.ret xs)) K=some (.ret xs):=rfl
@[simp] theorem GP (i:Nat) (xs:List C) (K:List C→R):ai i (some (.again xs)) K=some (.again xs):=rfl
@[simp] theorem Ir (i:Nat) (xs:List C) (K:List C→R):ai i (some (.nrm xs)) K=some (.nrm xs):=rfl
theorem AE (i j:Nat) (xs:List C) (K:List C→R):ai i (some (.brk j xs)) K=if j=i then K xs else some (.brk j xs):=by
 show sif (Nat.beq j i) (K xs) (some (.brk j xs))=_
 by_cases h:j=i
 ·subst h;rw[Nat.beq_refl,af,if_pos rfl]
 ·have:Nat.beq j i=false:=by
   cases hb:Nat.beq j i with
   |false=>rfl
   |true=>exact absurd (Nat.eq_of_beq_eq_true hb) h
  rw[this,aN,if_neg h]
@[simp] theorem aC (i:Nat) (xs:List C) (K:List C→R):ai i (some (.brk i xs)) K=K xs:=by rw[AE,if_pos rfl]
attribute [simp] ao
attribute [simp] rows
@[simp] theorem GR (n:Nat):((n:Int)).toNat=n:=Int.toNat_natCast n
theorem jA {α:Type} {a:α} {us vs:List α}:a::us++vs=a::(us++vs):=rfl
theorem jB {α:Type} (us:List α):[]++us=us:=rfl
theorem jC {α:Type} {x:α} {xs:List α} {d:α}:(x::xs).getD 0 d=x:=List.getD_cons_zero
theorem jD {α:Type} {x:α} {xs:List α} {n:Nat} {d:α}:(x::xs).getD (n+1) d=xs.getD n d:=List.getD_cons_succ
theorem jI (ys:List C) (K:List C→R):ig (some ys) K=K ys:=rfl
theorem jJ (xs:List C) (K:List C→R):bd (some (.nrm xs)) K=K xs:=rfl
theorem jR {α:Type} (a b:α):(bif true then a else b)=a:=rfl
theorem jS {α:Type} (a b:α):(bif false then a else b)=b:=rfl
theorem jV (ys:List C):aZ (some (.ret ys))=some ys:=rfl
theorem jW {α β:Type} {us:List α} (f:α→β):(List.map f us).length=us.length:=List.length_map f
theorem jX (n:Nat):0≤(n:Int):=Int.natCast_nonneg n
theorem jY (n:Nat):((n:Int)).toNat=n:=Int.toNat_natCast n
theorem jZ:(!true)=false:=rfl
theorem ja:(!false)=true:=rfl
theorem apL:(∀(f:C→R) xs,ap1 f xs=f (xs.getD 0 .nil))∧
 (∀(f:C→C→R) xs,ap2 f xs=f (xs.getD 0 .nil) (xs.getD 1 .nil))∧
 (∀(f:C→C→C→R) xs,ap3 f xs=f (xs.getD 0 .nil) (xs.getD 1 .nil) (xs.getD 2 .nil))∧
 (∀(f:C→C→C→C→R) xs,ap4 f xs=f (xs.getD 0 .nil) (xs.getD 1 .nil) (xs.getD 2 .nil) (xs.getD 3 .nil))∧
 (∀(f:C→C→C→C→C→R) xs,ap5 f xs=f (xs.getD 0 .nil) (xs.getD 1 .nil) (xs.getD 2 .nil) (xs.getD 3 .nil) (xs.getD 4 .nil))∧
 (∀(f:C→C→C→C→C→C→R) xs,ap6 f xs=f (xs.getD 0 .nil) (xs.getD 1 .nil) (xs.getD 2 .nil) (xs.getD 3 .nil) (xs.getD 4 .nil) (xs.getD 5 .nil))∧
 (∀(f:C→C→C→C→C→C→C→R) xs,ap7 f xs=f (xs.getD 0 .nil) (xs.getD 1 .nil) (xs.getD 2 .nil) (xs.getD 3 .nil) (xs.getD 4 .nil) (xs.getD 5 .nil) (xs.getD 6 .nil))∧
 (∀(f:C→C→C→C→C→C→C→C→R) xs,ap8 f xs=f (xs.getD 0 .nil) (xs.getD 1 .nil) (xs.getD 2 .nil) (xs.getD 3 .nil) (xs.getD 4 .nil) (xs.getD 5 .nil) (xs.getD 6 .nil) (xs.getD 7 .nil))∧
 (∀(f:C→C→C→C→C→C→C→C→C→R) xs,ap9 f xs=f (xs.getD 0 .nil) (xs.getD 1 .nil) (xs.getD 2 .nil) (xs.getD 3 .nil) (xs.getD 4 .nil) (xs.getD 5 .nil) (xs.getD 6 .nil) (xs.getD 7 .nil) (xs.getD 8 .nil))∧
 (∀(f:C→C→C→C→C→C→C→C→C→C→R) xs,s7 f xs=f (xs.getD 0 .nil) (xs.getD 1 .nil) (xs.getD 2 .nil) (xs.getD 3 .nil) (xs.getD 4 .nil) (xs.getD 5 .nil) (xs.getD 6 .nil) (xs.getD 7 .nil) (xs.getD 8 .nil) (xs.getD 9 .nil))∧
 (∀(f:C→C→C→C→C→C→C→C→C→C→C→R) xs,Aw f xs=f (xs.getD 0 .nil) (xs.getD 1 .nil) (xs.getD 2 .nil) (xs.getD 3 .nil) (xs.getD 4 .nil) (xs.getD 5 .nil) (xs.getD 6 .nil) (xs.getD 7 .nil) (xs.getD 8 .nil) (xs.getD 9 .nil) (xs.getD 10 .nil))∧
 (∀(f:C→C→C→C→C→C→C→C→C→C→C→C→R) xs,jk f xs=f (xs.getD 0 .nil) (xs.getD 1 .nil) (xs.getD 2 .nil) (xs.getD 3 .nil) (xs.getD 4 .nil) (xs.getD 5 .nil) (xs.getD 6 .nil) (xs.getD 7 .nil) (xs.getD 8 .nil) (xs.getD 9 .nil) (xs.getD 10 .nil) (xs.getD 11 .nil))∧
 (∀(f:C→C→C→C→C→C→C→C→C→C→C→C→C→R) xs,oQ f xs=f (xs.getD 0 .nil) (xs.getD 1 .nil) (xs.getD 2 .nil) (xs.getD 3 .nil) (xs.getD 4 .nil) (xs.getD 5 .nil) (xs.getD 6 .nil) (xs.getD 7 .nil) (xs.getD 8 .nil) (xs.getD 9 .nil) (xs.getD 10 .nil) (xs.getD 11 .nil) (xs.getD 12 .nil))∧
 (∀(f:C→C→C→C→C→C→C→C→C→C→C→C→C→C→R) xs,Kh f xs=f (xs.getD 0 .nil) (xs.getD 1 .nil) (xs.getD 2 .nil) (xs.getD 3 .nil) (xs.getD 4 .nil) (xs.getD 5 .nil) (xs.getD 6 .nil) (xs.getD 7 .nil) (xs.getD 8 .nil) (xs.getD 9 .nil) (xs.getD 10 .nil) (xs.getD 11 .nil) (xs.getD 12 .nil) (xs.getD 13 .nil))∧
 (∀(f:C→C→C→C→C→C→C→C→C→C→C→C→C→C→C→R) xs,IS f xs=f (xs.getD 0 .nil) (xs.getD 1 .nil) (xs.getD 2 .nil) (xs.getD 3 .nil) (xs.getD 4 .nil) (xs.getD 5 .nil) (xs.getD 6 .nil) (xs.getD 7 .nil) (xs.getD 8 .nil) (xs.getD 9 .nil) (xs.getD 10 .nil) (xs.getD 11 .nil) (xs.getD 12 .nil) (xs.getD 13 .nil) (xs.getD 14 .nil))∧
 (∀(f:C→C→C→C→C→C→C→C→C→C→C→C→C→C→C→C→R) xs,I0 f xs=f (xs.getD 0 .nil) (xs.getD 1 .nil) (xs.getD 2 .nil) (xs.getD 3 .nil) (xs.getD 4 .nil) (xs.getD 5 .nil) (xs.getD 6 .nil) (xs.getD 7 .nil) (xs.getD 8 .nil) (xs.getD 9 .nil) (xs.getD 10 .nil) (xs.getD 11 .nil) (xs.getD 12 .nil) (xs.getD 13 .nil) (xs.getD 14 .nil) (xs.getD 15 .nil))∧
 (∀(f:C→C→C→C→C→C→C→C→C→C→C→C→C→C→C→C→C→R) xs,Kn f xs=f (xs.getD 0 .nil) (xs.getD 1 .nil) (xs.getD 2 .nil) (xs.getD 3 .nil) (xs.getD 4 .nil) (xs.getD 5 .nil) (xs.getD 6 .nil) (xs.getD 7 .nil) (xs.getD 8 .nil) (xs.getD 9 .nil) (xs.getD 10 .nil) (xs.getD 11 .nil) (xs.getD 12 .nil) (xs.getD 13 .nil) (xs.getD 14 .nil) (xs.getD 15 .nil) (xs.getD 16 .nil))∧
 (∀(f:C→C→C→C→C→C→C→C→C→C→C→C→C→C→C→C→C→C→R) xs,Ci f xs=f (xs.getD 0 .nil) (xs.getD 1 .nil) (xs.getD 2 .nil) (xs.getD 3 .nil) (xs.getD 4 .nil) (xs.getD 5 .nil) (xs.getD 6 .nil) (xs.getD 7 .nil) (xs.getD 8 .nil) (xs.getD 9 .nil) (xs.getD 10 .nil) (xs.getD 11 .nil) (xs.getD 12 .nil) (xs.getD 13 .nil) (xs.getD 14 .nil) (xs.getD 15 .nil) (xs.getD 16 .nil) (xs.getD 17 .nil))∧
 (∀(f:C→C→C→C→C→C→C→C→C→C→C→C→C→C→C→C→C→C→C→R) xs,wk f xs=f (xs.getD 0 .nil) (xs.getD 1 .nil) (xs.getD 2 .nil) (xs.getD 3 .nil) (xs.getD 4 .nil) (xs.getD 5 .nil) (xs.getD 6 .nil) (xs.getD 7 .nil) (xs.getD 8 .nil) (xs.getD 9 .nil) (xs.getD 10 .nil) (xs.getD 11 .nil) (xs.getD 12 .nil) (xs.getD 13 .nil) (xs.getD 14 .nil) (xs.getD 15 .nil) (xs.getD 16 .nil) (xs.getD 17 .nil) (xs.getD 18 .nil))∧
 (∀(f:C→C→C→C→C→C→C→C→C→C→C→C→C→C→C→C→C→C→C→C→R) xs,Kd f xs=f (xs.getD 0 .nil) (xs.getD 1 .nil) (xs.getD 2 .nil) (xs.getD 3 .nil) (xs.getD 4 .nil) (xs.getD 5 .nil) (xs.getD 6 .nil) (xs.getD 7 .nil) (xs.getD 8 .nil) (xs.getD 9 .nil) (xs.getD 10 .nil) (xs.getD 11 .nil) (xs.getD 12 .nil) (xs.getD 13 .nil) (xs.getD 14 .nil) (xs.getD 15 .nil) (xs.getD 16 .nil) (xs.getD 17 .nil) (xs.getD 18 .nil) (xs.getD 19 .nil))∧
 (∀(f:C→C→C→C→C→C→C→C→C→C→C→C→C→C→C→C→C→C→C→C→C→R) xs,Kg f xs=f (xs.getD 0 .nil) (xs.getD 1 .nil) (xs.getD 2 .nil) (xs.getD 3 .nil) (xs.getD 4 .nil) (xs.getD 5 .nil) (xs.getD 6 .nil) (xs.getD 7 .nil) (xs.getD 8 .nil) (xs.getD 9 .nil) (xs.getD 10 .nil) (xs.getD 11 .nil) (xs.getD 12 .nil) (xs.getD 13 .nil) (xs.getD 14 .nil) (xs.getD 15 .nil) (xs.getD 16 .nil) (xs.getD 17 .nil) (xs.getD 18 .nil) (xs.getD 19 .nil) (xs.getD 20 .nil))∧
 (∀(f:C→C→C→C→C→C→C→C→C→C→C→C→C→C→C→C→C→C→C→C→C→C→R) xs,Ac f xs=f (xs.getD 0 .nil) (xs.getD 1 .nil) (xs.getD 2 .nil) (xs.getD 3 .nil) (xs.getD 4 .nil) (xs.getD 5 .nil) (xs.getD 6 .nil) (xs.getD 7 .nil) (xs.getD 8 .nil) (xs.getD 9 .nil) (xs.getD 10 .nil) (xs.getD 11 .nil) (xs.getD 12 .nil) (xs.getD 13 .nil) (xs.getD 14 .nil) (xs.getD 15 .nil) (xs.getD 16 .nil) (xs.getD 17 .nil) (xs.getD 18 .nil) (xs.getD 19 .nil) (xs.getD 20 .nil) (xs.getD 21 .nil))∧
 (∀(f:C→C→C→C→C→C→C→C→C→C→C→C→C→C→C→C→C→C→C→C→C→C→C→R) xs,Eh f xs=f (xs.getD 0 .nil) (xs.getD 1 .nil) (xs.getD 2 .nil) (xs.getD 3 .nil) (xs.getD 4 .nil) (xs.getD 5 .nil) (xs.getD 6 .nil) (xs.getD 7 .nil) (xs.getD 8 .nil) (xs.getD 9 .nil) (xs.getD 10 .nil) (xs.getD 11 .nil) (xs.getD 12 .nil) (xs.getD 13 .nil) (xs.getD 14 .nil) (xs.getD 15 .nil) (xs.getD 16 .nil) (xs.getD 17 .nil) (xs.getD 18 .nil) (xs.getD 19 .nil) (xs.getD 20 .nil) (xs.getD 21 .nil) (xs.getD 22 .nil))∧
 (∀(f:C→C→C→C→C→C→C→C→C→C→C→C→C→C→C→C→C→C→C→C→C→C→C→C→R) xs,xc f xs=f (xs.getD 0 .nil) (xs.getD 1 .nil) (xs.getD 2 .nil) (xs.getD 3 .nil) (xs.getD 4 .nil) (xs.getD 5 .nil) (xs.getD 6 .nil) (xs.getD 7 .nil) (xs.getD 8 .nil) (xs.getD 9 .nil) (xs.getD 10 .nil) (xs.getD 11 .nil) (xs.getD 12 .nil) (xs.getD 13 .nil) (xs.getD 14 .nil) (xs.getD 15 .nil) (xs.getD 16 .nil) (xs.getD 17 .nil) (xs.getD 18 .nil) (xs.getD 19 .nil) (xs.getD 20 .nil) (xs.getD 21 .nil) (xs.getD 22 .nil) (xs.getD 23 .nil))∧
 (∀(f:C→C→C→C→C→C→C→C→C→C→C→C→C→C→C→C→C→C→C→C→C→C→C→C→C→R) xs,Gg f xs=f (xs.getD 0 .nil) (xs.getD 1 .nil) (xs.getD 2 .nil) (xs.getD 3 .nil) (xs.getD 4 .nil) (xs.getD 5 .nil) (xs.getD 6 .nil) (xs.getD 7 .nil) (xs.getD 8 .nil) (xs.getD 9 .nil) (xs.getD 10 .nil) (xs.getD 11 .nil) (xs.getD 12 .nil) (xs.getD 13 .nil) (xs.getD 14 .nil) (xs.getD 15 .nil) (xs.getD 16 .nil) (xs.getD 17 .nil) (xs.getD 18 .nil) (xs.getD 19 .nil) (xs.getD 20 .nil) (xs.getD 21 .nil) (xs.getD 22 .nil) (xs.getD 23 .nil) (xs.getD 24 .nil))∧
 (∀(f:C→C→C→C→C→C→C→C→C→C→C→C→C→C→C→C→C→C→C→C→C→C→C→C→C→C→R) xs,Ha f xs=f (xs.getD 0 .nil) (xs.getD 1 .nil) (xs.getD 2 .nil) (xs.getD 3 .nil) (xs.getD 4 .nil) (xs.getD 5 .nil) (xs.getD 6 .nil) (xs.getD 7 .nil) (xs.getD 8 .nil) (xs.getD 9 .nil) (xs.getD 10 .nil) (xs.getD 11 .nil) (xs.getD 12 .nil) (xs.getD 13 .nil) (xs.getD 14 .nil) (xs.getD 15 .nil) (xs.getD 16 .nil) (xs.getD 17 .nil) (xs.getD 18 .nil) (xs.getD 19 .nil) (xs.getD 20 .nil) (xs.getD 21 .nil) (xs.getD 22 .nil) (xs.getD 23 .nil) (xs.getD 24 .nil) (xs.getD 25 .nil))∧
 (∀(f:C→C→C→C→C→C→C→C→C→C→C→C→C→C→C→C→C→C→C→C→C→C→C→C→C→C→C→R) xs,Fp f xs=f (xs.getD 0 .nil) (xs.getD 1 .nil) (xs.getD 2 .nil) (xs.getD 3 .nil) (xs.getD 4 .nil) (xs.getD 5 .nil) (xs.getD 6 .nil) (xs.getD 7 .nil) (xs.getD 8 .nil) (xs.getD 9 .nil) (xs.getD 10 .nil) (xs.getD 11 .nil) (xs.getD 12 .nil) (xs.getD 13 .nil) (xs.getD 14 .nil) (xs.getD 15 .nil) (xs.getD 16 .nil) (xs.getD 17 .nil) (xs.getD 18 .nil) (xs.getD 19 .nil) (xs.getD 20 .nil) (xs.getD 21 .nil) (xs.getD 22 .nil) (xs.getD 23 .nil) (xs.getD 24 .nil) (xs.getD 25 .nil) (xs.getD 26 .nil))∧
 (∀(f:C→C→C→C→C→C→C→C→C→C→C→C→C→C→C→C→C→C→C→C→C→C→C→C→C→C→C→C→R) xs,HC f xs=f (xs.getD 0 .nil) (xs.getD 1 .nil) (xs.getD 2 .nil) (xs.getD 3 .nil) (xs.getD 4 .nil) (xs.getD 5 .nil) (xs.getD 6 .nil) (xs.getD 7 .nil) (xs.getD 8 .nil) (xs.getD 9 .nil) (xs.getD 10 .nil) (xs.getD 11 .nil) (xs.getD 12 .nil) (xs.getD 13 .nil) (xs.getD 14 .nil) (xs.getD 15 .nil) (xs.getD 16 .nil) (xs.getD 17 .nil) (xs.getD 18 .nil) (xs.getD 19 .nil) (xs.getD 20 .nil) (xs.getD 21 .nil) (xs.getD 22 .nil) (xs.getD 23 .nil) (xs.getD 24 .nil) (xs.getD 25 .nil) (xs.getD 26 .nil) (xs.getD 27 .nil))∧
 (∀(f:C→C→C→C→C→C→C→C→C→C→C→C→C→C→C→C→C→C→C→C→C→C→C→C→C→C→C→C→C→R) xs,Kq f xs=f (xs.getD 0 .nil) (xs.getD 1 .nil) (xs.getD 2 .nil) (xs.getD 3 .nil) (xs.getD 4 .nil) (xs.getD 5 .nil) (xs.getD 6 .nil) (xs.getD 7 .nil) (xs.getD 8 .nil) (xs.getD 9 .nil) (xs.getD 10 .nil) (xs.getD 11 .nil) (xs.getD 12 .nil) (xs.getD 13 .nil) (xs.getD 14 .nil) (xs.getD 15 .nil) (xs.getD 16 .nil) (xs.getD 17 .nil) (xs.getD 18 .nil) (xs.getD 19 .nil) (xs.getD 20 .nil) (xs.getD 21 .nil) (xs.getD 22 .nil) (xs.getD 23 .nil) (xs.getD 24 .nil) (xs.getD 25 .nil) (xs.getD 26 .nil) (xs.getD 27 .nil) (xs.getD 28 .nil))∧
 (∀(f:C→C→C→C→C→C→C→C→C→C→C→C→C→C→C→C→C→C→C→C→C→C→C→C→C→C→C→C→C→C→R) xs,tD f xs=f (xs.getD 0 .nil) (xs.getD 1 .nil) (xs.getD 2 .nil) (xs.getD 3 .nil) (xs.getD 4 .nil) (xs.getD 5 .nil) (xs.getD 6 .nil) (xs.getD 7 .nil) (xs.getD 8 .nil) (xs.getD 9 .nil) (xs.getD 10 .nil) (xs.getD 11 .nil) (xs.getD 12 .nil) (xs.getD 13 .nil) (xs.getD 14 .nil) (xs.getD 15 .nil) (xs.getD 16 .nil) (xs.getD 17 .nil) (xs.getD 18 .nil) (xs.getD 19 .nil) (xs.getD 20 .nil) (xs.getD 21 .nil) (xs.getD 22 .nil) (xs.getD 23 .nil) (xs.getD 24 .nil) (xs.getD 25 .nil) (xs.getD 26 .nil) (xs.getD 27 .nil) (xs.getD 28 .nil) (xs.getD 29 .nil))∧
 (∀(f:C→C→C→C→C→C→C→C→C→C→C→C→C→C→C→C→C→C→C→C→C→C→C→C→C→C→C→C→C→C→C→R) xs,rr f xs=f (xs.getD 0 .nil) (xs.getD 1 .nil) (xs.getD 2 .nil) (xs.getD 3 .nil) (xs.getD 4 .nil) (xs.getD 5 .nil) (xs.getD 6 .nil) (xs.getD 7 .nil) (xs.getD 8 .nil) (xs.getD 9 .nil) (xs.getD 10 .nil) (xs.getD 11 .nil) (xs.getD 12 .nil) (xs.getD 13 .nil) (xs.getD 14 .nil) (xs.getD 15 .nil) (xs.getD 16 .nil) (xs.getD 17 .nil) (xs.getD 18 .nil) (xs.getD 19 .nil) (xs.getD 20 .nil) (xs.getD 21 .nil) (xs.getD 22 .nil) (xs.getD 23 .nil) (xs.getD 24 .nil) (xs.getD 25 .nil) (xs.getD 26 .nil) (xs.getD 27 .nil) (xs.getD 28 .nil) (xs.getD 29 .nil) (xs.getD 30 .nil))∧
 (∀(f:C→C→C→C→C→C→C→C→C→C→C→C→C→C→C→C→C→C→C→C→C→C→C→C→C→C→C→C→C→C→C→C→R) xs,Kt f xs=f (xs.getD 0 .nil) (xs.getD 1 .nil) (xs.getD 2 .nil) (xs.getD 3 .nil) (xs.getD 4 .nil) (xs.getD 5 .nil) (xs.getD 6 .nil) (xs.getD 7 .nil) (xs.getD 8 .nil) (xs.getD 9 .nil) (xs.getD 10 .nil) (xs.getD 11 .nil) (xs.getD 12 .nil) (xs.getD 13 .nil) (xs.getD 14 .nil) (xs.getD 15 .nil) (xs.getD 16 .nil) (xs.getD 17 .nil) (xs.getD 18 .nil) (xs.getD 19 .nil) (xs.getD 20 .nil) (xs.getD 21 .nil) (xs.getD 22 .nil) (xs.getD 23 .nil) (xs.getD 24 .nil) (xs.getD 25 .nil) (xs.getD 26 .nil) (xs.getD 27 .nil) (xs.getD 28 .nil) (xs.getD 29 .nil) (xs.getD 30 .nil) (xs.getD 31 .nil))∧
 (∀(f:C→C→C→C→C→C→C→C→C→C→C→C→C→C→C→C→C→C→C→C→C→C→C→C→C→C→C→C→C→C→C→C→C→R) xs,El f xs=f (xs.getD 0 .nil) (xs.getD 1 .nil) (xs.getD 2 .nil) (xs.getD 3 .nil) (xs.getD 4 .nil) (xs.getD 5 .nil) (xs.getD 6 .nil) (xs.getD 7 .nil) (xs.getD 8 .nil) (xs.getD 9 .nil) (xs.getD 10 .nil) (xs.getD 11 .nil) (xs.getD 12 .nil) (xs.getD 13 .nil) (xs.getD 14 .nil) (xs.getD 15 .nil) (xs.getD 16 .nil) (xs.getD 17 .nil) (xs.getD 18 .nil) (xs.getD 19 .nil) (xs.getD 20 .nil) (xs.getD 21 .nil) (xs.getD 22 .nil) (xs.getD 23 .nil) (xs.getD 24 .nil) (xs.getD 25 .nil) (xs.getD 26 .nil) (xs.getD 27 .nil) (xs.getD 28 .nil) (xs.getD 29 .nil) (xs.getD 30 .nil) (xs.getD 31 .nil) (xs.getD 32 .nil))∧
 (∀(f:C→C→C→C→C→C→C→C→C→C→C→C→C→C→C→C→C→C→C→C→C→C→C→C→C→C→C→C→C→C→C→C→C→C→R) xs,Kl f xs=f (xs.getD 0 .nil) (xs.getD 1 .nil) (xs.getD 2 .nil) (xs.getD 3 .nil) (xs.getD 4 .nil) (xs.getD 5 .nil) (xs.getD 6 .nil) (xs.getD 7 .nil) (xs.getD 8 .nil) (xs.getD 9 .nil) (xs.getD 10 .nil) (xs.getD 11 .nil) (xs.getD 12 .nil) (xs.getD 13 .nil) (xs.getD 14 .nil) (xs.getD 15 .nil) (xs.getD 16 .nil) (xs.getD 17 .nil) (xs.getD 18 .nil) (xs.getD 19 .nil) (xs.getD 20 .nil) (xs.getD 21 .nil) (xs.getD 22 .nil) (xs.getD 23 .nil) (xs.getD 24 .nil) (xs.getD 25 .nil) (xs.getD 26 .nil) (xs.getD 27 .nil) (xs.getD 28 .nil) (xs.getD 29 .nil) (xs.getD 30 .nil) (xs.getD 31 .nil) (xs.getD 32 .nil) (xs.getD 33 .nil))∧
 (∀(f:C→C→C→C→C→C→C→C→C→C→C→C→C→C→C→C→C→C→C→C→C→C→C→C→C→C→C→C→C→C→C→C→C→C→C→R) xs,Jt f xs=f (xs.getD 0 .nil) (xs.getD 1 .nil) (xs.getD 2 .nil) (xs.getD 3 .nil) (xs.getD 4 .nil) (xs.getD 5 .nil) (xs.getD 6 .nil) (xs.getD 7 .nil) (xs.getD 8 .nil) (xs.getD 9 .nil) (xs.getD 10 .nil) (xs.getD 11 .nil) (xs.getD 12 .nil) (xs.getD 13 .nil) (xs.getD 14 .nil) (xs.getD 15 .nil) (xs.getD 16 .nil) (xs.getD 17 .nil) (xs.getD 18 .nil) (xs.getD 19 .nil) (xs.getD 20 .nil) (xs.getD 21 .nil) (xs.getD 22 .nil) (xs.getD 23 .nil) (xs.getD 24 .nil) (xs.getD 25 .nil) (xs.getD 26 .nil) (xs.getD 27 .nil) (xs.getD 28 .nil) (xs.getD 29 .nil) (xs.getD 30 .nil) (xs.getD 31 .nil) (xs.getD 32 .nil) (xs.getD 33 .nil) (xs.getD 34 .nil))∧
 (∀(f:C→C→C→C→C→C→C→C→C→C→C→C→C→C→C→C→C→C→C→C→C→C→C→C→C→C→C→C→C→C→C→C→C→C→C→C→R) xs,Kf f xs=f (xs.getD 0 .nil) (xs.getD 1 .nil) (xs.getD 2 .nil) (xs.getD 3 .nil) (xs.getD 4 .nil) (xs.getD 5 .nil) (xs.getD 6 .nil) (xs.getD 7 .nil) (xs.getD 8 .nil) (xs.getD 9 .nil) (xs.getD 10 .nil) (xs.getD 11 .nil) (xs.getD 12 .nil) (xs.getD 13 .nil) (xs.getD 14 .nil) (xs.getD 15 .nil) (xs.getD 16 .nil) (xs.getD 17 .nil) (xs.getD 18 .nil) (xs.getD 19 .nil) (xs.getD 20 .nil) (xs.getD 21 .nil) (xs.getD 22 .nil) (xs.getD 23 .nil) (xs.getD 24 .nil) (xs.getD 25 .nil) (xs.getD 26 .nil) (xs.getD 27 .nil) (xs.getD 28 .nil) (xs.getD 29 .nil) (xs.getD 30 .nil) (xs.getD 31 .nil) (xs.getD 32 .nil) (xs.getD 33 .nil) (xs.getD 34 .nil) (xs.getD 35 .nil))∧
 (∀(f:C→C→C→C→C→C→C→C→C→C→C→C→C→C→C→C→C→C→C→C→C→C→C→C→C→C→C→C→C→C→C→C→C→C→C→C→C→R) xs,Ki f xs=f (xs.getD 0 .nil) (xs.getD 1 .nil) (xs.getD 2 .nil) (xs.getD 3 .nil) (xs.getD 4 .nil) (xs.getD 5 .nil) (xs.getD 6 .nil) (xs.getD 7 .nil) (xs.getD 8 .nil) (xs.getD 9 .nil) (xs.getD 10 .nil) (xs.getD 11 .nil) (xs.getD 12 .nil) (xs.getD 13 .nil) (xs.getD 14 .nil) (xs.getD 15 .nil) (xs.getD 16 .nil) (xs.getD 17 .nil) (xs.getD 18 .nil) (xs.getD 19 .nil) (xs.getD 20 .nil) (xs.getD 21 .nil) (xs.getD 22 .nil) (xs.getD 23 .nil) (xs.getD 24 .nil) (xs.getD 25 .nil) (xs.getD 26 .nil) (xs.getD 27 .nil) (xs.getD 28 .nil) (xs.getD 29 .nil) (xs.getD 30 .nil) (xs.getD 31 .nil) (xs.getD 32 .nil) (xs.getD 33 .nil) (xs.getD 34 .nil) (xs.getD 35 .nil) (xs.getD 36 .nil))∧
 (∀(f:C→C→C→C→C→C→C→C→C→C→C→C→C→C→C→C→C→C→C→C→C→C→C→C→C→C→C→C→C→C→C→C→C→C→C→C→C→C→R) xs,J9 f xs=f (xs.getD 0 .nil) (xs.getD 1 .nil) (xs.getD 2 .nil) (xs.getD 3 .nil) (xs.getD 4 .nil) (xs.getD 5 .nil) (xs.getD 6 .nil) (xs.getD 7 .nil) (xs.getD 8 .nil) (xs.getD 9 .nil) (xs.getD 10 .nil) (xs.getD 11 .nil) (xs.getD 12 .nil) (xs.getD 13 .nil) (xs.getD 14 .nil) (xs.getD 15 .nil) (xs.getD 16 .nil) (xs.getD 17 .nil) (xs.getD 18 .nil) (xs.getD 19 .nil) (xs.getD 20 .nil) (xs.getD 21 .nil) (xs.getD 22 .nil) (xs.getD 23 .nil) (xs.getD 24 .nil) (xs.getD 25 .nil) (xs.getD 26 .nil) (xs.getD 27 .nil) (xs.getD 28 .nil) (xs.getD 29 .nil) (xs.getD 30 .nil) (xs.getD 31 .nil) (xs.getD 32 .nil) (xs.getD 33 .nil) (xs.getD 34 .nil) (xs.getD 35 .nil) (xs.getD 36 .nil) (xs.getD 37 .nil))∧
 (∀(f:C→C→C→C→C→C→C→C→C→C→C→C→C→C→C→C→C→C→C→C→C→C→C→C→C→C→C→C→C→C→C→C→C→C→C→C→C→C→C→R) xs,Ko f xs=f (xs.getD 0 .nil) (xs.getD 1 .nil) (xs.getD 2 .nil) (xs.getD 3 .nil) (xs.getD 4 .nil) (xs.getD 5 .nil) (xs.getD 6 .nil) (xs.getD 7 .nil) (xs.getD 8 .nil) (xs.getD 9 .nil) (xs.getD 10 .nil) (xs.getD 11 .nil) (xs.getD 12 .nil) (xs.getD 13 .nil) (xs.getD 14 .nil) (xs.getD 15 .nil) (xs.getD 16 .nil) (xs.getD 17 .nil) (xs.getD 18 .nil) (xs.getD 19 .nil) (xs.getD 20 .nil) (xs.getD 21 .nil) (xs.getD 22 .nil) (xs.getD 23 .nil) (xs.getD 24 .nil) (xs.getD 25 .nil) (xs.getD 26 .nil) (xs.getD 27 .nil) (xs.getD 28 .nil) (xs.getD 29 .nil) (xs.getD 30 .nil) (xs.getD 31 .nil) (xs.getD 32 .nil) (xs.getD 33 .nil) (xs.getD 34 .nil) (xs.getD 35 .nil) (xs.getD 36 .nil) (xs.getD 37 .nil) (xs.getD 38 .nil))∧
 (∀(f:C→C→C→C→C→C→C→C→C→C→C→C→C→C→C→C→C→C→C→C→C→C→C→C→C→C→C→C→C→C→C→C→C→C→C→C→C→C→C→C→R) xs,Jy f xs=f (xs.getD 0 .nil) (xs.getD 1 .nil) (xs.getD 2 .nil) (xs.getD 3 .nil) (xs.getD 4 .nil) (xs.getD 5 .nil) (xs.getD 6 .nil) (xs.getD 7 .nil) (xs.getD 8 .nil) (xs.getD 9 .nil) (xs.getD 10 .nil) (xs.getD 11 .nil) (xs.getD 12 .nil) (xs.getD 13 .nil) (xs.getD 14 .nil) (xs.getD 15 .nil) (xs.getD 16 .nil) (xs.getD 17 .nil) (xs.getD 18 .nil) (xs.getD 19 .nil) (xs.getD 20 .nil) (xs.getD 21 .nil) (xs.getD 22 .nil) (xs.getD 23 .nil) (xs.getD 24 .nil) (xs.getD 25 .nil) (xs.getD 26 .nil) (xs.getD 27 .nil) (xs.getD 28 .nil) (xs.getD 29 .nil) (xs.getD 30 .nil) (xs.getD 31 .nil) (xs.getD 32 .nil) (xs.getD 33 .nil) (xs.getD 34 .nil) (xs.getD 35 .nil) (xs.getD 36 .nil) (xs.getD 37 .nil) (xs.getD 38 .nil) (xs.getD 39 .nil)):=
 ⟨fun _ _=>rfl,fun _ _=>rfl,fun _ _=>rfl,fun _ _=>rfl,fun _ _=>rfl,fun _ _=>rfl,fun _ _=>rfl,fun _ _=>rfl,fun _ _=>rfl,fun _ _=>rfl,fun _ _=>rfl,fun _ _=>rfl,fun _ _=>rfl,fun _ _=>rfl,fun _ _=>rfl,fun _ _=>rfl,fun _ _=>rfl,fun _ _=>rfl,fun _ _=>rfl,fun _ _=>rfl,fun _ _=>rfl,fun _ _=>rfl,fun _ _=>rfl,fun _ _=>rfl,fun _ _=>rfl,fun _ _=>rfl,fun _ _=>rfl,fun _ _=>rfl,fun _ _=>rfl,fun _ _=>rfl,fun _ _=>rfl,fun _ _=>rfl,fun _ _=>rfl,fun _ _=>rfl,fun _ _=>rfl,fun _ _=>rfl,fun _ _=>rfl,fun _ _=>rfl,fun _ _=>rfl,fun _ _=>rfl⟩
attribute [simp] apL
theorem tc {body:List C→R}:∀ {k m:Nat} {xs:List C} {o:Out},k≤m→iter body k xs=some o→iter body m xs=some o
 |0,_,xs,o,_,h=>by simp[iter] at h
 |k+1,0,xs,o,hk,h=>by omega
 |k+1,m+1,xs,o,hk,h=>by
  simp only[iter] at h⊢
  split
  ·rename_i ys hb
   rw[hb] at h
   exact tc (by omega) h
  ·rename_i hb
   split at h
   ·rename_i ys hb';exact absurd hb' (hb ys)
   ·exact h
theorem kz {body:List C→R} {k:Nat} {xs:List C} {o:Out} (h:iter body k xs=some o):lim body xs=some o:=by
 have hex:∃k,(iter body k xs).isSome:=⟨k,by rw[h];rfl⟩
 unfold lim
 rw[dif_pos hex]
 have hs:=Classical.choose_spec hex
 obtain ⟨o',ho'⟩:=Option.isSome_iff_exists.1 hs
 rw[ho']
 rcases Nat.le_total k (Classical.choose hex) with hle|hle
 ·rw[tc hle h] at ho';exact ho'.symm
 ·rw[tc hle ho'] at h;exact h
theorem aG {body:List C→R} {xs ys:List C} (h:body xs=some (.again ys)):lim body xs=lim body ys:=by
 have key:∀k,iter body (k+1) xs=iter body k ys:=fun k=>by simp only[iter,h]
 cases hr:lim body ys with
 |some o=>
  obtain ⟨k,hk⟩:=rO hr
  exact kz (k:=k+1) (by rw[key];exact hk)
 |none=>
  cases hl:lim body xs with
  |none=>rfl
  |some o=>
   obtain ⟨k,hk⟩:=rO hl
   cases k with
   |zero=>simp[iter] at hk
   |succ k=>rw[key] at hk;rw[kz hk] at hr;simp at hr
theorem ml {body:List C→R} {xs ys:List C} (h:body xs=some (.ret ys)):lim body xs=some (.ret ys):=kz (k:=1) (by simp only[iter,h])
theorem aQ {body:List C→R} {xs ys:List C} {i:Nat} (h:body xs=some (.brk i ys)):lim body xs=some (.brk i ys):=kz (k:=1) (by simp only[iter,h])
theorem aP {n:Int} (h1:-9223372036854775808≤n) (h2:n≤9223372036854775807):w64 n=n:=by
 show (if (true&&decide (n%18446744073709551616≥9223372036854775808))=true then n%18446744073709551616-18446744073709551616 else n%18446744073709551616)=n
 split
 ·rename_i h;simp only[Bool.true_and,decide_eq_true_eq] at h;omega
 ·rename_i h;simp only[Bool.true_and,decide_eq_true_eq] at h;omega
theorem Bk {α β:Type} (f:α→β) {l:List α} {i:Nat} (h:i<l.length) (d:β):(l.map f).getD i d=f l[i]:=by
 rw[List.getD_eq_getElem?_getD,List.getElem?_map,List.getElem?_eq_getElem h];rfl
def y5 {α σ:Type} (f:Nat→α→σ→σ ⊕ Out) (fin:σ→Out):List α→Nat→σ→Out
 |[],_,a=>fin a
 |x::r,i,a=>match f i x a with
  |.inl b=>y5 f fin r (i+1) b
  |.inr o=>o
def Out.stops:Out→Prop|.again _=>False|_=>True
theorem o0 {body:List C→R} {xs:List C} {o:Out} (h:body xs=some o) (ho:o.stops):lim body xs=some o:=by
 cases o with
 |ret ys=>exact ml h
 |brk i ys=>exact aQ h
 |nrm ys=>exact kz (k:=1) (by simp only[iter,h])
 |again ys=>exact ho.elim
def Ji {σ:Type} (body:List C→R) (S:Nat→σ→List C) (Inv:Nat→σ→Prop) (i:Nat) (a:σ):σ ⊕ Out→Prop
 |.inl b=>body (S i a)=some (.again (S (i+1) b))∧Inv (i+1) b
 |.inr o=>body (S i a)=some o∧o.stops
theorem wD {α σ:Type} {l:List α} {body:List C→R} {S:Nat→σ→List C} (Inv:Nat→σ→Prop) (f:Nat→α→σ→σ ⊕ Out) (fin:σ→Out)
  (hstep:∀(i:Nat) (a:σ) (h:i<l.length),Inv i a→Ji body S Inv i a (f i l[i] a))
  (hend:∀a,Inv l.length a→body (S l.length a)=some (fin a)∧(fin a).stops):
  ∀(n i:Nat) (a:σ),n+i=l.length→Inv i a→lim body (S i a)=some (y5 f fin (l.drop i) i a)
 |0,i,a,hn,ha=>by
  have:i=l.length:=by omega
  subst this
  obtain ⟨h1,h2⟩:=hend a ha
  rw[o0 h1 h2,List.drop_length];rfl
 |n+1,i,a,hn,ha=>by
  have hi:i<l.length:=by omega
  have hs:=hstep i a hi ha
  rw[List.drop_eq_getElem_cons hi]
  show _=some (match f i l[i] a with
   |.inl b=>y5 f fin (l.drop (i+1)) (i+1) b
   |.inr o=>o)
  cases hf:f i l[i] a with
  |inl b=>
   rw[hf] at hs
   rw[aG hs.1]
   exact wD Inv f fin hstep hend n (i+1) b (by omega) hs.2
  |inr o=>
   rw[hf] at hs
   exact o0 hs.1 hs.2
end Go.Ev
namespace Go.Ev
open Go.RowKit
inductive DB (T:Tys):CT→C→Prop
 |i (k:IntKind) (n:Int) (h:(Lit.int k n).wf=true):DB T (.int k) (.i n)
 |b (x:Bool):DB T .bool (.b x)
 |s (x:ByteArray) (h:x.size≤maxLen):DB T .str (.s x)
 |l (e:TypeId) (es:List (List C)) (h:es.length≤maxLen) (h1:∀(r:List C) (d:TD),r∈es→aV T e=some d→r.length=d.cts.length)
   (h2:∀(r:List C) (d:TD) (j:Nat) (c:C) (ct:CT),r∈es→aV T e=some d→r[j]?=some c→d.cts[j]?=some ct→DB T ct c):DB T (.sl e) (.l es)
theorem Ei {w:World} {a:Addr} {v:Value} (h:w.cell? a=some v):a.block<w.heap.size∧a.spot=none:=by
 simp only[World.cell?] at h
 split at h
 ·rename_i c _ _ hb
  refine ⟨?_,?_⟩
  ·exact (Array.getElem?_eq_some_iff.1 hb).1
  ·split at h
   ·simp at h
   ·rename_i hs;simpa using hs
 ·simp at h
structure Rd (T:Tys) (w:World) (cts:List CT) (cs:List Value) (xs:List C):Prop where
 n:xs.length=cts.length
 m:cs.length=cts.length
 rel:∀(j:Nat) (c:C) (ct:CT) (v:Value),xs[j]?=some c→cts[j]?=some ct→cs[j]?=some v→cg T (fun k=>k<w.heap.size) w ct c v
 db:∀(j:Nat) (c:C) (ct:CT),xs[j]?=some c→cts[j]?=some ct→DB T ct c
theorem Rd.one {T:Tys} {w:World} {ct:CT} {c:C} {v:Value} (h:cg T (fun k=>k<w.heap.size) w ct c v) (hd:DB T ct c):Rd T w [ct] [v] [c]:=
 ⟨rfl,rfl,fun j c' ct' v' h1 h2 h3=>by
  cases j with
  |zero=>
   simp only[List.getElem?_cons_zero,Option.some.injEq] at h1 h2 h3
   subst h1;subst h2;subst h3;exact h
  |succ j=>simp at h1,fun j c' ct' h1 h2=>by
  cases j with
  |zero=>
   simp only[List.getElem?_cons_zero,Option.some.injEq] at h1 h2
   subst h1;subst h2;exact hd
  |succ j=>simp at h1⟩
def FN (f:TypeId→Bool) (T:Tys):List (Nat×TypeId)→Nat→Nat→Bool
 |[],o,m=>Nat.beq o m
 |(o',t)::r,o,m=>ax (Nat.beq o' o) (ax (f t) (match aV T t with|some d=>FN f T r (o+d.cts.length) m|none=>false))
def okA:Nat→Tys→TypeId→Bool
 |0,_,_=>false
 |n+1,T,t=>match aV T t with
  |some d=>match d.dv with
   |.int _=>true|.bool=>true|.str=>true
   |.sl e=>okA n T e
   |.st fs=>FN (okA n T) T fs 0 d.cts.length
   |_=>false
  |none=>false
theorem DZ {β:Type} {p:Nat→β→Prop}:∀(n:Nat),(∀i,i<n→∃y,p i y)→∃l:List β,l.length=n∧∀i y,l[i]?=some y→p i y
 |0,_=>⟨[],rfl,fun i y h=>by simp at h⟩
 |n+1,h=>by
  obtain ⟨l,h1,h2⟩:=DZ n fun i hi=>h i (by omega)
  obtain ⟨y,hy⟩:=h n (by omega)
  refine ⟨l++[y],by simp[h1],fun i z hz=>?_⟩
  by_cases hi:i<n
  ·rw[List.getElem?_append_left (by omega)] at hz;exact h2 i z hz
  ·have hlt:=(List.getElem?_eq_some_iff.1 hz).1
   simp[h1] at hlt
   have:i=n:=by omega
   subst this
   rw[List.getElem?_append_right (by omega),h1,Nat.sub_self] at hz
   simp at hz;subst hz;exact hy
section
variable {H:Type} {enc:TypeId×Value→H} {P:Program} {w:World} {base:Nat} {sp:Nat→Bool} {held:Bool} {T:Tys}
theorem rA (hT:TOk P T) {t:TypeId} {d:TD} (h:aV T t=some d):P.cellsOf t=d.cts.length:=by
 obtain ⟨i,z,hi,hz,hs,hb,hzc⟩:=(hT t d h).facts
 simp[Program.cellsOf,hi,hs]
theorem rd (hT:TOk P T):∀(n:Nat) (t:TypeId) (d:TD) (fuel:Nat) (cs:List Value) (x:DataW H×List MemPlace),okA n T t=true→aV T t=some d→
  DataW.trod enc P w base sp held fuel t cs=some x→∃xs,Rd T w d.cts cs xs
 |0,t,d,fuel,cs,x,h,_,_=>by simp[okA] at h
 |n+1,t,d,fuel,cs,x,h,hd,hx=>by
  have ht:=hT t d hd
  obtain ⟨u,hu,hv⟩:=ht.desc
  have hleaf:=ht.leaf
  simp only[okA,hd] at h
  cases u with
  |bool=>
   obtain ⟨b,rfl,_⟩:=DataW.trod_bool hu hx
   rw[←hv] at hleaf;simp only[dV] at hleaf;rw[hleaf]
   exact ⟨_,.one (.bool b) (.b b)⟩
  |int k=>
   obtain ⟨b,rfl,_,hb⟩:=DataW.trod_int hu hx
   rw[←hv] at hleaf;simp only[dV] at hleaf;rw[hleaf]
   exact ⟨_,.one (.int k b) (.i k b hb)⟩
  |string=>
   obtain ⟨b,rfl,_,hb⟩:=DataW.trod_string hu hx
   rw[←hv] at hleaf;simp only[dV] at hleaf;rw[hleaf]
   exact ⟨_,.one (.str b) (.s b hb)⟩
  |slice e=>
   rw[←hv] at hleaf h;simp only[dV] at hleaf h;rw[hleaf]
   rcases DataW.trod_slice hu hx with ⟨rfl,_⟩|⟨a,len,cap,elems,rest,m,_,rfl,_,hb,hl,hm,hlen,hel,_,_⟩
   ·exact ⟨[.l []],.one (.sl0 e none 0) (.l e [] (by simp) (fun r d hr=>by simp at hr) fun r d j c ct hr=>by simp at hr)⟩
   ·obtain ⟨de,hde⟩:∃de,aV T e=some de:=by
     cases n with
     |zero=>simp[okA] at h
     |succ n=>
      simp only[okA] at h
      cases hq:aV T e with
      |none=>simp[hq] at h
      |some de=>exact ⟨de,rfl⟩
    have hpos:=(hT e de hde).pos
    have hc:=rA hT hde
    obtain ⟨es,h1,h2⟩:=DZ (p:=fun i ys=>∃cs',w.cells? base (a.add (i*P.cellsOf e)) (P.cellsOf e)=some cs'∧Rd T w de.cts cs' ys) len fun i hi=>by
     have:=hel i hi
     rw[List.getElem?_eq_getElem (by omega)] at this
     obtain ⟨cs',q1,q2⟩:=Option.bind_eq_some_iff.1 this
     obtain ⟨ys,q3⟩:=rd hT n e de m cs' _ h hde q2
     exact ⟨ys,cs',q1,q3⟩
    rw[hc] at h2
    have hdb:DB T (.sl e) (.l es):=.l e es (by omega) (fun r d hr hd=>by
     obtain ⟨i,hi⟩:=List.getElem?_of_mem hr
     obtain ⟨cs',_,q⟩:=h2 i r hi
     rw[hde] at hd;obtain rfl:=Option.some.inj hd
     exact q.n) fun r d j c ct hr hd hc hct=>by
     obtain ⟨i,hi⟩:=List.getElem?_of_mem hr
     obtain ⟨cs',_,q⟩:=h2 i r hi
     rw[hde] at hd;obtain rfl:=Option.some.inj hd
     exact q.db j c ct hc hct
    rcases Nat.eq_zero_or_pos len with h0|h0
    ·have:es=[]:=List.eq_nil_of_length_eq_zero (by omega)
     subst this
     subst h0
     exact ⟨[.l []],.one (.sl0 e (some a) cap) hdb⟩
    ·obtain ⟨cs0,q1,q2⟩:=h2 0 es[0] (List.getElem?_eq_getElem (by omega))
     obtain ⟨_,q3,q4⟩:=World.cells?_some q1
     have q5:=q4 0 hpos
     rw[List.getElem?_eq_getElem (by omega)] at q5
     have q6:=Ei q5
     obtain ⟨g,o,spt⟩:=a
     have hspot:spt=none:=by
      by_cases he:spt=none
      ·exact he
      ·simp[Addr.add] at q6;exact q6.2
     subst hspot
     simp only[Addr.add_lit] at q6
     have hg:g<w.heap.size:=q6.1
     have key:=cg.sl (T:=T) (F:=fun k=>k<w.heap.size) (w:=w) e de es g o cap (fun i j=>(w.cell? ⟨g,o+(i*de.cts.length+j),none⟩).getD undef) hde hg (by omega)
      (fun i ys hi=>by
       obtain ⟨cs',_,q⟩:=h2 i ys hi
       exact q.n)
      (fun i ys j c hi hj=>by
       obtain ⟨cs',p1,q⟩:=h2 i ys hi
       obtain ⟨_,p2,p3⟩:=World.cells?_some p1
       have hjl:j<de.cts.length:=by rw[←q.n];exact (List.getElem?_eq_some_iff.1 hj).1
       have p4:=p3 j hjl
       rw[List.getElem?_eq_getElem (by omega)] at p4
       simp only[Addr.add_lit] at p4
       rw[←Nat.add_assoc,p4];rfl)
      (fun i ys j c ct hi hj hct=>by
       obtain ⟨cs',p1,q⟩:=h2 i ys hi
       obtain ⟨_,p2,p3⟩:=World.cells?_some p1
       have hjl:j<de.cts.length:=by rw[←q.n];exact (List.getElem?_eq_some_iff.1 hj).1
       have p4:=p3 j hjl
       rw[List.getElem?_eq_getElem (by omega)] at p4
       simp only[Addr.add_lit] at p4
       rw[←Nat.add_assoc,p4]
       exact q.rel j c ct _ hj hct (List.getElem?_eq_getElem (by omega)))
     rw[h1] at key
     exact ⟨[.l es],.one key hdb⟩
  |struct fs=>
   obtain ⟨zs,m,_,_,hl,hz,hf⟩:=DataW.trod_struct hu hx
   rw[←hv] at hleaf h;simp only[dV] at hleaf h
   rw[rA hT hd] at hl
   have key:∀(l:List Field) (o:Nat),FN (okA n T) T (dG l) o d.cts.length=true→(∀q,q∈dG l→q∈dG fs.toList)→(∀f,f∈l→∃z,DataW.trod enc P w base sp held m f.type ((cs.drop f.offset).take (P.cellsOf f.type))=some z)→
     ∃xs:List C,xs.length+o=d.cts.length∧(∀(j:Nat) (c:C) (ct:CT) (v:Value),xs[j]?=some c→d.cts[o+j]?=some ct→cs[o+j]?=some v→cg T (fun k=>k<w.heap.size) w ct c v)∧∀(j:Nat) (c:C) (ct:CT),xs[j]?=some c→d.cts[o+j]?=some ct→DB T ct c:=by
    intro l
    induction l with
    |nil=>
     intro o h _ _
     simp only[dG,List.map_nil,FN] at h
     exact ⟨[],by simpa using Nat.eq_of_beq_eq_true h,fun j c ct v h=>by simp at h,fun j c ct h=>by simp at h⟩
    |cons f l ih=>
     intro o h hin hall
     simp only[dG,List.map_cons,FN,ak,Bool.and_eq_true] at h
     obtain ⟨ho,hok,h⟩:=h
     have ho:=Nat.eq_of_beq_eq_true ho
     cases hdf:aV T f.type with
     |none=>simp[hdf] at h
     |some df=>
      simp only[hdf] at h
      obtain ⟨z,hz⟩:=hall f (by simp)
      obtain ⟨ys,hys⟩:=rd hT n f.type df m _ z hok hdf hz
      obtain ⟨xs,h1,h2,h3⟩:=ih (o+df.cts.length) h (fun q hq=>hin q (by simp only[dG,List.map_cons,List.mem_cons];exact .inr hq)) (fun f' hf'=>hall f' (by simp[hf']))
      have hsub:=hleaf f.offset f.type (hin _ (by simp[dG])) df hdf
      rw[rA hT hdf] at hys
      rw[ho] at hsub hys
      refine ⟨ys++xs,by rw[List.length_append,hys.n];omega,fun j c ct v a1 a2 a3=>?_,fun j c ct a1 a2=>?_⟩
      ·by_cases hj:j<ys.length
       ·rw[List.getElem?_append_left hj] at a1
        have hjl:j<df.cts.length:=by rw[←hys.n];exact hj
        refine hys.rel j c ct v a1 ?_ ?_
        ·rw[←hsub,List.getElem?_take_of_lt hjl,List.getElem?_drop];exact a2
        ·rw[List.getElem?_take_of_lt hjl,List.getElem?_drop];exact a3
       ·rw[List.getElem?_append_right (by omega)] at a1
        have e:o+df.cts.length+(j-ys.length)=o+j:=by rw[hys.n] at hj⊢;omega
        exact h2 (j-ys.length) c ct v a1 (by rw[e];exact a2) (by rw[e];exact a3)
      ·by_cases hj:j<ys.length
       ·rw[List.getElem?_append_left hj] at a1
        have hjl:j<df.cts.length:=by rw[←hys.n];exact hj
        refine hys.db j c ct a1 ?_
        rw[←hsub,List.getElem?_take_of_lt hjl,List.getElem?_drop];exact a2
       ·rw[List.getElem?_append_right (by omega)] at a1
        have e:o+df.cts.length+(j-ys.length)=o+j:=by rw[hys.n] at hj⊢;omega
        exact h3 (j-ys.length) c ct a1 (by rw[e];exact a2)
   obtain ⟨xs,h1,h2,h3⟩:=key fs.toList 0 h (fun _ h=>h) (fun f hf'=>by
    obtain ⟨i,hi⟩:=List.getElem?_of_mem hf'
    have hi':fs[i]?=some f:=by simpa using hi
    have:=hf i f hi'
    have hil:i<zs.length:=by rw[hz];exact (Array.getElem?_eq_some_iff.1 hi').1
    rw[List.getElem?_eq_getElem hil] at this
    exact ⟨_,this⟩)
   exact ⟨xs,by simpa using h1,hl,fun j c ct v a1 a2 a3=>h2 j c ct v a1 (by simpa using a2) (by simpa using a3),fun j c ct a1 a2=>h3 j c ct a1 (by simpa using a2)⟩
  |_=>rw[←hv] at h;simp[dV] at h
end
theorem Kj {P:Program} {T:Tys} {f n:Nat} {sl:List (Nat×Sk)} {Fn:List C→Option (List C)} (hf:aA P T f ⟨n,⟨sl,[]⟩,⟨[(0,.d .bool)],[]⟩,[],Fn⟩)
  (xs:List C) (args:Array Value) (W:World) (hs:args.size=n) (ha:∀k,k<n→ah T (fun k=>k<W.heap.size) W (fun _=>none) (fun _=>.bool false) (((⟨sl,[]⟩:Tm).inj xs).sl k) (args.getD k undef)) (hF:Fn xs=some [.b true]):
  Calls P f args W fun e W'=>e=.returned (.bool true)∧Below W.heap.size W W':=by
 refine (hf.calls W (fun _=>False) (fun _=>False) (fun k=>k<W.heap.size) (fun _=>.bool false) xs [.b true] args ?_ hs ha hF).mono ?_
 ·exact ⟨fun b x h=>(by cases h),fun b b' x x' g h=>(by cases h),fun b x g h=>(by cases h),fun k h=>h,⟨rfl,rfl,⟨rfl,Nat.le_refl _⟩,Nat.le_refl _,fun _ _ _=>rfl⟩,fun k h=>h,fun k h=>.inl h,fun n hn=>(by cases hn),fun b x h=>(by cases h),fun b x k h=>(by cases h),fun b b' x x' k h=>(by cases h),fun k h=>h.elim⟩
 ·rintro e W' ⟨v,F1,θ1,rfl,hw,hv,_⟩
  have hv':ah T F1 W' _ θ1 (.c .bool (.b true)) v:=hv
  cases hv' with
  |c _ _ _ h=>
   cases h
   exact ⟨rfl,⟨hw.keep.os,hw.keep.tape,hw.keep.output.1,hw.keep.size,fun k hk=>hw.keep.old k hk (fun h=>h)⟩⟩
end Go.Ev
set_option maxRecDepth 100000
namespace Go.Ev
open Go.Proofs
def zi:Sk:=.d (.int .i64)
def zt:Sk:=.d .str
def zo:Sk:=.d .bool
def zl (n:Nat):Sk:=.d (.sl n)
def z0:BSk:=.var 27 [zo,(zl 37),(zl 60),(zl 45)]
def z1:BSk:=.var 45 [zt,zt,zi,zi,zi,zi,zt,(zl 109),zi,zt,zt,zt]
def z2:Sk:=(.ag [zo,(zl 37),(zl 60),(zl 45)])
def z3:Sk:=(.ag [zt,zt,zi,zi,zi,zi,zt,(zl 109),zi,zt,zt,zt])
def z4:BSk:=.var 37 [zt,zt,(zl 9),zi,zi,zo]
def z5:BSk:=.var 117 [(zl 5),zi]
def z6:BSk:=.var 81 [zi,zt,zt,(zl 9),zi,zi,zo,zt,zt,zi,zi,zi,zi,zt,(zl 109),zi,zt,zt,zt,zt,zt]
def z7:BSk:=.var 49 [zi,zi,zi,zi]
def z8:Sk:=(.ag [zt,zt,(zl 9),zi,zi,zo])
def z9:BSk:=.var 27 [zo,(.ow 1021100),(.ow 1021101),(.ow 1021102)]
def z10:BSk:=.var 27 [zo,(.ow 2001),(.ow 2002),(.ow 2003)]
def z11:Sk:=(.ag [zo,(.ow 3000),(.ow 3001),(.ow 3002)])
def z12:BSk:=.var 27 [zo,(.ow 1013500),(.ow 1013501),(.ow 1013502)]
def z13:BSk:=.var 27 [zo,(.ow 1148500),(.ow 1148501),(.ow 1148502)]
def z14:BSk:=.var 27 [zo,(.ow 1021103),(.ow 1021104),(.ow 1021105)]
def z15:BSk:=.var 27 [zo,(.ow 1287400),(.ow 1287401),(.ow 1287402)]
def T0:Tys:=[(1,⟨.fn,[.fn],8⟩),
 (2,⟨(.int .i64),[(.int .i64)],8⟩),
 (3,⟨(.int .i64),[(.int .i64)],8⟩),
 (4,⟨.bool,[.bool],1⟩),
 (5,⟨(.int .u8),[(.int .u8)],1⟩),
 (6,⟨(.int .u8),[(.int .u8)],1⟩),
 (7,⟨(.st [(0,2),(1,3),(2,4),(3,6)]),[(.int .i64),(.int .i64),.bool,(.int .u8)],24⟩),
 (8,⟨(.st [(0,2),(1,3),(2,4),(3,6)]),[(.int .i64),(.int .i64),.bool,(.int .u8)],24⟩),
 (9,⟨.str,[.str],16⟩),
 (10,⟨.str,[.str],16⟩),
 (11,⟨.str,[.str],16⟩),
 (12,⟨(.int .u64),[(.int .u64)],8⟩),
 (13,⟨(.st [(0,9),(1,12)]),[.str,(.int .u64)],24⟩),
 (14,⟨(.st [(0,9),(1,12)]),[.str,(.int .u64)],24⟩),
 (15,⟨(.pt 239),[(.pt 239)],8⟩),
 (16,⟨(.pt 242),[(.pt 242)],8⟩),
 (17,⟨(.pt 250),[(.pt 250)],8⟩),
 (18,⟨(.st [(0,17)]),[(.pt 250)],8⟩),
 (19,⟨(.st [(0,17)]),[(.pt 250)],8⟩),
 (21,⟨(.int .i32),[(.int .i32)],4⟩),
 (22,⟨(.sl 5),[(.sl 5)],24⟩),
 (23,⟨(.sl 37),[(.sl 37)],24⟩),
 (24,⟨(.sl 60),[(.sl 60)],24⟩),
 (25,⟨(.sl 45),[(.sl 45)],24⟩),
 (26,⟨(.st [(0,4),(1,23),(2,24),(3,25)]),[.bool,(.sl 37),(.sl 60),(.sl 45)],80⟩),
 (27,⟨(.st [(0,4),(1,23),(2,24),(3,25)]),[.bool,(.sl 37),(.sl 60),(.sl 45)],80⟩),
 (29,⟨.fn,[.fn],8⟩),
 (30,⟨.fn,[.fn],8⟩),
 (31,⟨(.sl 9),[(.sl 9)],24⟩),
 (32,⟨.fn,[.fn],8⟩),
 (33,⟨.fn,[.fn],8⟩),
 (34,⟨.fn,[.fn],8⟩),
 (35,⟨.fn,[.fn],8⟩),
 (36,⟨(.st [(0,9),(1,9),(2,31),(3,3),(4,3),(5,4)]),[.str,.str,(.sl 9),(.int .i64),(.int .i64),.bool],80⟩),
 (37,⟨(.st [(0,9),(1,9),(2,31),(3,3),(4,3),(5,4)]),[.str,.str,(.sl 9),(.int .i64),(.int .i64),.bool],80⟩),
 (38,⟨.fn,[.fn],8⟩),
 (39,⟨.fn,[.fn],8⟩),
 (41,⟨.fn,[.fn],8⟩),
 (42,⟨.fn,[.fn],8⟩),
 (43,⟨(.sl 109),[(.sl 109)],24⟩),
 (44,⟨(.st [(0,9),(1,9),(2,3),(3,3),(4,3),(5,3),(6,9),(7,43),(8,3),(9,9),(10,9),(11,9)]),[.str,.str,(.int .i64),(.int .i64),(.int .i64),(.int .i64),.str,(.sl 109),(.int .i64),.str,.str,.str],160⟩),
 (45,⟨(.st [(0,9),(1,9),(2,3),(3,3),(4,3),(5,3),(6,9),(7,43),(8,3),(9,9),(10,9),(11,9)]),[.str,.str,(.int .i64),(.int .i64),(.int .i64),(.int .i64),.str,(.sl 109),(.int .i64),.str,.str,.str],160⟩),
 (47,⟨.fn,[.fn],8⟩),
 (48,⟨(.st [(0,3),(1,3),(2,3),(3,3)]),[(.int .i64),(.int .i64),(.int .i64),(.int .i64)],32⟩),
 (49,⟨(.st [(0,3),(1,3),(2,3),(3,3)]),[(.int .i64),(.int .i64),(.int .i64),(.int .i64)],32⟩),
 (50,⟨.fn,[.fn],8⟩),
 (51,⟨.fn,[.fn],8⟩),
 (52,⟨(.st [(0,9),(1,9),(2,31)]),[.str,.str,(.sl 9)],56⟩),
 (53,⟨(.st [(0,9),(1,9),(2,31)]),[.str,.str,(.sl 9)],56⟩),
 (55,⟨.fn,[.fn],8⟩),
 (57,⟨.fn,[.fn],8⟩),
 (58,⟨.fn,[.fn],8⟩),
 (59,⟨(.st [(0,9),(1,3)]),[.str,(.int .i64)],24⟩),
 (60,⟨(.st [(0,9),(1,3)]),[.str,(.int .i64)],24⟩),
 (61,⟨.fn,[.fn],8⟩),
 (62,⟨(.sl 53),[(.sl 53)],24⟩),
 (64,⟨.fn,[.fn],8⟩),
 (65,⟨.fn,[.fn],8⟩),
 (66,⟨.fn,[.fn],8⟩),
 (68,⟨.fn,[.fn],8⟩),
 (69,⟨.fn,[.fn],8⟩),
 (71,⟨.fn,[.fn],8⟩),
 (72,⟨.fn,[.fn],8⟩),
 (73,⟨(.sl 3),[(.sl 3)],24⟩),
 (74,⟨.fn,[.fn],8⟩),
 (76,⟨.fn,[.fn],8⟩),
 (77,⟨.fn,[.fn],8⟩),
 (79,⟨.fn,[.fn],8⟩),
 (80,⟨(.st [(0,3),(1,37),(7,45),(19,9),(20,9)]),[(.int .i64),.str,.str,(.sl 9),(.int .i64),(.int .i64),.bool,.str,.str,(.int .i64),(.int .i64),(.int .i64),(.int .i64),.str,(.sl 109),(.int .i64),.str,.str,.str,.str,.str],280⟩),
 (81,⟨(.st [(0,3),(1,37),(7,45),(19,9),(20,9)]),[(.int .i64),.str,.str,(.sl 9),(.int .i64),(.int .i64),.bool,.str,.str,(.int .i64),(.int .i64),(.int .i64),(.int .i64),.str,(.sl 109),(.int .i64),.str,.str,.str,.str,.str],280⟩),
 (82,⟨(.pt 117),[(.pt 117)],8⟩),
 (83,⟨.fn,[.fn],8⟩),
 (84,⟨.fn,[.fn],8⟩),
 (85,⟨.fn,[.fn],8⟩),
 (86,⟨.fn,[.fn],8⟩),
 (87,⟨.fn,[.fn],8⟩),
 (88,⟨.fn,[.fn],8⟩),
 (89,⟨.fn,[.fn],8⟩),
 (90,⟨.fn,[.fn],8⟩),
 (92,⟨.fn,[.fn],8⟩),
 (93,⟨.fn,[.fn],8⟩),
 (96,⟨.fn,[.fn],8⟩),
 (97,⟨.fn,[.fn],8⟩),
 (99,⟨.fn,[.fn],8⟩),
 (100,⟨.fn,[.fn],8⟩),
 (101,⟨.fn,[.fn],8⟩),
 (102,⟨.fn,[.fn],8⟩),
 (103,⟨.fn,[.fn],8⟩),
 (104,⟨.fn,[.fn],8⟩),
 (105,⟨.fn,[.fn],8⟩),
 (106,⟨(.pt 27),[(.pt 27)],8⟩),
 (107,⟨.fn,[.fn],8⟩),
 (108,⟨(.st [(0,9),(1,3)]),[.str,(.int .i64)],24⟩),
 (109,⟨(.st [(0,9),(1,3)]),[.str,(.int .i64)],24⟩),
 (111,⟨.fn,[.fn],8⟩),
 (112,⟨.fn,[.fn],8⟩),
 (113,⟨.fn,[.fn],8⟩),
 (114,⟨.fn,[.fn],8⟩),
 (115,⟨.fn,[.fn],8⟩),
 (116,⟨(.st [(0,22),(1,3)]),[(.sl 5),(.int .i64)],32⟩),
 (117,⟨(.st [(0,22),(1,3)]),[(.sl 5),(.int .i64)],32⟩),
 (118,⟨.fn,[.fn],8⟩),
 (119,⟨.fn,[.fn],8⟩),
 (120,⟨.fn,[.fn],8⟩),
 (121,⟨.fn,[.fn],8⟩),
 (122,⟨.fn,[.fn],8⟩),
 (123,⟨.fn,[.fn],8⟩),
 (124,⟨.fn,[.fn],8⟩),
 (126,⟨.fn,[.fn],8⟩),
 (127,⟨(.pt 155),[(.pt 155)],8⟩),
 (129,⟨.fn,[.fn],8⟩),
 (130,⟨.fn,[.fn],8⟩),
 (131,⟨.fn,[.fn],8⟩),
 (132,⟨.fn,[.fn],8⟩),
 (133,⟨.fn,[.fn],8⟩),
 (134,⟨.fn,[.fn],8⟩),
 (135,⟨.fn,[.fn],8⟩),
 (136,⟨.fn,[.fn],8⟩),
 (137,⟨.fn,[.fn],8⟩),
 (138,⟨(.int .u64),[(.int .u64)],8⟩),
 (139,⟨.fn,[.fn],8⟩),
 (140,⟨.fn,[.fn],8⟩),
 (141,⟨.fn,[.fn],8⟩),
 (142,⟨.fn,[.fn],8⟩),
 (143,⟨(.sl 31),[(.sl 31)],24⟩),
 (144,⟨(.sl 184),[(.sl 184)],24⟩),
 (145,⟨(.st [(0,144)]),[(.sl 184)],24⟩),
 (146,⟨(.st [(0,144)]),[(.sl 184)],24⟩),
 (148,⟨.fn,[.fn],8⟩),
 (149,⟨.fn,[.fn],8⟩),
 (150,⟨.fn,[.fn],8⟩),
 (151,⟨.fn,[.fn],8⟩),
 (152,⟨.fn,[.fn],8⟩),
 (153,⟨(.sl 127),[(.sl 127)],24⟩),
 (154,⟨(.st [(0,3),(1,9),(2,9),(3,153)]),[(.int .i64),.str,.str,(.sl 127)],64⟩),
 (155,⟨(.st [(0,3),(1,9),(2,9),(3,153)]),[(.int .i64),.str,.str,(.sl 127)],64⟩),
 (156,⟨(.pt 158),[(.pt 158)],8⟩),
 (157,⟨(.st [(0,9),(1,3),(2,4)]),[.str,(.int .i64),.bool],32⟩),
 (158,⟨(.st [(0,9),(1,3),(2,4)]),[.str,(.int .i64),.bool],32⟩),
 (159,⟨.fn,[.fn],8⟩),
 (160,⟨.fn,[.fn],8⟩),
 (161,⟨.fn,[.fn],8⟩),
 (162,⟨.fn,[.fn],8⟩),
 (163,⟨.fn,[.fn],8⟩),
 (164,⟨.fn,[.fn],8⟩),
 (165,⟨.fn,[.fn],8⟩),
 (166,⟨.fn,[.fn],8⟩),
 (167,⟨.fn,[.fn],8⟩),
 (168,⟨(.int .i64),[(.int .i64)],8⟩),
 (170,⟨.fn,[.fn],8⟩),
 (171,⟨.fn,[.fn],8⟩),
 (172,⟨.fn,[.fn],8⟩),
 (173,⟨.fn,[.fn],8⟩),
 (175,⟨.fn,[.fn],8⟩),
 (176,⟨.fn,[.fn],8⟩),
 (177,⟨(.int .u32),[(.int .u32)],4⟩),
 (178,⟨.fn,[.fn],8⟩),
 (179,⟨(.int .u64),[(.int .u64)],8⟩),
 (180,⟨.fn,[.fn],8⟩),
 (181,⟨.fn,[.fn],8⟩),
 (182,⟨.fn,[.fn],8⟩),
 (183,⟨(.st [(0,3),(1,9),(2,9),(3,3)]),[(.int .i64),.str,.str,(.int .i64)],48⟩),
 (184,⟨(.st [(0,3),(1,9),(2,9),(3,3)]),[(.int .i64),.str,.str,(.int .i64)],48⟩),
 (185,⟨(.pt 187),[(.pt 187)],8⟩),
 (186,⟨(.st [(0,31),(1,3),(2,4)]),[(.sl 9),(.int .i64),.bool],40⟩),
 (187,⟨(.st [(0,31),(1,3),(2,4)]),[(.sl 9),(.int .i64),.bool],40⟩),
 (188,⟨.fn,[.fn],8⟩),
 (189,⟨.fn,[.fn],8⟩),
 (190,⟨(.sl 73),[(.sl 73)],24⟩),
 (192,⟨.fn,[.fn],8⟩),
 (193,⟨.fn,[.fn],8⟩),
 (194,⟨.fn,[.fn],8⟩),
 (198,⟨.fn,[.fn],8⟩),
 (199,⟨.fn,[.fn],8⟩),
 (200,⟨(.pt 196),[(.pt 196)],8⟩),
 (201,⟨.fn,[.fn],8⟩),
 (202,⟨(.int .u64),[(.int .u64)],8⟩),
 (203,⟨.fn,[.fn],8⟩),
 (204,⟨.fn,[.fn],8⟩),
 (205,⟨.fn,[.fn],8⟩),
 (206,⟨(.pt 3),[(.pt 3)],8⟩),
 (207,⟨.fn,[.fn],8⟩),
 (208,⟨.fn,[.fn],8⟩),
 (209,⟨.fn,[.fn],8⟩),
 (210,⟨.fn,[.fn],8⟩),
 (211,⟨.fn,[.fn],8⟩),
 (213,⟨.fn,[.fn],8⟩),
 (214,⟨.fn,[.fn],8⟩),
 (215,⟨.fn,[.fn],8⟩),
 (216,⟨.fn,[.fn],8⟩),
 (217,⟨.fn,[.fn],8⟩),
 (218,⟨.fn,[.fn],8⟩),
 (219,⟨.fn,[.fn],8⟩),
 (220,⟨(.pt 202),[(.pt 202)],8⟩),
 (221,⟨.fn,[.fn],8⟩),
 (222,⟨.fn,[.fn],8⟩),
 (223,⟨.fn,[.fn],8⟩),
 (224,⟨(.sl 144),[(.sl 144)],24⟩),
 (225,⟨.fn,[.fn],8⟩),
 (226,⟨.fn,[.fn],8⟩),
 (227,⟨.fn,[.fn],8⟩),
 (228,⟨.fn,[.fn],8⟩),
 (229,⟨.fn,[.fn],8⟩),
 (231,⟨.fn,[.fn],8⟩),
 (233,⟨(.st [(0,5),(1,5)]),[(.int .u8),(.int .u8)],2⟩),
 (234,⟨(.st [(0,5),(1,5)]),[(.int .u8),(.int .u8)],2⟩),
 (236,⟨.fn,[.fn],8⟩),
 (237,⟨.fn,[.fn],8⟩),
 (238,⟨(.st [(0,17),(1,17),(2,17),(3,9)]),[(.pt 250),(.pt 250),(.pt 250),.str],40⟩),
 (239,⟨(.st [(0,17),(1,17),(2,17),(3,9)]),[(.pt 250),(.pt 250),(.pt 250),.str],40⟩),
 (243,⟨(.int .u8),[(.int .u8)],1⟩),
 (244,⟨(.int .u8),[(.int .u8)],1⟩),
 (245,⟨.fn,[.fn],8⟩),
 (246,⟨(.pt 5),[(.pt 5)],8⟩),
 (247,⟨(.int .i32),[(.int .i32)],4⟩),
 (248,⟨(.int .i32),[(.int .i32)],4⟩),
 (249,⟨(.st [(0,12),(1,12),(2,177),(3,243),(4,5),(5,5),(6,244),(7,245),(8,246),(9,247),(10,248)]),[(.int .u64),(.int .u64),(.int .u32),(.int .u8),(.int .u8),(.int .u8),(.int .u8),.fn,(.pt 5),(.int .i32),(.int .i32)],48⟩),
 (250,⟨(.st [(0,12),(1,12),(2,177),(3,243),(4,5),(5,5),(6,244),(7,245),(8,246),(9,247),(10,248)]),[(.int .u64),(.int .u64),(.int .u32),(.int .u8),(.int .u8),(.int .u8),(.int .u8),.fn,(.pt 5),(.int .i32),(.int .i32)],48⟩)]
def Ka:List Nat:=[60,109]
def Kb:List (Nat×Nat):=[(94,4),(95,3)]
theorem aE:CB Tryz.checked.prog T0 Ka Kb:=CB.of (by kernel_rfl) (by kernel_rfl) (by kernel_rfl) (by kernel_rfl)
end Go.Ev
namespace Go.Proofs
set_option maxHeartbeats 1000000 in
set_option maxRecDepth 100000 in
theorem stringslite_IndexByte (s:ByteArray) (c:Int) (w:World):
  Calls Tryz.prog 215 #[.string s,.int .u8 c] w fun e w'=>e=.returned (.int .i64 (Lib.indexByte s.data.toList c.toNat.toUInt8))∧w'=w:=by
 go_enter Tryz.func215,Tryz.ntmps215
 go_wp2
 rw[run_callFunc_extern Tryz.func229 (by kernel_rfl) (by kernel_rfl) (by kernel_rfl) (e:=Extern.BytealgIndexByte.indexByte) (by kernel_rfl),Lib.run_indexByteString]
 simp only[Result.andThen]
 rw[Oper.upon_value]
 go_wp2
 go_ret
 exact ⟨rfl,rfl⟩
end Go.Proofs
namespace Go.Ev
open Go.Proofs
def ibF:List C→Option (List C):=fun xs=>some [.i (Lib.indexByte (xs.getD 0 .nil).S.data.toList (xs.getD 1 .nil).I.toNat.toUInt8)]
theorem JT:aA Tryz.checked.prog T0 215 ⟨2,⟨[(0,.d .str),(1,.d (.int .u8))],[]⟩,⟨[(0,.d (.int .i64))],[]⟩,[],ibF⟩:=by
 refine ⟨⟨Tryz.f215,_,Tryz.func215,rfl,by kernel_rfl⟩,?_⟩
 intro W wr nl F0 θ xs ys args hW hsz hargs hF
 obtain ⟨a0,a1,rfl⟩:∃a0 a1,args= #[a0,a1]:=by
  obtain ⟨l⟩:=args
  simp only[List.size_toArray] at hsz
  match l,hsz with
  |[a,b],_=>exact ⟨a,b,rfl⟩
 have r0:ah T0 F0 W (fun _=>none) θ (.c .str (xs.getD 0 .nil)) a0:=hargs 0 (by decide)
 have r1:ah T0 F0 W (fun _=>none) θ (.c (.int .u8) (xs.getD 1 .nil)) a1:=hargs 1 (by decide)
 simp only[ibF,Option.some.injEq] at hF
 subst hF
 generalize hx0:xs.getD 0 .nil=x0 at*
 generalize hx1:xs.getD 1 .nil=x1 at*
 cases r0 with
 |c _ _ _ hc=>
 cases hc with
 |str s=>
 cases r1 with
 |c _ _ _ hc=>
 cases hc with
 |int _ m=>
 refine (stringslite_IndexByte s m W).mono ?_
 rintro e w' ⟨rfl,rfl⟩
 exact ⟨_,F0,θ,rfl,hW,.c _ _ _ (.int _ _),fun n _ hn=>by simp at hn⟩
end Go.Ev
namespace Go.Ev
open Go.Sort
structure IK (w w':World) (g:Nat):Prop where
 os:w'.os=w.os
 tape:w'.tape=w.tape
 output:w'.output=w.output
 drawn:w.drawn≤w'.drawn
 size:w.heap.size≤w'.heap.size
 old:∀k,k<w.heap.size→k≠g→w'.heap[k]?=w.heap[k]?
theorem tP {α:Type} [Inhabited α] (enc:α→Value) (w:World) (n g o:Nat) (d:Array α) (os:Array Obj):IK w (grow (putRow enc (Sort.ahead w n) g o d) os) g:=by
 refine ⟨rfl,rfl,rfl,Nat.le_add_right _ _,?_,fun k hk hg=>?_⟩
 ·simp[grow,putRow,mapBlock,Sort.ahead]
 ·have:k<(w.heap.modify g (onCells (putCells enc o d))).size:=by simpa using hk
  simp only[grow,putRow,mapBlock,Sort.ahead,Array.getElem?_append,if_pos this,Array.getElem?_modify]
  rw[if_neg (fun h=>hg h.symm)]
theorem Ej {α:Type} [Inhabited α] (enc:α→Value) (w:World) (n g o:Nat) (d:Array α) (os:Array Obj) {cs:Array Value} {t:TypeId} {p:Nat×Nat} (h:w.heap[g]?=some (.cells cs t p)):
  (grow (putRow enc (Sort.ahead w n) g o d) os).heap[g]?=some (.cells (putCells enc o d cs) t p):=by
 have hg:g<w.heap.size:=by
  rcases Nat.lt_or_ge g w.heap.size with h1|h1
  ·exact h1
  ·rw[Array.getElem?_eq_none h1] at h;cases h
 have:g<(w.heap.modify g (onCells (putCells enc o d))).size:=by simpa using hg
 simp only[grow,putRow,mapBlock,Sort.ahead,Array.getElem?_append,if_pos this,Array.getElem?_modify,h]
 rfl
theorem G3 {α:Type} [Inhabited α] (enc:α→Value) (o:Nat) (d:Array α) (cs:Array Value) {i:Nat} (hi:i<d.size) (h:o+i<cs.size):(putCells enc o d cs)[o+i]?=some (enc d[i]!):=by
 have:o≤o+i∧o+i<o+d.size:=by omega
 simp only[putCells,Array.getElem?_mapIdx,Array.getElem?_eq_getElem h,Option.map_some,this,and_self,if_true,Nat.add_sub_cancel_left]
theorem D7 {α:Type} [Inhabited α] (enc:α→Value) (o:Nat) (d:Array α) (cs:Array Value):(putCells enc o d cs).size=cs.size:=by simp[putCells]
theorem holds_of {α:Type} [Inhabited α] (enc:α→Value) {w:World} {g o:Nat} {cs:Array Value} {t:TypeId} (hg:w.heap[g]?=some (.cells cs t (0,0))) (d:Array α) (h:∀j,j<d.size→cs[o+j]?=some (enc d[j]!)):Holds enc w g o d:=by
 intro j hj
 refine ⟨?_,?_⟩
 ·simp[World.cell?,hg,h j hj]
 ·simp[World.frozen?,hg]
section
variable {T:Tys} {w w':World} {wr nl F0:Nat→Prop} {θ:Nat→Value} {bx bx':Bxs} {t:TypeId} {d:TD} {es es':List (List C)} {m:Nat} {ip:List Nat}
theorem yI {v:Value} {k:Nat} (hd:aV T t=some d) (hf:bp d.cts=true) (h:Nst T w t es v k):False:=by
 obtain ⟨i,j,ct,c,u,⟨d',g,o,n,cap,cs,h1,_,_,_,h5,_⟩,h2⟩:=h
 rw[hd] at h1;obtain rfl:=Option.some.inj h1
 have:=cx hf _ _ h5
 cases h2<;>simp[CT.flat] at this
theorem Fg (hd:aV T t=some d) (hm:m=0∨(m=1∧bp d.cts=true)) (hbx:∀b x,bx' b=some x→b=2000∧x=.arr 0 t es' m)
  (hF:∀k,F0 k→k<w.heap.size) (hnl:∀k,nl k→F0 k) (hk:BV ⟨w,wr,F0,θ,[],nl⟩ w')
  (hbox:ib T F0 w' bx' θ 2000 (.arr 0 t es' m)) (hout:∀g,br (θ 2000)=some g→¬F0 g∧g<w.heap.size∧wr g):WR T ⟨w,wr,F0,θ,[],nl⟩ F0 w' bx' θ:=by
 refine ⟨fun b x h=>?_,fun b b' x x' g h1 h2 _ _ _ _=>?_,fun b x g h _ hg=>?_,fun k h=>Nat.lt_of_lt_of_le (hF k h) hk.size,hk,fun k h=>h,fun k h=>.inl h,fun n hn=>(by cases hn),fun b x h=>?_,fun b x k h hk'=>?_,fun b b' x x' k h1 h2 _ _=>?_,hnl⟩
 ·obtain ⟨rfl,rfl⟩:=hbx b x h
  exact hbox
 ·rw[(hbx _ _ h1).1,(hbx _ _ h2).1]
 ·obtain ⟨rfl,rfl⟩:=hbx b x h
  obtain ⟨a1,a2,a3⟩:=hout g hg
  exact ⟨a1,Nat.lt_of_lt_of_le a2 hk.size,.inr a3⟩
 ·obtain ⟨rfl,rfl⟩:=hbx b x h
  intro h0
  obtain ⟨rfl,hf⟩:=hm.resolve_left h0
  obtain ⟨d',A,cap,q1,q2,q3,q4⟩:=hbox
  rw[hd] at q1;obtain rfl:=Option.some.inj q1
  refine ⟨fun _=>⟨fun i j ct c u h=>?_,fun i j ct c u i' j' ct' c' u' k h1 h2 h3 h4=>?_⟩,fun h=>absurd h (by decide)⟩
  ·obtain ⟨d',g,o,n,cap',cs,h1,h2,h3,h4,h5,h6⟩:=h
   rw[hd] at h1;obtain rfl:=Option.some.inj h1
   rw[q2] at h2
   simp only[Value.slice.injEq] at h2
   obtain ⟨rfl,rfl,rfl⟩:=h2
   rcases q4 with ⟨q,_⟩|⟨g',o',cs',r1,r2,r3,r4,r5⟩
   ·cases q
   ·simp only[Option.some.injEq,Addr.mk.injEq] at r1
    obtain ⟨rfl,rfl,_⟩:=r1
    simp only[World.cell?,r2] at h6
    exact (r5 i cs j c ct u h3 h4 h5 (by simpa using h6)).rl (cx hf _ _ h5)
  ·exact (yI hd hf ⟨i,j,ct,c,u,h1,h3⟩).elim
 ·obtain ⟨rfl,rfl⟩:=hbx b x h
  obtain ⟨h0,h1⟩:=hk'
  obtain ⟨rfl,hf⟩:=hm.resolve_left h0
  exact (yI hd hf h1).elim
 ·rw[(hbx _ _ h1).1,(hbx _ _ h2).1]
theorem GO {g:Nat} (h:IK w w' g) (hg:wr g):BV ⟨w,wr,F0,θ,[],nl⟩ w':=
 ⟨h.os,h.tape,⟨h.output,h.drawn⟩,h.size,fun k hk hn=>h.old k hk fun e=>hn (e▸hg)⟩
theorem EM:BV ⟨w,wr,F0,θ,[],nl⟩ w:=⟨rfl,rfl,⟨rfl,Nat.le_refl _⟩,Nat.le_refl _,fun _ _ _=>rfl⟩
end
end Go.Ev
namespace Go.Ev
open Go.Sort
end Go.Ev
namespace Go.Ev
open Go.Sort Go.Proofs
theorem B7 {w w':World} {wr F0 nl:Nat→Prop} {θ:Nat→Value} {st:List Nat} (h:BV ⟨w,wr,F0,θ,st,nl⟩ w') (hw:∀k,¬wr k):∃q os,w'=grow (w.drewN q) os:=by
 refine ⟨w'.drawn-w.drawn,w'.heap.extract w.heap.size w'.heap.size,?_⟩
 obtain ⟨h1,h2,h3,h4,h5⟩:=h
 simp only at h1 h2 h3 h4 h5
 have hd:w.drawn+(w'.drawn-w.drawn)=w'.drawn:=by omega
 have hh:w.heap++w'.heap.extract w.heap.size w'.heap.size=w'.heap:=by
  refine Array.ext_getElem? fun k=>?_
  rw[Array.getElem?_append]
  by_cases hk:k<w.heap.size
  ·rw[if_pos hk,h5 k hk (hw k)]
  ·rw[if_neg hk,Array.getElem?_extract]
   by_cases hk2:k<w'.heap.size
   ·rw[if_pos (by omega)]
    congr 1;omega
   ·rw[if_neg (by omega),Array.getElem?_eq_none (by omega)]
 obtain ⟨heap,tape,drawn,os,output⟩:=w
 obtain ⟨heap',tape',drawn',os',output'⟩:=w'
 simp only[grow,World.drewN] at*
 rw[hd,hh,h1,h2,h3.1]
def Cl (F:List C→Option (List C)) (x y:List C):Int:=match F (x++y) with|some [.i n]=>n|_=>0
def ltR (F:List C→Option (List C)) (x y:List C):Bool:=decide (Cl F x y<0)
def nI (lt:List C→List C→Bool):List (List C)→Bool
 |[]=>true
 |x::r=>r.all (fun y=>lt x y||lt y x)&&nI lt r
def fX (F:List C→Option (List C)) (es:List (List C)):List (List C):=es.mergeSort fun x y=>!ltR F y x
def xB (Q:List C→Bool) (F:List C→Option (List C)):List C→Option (List C):=fun xs=>
 bif decide ((xs.getD 0 .nil).L.length≤4294967296)&&((xs.getD 0 .nil).L.all Q&&nI (ltR F) (xs.getD 0 .nil).L) then some [.l (fX F (xs.getD 0 .nil).L)] else none
theorem Bo {lt:List C→List C→Bool}:∀ {l:List (List C)},nI lt l=true→∀x y,x∈l→y∈l→lt x y=false→lt y x=false→x=y
 |[],_,x,y,h,_,_,_=>by simp at h
 |z::r,h,x,y,hx,hy,h1,h2=>by
  simp only[nI,Bool.and_eq_true,List.all_eq_true,Bool.or_eq_true] at h
  rcases List.mem_cons.1 hx with rfl|hx'<;>rcases List.mem_cons.1 hy with rfl|hy'
  ·rfl
  ·rcases h.1 y hy' with h3|h3<;>simp_all
  ·rcases h.1 x hx' with h3|h3<;>simp_all
  ·exact Bo h.2 x y hx' hy' h1 h2
theorem GF (nm:Nm) (xs:List C):∀(ts:List CT) (p:Nat),(Sk.insts nm xs (ts.map Sk.d) p).2=p+ts.length∧(Sk.insts nm xs (ts.map Sk.d) p).1.length=ts.length∧
  ∀(i:Nat) (x:V),(Sk.insts nm xs (ts.map Sk.d) p).1[i]?=some x→∃t,ts[i]?=some t∧x=.c t (xs.getD (p+i) .nil)
 |[],p=>by simp[Sk.insts]
 |t::ts,p=>by
  obtain ⟨h1,h2,h3⟩:=GF nm xs ts (p+1)
  simp only[List.map_cons,Sk.insts,Sk.inst]
  refine ⟨by rw[h1];simp;omega,by simp[h2],fun i x h=>?_⟩
  cases i with
  |zero=>simp at h;exact ⟨t,rfl,by rw[←h];rfl⟩
  |succ i=>
   obtain ⟨t',e1,e2⟩:=h3 i x (by simpa using h)
   exact ⟨t',by simpa using e1,by rw[e2];congr 2;omega⟩
structure y3 (T:Tys) (F0:Nat→Prop) (w:World) (cts:List CT) (Q:List C→Bool) (p:List C×List Value):Prop where
 n:p.1.length=cts.length
 m:p.2.length=cts.length
 q:Q p.1=true
 rel:∀(j:Nat) (ct:CT) (c:C) (v:Value),cts[j]?=some ct→p.1[j]?=some c→p.2[j]?=some v→cg T F0 w ct c v
 one:∀v,v∈p.2→v.oneCell'=true
theorem E7 {T:Tys} {F:Nat→Prop} {w:World} {t:CT} {c:C} {v:Value} (h:cg T F w t c v):v.oneCell'=true:=by cases h<;>rfl
end Go.Ev
namespace Go.Ev
open Go.Sort Go.Proofs
section
variable {P:Program} {T:Tys} {g:FuncId} {cts:List CT} {CF:List C→Option (List C)} {Q:List C→Bool}
theorem FW (hc:aA P T g ⟨2,⟨[(0,.ag (cts.map Sk.d)),(1,.ag (cts.map Sk.d))],[]⟩,⟨[(0,.d (.int .i64))],[]⟩,[],CF⟩)
  (hQ:∀x y,Q x=true→Q y=true→x.length=cts.length→y.length=cts.length→∃n,CF (x++y)=some [.i n])
  {F0:Nat→Prop} {w:World} (hlt:∀k,F0 k→k<w.heap.size) {blk:Nat} (hblk:¬F0 blk) (off size:Nat) [Inhabited {p:List C×List Value//y3 T F0 w cts Q p}]:
  CmpLays P g #[] (fun p: {p:List C×List Value//y3 T F0 w cts Q p}=>p.1.2) cts.length (fun x y=>Cl CF x.1.1 y.1.1) blk off size w:=by
 intro m os dk hs x y
 obtain ⟨⟨xr,xv⟩,hx⟩:=x
 obtain ⟨⟨yr,yv⟩,hy⟩:=y
 simp only
 generalize hW:sortWorldK (fun p: {p:List C×List Value//y3 T F0 w cts Q p}=>p.1.2) cts.length w blk off m dk os=W
 have hWr:IK w W blk:=by
  rw[←hW];exact tP id w m blk off _ os
 obtain ⟨n,hn⟩:=hQ xr yr hx.q hy.q hx.n hy.n
 have hF0:∀k,F0 k→W.heap[k]?=w.heap[k]?:=fun k hk=>hWr.old k (hlt k hk) (fun e=>hblk (e▸hk))
 have hcm:Cl CF xr yr=n:=by simp[Cl,hn]
 rw[hcm]
 have hw0:WR T ⟨W,fun _=>False,F0,fun _=>.bool false,[],fun _=>False⟩ F0 W (fun _=>none) (fun _=>.bool false):=
  ⟨fun b x h=>(by cases h),fun b b' x x' g h=>(by cases h),fun b x g h=>(by cases h),fun k h=>Nat.lt_of_lt_of_le (hlt k h) hWr.size,⟨rfl,rfl,⟨rfl,Nat.le_refl _⟩,Nat.le_refl _,fun _ _ _=>rfl⟩,fun k h=>h,fun k h=>.inl h,fun n hn=>(by cases hn),fun b x h=>(by cases h),fun b x k h=>(by cases h),fun b b' x x' k h=>(by cases h),fun k h=>h.elim⟩
 have arg:∀(r:List C) (v:List Value) (h:y3 T F0 w cts Q (r,v)) (p:Nat) (hp:∀j,(xr++yr).getD (p+j) .nil=r.getD j .nil∨cts.length≤j),ah T F0 W (fun _=>none) (fun _=>.bool false) (.ag (Sk.insts nm0 (xr++yr) (cts.map Sk.d) p).1 none) (.agg v.toArray):=by
  intro r v h p hp
  obtain ⟨_,i2,i3⟩:=GF nm0 (xr++yr) cts p
  refine .ag _ _ v (by rw[i2];exact h.m) rN fun i z u h1 h2=>?_
  obtain ⟨t,e1,rfl⟩:=i3 i z h1
  have hi:i<cts.length:=(List.getElem?_eq_some_iff.1 e1).1
  have hi2:i<r.length:=by have:=h.n;simp only at this;omega
  rw[(hp i).resolve_right (by omega)]
  refine .c _ _ _ ((h.rel i t (r.getD i .nil) u e1 ?_ h2).mv (fun _ h=>h) hF0)
  simp[List.getD_eq_getElem?_getD,List.getElem?_eq_getElem hi2]
 have hargs:∀k,k<2→ah T F0 W (fun _=>none) (fun _=>.bool false) (((⟨[(0,.ag (cts.map Sk.d)),(1,.ag (cts.map Sk.d))],[]⟩:Tm).inj (xr++yr)).sl k) ((#[Value.agg xv.toArray,.agg yv.toArray]++ #[]:Array Value).getD k undef):=by
  intro k hk
  match k,hk with
  |0,_=>
   refine arg xr xv hx 0 fun j=>?_
   by_cases hj:j<cts.length
   ·left
    have:j<xr.length:=by have:=hx.n;simp only at this;omega
    simp[List.getD_eq_getElem?_getD,List.getElem?_append_left this]
   ·right;omega
  |1,_=>
   have:=arg yr yv hy (0+cts.length) fun j=>by
    by_cases hj:j<cts.length
    ·left
     have h1:xr.length=cts.length:=hx.n
     simp only[List.getD_eq_getElem?_getD]
     rw[List.getElem?_append_right (by omega)]
     congr 2;omega
    ·right;omega
   have e:(Sk.insts nm0 (xr++yr) (cts.map Sk.d) 0).2=0+cts.length:=(GF nm0 (xr++yr) cts 0).1
   rw[←e] at this
   exact this
 refine (hc.calls W (fun _=>False) (fun _=>False) F0 (fun _=>.bool false) (xr++yr) [.i n] _ hw0 rfl hargs hn).mono ?_
 rintro e w' ⟨v,F1,θ1,rfl,hw,hv,_⟩
 have hv':ah T F1 w' _ θ1 (.c (.int .i64) (.i n)) v:=hv
 cases hv' with
 |c _ _ _ h=>
  cases h
  exact ⟨rfl,B7 hw.keep (fun _ h=>h)⟩
end
theorem zk {P:Program} {T:Tys} {f g:FuncId} {t:TypeId} {d:TD} {CF:List C→Option (List C)} {Q:List C→Bool} (hd:aV T t=some d) (hk0:0<d.cts.length)
  (hfn:∃fn c,P.funcs[f]?=some fn∧fn.body=some c∧(fn.name== "runtime.NumGoroutine")=false)
  (hc:aA P T g ⟨2,⟨[(0,.ag (d.cts.map Sk.d)),(1,.ag (d.cts.map Sk.d))],[]⟩,⟨[(0,.d (.int .i64))],[]⟩,[],CF⟩)
  (hQ:∀x y,Q x=true→Q y=true→x.length=d.cts.length→y.length=d.cts.length→∃n,CF (x++y)=some [.i n])
  (h1:∀x,Q x=true→ltR CF x x=false) (h2:∀x y z,Q x=true→Q y=true→Q z=true→ltR CF x y=true→ltR CF y z=true→ltR CF x z=true)
  (h3:∀x y z,Q x=true→Q y=true→Q z=true→ltR CF x y=false→ltR CF y z=false→ltR CF x z=false)
  (hs:∀(α:Type) (_:Inhabited α) (enc:α→List Value) (hk:∀x,(enc x).length=d.cts.length) (h1:∀x,∀v∈enc x,v.oneCell'=true) (cf:α→α→Int) (hO:SWO (ltOf cf)) (blk off cap:Nat) (a:Array α) (w:World)
   (eg:∀args w,(callFunc g args).run P w=.ok (.enter g args) w) (hcmp:CmpLays P g #[] enc d.cts.length cf blk off a.size w) (hH:HoldsK enc d.cts.length w blk off a) (hblk:blk<w.heap.size) (hsz:a.size<4611686018427387904),
   Calls P f #[.slice (some ⟨blk,off,none⟩) a.size cap,.func (.func g) #[] #[]] w fun e w'=>e=.returned (.tuple #[])∧∃d' n os,PermIn 0 a.size a d'∧SortedIn (ltOf cf) 0 a.size d'∧w'=sortWorldK enc d.cts.length w blk off n d' os)
  (hn:∀(p:Option Addr) (cap:Nat) (fv:Value) (w:World),Calls P f #[.slice p 0 cap,fv] w fun e w'=>e=.returned (.tuple #[])∧w'=w):
  aA P T f ⟨2,⟨[(0,.ow 2000),(1,.fn g [])],[(2000,.arr t 0)]⟩,⟨[(0,.tu [])],[(2000,.arr t 0)]⟩,[2000],xB Q CF⟩:=by
 refine ⟨hfn,?_⟩
 intro w wr nl F0 θ xs ys args hw hsz hargs hF
 obtain ⟨a0,a1,rfl⟩:∃a b,args= #[a,b]:=by
  obtain ⟨l⟩:=args
  simp only[List.size_toArray] at hsz
  match l,hsz with
  |[a,b],_=>exact ⟨a,b,rfl⟩
 have hb:(Tm.inj ⟨[(0,.ow 2000),(1,.fn g [])],[(2000,.arr t 0)]⟩ xs).bx 2000=some (.arr 0 t (xs.getD 0 .nil).L 0):=rfl
 have hob:∀b x,(Tm.inj ⟨[(0,.tu [])],[(2000,.arr t 0)]⟩ ys).bx b=some x→b=2000∧x=.arr 0 t (ys.getD 0 .nil).L 0:=by
  intro b x h
  simp only[Tm.inj,bR,cd,nm0,upd] at h
  by_cases hb:b=2000
  ·subst hb
   exact ⟨rfl,(Option.some.inj h).symm⟩
  ·have:Nat.beq b 2000=false:=by
    cases h':Nat.beq b 2000 with
    |false=>rfl
    |true=>exact absurd (Nat.eq_of_beq_eq_true h') hb
   simp[this,sif] at h
 have r0:ah T F0 w (Tm.inj ⟨[(0,.ow 2000),(1,.fn g [])],[(2000,.arr t 0)]⟩ xs).bx θ (.ow 2000 0) a0:=hargs 0 (by show 0<2;omega)
 have r1:ah T F0 w (Tm.inj ⟨[(0,.ow 2000),(1,.fn g [])],[(2000,.arr t 0)]⟩ xs).bx θ (.fn g []) a1:=hargs 1 (by show 1<2;omega)
 obtain rfl:a0=θ 2000:=by
  cases r0 with
  |ow _ _ _ x hb' hv hs' h=>
   rw[hb] at hb'
   obtain rfl:=Option.some.inj hb'
   obtain ⟨_,_,_,_,e⟩:=h rfl
   exact e
 obtain rfl:a1=.func (.func g) #[] #[]:=by
  cases r1 with
  |fn _ _ vs hl _=>
   obtain rfl:vs=[]:=List.length_eq_zero_iff.1 hl
   rfl
 obtain ⟨⟨hle,hqs,hap⟩,hF⟩:((xs.getD 0 .nil).L.length≤4294967296∧(xs.getD 0 .nil).L.all Q=true∧nI (ltR CF) (xs.getD 0 .nil).L=true)∧some [C.l (fX CF (xs.getD 0 .nil).L)]=some ys:=by
  simp only[xB] at hF
  cases hq:decide ((xs.getD 0 .nil).L.length≤4294967296)&&((xs.getD 0 .nil).L.all Q&&nI (ltR CF) (xs.getD 0 .nil).L) with
  |false=>rw[hq] at hF;cases hF
  |true=>
   rw[hq] at hF
   simp only[Bool.and_eq_true,decide_eq_true_eq] at hq
   exact ⟨hq,hF⟩
 obtain rfl:=Option.some.inj hF
 generalize hes:(xs.getD 0 .nil).L=es at*
 have hB:=hw.box 2000 _ hb
 obtain ⟨d',A,cap,q1,q2,q3,q4⟩:=hB
 rw[hd] at q1;obtain rfl:=Option.some.inj q1
 have hlt:∀k,F0 k→k<w.heap.size:=hw.lt
 have hout:∀g,br (θ 2000)=some g→¬F0 g∧g<w.heap.size∧wr g:=fun g hg=>by
  obtain ⟨a1,a2,a3⟩:=hw.out 2000 _ g hb rfl hg
  exact ⟨a1,a2,a3.resolve_left (by simp only;omega)⟩
 have hvt:∀(W:World) (θ1:Nat→Value),ah T F0 W (Tm.inj ⟨[(0,.tu [])],[(2000,.arr t 0)]⟩ [.l (fX CF es)]).bx θ1 ((Tm.inj ⟨[(0,.tu [])],[(2000,.arr t 0)]⟩ [.l (fX CF es)]).sl 0) (.tuple #[]):=fun W θ1=>by
  exact .tu [] [] rfl fun i x v h=>by simp at h
 have eg:∀args w,(callFunc g args).run P w=.ok (.enter g args) w:=by
  obtain ⟨fn,c,e1,e2,e3⟩:=hc.fn
  exact enters_of e1 e3 e2
 have hsl:(fX CF es).length=es.length:=by rw[fX,List.length_mergeSort]
 have nilcase:∀ {A':Option Addr} {cap':Nat},es=[]→θ 2000=.slice A' 0 cap'→ib T F0 w (Tm.inj ⟨[(0,.tu [])],[(2000,.arr t 0)]⟩ [.l (fX CF es)]).bx θ 2000 (.arr 0 t (fX CF es) 0)→Calls P f #[θ 2000,.func (.func g) #[] #[]] w fun e w'=>∃v F1 θ1,e=.returned v∧WR T ⟨w,wr,F0,θ,[],nl⟩ F1 w' (Tm.inj ⟨[(0,.tu [])],[(2000,.arr t 0)]⟩ [.l (fX CF es)]).bx θ1∧ah T F1 w' (Tm.inj ⟨[(0,.tu [])],[(2000,.arr t 0)]⟩ [.l (fX CF es)]).bx θ1 ((Tm.inj ⟨[(0,.tu [])],[(2000,.arr t 0)]⟩ [.l (fX CF es)]).sl 0) v∧
   ∀n x,n∈[2000]→(Tm.inj ⟨[(0,.tu [])],[(2000,.arr t 0)]⟩ [.l (fX CF es)]).bx n=some x→θ1 n=θ n∧(x.m=2→Hdr w w' (θ n)):=fun he hθ hR=>by
  rw[hθ]
  refine (hn _ _ _ w).mono ?_
  rintro e w' ⟨rfl,rfl⟩
  refine ⟨_,F0,θ,rfl,Fg (m:=0) hd (.inl rfl) hob hlt hw.nlF EM hR hout,hvt _ _,fun n x _ h=>⟨rfl,fun h2=>?_⟩⟩
  obtain ⟨_,rfl⟩:=hob n x h
  simp[Box.m] at h2
 rcases q4 with ⟨rfl,rfl,rfl⟩|⟨b,o,cs,rfl,hg,hcs,hcap,hcell⟩
 ·exact nilcase rfl q2 ⟨d,none,0,hd,by rw[q2];simp[fX],fun i c h=>by simp[fX] at h,.inl ⟨rfl,by simp[fX],rfl⟩⟩
 by_cases he:es=[]
 ·subst he
  exact nilcase rfl q2 ⟨d,_,cap,hd,by rw[q2];simp[fX],fun i c h=>by simp[fX] at h,.inr ⟨b,o,cs,rfl,hg,hcs,by simpa [fX] using hcap,fun i c j x ct v h=>by simp[fX] at h⟩⟩
 obtain ⟨hnF,hgs,hwr⟩:=hout b (by rw[q2];rfl)
 have key:∀i,i<es.length→∀j,j<d.cts.length→o+(i*d.cts.length+j)<cs.size:=fun i hi j hj=>by
  have h3:(i+1)*d.cts.length≤cap*d.cts.length:=Nat.mul_le_mul_right _ (by omega)
  rw[Nat.succ_mul] at h3
  omega
 let vals:Nat→List Value:=fun i=>(List.range d.cts.length).map fun j=>cs.getD (o+(i*d.cts.length+j)) undef
 have hvj:∀i j v,(vals i)[j]?=some v→j<d.cts.length∧v=cs.getD (o+(i*d.cts.length+j)) undef:=fun i j v h=>by
  simp only[vals,List.getElem?_map,Option.map_eq_some_iff] at h
  obtain ⟨a,e1,rfl⟩:=h
  obtain ⟨e2,e3⟩:=List.getElem?_eq_some_iff.1 e1
  simp only[List.length_range] at e2
  simp only[List.getElem_range] at e3
  subst e3
  exact ⟨e2,rfl⟩
 have lu:∀i (hi:i<es.length),y3 T F0 w d.cts Q (es[i],vals i):=fun i hi=>by
  have hrel:∀(j:Nat) (ct:CT) (c:C) (v:Value),d.cts[j]?=some ct→es[i][j]?=some c→(vals i)[j]?=some v→cg T F0 w ct c v:=fun j ct c v e1 e2 e3=>by
   obtain ⟨hj,rfl⟩:=hvj i j v e3
   have hlt2:=key i hi j hj
   have:=hcell i es[i] j c ct cs[o+(i*d.cts.length+j)] (List.getElem?_eq_getElem hi) e2 e1 (Array.getElem?_eq_getElem hlt2)
   simp only[CR] at this
   rw[Array.getD_eq_getD_getElem?,Array.getElem?_eq_getElem hlt2]
   exact this
  refine ⟨q3 i es[i] (List.getElem?_eq_getElem hi),by simp[vals],List.all_eq_true.1 hqs _ (List.getElem_mem hi),hrel,fun v hv=>?_⟩
  obtain ⟨j,hj,rfl⟩:=List.getElem_of_mem hv
  have hj':j<d.cts.length:=by simpa [vals] using hj
  have hj2:j<es[i].length:=by rw[q3 i es[i] (List.getElem?_eq_getElem hi)];exact hj'
  exact E7 (hrel j d.cts[j] es[i][j] _ (List.getElem?_eq_getElem hj') (List.getElem?_eq_getElem hj2) (List.getElem?_eq_getElem hj))
 have hpos:0<es.length:=List.length_pos_iff.2 he
 let α:= {p:List C×List Value//y3 T F0 w d.cts Q p}
 haveI:Inhabited α:=⟨⟨(es[0],vals 0),lu 0 hpos⟩⟩
 let a:Array α:=Array.ofFn fun i:_root_.Fin es.length=>⟨(es[i.1],vals i.1),lu i.1 i.2⟩
 have hal:a.size=es.length:=by simp[a]
 have hag:∀i (hi:i<es.length),a[i]! =⟨(es[i],vals i),lu i hi⟩:=fun i hi=>by
  rw[getElem!_pos a i (by rw[hal];exact hi)]
  simp[a]
 have hO:SWO (ltOf fun x y:α=>Cl CF x.1.1 y.1.1):=⟨fun x=>h1 _ x.2.q,fun x y z=>h2 _ _ _ x.2.q y.2.q z.2.q,fun x y z=>h3 _ _ _ x.2.q y.2.q z.2.q⟩
 have hcall:=hs α inferInstance (fun p=>p.1.2) (fun x=>x.2.m) (fun x v hv=>x.2.one v hv) (fun x y=>Cl CF x.1.1 y.1.1) hO b o cap a w eg (FW hc hQ hlt hnF o a.size)
  (holds_of _ hg _ fun q hq=>by
   rw[size_flatK,hal] at hq
   have hi:q/d.cts.length<es.length:=Nat.div_lt_of_lt_mul (by rw[Nat.mul_comm];exact hq)
   have hj:q%d.cts.length<d.cts.length:=Nat.mod_lt _ hk0
   have hqe:q/d.cts.length*d.cts.length+q%d.cts.length=q:=by rw[Nat.mul_comm];exact Nat.div_add_mod _ _
   have hlt2:=key _ hi _ hj
   rw[hqe] at hlt2
   rw[get_flatK _ _ _ _ (by rw[hal];exact hq),hag _ hi]
   simp only[vals,id]
   rw[getElem!_pos _ _ (by simp[hj])]
   simp only[List.getElem_map,List.getElem_range,hqe,Array.getD_eq_getD_getElem?,Array.getElem?_eq_getElem hlt2]
   rfl) hgs (by rw[hal];omega)
 rw[hal,←q2] at hcall
 refine hcall.mono ?_
 rintro e w' ⟨rfl,d',n,os,hp,hso,rfl⟩
 obtain ⟨p1,_,p3⟩:=hp
 rw[hal] at p1
 have p3:d'.toList.Perm a.toList:=by
  have e1:d'.extract 0 es.length=d':=by rw[←p1];simp
  have e2:a.extract 0 es.length=a:=by rw[←hal];simp
  rw[e1,e2] at p3
  exact p3
 have hra:a.toList.map (fun x=>x.1.1)=es:=by
  refine List.ext_getElem? fun i=>?_
  rw[List.getElem?_map]
  rcases Nat.lt_or_ge i es.length with hi|hi
  ·simp[a,hi]
  ·simp[a,hi]
 have hrd:d'.toList.map (fun x=>x.1.1)=fX CF es:=by
  have hperm:(d'.toList.map fun x=>x.1.1).Perm es:=by
   have:=p3.map (fun x:α=>x.1.1)
   rwa [hra] at this
  have hq':∀x,x∈es→Q x=true:=fun x hx=>List.all_eq_true.1 hqs x hx
  refine List.Perm.eq_of_pairwise (le:=fun x y=>ltR CF y x=false) (fun x y hx hy e1 e2=>Bo hap x y (hperm.mem_iff.1 hx) ((List.mergeSort_perm es _).mem_iff.1 hy) e2 e1) ?_ ?_ (hperm.trans (List.mergeSort_perm es _).symm)
  ·rw[List.pairwise_map,List.pairwise_iff_getElem]
   intro i j hi hj hij
   have hi':i<d'.size:=by simpa using hi
   have hj':j<d'.size:=by simpa using hj
   have:=hso i j (Nat.zero_le _) hij (by rw[←p1];exact hj')
   rw[getElem!_pos d' i hi',getElem!_pos d' j hj'] at this
   simp only[Array.getElem_toList]
   exact this
  ·
   have hm:fX CF es=(a.toList.mergeSort fun x y=>!ltR CF y.1.1 x.1.1).map fun x=>x.1.1:=by
    rw[fX,List.map_mergeSort (r:=fun x y:α=>!ltR CF y.1.1 x.1.1) (s:=fun x y=>!ltR CF y x) (f:=fun x:α=>x.1.1) (fun x _ y _=>rfl),hra]
   rw[hm,List.pairwise_map]
   have:=List.pairwise_mergeSort (le:=fun x y:α=>!ltR CF y.1.1 x.1.1)
    (fun x y z e1 e2=>by
     simp only[Bool.not_eq_true'] at*
     exact h3 _ _ _ z.2.q y.2.q x.2.q e2 e1)
    (fun x y=>by
     cases e1:ltR CF y.1.1 x.1.1 with
     |false=>simp
     |true=>
      cases e2:ltR CF x.1.1 y.1.1 with
      |false=>simp
      |true=>
       have:=h2 _ _ _ x.2.q y.2.q x.2.q e2 e1
       rw[h1 _ x.2.q] at this
       cases this) a.toList
   exact this.imp fun {x y} h=>by simpa using h
 have hget:∀i (hi:i<es.length),(fX CF es)[i]?=some (d'[i]!).1.1:=fun i hi=>by
  have hi':i<d'.size:=by omega
  rw[←hrd,List.getElem?_map,getElem!_pos d' i hi']
  simp[hi']
 refine ⟨_,F0,θ,rfl,Fg (m:=0) hd (.inl rfl) hob hlt hw.nlF (GO (tP _ w n b o _ os) hwr) ⟨d,some ⟨b,o,none⟩,cap,hd,by rw[q2];simp[C.L,hsl],fun i c h=>?_,.inr ⟨b,o,_,rfl,Ej id w n b o _ os hg,by rw[D7];exact hcs,by simpa [C.L,hsl] using hcap,?_⟩⟩ hout,hvt _ _,fun n x _ h=>⟨rfl,fun h2=>?_⟩⟩
 ·simp only[List.getD_cons_zero,C.L] at h
  have hi:i<es.length:=by rw[←hsl];exact (List.getElem?_eq_some_iff.1 h).1
  rw[hget i hi] at h
  obtain rfl:=Option.some.inj h
  exact (d'[i]!).2.n
 ·intro i c j x ct v e1 e2 e3 e4
  simp only[List.getD_cons_zero,C.L] at e1
  have hi:i<es.length:=by rw[←hsl];exact (List.getElem?_eq_some_iff.1 e1).1
  have hj:j<d.cts.length:=(List.getElem?_eq_some_iff.1 e3).1
  rw[hget i hi] at e1
  obtain rfl:=Option.some.inj e1
  have hij:i*d.cts.length+j<d'.size*d.cts.length:=by
   rw[p1]
   have h3:(i+1)*d.cts.length≤es.length*d.cts.length:=Nat.mul_le_mul_right _ (by omega)
   rw[Nat.succ_mul] at h3
   omega
  rw[G3 _ _ _ _ (by rw[size_flatK];exact hij) (key i hi j hj)] at e4
  obtain rfl:=Option.some.inj e4
  have g1:(i*d.cts.length+j)/d.cts.length=i:=by
   rw[Nat.mul_comm,Nat.mul_add_div hk0,Nat.div_eq_of_lt hj,Nat.add_zero]
  have g2:(i*d.cts.length+j)%d.cts.length=j:=by
   rw[Nat.mul_comm,Nat.mul_add_mod,Nat.mod_eq_of_lt hj]
  simp only[id]
  rw[get_flatK _ _ _ _ hij,g1,g2]
  have hm:=(d'[i]!).2.m
  have hj':j<(d'[i]!).1.2.length:=by omega
  rw[getElem!_pos _ j hj']
  show cg T F0 _ ct x _
  exact ((d'[i]!).2.rel j ct x _ e3 e2 (List.getElem?_eq_getElem hj')).mv (fun _ h=>h) fun k hk=>(tP id w n b o _ os).old k (hlt k hk) fun e=>hnF (e▸hk)
 ·obtain ⟨_,rfl⟩:=hob n x h
  simp[Box.m] at h2
end Go.Ev
namespace Go.Ev
theorem GD:∀(a b:List UInt8),Op.bytesLess a b=false→Op.bytesLess b a=true∨b=a
 |[],[],_=>.inr rfl
 |[],_::_,h=>by simp[Op.bytesLess] at h
 |_::_,[],_=>.inl (by simp[Op.bytesLess])
 |x::a,y::b,h=>by
  simp only[Op.bytesLess,Bool.or_eq_false_iff,Bool.and_eq_false_iff,decide_eq_false_iff_not,beq_eq_false_iff_ne] at h
  obtain ⟨h1,h2⟩:=h
  have lt (p q:UInt8):p<q↔p.toNat<q.toNat:=Iff.rfl
  rw[lt] at h1
  rcases Nat.lt_or_ge y.toNat x.toNat with h3|h3
  ·exact .inl (by simp only[Op.bytesLess,Bool.or_eq_true,decide_eq_true_eq,lt];exact .inl h3)
  ·have e:x=y:=UInt8.toNat_inj.1 (by omega)
   subst e
   rcases GD a b (h2.resolve_left (fun h=>h rfl)) with h4|rfl
   ·exact .inl (by simp[Op.bytesLess,h4])
   ·exact .inr rfl
theorem Gy:∀(a:List UInt8),Op.bytesLess a a=false
 |[]=>rfl
 |x::r=>by
  have ih:=Gy r
  simp only[Op.bytesLess,ih]
  simp
theorem BP:∀(a b c:List UInt8),Op.bytesLess a b=true→Op.bytesLess b c=true→Op.bytesLess a c=true
 |_,_,[],_,h2=>by cases ‹List UInt8›<;>simp[Op.bytesLess] at h2
 |_,[],_::_,h1,_=>by simp[Op.bytesLess] at h1
 |[],_::_,_::_,_,_=>by simp[Op.bytesLess]
 |x::a,y::b,z::c,h1,h2=>by
  simp only[Op.bytesLess,Bool.or_eq_true,Bool.and_eq_true,decide_eq_true_eq,beq_iff_eq] at h1 h2⊢
  have lt (p q:UInt8):p<q↔p.toNat<q.toNat:=Iff.rfl
  simp only[lt] at h1 h2⊢
  rcases h1 with h1|⟨rfl,h1⟩
  ·rcases h2 with h2|⟨rfl,h2⟩
   ·left;omega
   ·left;exact h1
  ·rcases h2 with h2|⟨rfl,h2⟩
   ·left;exact h2
   ·right;exact ⟨rfl,BP a b c h1 h2⟩
theorem Dt:∀(a b:List UInt8),decide (Lib.compareBytes a b<0)=Op.bytesLess a b
 |[],[]=>rfl
 |[],_::_=>by simp[Lib.compareBytes,Op.bytesLess]
 |_::_,[]=>by simp[Lib.compareBytes,Op.bytesLess]
 |x::a,y::b=>by
  have ih:=Dt a b
  have lt (p q:UInt8):p<q↔p.toNat<q.toNat:=Iff.rfl
  simp only[Lib.compareBytes,Op.bytesLess]
  by_cases h1:x<y
  ·simp[h1]
  ·by_cases h2:y<x
   ·have:¬x=y:=fun e=>by subst e;exact h1 h2
    simp[h1,h2,this]
   ·have e:x=y:=UInt8.toNat_inj.1 (by rw[lt] at h1 h2;omega)
    subst e
    simp only[h1,if_false,decide_false,beq_self_eq_true,Bool.true_and,Bool.false_or]
    exact ih
def C0 (rk bn:Int) (n:ByteArray) (rk' bn':Int) (n':ByteArray):Int:=bif rk !=rk' then w64 (rk'-rk) else bif bn !=bn' then w64 (bn-bn') else Lib.compareBytes n.data.toList n'.data.toList
def ltE (rk bn:Int) (n:ByteArray) (rk' bn':Int) (n':ByteArray):Bool:=decide (rk'<rk)||(rk==rk'&&(decide (bn<bn')||(bn==bn'&&Op.bytesLess n.data.toList n'.data.toList)))
def AD (rk bn:Int):Bool:=(decide (0≤rk)&&decide (rk≤100))&&(decide (0≤bn)&&decide (bn≤1000000))
theorem AO {rk bn:Int}:AD rk bn=true↔(0≤rk∧rk≤100)∧0≤bn∧bn≤1000000:=by simp[AD]
theorem yL {n:Int} (h0:-1000000≤n) (h1:n≤1000000):w64 n=n:=by
 show (if (true&&decide (n%18446744073709551616≥9223372036854775808))=true then n%18446744073709551616-18446744073709551616 else n%18446744073709551616)=n
 split
 ·rename_i h;simp only[Bool.true_and,decide_eq_true_eq] at h;omega
 ·rename_i h;simp only[Bool.true_and,decide_eq_true_eq] at h;omega
theorem HM {rk bn rk' bn':Int} {n n':ByteArray} (h:AD rk bn=true) (h':AD rk' bn'=true):decide (C0 rk bn n rk' bn' n'<0)=ltE rk bn n rk' bn' n':=by
 rw[AO] at h h'
 unfold C0 ltE
 rw[yL (by omega) (by omega),yL (by omega) (by omega),←Dt]
 by_cases e1:rk=rk'
 ·subst e1
  by_cases e2:bn=bn'
  ·subst e2;simp
  ·have:(bn !=bn')=true:=by simp[e2]
   have q:(bn==bn')=false:=by simp[e2]
   simp only[bne_self_eq_false,cond_false,this,cond_true,Int.lt_irrefl,decide_false,Bool.false_or,beq_self_eq_true,Bool.true_and,q,Bool.false_and,Bool.or_false,decide_eq_decide]
   omega
 ·have:(rk !=rk')=true:=by simp[e1]
  have q:(rk==rk')=false:=by simp[e1]
  simp only[this,cond_true,q,Bool.false_and,Bool.or_false,decide_eq_decide]
  omega
theorem Di (rk bn:Int) (n:ByteArray):ltE rk bn n rk bn n=false:=by simp[ltE,Gy]
theorem sS {a b c:Int} {a' b' c':Int} {x y z:ByteArray} (h1:ltE a a' x b b' y=true) (h2:ltE b b' y c c' z=true):ltE a a' x c c' z=true:=by
 simp only[ltE,Bool.or_eq_true,Bool.and_eq_true,decide_eq_true_eq,beq_iff_eq] at*
 rcases h1 with h1|⟨rfl,h1|⟨rfl,h1⟩⟩<;>rcases h2 with h2|⟨rfl,h2|⟨rfl,h2⟩⟩
 all_goals first|(left;omega)|(right;refine ⟨rfl,?_⟩;first|(left;omega)|(right;exact ⟨rfl,BP _ _ _ h1 h2⟩))
theorem C7 {a b:Int} {a' b':Int} {x y:ByteArray} (h:ltE a a' x b b' y=false):ltE b b' y a a' x=true∨(b=a∧b'=a'∧y.data.toList=x.data.toList):=by
 simp only[ltE,Bool.or_eq_false_iff,Bool.and_eq_false_iff,decide_eq_false_iff_not,beq_eq_false_iff_ne,Bool.or_eq_true,Bool.and_eq_true,decide_eq_true_eq,beq_iff_eq] at*
 obtain ⟨h1,h2⟩:=h
 by_cases e1:a=b
 ·subst e1
  obtain ⟨h3,h4⟩:=h2.resolve_left (fun h=>h rfl)
  by_cases e2:a'=b'
  ·subst e2
   rcases GD _ _ (h4.resolve_left (fun h=>h rfl)) with h5|h5
   ·exact .inl (.inr ⟨rfl,.inr ⟨rfl,h5⟩⟩)
   ·exact .inr ⟨rfl,rfl,h5⟩
  ·exact .inl (.inr ⟨rfl,.inl (by omega)⟩)
 ·exact .inl (.inl (by omega))
theorem wA {a b c:Int} {a' b' c':Int} {x y z:ByteArray} (h1:ltE a a' x b b' y=false) (h2:ltE b b' y c c' z=false):ltE a a' x c c' z=false:=by
 cases h:ltE a a' x c c' z with
 |false=>rfl
 |true=>
  rcases C7 h1 with q1|⟨rfl,rfl,q1⟩
  ·have:=sS q1 h
   rw[h2] at this;cases this
  ·have:ltE b b' y c c' z=ltE b b' x c c' z:=by unfold ltE;rw[q1]
   rw[this,h] at h2;cases h2
def cpQ (r:List C):Bool:=match r with
 |[.s _,.s _,.i rk,.i bn,.i _,.i _,.s _,.l _,.i _,.s _,.s _,.s _]=>AD rk bn
 |_=>false
structure AS (r:List C) (rk bn:Int) (n:ByteArray):Prop where
 eq:∃(a1 a6 a9 a10 a11:ByteArray) (a4 a5 a8:Int) (a7:List (List C)),r=[.s n,.s a1,.i rk,.i bn,.i a4,.i a5,.s a6,.l a7,.i a8,.s a9,.s a10,.s a11]
 ok:AD rk bn=true
theorem kY {r:List C} (h:cpQ r=true):∃rk bn n,AS r rk bn n:=by
 unfold cpQ at h
 split at h
 ·exact ⟨_,_,_,⟨_,_,_,_,_,_,_,_,_,rfl⟩,h⟩
 ·cases h
section
variable {CF:List C→Option (List C)} (hCF:∀(a0 a1 a6 a9 a10 a11:ByteArray) (a2 a3 a4 a5 a8:Int) (a7:List (List C)) (b0 b1 b6 b9 b10 b11:ByteArray) (b2 b3 b4 b5 b8:Int) (b7:List (List C)),
 CF [.s a0,.s a1,.i a2,.i a3,.i a4,.i a5,.s a6,.l a7,.i a8,.s a9,.s a10,.s a11,.s b0,.s b1,.i b2,.i b3,.i b4,.i b5,.s b6,.l b7,.i b8,.s b9,.s b10,.s b11]=some [.i (C0 a2 a3 a0 b2 b3 b0)])
include hCF
theorem C6 {x y:List C} {rk bn rk' bn':Int} {n n':ByteArray} (hx:AS x rk bn n) (hy:AS y rk' bn' n'):CF (x++y)=some [.i (C0 rk bn n rk' bn' n')]:=by
 obtain ⟨⟨_,_,_,_,_,_,_,_,_,rfl⟩,_⟩:=hx
 obtain ⟨⟨_,_,_,_,_,_,_,_,_,rfl⟩,_⟩:=hy
 exact hCF _ _ _ _ _ _ _ _ _ _ _ _ _ _ _ _ _ _ _ _ _ _ _ _
theorem l8 {x y:List C} {rk bn rk' bn':Int} {n n':ByteArray} (hx:AS x rk bn n) (hy:AS y rk' bn' n'):ltR CF x y=ltE rk bn n rk' bn' n':=by
 rw[←HM hx.ok hy.ok]
 unfold ltR Cl
 rw[C6 hCF hx hy]
end
end Go.Ev
namespace Go.Proofs
def Tryz.Fo:Go.Shelf.Ren:=⟨fun|106=>149|213=>181|265=>209|n=>n,fun|9=>9|3=>3|n=>n,fun|n=>n⟩
theorem Tryz.J0:Go.Proofs.Lays.n106 Tryz.prog Tryz.Fo where
 mixed:=by kernel_rfl
 f106:=Tryz.func149.trans (congrArg some (by kernel_rfl))
 f213:=Tryz.func181.trans (congrArg some (by kernel_rfl))
 f265:=Tryz.func209.trans (congrArg some (by kernel_rfl))
 t3:=Tryz.underlying3
 a3:=Tryz.isAgg3
 z3:=Tryz.sizeOf3
 v3:=Tryz.zeroValue3
 t9:=Tryz.underlying9
 a9:=Tryz.isAgg9
 z9:=Tryz.sizeOf9
 v9:=Tryz.zeroValue9
def Tryz.yQ:Go.Shelf.Ren:=⟨fun|6=>147|15=>130|14=>180|28=>161|29=>162|20=>201|21=>202|22=>203|23=>204|24=>205|25=>206|26=>207|27=>208|46=>223|47=>184|48=>185|49=>224|50=>225|57=>233|n=>n,fun|22=>25|24=>45|25=>165|3=>3|39=>138|0=>0|53=>177|55=>179|4=>4|46=>169|45=>168|50=>174|5=>5|9=>9|66=>202|70=>206|76=>220|77=>91|n=>n,fun|n=>n⟩
theorem Tryz.fX:Go.Proofs.SlLaysF0.n6 Tryz.prog Tryz.yQ where
 mixed:=by kernel_rfl
 f6:=⟨"slices.SortFunc[[]loop.example/wharffleet/impl.PilotCopy,loop.example/wharffleet/impl.PilotCopy]",by decide,Tryz.func147.trans (congrArg some (by kernel_rfl))⟩
 f14:=⟨"slices.pdqsortCmpFunc[loop.example/wharffleet/impl.PilotCopy]",by decide,Tryz.func180.trans (congrArg some (by kernel_rfl))⟩
 f15:=Tryz.func130.trans (congrArg some (by kernel_rfl))
 f20:=⟨"slices.insertionSortCmpFunc[loop.example/wharffleet/impl.PilotCopy]",by decide,Tryz.func201.trans (congrArg some (by kernel_rfl))⟩
 f21:=⟨"slices.heapSortCmpFunc[loop.example/wharffleet/impl.PilotCopy]",by decide,Tryz.func202.trans (congrArg some (by kernel_rfl))⟩
 f22:=⟨"slices.breakPatternsCmpFunc[loop.example/wharffleet/impl.PilotCopy]",by decide,Tryz.func203.trans (congrArg some (by kernel_rfl))⟩
 f23:=⟨"slices.choosePivotCmpFunc[loop.example/wharffleet/impl.PilotCopy]",by decide,Tryz.func204.trans (congrArg some (by kernel_rfl))⟩
 f24:=⟨"slices.reverseRangeCmpFunc[loop.example/wharffleet/impl.PilotCopy]",by decide,Tryz.func205.trans (congrArg some (by kernel_rfl))⟩
 f25:=⟨"slices.partialInsertionSortCmpFunc[loop.example/wharffleet/impl.PilotCopy]",by decide,Tryz.func206.trans (congrArg some (by kernel_rfl))⟩
 f26:=⟨"slices.partitionEqualCmpFunc[loop.example/wharffleet/impl.PilotCopy]",by decide,Tryz.func207.trans (congrArg some (by kernel_rfl))⟩
 f27:=⟨"slices.partitionCmpFunc[loop.example/wharffleet/impl.PilotCopy]",by decide,Tryz.func208.trans (congrArg some (by kernel_rfl))⟩
 f28:=Tryz.func161.trans (congrArg some (by kernel_rfl))
 f29:=Tryz.func162.trans (congrArg some (by kernel_rfl))
 f46:=⟨"slices.siftDownCmpFunc[loop.example/wharffleet/impl.PilotCopy]",by decide,Tryz.func223.trans (congrArg some (by kernel_rfl))⟩
 f47:=Tryz.func184.trans (congrArg some (by kernel_rfl))
 f48:=Tryz.func185.trans (congrArg some (by kernel_rfl))
 f49:=⟨"slices.medianAdjacentCmpFunc[loop.example/wharffleet/impl.PilotCopy]",by decide,Tryz.func224.trans (congrArg some (by kernel_rfl))⟩
 f50:=⟨"slices.medianCmpFunc[loop.example/wharffleet/impl.PilotCopy]",by decide,Tryz.func225.trans (congrArg some (by kernel_rfl))⟩
 f57:=⟨"slices.order2CmpFunc[loop.example/wharffleet/impl.PilotCopy]",by decide,Tryz.func233.trans (congrArg some (by kernel_rfl))⟩
 t0:=Tryz.underlying0
 a0:=Tryz.isAgg0
 z0:=Tryz.sizeOf0
 v0:=Tryz.zeroValue0
 t3:=Tryz.underlying3
 a3:=Tryz.isAgg3
 z3:=Tryz.sizeOf3
 v3:=Tryz.zeroValue3
 t4:=Tryz.underlying4
 a4:=Tryz.isAgg4
 z4:=Tryz.sizeOf4
 v4:=Tryz.zeroValue4
 t5:=Tryz.underlying5
 a5:=Tryz.isAgg5
 z5:=Tryz.sizeOf5
 v5:=Tryz.zeroValue5
 t9:=Tryz.underlying9
 a9:=Tryz.isAgg9
 z9:=Tryz.sizeOf9
 v9:=Tryz.zeroValue9
 t22:=Tryz.underlying25
 a22:=Tryz.isAgg25
 z22:=Tryz.sizeOf25
 v22:=Tryz.zeroValue25
 t25:=Tryz.underlying165
 a25:=Tryz.isAgg165
 z25:=Tryz.sizeOf165
 v25:=Tryz.zeroValue165
 t39:=Tryz.underlying138
 a39:=Tryz.isAgg138
 z39:=Tryz.sizeOf138
 v39:=Tryz.zeroValue138
 t45:=Tryz.underlying168
 a45:=Tryz.isAgg168
 z45:=Tryz.sizeOf168
 v45:=Tryz.zeroValue168
 t46:=Tryz.underlying169
 a46:=Tryz.isAgg169
 z46:=Tryz.sizeOf169
 v46:=Tryz.zeroValue169
 t50:=Tryz.underlying174
 a50:=Tryz.isAgg174
 z50:=Tryz.sizeOf174
 v50:=Tryz.zeroValue174
 t53:=Tryz.underlying177
 a53:=Tryz.isAgg177
 z53:=Tryz.sizeOf177
 v53:=Tryz.zeroValue177
 t55:=Tryz.underlying179
 a55:=Tryz.isAgg179
 z55:=Tryz.sizeOf179
 v55:=Tryz.zeroValue179
 t66:=Tryz.underlying202
 a66:=Tryz.isAgg202
 z66:=Tryz.sizeOf202
 v66:=Tryz.zeroValue202
 t70:=Tryz.underlying206
 a70:=Tryz.isAgg206
 z70:=Tryz.sizeOf206
 v70:=Tryz.zeroValue206
 t76:=Tryz.underlying220
 a76:=Tryz.isAgg220
 z76:=Tryz.sizeOf220
 v76:=Tryz.zeroValue220
 t77:=Tryz.underlying91
 a77:=Tryz.isAgg91
 z77:=Tryz.sizeOf91
 v77:=Tryz.zeroValue91
end Go.Proofs
namespace Go.Ev
open Go.Proofs
def scF:List C→Option (List C):=fun xs=>some [.i (Lib.compareBytes (xs.getD 0 .nil).S.data.toList (xs.getD 1 .nil).S.data.toList)]
theorem JA:aA Tryz.checked.prog T0 149 ⟨2,⟨[(0,.d .str),(1,.d .str)],[]⟩,⟨[(0,.d (.int .i64))],[]⟩,[],scF⟩:=by
 refine ⟨⟨Tryz.f149,_,Tryz.func149,rfl,by kernel_rfl⟩,?_⟩
 intro W wr nl F0 θ xs ys args hW hsz hargs hF
 obtain ⟨a0,a1,rfl⟩:∃a b,args= #[a,b]:=by
  obtain ⟨l⟩:=args
  simp only[List.size_toArray] at hsz
  match l,hsz with
  |[a,b],_=>exact ⟨a,b,rfl⟩
 have r0:ah T0 F0 W (fun _=>none) θ (.c .str (xs.getD 0 .nil)) a0:=hargs 0 (by decide)
 have r1:ah T0 F0 W (fun _=>none) θ (.c .str (xs.getD 1 .nil)) a1:=hargs 1 (by decide)
 simp only[scF,Option.some.injEq] at hF
 subst hF
 generalize hx0:xs.getD 0 .nil=x0 at*
 generalize hx1:xs.getD 1 .nil=x1 at*
 cases r0 with
 |c _ _ _ hc=>
 cases hc with
 |str s=>
 cases r1 with
 |c _ _ _ hc=>
 cases hc with
 |str m=>
 refine (Any.strings_Compare Tryz.J0 s m W).mono ?_
 rintro e w' ⟨rfl,rfl⟩
 exact ⟨_,F0,θ,rfl,hW,.c _ _ _ (.int _ _),fun n _ hn=>by simp at hn⟩
abbrev JW:List CT:=[.str,.str,.int .i64,.int .i64,.int .i64,.int .i64,.str,(.sl 109),.int .i64,.str,.str,.str]
abbrev skQ:Sk:=.ag (JW.map Sk.d)
theorem FA {CF:List C→Option (List C)} (hc:aA Tryz.checked.prog T0 148 ⟨2,⟨[(0,skQ),(1,skQ)],[]⟩,⟨[(0,.d (.int .i64))],[]⟩,[],CF⟩)
  (hCF:∀(a0 a1 a6 a9 a10 a11:ByteArray) (a2 a3 a4 a5 a8:Int) (a7:List (List C)) (b0 b1 b6 b9 b10 b11:ByteArray) (b2 b3 b4 b5 b8:Int) (b7:List (List C)),
   CF [.s a0,.s a1,.i a2,.i a3,.i a4,.i a5,.s a6,.l a7,.i a8,.s a9,.s a10,.s a11,.s b0,.s b1,.i b2,.i b3,.i b4,.i b5,.s b6,.l b7,.i b8,.s b9,.s b10,.s b11]=some [.i (C0 a2 a3 a0 b2 b3 b0)]):
  aA Tryz.checked.prog T0 147 ⟨2,⟨[(0,.ow 2000),(1,.fn 148 [])],[(2000,.arr 45 0)]⟩,⟨[(0,.tu [])],[(2000,.arr 45 0)]⟩,[2000],xB cpQ CF⟩:=by
 obtain ⟨d,hd,hd2⟩:∃d,aV T0 45=some d∧d.cts=JW:=⟨_,rfl,rfl⟩
 have hk:d.cts.length=12:=by rw[hd2];rfl
 refine zk hd (by rw[hk];decide) ⟨Tryz.f147,_,Tryz.func147,rfl,by kernel_rfl⟩ (by rw[hd2];exact hc) (fun x y hx hy _ _=>?_) (fun x hx=>?_) (fun x y z hx hy hz h1 h2=>?_) (fun x y z hx hy hz h1 h2=>?_)
  (fun α inh enc hk' h1 cf hO blk off cap a w eg hcmp hH hblk hsz=>?_) (fun p cap fv w=>AnyF.slices_SortFunc_none Tryz.fX p cap fv w)
 ·obtain ⟨_,_,_,hx⟩:=kY hx
  obtain ⟨_,_,_,hy⟩:=kY hy
  exact ⟨_,C6 hCF hx hy⟩
 ·obtain ⟨_,_,_,hx⟩:=kY hx
  rw[l8 hCF hx hx,Di]
 ·obtain ⟨_,_,_,hx⟩:=kY hx
  obtain ⟨_,_,_,hy⟩:=kY hy
  obtain ⟨_,_,_,hz⟩:=kY hz
  rw[l8 hCF hx hy] at h1
  rw[l8 hCF hy hz] at h2
  rw[l8 hCF hx hz]
  exact sS h1 h2
 ·obtain ⟨_,_,_,hx⟩:=kY hx
  obtain ⟨_,_,_,hy⟩:=kY hy
  obtain ⟨_,_,_,hz⟩:=kY hz
  rw[l8 hCF hx hy] at h1
  rw[l8 hCF hy hz] at h2
  rw[l8 hCF hx hz]
  exact wA h1 h2
 ·rw[hk] at hk' hcmp hH⊢
  exact @AnyQ.slices_SortFunc Tryz.prog Tryz.yQ α inh Tryz.fX 12 Tryz.isAgg45 Tryz.sizeOf45 enc hk' h1 cf hO 148 #[] blk off cap a w eg hcmp hH hblk hsz
end Go.Ev
namespace Go.Ev
open Go.Proofs
noncomputable section
def lD.d1 (a:C):R:=(bif (decide ((a.L.length:Int)>2000)) then (bif (decide (2000≤(a.L.length:Int))) then (some (.ret [.l ((a.L.take 2000).drop 0),.i 0])) else none) else (some (.ret [a,.i 0])))
def lD:List C→Option (List C):=fun xs=>aZ (ap1 lD.d1 xs)
def pf:FS:=⟨1,⟨[(0,(zl 5))],[]⟩,⟨[(0,(.pt 3000 0))],[(3000,z5)]⟩,[],lD⟩
theorem BM:aA Tryz.checked.prog T0 48 pf:=bC aE (fn:=Tryz.f48) (c:=Tryz.f48.body.getD .skip) pf .leaf [] .nil (by kernel_rfl) (by kernel_rfl) (by kernel_rfl) (fun xs=>by kernel_rfl)
def ae.d1 (a b c:C):R:=(bif (!(decide (a.I<1))) then (bif ((b.L.length:Int)==0) then (some (.ret [.i 0,b,.i (w64 (c.I+1))])) else (bif (decide ((w64 ((w64 (c.I+1))-1))<(b.L.length:Int))) then (bif (decide (0≤(w64 ((w64 (c.I+1))-1)))) then (bif (decide ((w64 ((w64 (c.I+1))-1))<(b.L.length:Int))) then (bif (a.I !=0) then (some (.ret [.i ((w64 (((b.L.getD (w64 ((w64 (c.I+1))-1)).toNat []).getD 0 .nil).I)).tmod a.I),b,.i (w64 (c.I+1))])) else none) else none) else none) else (bif ((b.L.length:Int) !=0) then (bif (decide (0≤((w64 ((w64 (c.I+1))-1)).tmod (b.L.length:Int)))) then (bif (decide (((w64 ((w64 (c.I+1))-1)).tmod (b.L.length:Int))<(b.L.length:Int))) then (bif ((b.L.length:Int) !=0) then (bif (decide (0≤((w64 ((w64 ((w64 ((w64 (c.I+1))-1))*7))+3)).tmod (b.L.length:Int)))) then (bif (decide (((w64 ((w64 ((w64 ((w64 (c.I+1))-1))*7))+3)).tmod (b.L.length:Int))<(b.L.length:Int))) then (bif ((b.L.length:Int) !=0) then (bif (a.I !=0) then (some (.ret [.i ((w64 ((BitVec.ofInt (IntKind.bits .i64) (w64 ((w64 ((w64 ((w64 ((w64 (((b.L.getD ((w64 ((w64 (c.I+1))-1)).tmod (b.L.length:Int)).toNat []).getD 0 .nil).I))*131))+(w64 ((w64 (((b.L.getD ((w64 ((w64 ((w64 ((w64 (c.I+1))-1))*7))+3)).tmod (b.L.length:Int)).toNat []).getD 0 .nil).I))*1117))))+(w64 ((w64 ((w64 (c.I+1))-1))*29))))+(w64 ((w64 ((w64 ((w64 (c.I+1))-1)).tdiv (b.L.length:Int)))*53))))^^^BitVec.ofInt (IntKind.bits .i64) (w64 ((w64 ((w64 ((w64 ((w64 ((w64 (((b.L.getD ((w64 ((w64 (c.I+1))-1)).tmod (b.L.length:Int)).toNat []).getD 0 .nil).I))*131))+(w64 ((w64 (((b.L.getD ((w64 ((w64 ((w64 ((w64 (c.I+1))-1))*7))+3)).tmod (b.L.length:Int)).toNat []).getD 0 .nil).I))*1117))))+(w64 ((w64 ((w64 (c.I+1))-1))*29))))+(w64 ((w64 ((w64 ((w64 (c.I+1))-1)).tdiv (b.L.length:Int)))*53)))).tdiv 64))).toNat:Int)).tmod a.I),b,.i (w64 (c.I+1))])) else none) else none) else none) else none) else none) else none) else none) else none))) else (some (.ret [.i 0,b,.i (w64 (c.I+1))])))
def ae:List C→Option (List C):=fun xs=>aZ (ap3 ae.d1 xs)
def aa:FS:=⟨2,⟨[(0,(.pt 2000 0)),(1,zi)],[(2000,z5)]⟩,⟨[(0,zi)],[(2000,z5)]⟩,[2000],ae⟩
theorem ab:aA Tryz.checked.prog T0 76 aa:=bC aE (fn:=Tryz.f76) (c:=Tryz.f76.body.getD .skip) aa .leaf [] .nil (by kernel_rfl) (by kernel_rfl) (by kernel_rfl) (fun xs=>by kernel_rfl)
def dL.d1 (G0:List C→Option (List C)) (a:C):R:=(bif (decide (a.I<0)) then (ad (G0 [.i (w64 (0-a.I))]) fun b=>(bif (decide ((bs #[45]).size+b.S.size≤4294967296)) then (some (.ret [.s ((bs #[45])++b.S)])) else none)) else (bif (decide (a.I<10)) then (some (.ret [.s (ky (rows [[.i (IntKind.wrap .u8 (w64 (48+a.I)))]]))])) else (ad (G0 [.i (w64 (a.I.tdiv 10))]) fun c=>(bif (decide (c.S.size+(ky (rows [[.i (IntKind.wrap .u8 (w64 (48+(a.I.tmod 10))))]])).size≤4294967296)) then (some (.ret [.s (c.S++(ky (rows [[.i (IntKind.wrap .u8 (w64 (48+(a.I.tmod 10))))]])))])) else none))))
def dL.step (G0:List C→Option (List C)):List C→Option (List C):=fun xs=>aZ (ap1 (dL.d1 G0) xs)
def ff (G:List C→Option (List C)):FS:=⟨1,⟨[(0,(.d (.int .i64)))],[]⟩,⟨[(0,(.d .str))],[]⟩,[],G⟩
theorem CC {G0:List C→Option (List C)} (h0:aA Tryz.checked.prog T0 131 (ff G0)):aA Tryz.checked.prog T0 131 (ff (dL.step G0)):=bC aE (fn:=Tryz.f131) (c:=Tryz.f131.body.getD .skip) (ff (dL.step G0)) .leaf [(131,some 7,(ff G0)),(131,some 18,(ff G0))] (.cons h0 (.cons h0 .nil)) (by kernel_rfl) (by kernel_rfl) (by kernel_rfl) (fun xs=>by kernel_rfl)
def dL.g:Nat→Nat→List C→Option (List C)
 |0,_=>fun _=>none
 |k+1,0=>dL.step (dL.g k 0)
 |_,_=>fun _=>none
theorem uk:∀k:Nat,aA Tryz.checked.prog T0 131 (ff (dL.g k 0))
 |0=>jl (fn:=Tryz.f131) (c:=Tryz.f131.body.getD .skip) (1) (⟨[(0,(.d (.int .i64)))],[]⟩) (⟨[(0,(.d .str))],[]⟩) [] (by kernel_rfl) (by kernel_rfl) (by kernel_rfl)
 |k+1=>CC (uk k)
def dL:List C→Option (List C):=dL.g ik 0
theorem nN:aA Tryz.checked.prog T0 131 (ff dL):=uk ik
def cF.d1 (a b c d e f g h i j k:C):R:=(bif (decide (a.I<2)) then (ad (dL [a]) fun l=>(bif (decide ((bs #[98]).size+l.S.size≤4294967296)) then (bif (decide (i.L.length+(rows [[.s ((bs #[98])++l.S),.s (bs #[101,97,115,116]),.l ao,.i 30,.i 30,.b false]]).length≤4294967296)) then (some (.again [.i (w64 (a.I+1)),b,c,d,e,.l f.L,.l g.L,.l h.L,.l (i.L++(rows [[.s ((bs #[98])++l.S),.s (bs #[101,97,115,116]),.l ao,.i 30,.i 30,.b false]])),.l j.L,.l k.L])) else none) else none)) else (some (.brk 0 [b,c,d,e,.l f.L,.l g.L,.l h.L,.l i.L,.l j.L,.l k.L])))
def cF.d2 (a b c d e f g h i j k l:C):R:=(bif (decide (b.I<(w64 (a.I+2)))) then (bif (decide ((bs #[99]).size+(ky (rows [[.i (IntKind.wrap .u8 (w64 (97+b.I)))]])).size≤4294967296)) then (call3 (ae [.i 3,c,d]) fun m n o=>(call3 (ae [.i 2,n,o]) fun p q r=>(bif (decide (b.I<a.I)) then (bif (decide (l.L.length+(rows [[.s ((bs #[99])++(ky (rows [[.i (IntKind.wrap .u8 (w64 (97+b.I)))]]))),.s (bs #[119,101,98]),m,.i 0,.i 1,p,.s (bs #[]),.l ao,.i 0,.s (bs #[]),.s (bs #[]),.s (bs #[98,48])]]).length≤4294967296)) then (some (.again [a,.i (w64 (b.I+1)),q,r,e,f,.l g.L,.l h.L,.l i.L,.l j.L,.l k.L,.l (l.L++(rows [[.s ((bs #[99])++(ky (rows [[.i (IntKind.wrap .u8 (w64 (97+b.I)))]]))),.s (bs #[119,101,98]),m,.i 0,.i 1,p,.s (bs #[]),.l ao,.i 0,.s (bs #[]),.s (bs #[]),.s (bs #[98,48])]]))])) else none) else (call3 (ae [.i 3,q,r]) fun s t u=>(bif (decide (s.I>0)) then (call3 (ae [.i 4,t,u]) fun v w x=>(bif (decide (l.L.length+(rows [[.s ((bs #[99])++(ky (rows [[.i (IntKind.wrap .u8 (w64 (97+b.I)))]]))),.s (bs #[119,101,98]),.i (w64 (1+v.I)),.i 0,.i 1,p,.s (bs #[]),.l ao,.i 0,.s (bs #[]),.s (bs #[98,48]),.s (bs #[])]]).length≤4294967296)) then (some (.again [a,.i (w64 (b.I+1)),w,x,e,f,.l g.L,.l h.L,.l i.L,.l j.L,.l k.L,.l (l.L++(rows [[.s ((bs #[99])++(ky (rows [[.i (IntKind.wrap .u8 (w64 (97+b.I)))]]))),.s (bs #[119,101,98]),.i (w64 (1+v.I)),.i 0,.i 1,p,.s (bs #[]),.l ao,.i 0,.s (bs #[]),.s (bs #[98,48]),.s (bs #[])]]))])) else none)) else (bif (decide (l.L.length+(rows [[.s ((bs #[99])++(ky (rows [[.i (IntKind.wrap .u8 (w64 (97+b.I)))]]))),.s (bs #[119,101,98]),m,.i 0,.i 1,p,.s (bs #[]),.l ao,.i 0,.s (bs #[]),.s (bs #[]),.s (bs #[])]]).length≤4294967296)) then (some (.again [a,.i (w64 (b.I+1)),t,u,e,f,.l g.L,.l h.L,.l i.L,.l j.L,.l k.L,.l (l.L++(rows [[.s ((bs #[99])++(ky (rows [[.i (IntKind.wrap .u8 (w64 (97+b.I)))]]))),.s (bs #[119,101,98]),m,.i 0,.i 1,p,.s (bs #[]),.l ao,.i 0,.s (bs #[]),.s (bs #[]),.s (bs #[])]]))])) else none)))))) else none) else (some (.brk 2 [c,d,e,f,.l g.L,.l h.L,.l i.L,.l j.L,.l k.L,.l l.L])))
def cF.d3 (a b c d e f g h i j:C):R:=(some (.ret [d,a,b,.l h.L,.l i.L,.l j.L]))
def cF.d4 (a b c d e f g h i j:C):R:=(call3 (ae [.i 2,a,b]) fun k l m=>(ai 2 (lim (jk cF.d2) [.i (w64 (10-k.I)),.i 0,l,m,c,d,.l e.L,.l f.L,.l g.L,.l h.L,.l i.L,.l j.L]) (s7 cF.d3)))
def cF.d5 (a b:C):R:=(call3 (ae [.i 2,a,b]) fun c d e=>(call3 (ae [.i 9,d,e]) fun f g h=>(ai 0 (lim (Aw cF.d1) [.i 0,g,h,.b false,.b (c.I==0),.l ao,.l ao,.l ao,.l ao,.l (rows [[.s (bs #[119,101,98]),f]]),.l ao]) (s7 cF.d4))))
def cF:List C→Option (List C):=fun xs=>aZ (ap2 cF.d5 xs)
def o9:FS:=⟨1,⟨[(0,(.pt 2000 0))],[(2000,z5)]⟩,⟨[(0,(.ag [zo,(.ow 3001),(.ow 3002),(.ow 3003)]))],[(2000,z5),(3001,.arr 37 1),(3002,.arr 60 1),(3003,.arr 45 1)]⟩,[2000],cF⟩
theorem BH:aA Tryz.checked.prog T0 96 o9:=oZ aE [26,64] false (fn:=Tryz.f96) (c:=Tryz.f96.body.getD .skip) o9 (.seq .leaf (.seq .leaf (.seq (.seq .leaf (.block ⟨[(0,(.pt 2000 0)),(2,(.pt 2 0)),(3,(.pt 3 0))],[(2000,z5),(2,z12),(3,.var 27 [zo,(.ow 1013503),(.ow 14),(.ow 1013504)]),(1013500,.arr 37 1),(1013501,.arr 60 1),(1013502,.arr 45 1),(1013503,.arr 37 1),(14,.arr 60 1),(1013504,.arr 45 1)]⟩ (.loop ⟨[(0,(.pt 2000 0)),(2,(.pt 2 0)),(3,(.pt 3 0)),(4,zi)],[(2000,z5),(2,z12),(3,.var 27 [zo,(.ow 1013503),(.ow 14),(.ow 1013504)]),(1013500,.arr 37 1),(1013501,.arr 60 1),(1013502,.arr 45 1),(1013503,.arr 37 1),(14,.arr 60 1),(1013504,.arr 45 1)]⟩ .leaf))) (.seq .leaf (.seq (.seq .leaf (.block ⟨[(2,(.pt 2 0)),(3,(.pt 3 0))],[(2000,z5),(2,z12),(3,.var 27 [zo,(.ow 1013503),(.ow 14),(.ow 1013504)]),(1013500,.arr 37 1),(1013501,.arr 60 1),(1013502,.arr 45 1),(1013503,.arr 37 1),(14,.arr 60 1),(1013504,.arr 45 1)]⟩ (.loop ⟨[(0,(.pt 2000 0)),(2,(.pt 2 0)),(3,(.pt 3 0)),(5,zi),(6,zi)],[(2000,z5),(2,z12),(3,.var 27 [zo,(.ow 1013503),(.ow 14),(.ow 1013504)]),(1013500,.arr 37 1),(1013501,.arr 60 1),(1013502,.arr 45 1),(1013503,.arr 37 1),(14,.arr 60 1),(1013504,.arr 45 1)]⟩ .leaf))) .leaf))))) [(76,some 9,aa),(76,some 12,aa),(76,some 30,aa),(76,some 45,aa),(76,some 47,aa),(76,some 54,aa),(76,some 58,aa),(131,some 23,(ff dL))] (.cons ab (.cons ab (.cons ab (.cons ab (.cons ab (.cons ab (.cons ab (.cons nN .nil)))))))) (by kernel_rfl) (by kernel_rfl) (by kernel_rfl) (fun xs=>by kernel_rfl)
def cJ.d1 (a b c:C):R:=(call3 (ae [.i 2,a,b]) fun d e f=>(bif (d.I==0) then (call3 (ae [.i 2,e,f]) fun g h i=>(bif (decide (0≤g.I)) then (bif (decide (g.I<((rows [[.s (bs #[115,115,100])],[.s (bs #[115,115,100,61,97])]]).length:Int))) then (bif (decide (c.L.length+(rows [[(((rows [[.s (bs #[115,115,100])],[.s (bs #[115,115,100,61,97])]]).getD g.I.toNat []).getD 0 .nil)]]).length≤4294967296)) then (some (.ret [h,i,.l (c.L++(rows [[(((rows [[.s (bs #[115,115,100])],[.s (bs #[115,115,100,61,97])]]).getD g.I.toNat []).getD 0 .nil)]]))])) else none) else none) else none)) else (some (.ret [e,f,.l c.L]))))
def cJ.d2 (a b c:C):R:=(bd (call3 (ae [.i 3,a,b]) fun d e f=>(bif (d.I==0) then (bif (decide (c.L.length+(rows [[.s (bs #[111,108,100])]]).length≤4294967296)) then (some (.nrm [e,f,.l (c.L++(rows [[.s (bs #[111,108,100])]]))])) else none) else (some (.nrm [e,f,.l c.L])))) (ap3 cJ.d1))
def cJ.d3 (a b c:C):R:=(bd (call3 (ae [.i 3,a,b]) fun d e f=>(bif (d.I==0) then (bif (decide (c.L.length+(rows [[.s (bs #[103,112,117])]]).length≤4294967296)) then (some (.nrm [e,f,.l (c.L++(rows [[.s (bs #[103,112,117])]]))])) else none) else (some (.nrm [e,f,.l c.L])))) (ap3 cJ.d2))
def cJ.d4 (a b:C):R:=(bd (call3 (ae [.i 2,a,b]) fun c d e=>(bif (c.I==0) then (call3 (ae [.i 2,d,e]) fun f g h=>(bif (decide (0≤f.I)) then (bif (decide (f.I<((rows [[.s (bs #[114,101,100])],[.s (bs #[97])]]).length:Int))) then (bif (decide ((bs #[99,111,108,111,114,61]).size+((((rows [[.s (bs #[114,101,100])],[.s (bs #[97])]]).getD f.I.toNat []).getD 0 .nil).S).size≤4294967296)) then (bif (decide (ao.length+(rows [[.s ((bs #[99,111,108,111,114,61])++(((rows [[.s (bs #[114,101,100])],[.s (bs #[97])]]).getD f.I.toNat []).getD 0 .nil).S)]]).length≤4294967296)) then (some (.nrm [g,h,.l (ao++(rows [[.s ((bs #[99,111,108,111,114,61])++(((rows [[.s (bs #[114,101,100])],[.s (bs #[97])]]).getD f.I.toNat []).getD 0 .nil).S)]]))])) else none) else none) else none) else none)) else (some (.nrm [d,e,.l ao])))) (ap3 cJ.d3))
def cJ:List C→Option (List C):=fun xs=>aZ (ap2 cJ.d4 xs)
def nR:FS:=⟨1,⟨[(0,(.pt 2000 0))],[(2000,z5)]⟩,⟨[(0,(.ow 3001))],[(2000,z5),(3001,.arr 9 1)]⟩,[2000],cJ⟩
theorem zc:aA Tryz.checked.prog T0 163 nR:=bC aE (fn:=Tryz.f163) (c:=Tryz.f163.body.getD .skip) nR (.seq .leaf (.seq .leaf (.seq (.join ⟨[(0,(.pt 2000 0)),(3,(.ow 4))],[(2000,z5),(4,.arr 9 1)]⟩ .leaf) (.seq (.join ⟨[(0,(.pt 2000 0)),(3,(.ow 4))],[(2000,z5),(4,.arr 9 1)]⟩ .leaf) (.seq (.join ⟨[(0,(.pt 2000 0)),(3,(.ow 4))],[(2000,z5),(4,.arr 9 1)]⟩ .leaf) .leaf))))) [(76,some 6,aa),(76,some 11,aa),(76,some 18,aa),(76,some 24,aa),(76,some 30,aa),(76,some 35,aa)] (.cons ab (.cons ab (.cons ab (.cons ab (.cons ab (.cons ab .nil)))))) (by kernel_rfl) (by kernel_rfl) (by kernel_rfl) (fun xs=>by kernel_rfl)
def fT.d1 (a b c:C):R:=(call3 (ae [.i 3,b,c]) fun d e f=>(bif (decide (0≤d.I)) then (bif (decide (d.I<((rows [[.s (bs #[101,97,115,116])],[.s (bs #[119,101,115,116])],[.s (bs #[110,111,114,116,104])]]).length:Int))) then (call3 (cJ [e,f]) fun g h i=>(call3 (ae [.i 20,g,h]) fun j k l=>(call3 (ae [.i 20,k,l]) fun m n o=>(call3 (ae [.i 10,n,o]) fun p q r=>(some (.ret [a,(((rows [[.s (bs #[101,97,115,116])],[.s (bs #[119,101,115,116])],[.s (bs #[110,111,114,116,104])]]).getD d.I.toNat []).getD 0 .nil),.i (w64 (4+j.I)),.i (w64 (4+m.I)),.b (p.I==0),q,r,.l i.L])))))) else none) else none))
def fT:List C→Option (List C):=fun xs=>aZ (ap3 fT.d1 xs)
def jO:FS:=⟨2,⟨[(0,(.pt 2000 0)),(1,zt)],[(2000,z5)]⟩,⟨[(0,(.ag [zt,zt,(.ow 3001),zi,zi,zo]))],[(2000,z5),(3001,.arr 9 1)]⟩,[2000],fT⟩
theorem tW:aA Tryz.checked.prog T0 132 jO:=bC aE (fn:=Tryz.f132) (c:=Tryz.f132.body.getD .skip) jO .leaf [(76,some 8,aa),(76,some 14,aa),(76,some 17,aa),(76,some 20,aa),(163,some 12,nR)] (.cons ab (.cons ab (.cons ab (.cons ab (.cons zc .nil))))) (by kernel_rfl) (by kernel_rfl) (by kernel_rfl) (fun xs=>by kernel_rfl)
def lI.d1 (a b:C):R:=(call3 (ae [.i 8,a,b]) fun c d e=>(bif (decide (0≤c.I)) then (bif (decide (c.I<((rows [[.s (bs #[115,115,100])],[.s (bs #[111,108,100])],[.s (bs #[103,112,117])],[.s (bs #[122,111,110,101])],[.s (bs #[99,111,108,111,114])],[.s (bs #[97])],[.s (bs #[98,45,49])],[.s (bs #[120,95,50])]]).length:Int))) then (some (.ret [(((rows [[.s (bs #[115,115,100])],[.s (bs #[111,108,100])],[.s (bs #[103,112,117])],[.s (bs #[122,111,110,101])],[.s (bs #[99,111,108,111,114])],[.s (bs #[97])],[.s (bs #[98,45,49])],[.s (bs #[120,95,50])]]).getD c.I.toNat []).getD 0 .nil),d,e])) else none) else none))
def lI:List C→Option (List C):=fun xs=>aZ (ap2 lI.d1 xs)
def o7:FS:=⟨1,⟨[(0,(.pt 2000 0))],[(2000,z5)]⟩,⟨[(0,zt)],[(2000,z5)]⟩,[2000],lI⟩
theorem Br:aA Tryz.checked.prog T0 227 o7:=bC aE (fn:=Tryz.f227) (c:=Tryz.f227.body.getD .skip) o7 .leaf [(76,some 5,aa)] (.cons ab .nil) (by kernel_rfl) (by kernel_rfl) (by kernel_rfl) (fun xs=>by kernel_rfl)
def jg.d1 (a b:C):R:=(call3 (ae [.i 2,a,b]) fun c d e=>(bif (c.I==0) then (call3 (lI [d,e]) fun f g h=>(some (.ret [g,h,.l (rows [[.i 1,f,.s (bs #[]),.i 0]])]))) else (call3 (ae [.i 3,d,e]) fun i j k=>(bif (decide (0≤i.I)) then (bif (decide (i.I<((rows [[.s (bs #[122,111,110,101])],[.s (bs #[99,111,108,111,114])],[.s (bs #[115,115,100])]]).length:Int))) then (call3 (ae [.i 4,j,k]) fun l m n=>(bif (decide (0≤l.I)) then (bif (decide (l.I<((rows [[.s (bs #[101,97,115,116])],[.s (bs #[119,101,115,116])],[.s (bs #[114,101,100])],[.s (bs #[97])]]).length:Int))) then (some (.ret [m,n,.l (rows [[.i 2,(((rows [[.s (bs #[122,111,110,101])],[.s (bs #[99,111,108,111,114])],[.s (bs #[115,115,100])]]).getD i.I.toNat []).getD 0 .nil),(((rows [[.s (bs #[101,97,115,116])],[.s (bs #[119,101,115,116])],[.s (bs #[114,101,100])],[.s (bs #[97])]]).getD l.I.toNat []).getD 0 .nil),.i 0]])])) else none) else none)) else none) else none))))
def jg:List C→Option (List C):=fun xs=>aZ (ap2 jg.d1 xs)
def pD:FS:=⟨1,⟨[(0,(.pt 2000 0))],[(2000,z5)]⟩,⟨[(0,(.ow 3001))],[(2000,z5),(3001,.arr 184 1)]⟩,[2000],jg⟩
theorem AX:aA Tryz.checked.prog T0 212 pD:=bC aE (fn:=Tryz.f212) (c:=Tryz.f212.body.getD .skip) pD .leaf [(76,some 4,aa),(76,some 12,aa),(76,some 17,aa),(227,some 7,o7)] (.cons ab (.cons ab (.cons ab (.cons Br .nil)))) (by kernel_rfl) (by kernel_rfl) (by kernel_rfl) (fun xs=>by kernel_rfl)
def bF.d1 (a b c d e:C):R:=(bif (decide (c.I<(d.L.length:Int))) then (bif (decide (0≤c.I)) then (bif (decide (c.I<(d.L.length:Int))) then (bif (decide (e.L.length+(((d.L.getD c.I.toNat []).getD 0 .nil).L).length≤4294967296)) then (some (.again [a,b,.i (w64 (c.I+1)),.l d.L,.l (e.L++(((d.L.getD c.I.toNat []).getD 0 .nil).L))])) else none) else none) else none) else (some (.brk 0 [a,b,.l d.L,.l e.L])))
def bF.d2 (a b c d:C):R:=(bif (decide (d.L.length+(rows [[a,.s (bs #[]),.s (bs #[]),b]]).length≤4294967296)) then (some (.ret [.l c.L,.l (d.L++(rows [[a,.s (bs #[]),.s (bs #[]),b]]))])) else none)
def bF.d3 (a b c:C):R:=(ai 0 (lim (ap5 bF.d1) [a,b,.i 0,.l c.L,.l ao]) (ap4 bF.d2))
def bF:List C→Option (List C):=fun xs=>aZ (ap3 bF.d3 xs)
def pd:FS:=⟨3,⟨[(0,zi),(1,zi),(2,(.ow 2000))],[(2000,.arr 144 1)]⟩,⟨[(0,(.ow 3001))],[(2000,.arr 144 1),(3001,.arr 184 1)]⟩,[2000],bF⟩
theorem Bu:aA Tryz.checked.prog T0 192 pd:=bC aE (fn:=Tryz.f192) (c:=Tryz.f192.body.getD .skip) pd (.seq .leaf (.seq .leaf (.seq (.seq .leaf (.block ⟨[(0,zi),(1,zi),(7,(.ow 9))],[(2000,.arr 144 1),(9,.arr 184 1)]⟩ (.loop ⟨[(0,zi),(1,zi),(2,(.ow 2000)),(7,(.ow 9)),(8,zi)],[(2000,.arr 144 1),(9,.arr 184 1)]⟩ .leaf))) .leaf))) [] .nil (by kernel_rfl) (by kernel_rfl) (by kernel_rfl) (fun xs=>by kernel_rfl)
def fg:FS:=⟨3,⟨[(0,zi),(1,zi),(2,(.ow 2000))],[(2000,.arr 144)]⟩,⟨[(0,(.ow 3001))],[(2000,.arr 144),(3001,.arr 184 1)]⟩,[2000],bF⟩
theorem hJ:aA Tryz.checked.prog T0 192 fg:=bC aE (fn:=Tryz.f192) (c:=Tryz.f192.body.getD .skip) fg (.seq .leaf (.seq .leaf (.seq (.seq .leaf (.block ⟨[(0,zi),(1,zi),(7,(.ow 9))],[(2000,.arr 144),(9,.arr 184 1)]⟩ (.loop ⟨[(0,zi),(1,zi),(2,(.ow 2000)),(7,(.ow 9)),(8,zi)],[(2000,.arr 144),(9,.arr 184 1)]⟩ .leaf))) .leaf))) [] .nil (by kernel_rfl) (by kernel_rfl) (by kernel_rfl) (fun xs=>by kernel_rfl)
def dU.d1 (G0:List C→Option (List C)) (a b c:C):R:=(bif (!(decide (a.I≤0))) then (call3 (ae [.i 3,b,c]) fun d e f=>(bif (d.I==0) then (call3 (jg [e,f]) fun g h i=>(some (.ret [g,h,.l i.L]))) else (call3 (ae [.i 3,e,f]) fun j k l=>(bif (j.I==0) then (call3 (G0 [.i (w64 (a.I-1)),k,l]) fun m n o=>(call2 (bF [.i 3,.i 1,.l (rows [[.l o.L]])]) fun p q=>(some (.ret [m,n,.l q.L])))) else (bif (j.I==1) then (call3 (G0 [.i (w64 (a.I-1)),k,l]) fun r s t=>(call3 (G0 [.i (w64 (a.I-1)),r,s]) fun u v w=>(call2 (bF [.i 4,.i 2,.l (rows [[.l t.L],[.l w.L]])]) fun x y=>(some (.ret [u,v,.l y.L]))))) else (call3 (G0 [.i (w64 (a.I-1)),k,l]) fun z a0 a1=>(call3 (G0 [.i (w64 (a.I-1)),z,a0]) fun a2 a3 a4=>(call2 (bF [.i 5,.i 2,.l (rows [[.l a1.L],[.l a4.L]])]) fun a5 a6=>(some (.ret [a2,a3,.l a6.L])))))))))) else (call3 (jg [b,c]) fun a7 a8 a9=>(some (.ret [a7,a8,.l a9.L]))))
def dU.step (G0:List C→Option (List C)):List C→Option (List C):=fun xs=>aZ (ap3 (dU.d1 G0) xs)
def eP (G:List C→Option (List C)):FS:=⟨2,⟨[(0,(.pt 2000 0)),(1,(.d (.int .i64)))],[(2000,.var 117 [(.d (.sl 5)),(.d (.int .i64))])]⟩,⟨[(0,(.ow 3001))],[(2000,.var 117 [(.d (.sl 5)),(.d (.int .i64))]),(3001,.arr 184 1)]⟩,[2000],G⟩
theorem Bg {G0:List C→Option (List C)} (h0:aA Tryz.checked.prog T0 189 (eP G0)):aA Tryz.checked.prog T0 189 (eP (dU.step G0)):=bC aE (fn:=Tryz.f189) (c:=Tryz.f189.body.getD .skip) (eP (dU.step G0)) .leaf [(76,some 11,aa),(76,some 17,aa),(189,some 23,(eP G0)),(189,some 31,(eP G0)),(189,some 36,(eP G0)),(189,some 42,(eP G0)),(189,some 47,(eP G0)),(192,some 25,pd),(192,some 38,fg),(192,some 49,fg),(212,some 15,pD)] (.cons ab (.cons ab (.cons h0 (.cons h0 (.cons h0 (.cons h0 (.cons h0 (.cons Bu (.cons hJ (.cons hJ (.cons AX .nil))))))))))) (by kernel_rfl) (by kernel_rfl) (by kernel_rfl) (fun xs=>by kernel_rfl)
def dU.g:Nat→Nat→List C→Option (List C)
 |0,_=>fun _=>none
 |k+1,0=>dU.step (dU.g k 0)
 |_,_=>fun _=>none
theorem rS:∀k:Nat,aA Tryz.checked.prog T0 189 (eP (dU.g k 0))
 |0=>jl (fn:=Tryz.f189) (c:=Tryz.f189.body.getD .skip) (2) (⟨[(0,(.pt 2000 0)),(1,(.d (.int .i64)))],[(2000,.var 117 [(.d (.sl 5)),(.d (.int .i64))])]⟩) (⟨[(0,(.ow 3001))],[(2000,.var 117 [(.d (.sl 5)),(.d (.int .i64))]),(3001,.arr 184 1)]⟩) [2000] (by kernel_rfl) (by kernel_rfl) (by kernel_rfl)
 |k+1=>Bg (rS k)
def dU:List C→Option (List C):=dU.g ik 0
theorem Ba:aA Tryz.checked.prog T0 189 (eP dU):=rS ik
def dP.d1 (a b c d:C):R:=(bif (decide (a.I<(b.L.length:Int))) then (bif (decide (0≤a.I)) then (bif (decide (a.I<(b.L.length:Int))) then (bif (!(decide (((b.L.getD a.I.toNat []).getD 3 .nil).I<0))) then (bif (decide (((b.L.getD a.I.toNat []).getD 3 .nil).I>(d.L.length:Int))) then (some (.ret [.b false,.l c.L])) else (bif (decide (0≤(w64 ((d.L.length:Int)-((b.L.getD a.I.toNat []).getD 3 .nil).I)))) then (bif (decide ((w64 ((d.L.length:Int)-((b.L.getD a.I.toNat []).getD 3 .nil).I))≤(d.L.length:Int))) then (bif (decide ((d.L.length:Int)≤(d.L.length:Int))) then (bif (decide (ao.length+((d.L.take (d.L.length:Int).toNat).drop (w64 ((d.L.length:Int)-((b.L.getD a.I.toNat []).getD 3 .nil).I)).toNat).length≤4294967296)) then (bif (decide (c.L.length+(rows [[.l (ao++((d.L.take (d.L.length:Int).toNat).drop (w64 ((d.L.length:Int)-((b.L.getD a.I.toNat []).getD 3 .nil).I)).toNat))]]).length≤4294967296)) then (bif (decide (0≤(w64 ((d.L.length:Int)-((b.L.getD a.I.toNat []).getD 3 .nil).I)))) then (bif (decide ((w64 ((d.L.length:Int)-((b.L.getD a.I.toNat []).getD 3 .nil).I))≤(d.L.length:Int))) then (bif (decide (((d.L.take (w64 ((d.L.length:Int)-((b.L.getD a.I.toNat []).getD 3 .nil).I)).toNat).drop 0).length+(rows [[a]]).length≤4294967296)) then (some (.again [.i (w64 (a.I+1)),b,.l (c.L++(rows [[.l (ao++((d.L.take (d.L.length:Int).toNat).drop (w64 ((d.L.length:Int)-((b.L.getD a.I.toNat []).getD 3 .nil).I)).toNat))]])),.l (((d.L.take (w64 ((d.L.length:Int)-((b.L.getD a.I.toNat []).getD 3 .nil).I)).toNat).drop 0)++(rows [[a]]))])) else none) else none) else none) else none) else none) else none) else none) else none)) else (some (.ret [.b false,.l c.L]))) else none) else none) else (some (.brk 0 [.l c.L,.l d.L])))
def dP.d2 (a b:C):R:=(some (.ret [.b ((b.L.length:Int)==1),.l a.L]))
def dP.d3 (a:C):R:=(ai 0 (lim (ap4 dP.d1) [.i 0,a,.l ao,.l ao]) (ap2 dP.d2))
def dP:List C→Option (List C):=fun xs=>aZ (ap1 dP.d3 xs)
def iK:FS:=⟨1,⟨[(0,(.ag [(zl 184)]))],[]⟩,⟨[(0,(.tu [(.ow 3000),zo]))],[(3000,.arr 73 1)]⟩,[],dP⟩
theorem l6:aA Tryz.checked.prog T0 168 iK:=oZ aE [41] false (fn:=Tryz.f168) (c:=Tryz.f168.body.getD .skip) iK (.seq .leaf (.seq .leaf (.seq .leaf (.seq (.seq .leaf (.block ⟨[(4,(.ow 8)),(5,(.ow 9))],[(8,.arr 73 1),(9,.arr 3 1)]⟩ (.loop ⟨[(1,(.pt 1 0)),(4,(.ow 8)),(5,(.ow 9)),(6,zi)],[(1,.var 146 [(zl 184)]),(8,.arr 73 1),(9,.arr 3 1)]⟩ .leaf))) .leaf)))) [] .nil (by kernel_rfl) (by kernel_rfl) (by kernel_rfl) (fun xs=>by kernel_rfl)
def gl.d1 (a b c:C):R:=(bif (decide (a.I≥b.I)) then (some (.ret [.b (decide (a.I≤c.I))])) else (some (.ret [.b false])))
def gl:List C→Option (List C):=fun xs=>aZ (ap3 gl.d1 xs)
def eS:FS:=⟨3,⟨[(0,zi),(1,zi),(2,zi)],[]⟩,⟨[(0,zo)],[]⟩,[],gl⟩
theorem fy:aA Tryz.checked.prog T0 59 eS:=bC aE (fn:=Tryz.f59) (c:=Tryz.f59.body.getD .skip) eS .leaf [] .nil (by kernel_rfl) (by kernel_rfl) (by kernel_rfl) (fun xs=>by kernel_rfl)
def gY.d1 (a:C):R:=(bif (decide (a.I≥97)) then (bif (!(decide (a.I≤122))) then (bif (decide (a.I≥48)) then (bif (!(decide (a.I≤57))) then (bif (!(a.I==45)) then (some (.ret [.b (a.I==95)])) else (some (.ret [.b true]))) else (some (.ret [.b true]))) else (bif (!(a.I==45)) then (some (.ret [.b (a.I==95)])) else (some (.ret [.b true])))) else (some (.ret [.b true]))) else (bif (decide (a.I≥48)) then (bif (!(decide (a.I≤57))) then (bif (!(a.I==45)) then (some (.ret [.b (a.I==95)])) else (some (.ret [.b true]))) else (some (.ret [.b true]))) else (bif (!(a.I==45)) then (some (.ret [.b (a.I==95)])) else (some (.ret [.b true])))))
def gY:List C→Option (List C):=fun xs=>aZ (ap1 gY.d1 xs)
def j3:FS:=⟨1,⟨[(0,(.d (.int .u8)))],[]⟩,⟨[(0,zo)],[]⟩,[],gY⟩
theorem qI:aA Tryz.checked.prog T0 108 j3:=bC aE (fn:=Tryz.f108) (c:=Tryz.f108.body.getD .skip) j3 .leaf [] .nil (by kernel_rfl) (by kernel_rfl) (by kernel_rfl) (fun xs=>by kernel_rfl)
def ba.d1 (a b:C):R:=(bif (decide (b.I<(a.S.size:Int))) then (bif (decide (0≤b.I)) then (bif (decide (b.I<(a.S.size:Int))) then (ad (gY [.i ((a.S.data.getD b.I.toNat 0).toNat:Int)]) fun c=>(bif (!c.B) then (some (.ret [.b false])) else (some (.again [a,.i (w64 (b.I+1))])))) else none) else none) else (some (.brk 0 [])))
def ba.d2:R:=(some (.ret [.b true]))
def ba.d3 (a:C):R:=(ad (gl [.i (a.S.size:Int),.i 1,.i 20]) fun b=>(bif (!b.B) then (some (.ret [.b false])) else (ai 0 (lim (ap2 ba.d1) [a,.i 0]) (fun xs=>ba.d2))))
def ba:List C→Option (List C):=fun xs=>aZ (ap1 ba.d3 xs)
def cj:FS:=⟨1,⟨[(0,zt)],[]⟩,⟨[(0,zo)],[]⟩,[],ba⟩
theorem cT:aA Tryz.checked.prog T0 58 cj:=bC aE (fn:=Tryz.f58) (c:=Tryz.f58.body.getD .skip) cj (.seq .leaf (.seq .leaf (.seq (.seq .leaf (.block ⟨[],[]⟩ (.loop ⟨[(0,zt),(3,zi)],[]⟩ .leaf))) .leaf))) [(59,some 6,eS),(108,some 17,j3)] (.cons fy (.cons qI .nil)) (by kernel_rfl) (by kernel_rfl) (by kernel_rfl) (fun xs=>by kernel_rfl)
def aI.d1 (a b c:C):R:=(bif b.B then (some (.ret [.b false])) else (some (.again [.i (w64 (a.I+1)),c])))
def aI.d2 (a b c d e f g:C):R:=(bd (bif b.B then (ad (ba [e]) fun h=>(bif (!(!h.B)) then (bif (!b.B) then (bif (!(!(e.S.toList==(bs #[]).toList))) then (bif (d.I==2) then (ad (ba [f]) fun i=>(bif (!(!i.B)) then (bif (d.I !=2) then (some (.nrm [a,.b (!(f.S.toList==(bs #[]).toList)),c])) else (some (.nrm [a,.b false,c]))) else (some (.nrm [a,.b true,c])))) else (bif (d.I !=2) then (some (.nrm [a,.b (!(f.S.toList==(bs #[]).toList)),c])) else (some (.nrm [a,.b false,c])))) else (some (.nrm [a,.b true,c]))) else (bif (d.I==2) then (ad (ba [f]) fun j=>(bif (!(!j.B)) then (bif (d.I !=2) then (some (.nrm [a,.b (!(f.S.toList==(bs #[]).toList)),c])) else (some (.nrm [a,.b false,c]))) else (some (.nrm [a,.b true,c])))) else (bif (d.I !=2) then (some (.nrm [a,.b (!(f.S.toList==(bs #[]).toList)),c])) else (some (.nrm [a,.b false,c]))))) else (some (.nrm [a,.b true,c])))) else (bif (!b.B) then (bif (!(!(e.S.toList==(bs #[]).toList))) then (bif (d.I==2) then (ad (ba [f]) fun k=>(bif (!(!k.B)) then (bif (d.I !=2) then (some (.nrm [a,.b (!(f.S.toList==(bs #[]).toList)),c])) else (some (.nrm [a,.b false,c]))) else (some (.nrm [a,.b true,c])))) else (bif (d.I !=2) then (some (.nrm [a,.b (!(f.S.toList==(bs #[]).toList)),c])) else (some (.nrm [a,.b false,c])))) else (some (.nrm [a,.b true,c]))) else (bif (d.I==2) then (ad (ba [f]) fun l=>(bif (!(!l.B)) then (bif (d.I !=2) then (some (.nrm [a,.b (!(f.S.toList==(bs #[]).toList)),c])) else (some (.nrm [a,.b false,c]))) else (some (.nrm [a,.b true,c])))) else (bif (d.I !=2) then (some (.nrm [a,.b (!(f.S.toList==(bs #[]).toList)),c])) else (some (.nrm [a,.b false,c])))))) (ap3 aI.d1))
def aI.d3 (a b c d e f:C):R:=(bd (bif (!(c.I==1)) then (some (.nrm [a,.b (c.I==2),b,c,d,e,f])) else (some (.nrm [a,.b true,b,c,d,e,f]))) (ap7 aI.d2))
def aI.d4 (a b:C):R:=(bif (decide (a.I<(b.L.length:Int))) then (bif (decide (0≤a.I)) then (bif (decide (a.I<(b.L.length:Int))) then (bd (ad (gl [((b.L.getD a.I.toNat []).getD 0 .nil),.i 0,.i 5]) fun c=>(bif (!(!c.B)) then (bif (decide (0≤((b.L.getD a.I.toNat []).getD 0 .nil).I)) then (bif (decide (((b.L.getD a.I.toNat []).getD 0 .nil).I<((rows [[.i 0],[.i 0],[.i 0],[.i 1],[.i 2],[.i 2]]).length:Int))) then (bif (!(((b.L.getD a.I.toNat []).getD 3 .nil).I !=(((rows [[.i 0],[.i 0],[.i 0],[.i 1],[.i 2],[.i 2]]).getD (((b.L.getD a.I.toNat []).getD 0 .nil).I).toNat []).getD 0 .nil).I)) then (bif (((b.L.getD a.I.toNat []).getD 0 .nil).I==0) then (bif (decide ((b.L.length:Int)>1)) then (some (.ret [.b false])) else (some (.nrm [a,b,((b.L.getD a.I.toNat []).getD 0 .nil),((b.L.getD a.I.toNat []).getD 1 .nil),((b.L.getD a.I.toNat []).getD 2 .nil),((b.L.getD a.I.toNat []).getD 3 .nil)]))) else (some (.nrm [a,b,((b.L.getD a.I.toNat []).getD 0 .nil),((b.L.getD a.I.toNat []).getD 1 .nil),((b.L.getD a.I.toNat []).getD 2 .nil),((b.L.getD a.I.toNat []).getD 3 .nil)]))) else (some (.ret [.b false]))) else none) else none) else (some (.ret [.b false])))) (ap6 aI.d3)) else none) else none) else (some (.brk 0 [])))
def aI.d5:R:=(some (.ret [.b true]))
def aI.d6 (a:C):R:=(bif (decide ((a.L.length:Int)>400)) then (some (.ret [.b false])) else (call2 (dP [a]) fun b c=>(bif (!b.B) then (some (.ret [.b false])) else (ai 0 (lim (ap2 aI.d4) [.i 0,a]) (fun xs=>aI.d5)))))
def aI:List C→Option (List C):=fun xs=>aZ (ap1 aI.d6 xs)
def pC:FS:=⟨1,⟨[(0,(.ag [(zl 184)]))],[]⟩,⟨[(0,zo)],[]⟩,[],aI⟩
theorem AM:aA Tryz.checked.prog T0 193 pC:=bC aE (fn:=Tryz.f193) (c:=Tryz.f193.body.getD .skip) pC (.seq .leaf (.seq .leaf (.seq .leaf (.seq .leaf (.seq (.seq .leaf (.block ⟨[],[]⟩ (.loop ⟨[(1,(.pt 1 0)),(5,zi)],[(1,.var 146 [(zl 184)])]⟩ (.seq .leaf (.seq (.skip (.seq .leaf (.seq (.join ⟨[(1,(.pt 1 0)),(5,zi),(6,(.pt 6 0))],[(1,.var 146 [(zl 184)]),(6,.var 184 [zi,zt,zt,zi])]⟩ .leaf) (.seq (.join ⟨[(1,(.pt 1 0)),(5,zi),(6,(.pt 6 0)),(7,zo)],[(1,.var 146 [(zl 184)]),(6,.var 184 [zi,zt,zt,zi])]⟩ .leaf) (.seq (.join ⟨[(1,(.pt 1 0)),(5,zi),(100,zo)],[(1,.var 146 [(zl 184)])]⟩ .leaf) .leaf))))) .leaf))))) .leaf))))) [(58,some 68,cj),(58,some 87,cj),(59,some 33,eS),(168,some 14,iK)] (.cons cT (.cons cT (.cons fy (.cons l6 .nil)))) (by kernel_rfl) (by kernel_rfl) (by kernel_rfl) (fun xs=>by kernel_rfl)
def bm.d1 (G0:List C→Option (List C)) (a b c d:C):R:=(bif (decide (0≤b.I)) then (bif (decide (b.I<(a.L.length:Int))) then (bif (decide (d.I<((((a.L.getD b.I.toNat []).getD 0 .nil).L).length:Int))) then (bif (decide (0≤b.I)) then (bif (decide (b.I<(a.L.length:Int))) then (bif (decide (0≤d.I)) then (bif (decide (d.I<((((a.L.getD b.I.toNat []).getD 0 .nil).L).length:Int))) then (ad (G0 [a,(((((a.L.getD b.I.toNat []).getD 0 .nil).L).getD d.I.toNat []).getD 0 .nil)]) fun e=>(bif (decide ((w64 (e.I+1))>c.I)) then (some (.again [a,b,.i (w64 (e.I+1)),.i (w64 (d.I+1))])) else (some (.again [a,b,c,.i (w64 (d.I+1))])))) else none) else none) else none) else none) else (some (.brk 0 [c]))) else none) else none)
def bm.d2 (G0:List C→Option (List C)) (a:C):R:=(some (.ret [a]))
def bm.d3 (G0:List C→Option (List C)) (a b:C):R:=(ai 0 (lim (ap4 (bm.d1 G0)) [a,b,.i 0,.i 0]) (ap1 (bm.d2 G0)))
def bm.step (G0:List C→Option (List C)):List C→Option (List C):=fun xs=>aZ (ap2 (bm.d3 G0) xs)
def gZ (G:List C→Option (List C)):FS:=⟨2,⟨[(0,(.d (.sl 73))),(1,(.d (.int .i64)))],[]⟩,⟨[(0,(.d (.int .i64)))],[]⟩,[],G⟩
theorem BW {G0:List C→Option (List C)} (h0:aA Tryz.checked.prog T0 194 (gZ G0)):aA Tryz.checked.prog T0 194 (gZ (bm.step G0)):=bC aE (fn:=Tryz.f194) (c:=Tryz.f194.body.getD .skip) (gZ (bm.step G0)) (.seq .leaf (.seq .leaf (.seq (.seq .leaf (.block ⟨[(5,(.d (.int .i64)))],[]⟩ (.loop ⟨[(0,(.d (.sl 73))),(1,(.d (.int .i64))),(5,(.d (.int .i64))),(6,(.d (.int .i64)))],[]⟩ .leaf))) .leaf))) [(194,some 25,(gZ G0))] (.cons h0 .nil) (by kernel_rfl) (by kernel_rfl) (by kernel_rfl) (fun xs=>by kernel_rfl)
def bm.g:Nat→Nat→List C→Option (List C)
 |0,_=>fun _=>none
 |k+1,0=>bm.step (bm.g k 0)
 |_,_=>fun _=>none
theorem ss:∀k:Nat,aA Tryz.checked.prog T0 194 (gZ (bm.g k 0))
 |0=>jl (fn:=Tryz.f194) (c:=Tryz.f194.body.getD .skip) (2) (⟨[(0,(.d (.sl 73))),(1,(.d (.int .i64)))],[]⟩) (⟨[(0,(.d (.int .i64)))],[]⟩) [] (by kernel_rfl) (by kernel_rfl) (by kernel_rfl)
 |k+1=>BW (ss k)
def bm:List C→Option (List C):=bm.g ik 0
theorem Au:aA Tryz.checked.prog T0 194 (gZ bm):=ss ik
def fC.d1 (a:C):R:=(ad (aI [a]) fun b=>(bif (!b.B) then (some (.ret [.b false])) else (call2 (dP [a]) fun c d=>(ad (bm [.l d.L,.i (w64 ((a.L.length:Int)-1))]) fun e=>(some (.ret [.b (decide (e.I≤20))]))))))
def fC:List C→Option (List C):=fun xs=>aZ (ap1 fC.d1 xs)
def iX:FS:=⟨1,⟨[(0,(.ag [(zl 184)]))],[]⟩,⟨[(0,zo)],[]⟩,[],fC⟩
theorem oF:aA Tryz.checked.prog T0 167 iX:=bC aE (fn:=Tryz.f167) (c:=Tryz.f167.body.getD .skip) iX .leaf [(168,some 10,iK),(193,some 6,pC),(194,some 18,(gZ bm))] (.cons l6 (.cons AM (.cons Au .nil))) (by kernel_rfl) (by kernel_rfl) (by kernel_rfl) (fun xs=>by kernel_rfl)
def lT.d1 (a:C):R:=(bif (a.I==5) then (some (.ret [.i 1])) else (bif (a.I==4) then (some (.ret [.i 2])) else (some (.ret [.i 3]))))
def lT:List C→Option (List C):=fun xs=>aZ (ap1 lT.d1 xs)
def oT:FS:=⟨1,⟨[(0,zi)],[]⟩,⟨[(0,zi)],[]⟩,[],lT⟩
theorem Bm:aA Tryz.checked.prog T0 226 oT:=bC aE (fn:=Tryz.f226) (c:=Tryz.f226.body.getD .skip) oT .leaf [] .nil (by kernel_rfl) (by kernel_rfl) (by kernel_rfl) (fun xs=>by kernel_rfl)
def bg.d1 (G0:List C→Option (List C)) (a b c d e f:C):R:=(ad (lT [c]) fun g=>(bif (decide (g.I<a.I)) then (bif (decide ((bs #[40]).size+b.S.size≤4294967296)) then (bif (decide (((bs #[40])++b.S).size+(bs #[41]).size≤4294967296)) then (some (.ret [.s (((bs #[40])++b.S)++(bs #[41]))])) else none) else none) else (some (.ret [b]))))
def bg.d2 (G0:List C→Option (List C)) (a b c d:C):R:=(bif (decide (0≤c.I)) then (bif (decide (c.I<(a.L.length:Int))) then (bd (bif (((a.L.getD c.I.toNat []).getD 0 .nil).I==1) then (some (.nrm [d,((a.L.getD c.I.toNat []).getD 1 .nil),((a.L.getD c.I.toNat []).getD 0 .nil),((a.L.getD c.I.toNat []).getD 1 .nil),((a.L.getD c.I.toNat []).getD 2 .nil),((a.L.getD c.I.toNat []).getD 3 .nil)])) else (bif (((a.L.getD c.I.toNat []).getD 0 .nil).I==2) then (bif (decide ((((a.L.getD c.I.toNat []).getD 1 .nil).S).size+(bs #[61]).size≤4294967296)) then (bif (decide ((((a.L.getD c.I.toNat []).getD 1 .nil).S++(bs #[61])).size+(((a.L.getD c.I.toNat []).getD 2 .nil).S).size≤4294967296)) then (some (.nrm [d,.s ((((a.L.getD c.I.toNat []).getD 1 .nil).S++(bs #[61]))++((a.L.getD c.I.toNat []).getD 2 .nil).S),((a.L.getD c.I.toNat []).getD 0 .nil),((a.L.getD c.I.toNat []).getD 1 .nil),((a.L.getD c.I.toNat []).getD 2 .nil),((a.L.getD c.I.toNat []).getD 3 .nil)])) else none) else none) else (bif (((a.L.getD c.I.toNat []).getD 0 .nil).I==3) then (bif (decide (0≤c.I)) then (bif (decide (c.I<(b.L.length:Int))) then (bif (decide (0<((((b.L.getD c.I.toNat []).getD 0 .nil).L).length:Int))) then (ad (G0 [a,b,(((((b.L.getD c.I.toNat []).getD 0 .nil).L).getD 0 []).getD 0 .nil),.i 3]) fun e=>(bif (decide ((bs #[33]).size+e.S.size≤4294967296)) then (some (.nrm [d,.s ((bs #[33])++e.S),((a.L.getD c.I.toNat []).getD 0 .nil),((a.L.getD c.I.toNat []).getD 1 .nil),((a.L.getD c.I.toNat []).getD 2 .nil),((a.L.getD c.I.toNat []).getD 3 .nil)])) else none)) else none) else none) else none) else (bif (((a.L.getD c.I.toNat []).getD 0 .nil).I==4) then (bif (decide (0≤c.I)) then (bif (decide (c.I<(b.L.length:Int))) then (bif (decide (0<((((b.L.getD c.I.toNat []).getD 0 .nil).L).length:Int))) then (ad (G0 [a,b,(((((b.L.getD c.I.toNat []).getD 0 .nil).L).getD 0 []).getD 0 .nil),.i 2]) fun f=>(bif (decide (f.S.size+(bs #[32,38,32]).size≤4294967296)) then (bif (decide (0≤c.I)) then (bif (decide (c.I<(b.L.length:Int))) then (bif (decide (1<((((b.L.getD c.I.toNat []).getD 0 .nil).L).length:Int))) then (ad (G0 [a,b,(((((b.L.getD c.I.toNat []).getD 0 .nil).L).getD 1 []).getD 0 .nil),.i 3]) fun g=>(bif (decide ((f.S++(bs #[32,38,32])).size+g.S.size≤4294967296)) then (some (.nrm [d,.s ((f.S++(bs #[32,38,32]))++g.S),((a.L.getD c.I.toNat []).getD 0 .nil),((a.L.getD c.I.toNat []).getD 1 .nil),((a.L.getD c.I.toNat []).getD 2 .nil),((a.L.getD c.I.toNat []).getD 3 .nil)])) else none)) else none) else none) else none) else none)) else none) else none) else none) else (bif (((a.L.getD c.I.toNat []).getD 0 .nil).I==5) then (bif (decide (0≤c.I)) then (bif (decide (c.I<(b.L.length:Int))) then (bif (decide (0<((((b.L.getD c.I.toNat []).getD 0 .nil).L).length:Int))) then (ad (G0 [a,b,(((((b.L.getD c.I.toNat []).getD 0 .nil).L).getD 0 []).getD 0 .nil),.i 1]) fun h=>(bif (decide (h.S.size+(bs #[32,124,32]).size≤4294967296)) then (bif (decide (0≤c.I)) then (bif (decide (c.I<(b.L.length:Int))) then (bif (decide (1<((((b.L.getD c.I.toNat []).getD 0 .nil).L).length:Int))) then (ad (G0 [a,b,(((((b.L.getD c.I.toNat []).getD 0 .nil).L).getD 1 []).getD 0 .nil),.i 2]) fun i=>(bif (decide ((h.S++(bs #[32,124,32])).size+i.S.size≤4294967296)) then (some (.nrm [d,.s ((h.S++(bs #[32,124,32]))++i.S),((a.L.getD c.I.toNat []).getD 0 .nil),((a.L.getD c.I.toNat []).getD 1 .nil),((a.L.getD c.I.toNat []).getD 2 .nil),((a.L.getD c.I.toNat []).getD 3 .nil)])) else none)) else none) else none) else none) else none)) else none) else none) else none) else (some (.nrm [d,.s (bs #[]),((a.L.getD c.I.toNat []).getD 0 .nil),((a.L.getD c.I.toNat []).getD 1 .nil),((a.L.getD c.I.toNat []).getD 2 .nil),((a.L.getD c.I.toNat []).getD 3 .nil)]))))))) (ap6 (bg.d1 G0))) else none) else none)
def bg.step (G0:List C→Option (List C)):List C→Option (List C):=fun xs=>aZ (ap4 (bg.d2 G0) xs)
def ed (G:List C→Option (List C)):FS:=⟨4,⟨[(0,(.ag [(.d (.sl 184))])),(1,(.d (.sl 73))),(2,(.d (.int .i64))),(3,(.d (.int .i64)))],[]⟩,⟨[(0,(.d .str))],[]⟩,[],G⟩
theorem y7 {G0:List C→Option (List C)} (h0:aA Tryz.checked.prog T0 211 (ed G0)):aA Tryz.checked.prog T0 211 (ed (bg.step G0)):=bC aE (fn:=Tryz.f211) (c:=Tryz.f211.body.getD .skip) (ed (bg.step G0)) (.seq .leaf (.seq .leaf (.seq .leaf (.seq (.join ⟨[(3,(.d (.int .i64))),(9,(.pt 9 0)),(10,(.d .str))],[(9,.var 184 [(.d (.int .i64)),(.d .str),(.d .str),(.d (.int .i64))])]⟩ .leaf) .leaf)))) [(211,some 40,(ed G0)),(211,some 52,(ed G0)),(211,some 62,(ed G0)),(211,some 74,(ed G0)),(211,some 84,(ed G0)),(226,some 88,oT)] (.cons h0 (.cons h0 (.cons h0 (.cons h0 (.cons h0 (.cons Bm .nil)))))) (by kernel_rfl) (by kernel_rfl) (by kernel_rfl) (fun xs=>by kernel_rfl)
def bg.g:Nat→Nat→List C→Option (List C)
 |0,_=>fun _=>none
 |k+1,0=>bg.step (bg.g k 0)
 |_,_=>fun _=>none
theorem qL:∀k:Nat,aA Tryz.checked.prog T0 211 (ed (bg.g k 0))
 |0=>jl (fn:=Tryz.f211) (c:=Tryz.f211.body.getD .skip) (4) (⟨[(0,(.ag [(.d (.sl 184))])),(1,(.d (.sl 73))),(2,(.d (.int .i64))),(3,(.d (.int .i64)))],[]⟩) (⟨[(0,(.d .str))],[]⟩) [] (by kernel_rfl) (by kernel_rfl) (by kernel_rfl)
 |k+1=>y7 (qL k)
def bg:List C→Option (List C):=bg.g ik 0
theorem zY:aA Tryz.checked.prog T0 211 (ed bg):=qL ik
def gx.d1 (a:C):R:=(ad (fC [a]) fun b=>(bif (!b.B) then (some (.ret [.s (bs #[])])) else (call2 (dP [a]) fun c d=>(ad (bg [a,.l d.L,.i (w64 ((a.L.length:Int)-1)),.i 1]) fun e=>(bif (decide ((e.S.size:Int)>200)) then (some (.ret [.s (bs #[])])) else (some (.ret [e])))))))
def gx:List C→Option (List C):=fun xs=>aZ (ap1 gx.d1 xs)
def kK:FS:=⟨1,⟨[(0,(.ag [(zl 184)]))],[]⟩,⟨[(0,zt)],[]⟩,[],gx⟩
theorem uZ:aA Tryz.checked.prog T0 188 kK:=bC aE (fn:=Tryz.f188) (c:=Tryz.f188.body.getD .skip) kK .leaf [(167,some 7,iX),(168,some 11,iK),(211,some 20,(ed bg))] (.cons oF (.cons l6 (.cons zY .nil))) (by kernel_rfl) (by kernel_rfl) (by kernel_rfl) (fun xs=>by kernel_rfl)
def eL.d1 (a b:C):R:=(call3 (ae [.i 2,a,b]) fun c d e=>(bif (c.I==0) then (some (.ret [.s (bs #[]),d,e])) else (call3 (ae [.i 3,d,e]) fun f g h=>(bif (f.I==0) then (call3 (ae [.i 6,g,h]) fun i j k=>(bif (decide (0≤i.I)) then (bif (decide (i.I<((rows [[.s (bs #[122,111,110,101,61,101,97,115,116])],[.s (bs #[33,111,108,100])],[.s (bs #[115,115,100])],[.s (bs #[122,111,110,101,61,101,97,115,116,32,124,32,122,111,110,101,61,119,101,115,116])],[.s (bs #[33,122,111,110,101,61,110,111,114,116,104])],[.s (bs #[99,111,108,111,114,61,114,101,100,32,124,32,103,112,117])]]).length:Int))) then (some (.ret [(((rows [[.s (bs #[122,111,110,101,61,101,97,115,116])],[.s (bs #[33,111,108,100])],[.s (bs #[115,115,100])],[.s (bs #[122,111,110,101,61,101,97,115,116,32,124,32,122,111,110,101,61,119,101,115,116])],[.s (bs #[33,122,111,110,101,61,110,111,114,116,104])],[.s (bs #[99,111,108,111,114,61,114,101,100,32,124,32,103,112,117])]]).getD i.I.toNat []).getD 0 .nil),j,k])) else none) else none)) else (call3 (dU [.i 2,g,h]) fun l m n=>(ad (gx [.l n.L]) fun o=>(some (.ret [o,l,m]))))))))
def eL:List C→Option (List C):=fun xs=>aZ (ap2 eL.d1 xs)
def gO:FS:=⟨1,⟨[(0,(.pt 2000 0))],[(2000,z5)]⟩,⟨[(0,zt)],[(2000,z5)]⟩,[2000],eL⟩
theorem mn:aA Tryz.checked.prog T0 164 gO:=bC aE (fn:=Tryz.f164) (c:=Tryz.f164.body.getD .skip) gO .leaf [(76,some 4,aa),(76,some 7,aa),(76,some 11,aa),(188,some 17,kK),(189,some 15,(eP dU))] (.cons ab (.cons ab (.cons ab (.cons uZ (.cons Ba .nil))))) (by kernel_rfl) (by kernel_rfl) (by kernel_rfl) (fun xs=>by kernel_rfl)
def ca.d1 (a b c d e f g h i j k l m n o p q r s t u v w x y z a0 a1:C):R:=(bif (decide (b.I>0)) then (call3 (eL [c,d]) fun a2 a3 a4=>(call3 (ae [.i 19,a3,a4]) fun a5 a6 a7=>(bif (decide (a1.L.length+(rows [[a2,.i (w64 (a5.I-9))]]).length≤4294967296)) then (some (.again [a,.i (w64 (b.I-1)),a6,a7,e,f,g,h,i,j,k,l,m,n,o,p,q,r,s,t,u,v,w,x,y,z,.l a0.L,.l (a1.L++(rows [[a2,.i (w64 (a5.I-9))]]))])) else none))) else (some (.brk 0 [a,c,d,e,f,g,h,i,j,k,l,m,n,o,p,q,r,s,t,u,v,w,x,y,z,.l a0.L,.l a1.L])))
def ca.d2 (a b c d e f g h i j k l m n o p q r s t u v w x y z a0:C):R:=(call3 (ae [.i 8,b,c]) fun a1 a2 a3=>(bif (a1.I==0) then (some (.ret [o,p,q,r,s,t,u,.l a0.L,.i 1,w,x,y,a2,a3])) else (bif (a1.I==1) then (some (.ret [o,p,q,r,s,t,u,.l a0.L,.i 2,w,x,y,a2,a3])) else (bif (a1.I==2) then (call3 (ae [.i 4,a2,a3]) fun a4 a5 a6=>(bif (decide (0≤a4.I)) then (bif (decide (a4.I<((rows [[.s (bs #[119,101,98])],[.s (bs #[100,98])],[.s (bs #[103,111,110,101])],[a]]).length:Int))) then (some (.ret [o,p,q,r,s,t,u,.l a0.L,v,(((rows [[.s (bs #[119,101,98])],[.s (bs #[100,98])],[.s (bs #[103,111,110,101])],[a]]).getD a4.I.toNat []).getD 0 .nil),x,y,a5,a6])) else none) else none)) else (bif (a1.I==3) then (call3 (ae [.i 3,a2,a3]) fun a7 a8 a9=>(bif (a7.I==0) then (call3 (ae [.i 4,a8,a9]) fun b0 b1 b2=>(ad (dL [b0]) fun b3=>(bif (decide ((bs #[98]).size+b3.S.size≤4294967296)) then (some (.ret [o,p,q,r,s,t,u,.l a0.L,v,w,.s ((bs #[98])++b3.S),y,b1,b2])) else none))) else (some (.ret [o,p,q,r,s,t,u,.l a0.L,v,w,x,y,a8,a9])))) else (some (.ret [o,p,q,r,s,t,u,.l a0.L,v,w,x,y,a2,a3])))))))
def ca.d3 (a b c:C):R:=(call3 (ae [.i 4,b,c]) fun d e f=>(bif (decide (0≤d.I)) then (bif (decide (d.I<((rows [[.s (bs #[119,101,98])],[.s (bs #[100,98])],[.s (bs #[106,111,98])],[.s (bs #[99,97,99,104,101])]]).length:Int))) then (bif (decide (((((rows [[.s (bs #[119,101,98])],[.s (bs #[100,98])],[.s (bs #[106,111,98])],[.s (bs #[99,97,99,104,101])]]).getD d.I.toNat []).getD 0 .nil).S).size+(bs #[45]).size≤4294967296)) then (ad (dL [a]) fun g=>(bif (decide (((((rows [[.s (bs #[119,101,98])],[.s (bs #[100,98])],[.s (bs #[106,111,98])],[.s (bs #[99,97,99,104,101])]]).getD d.I.toNat []).getD 0 .nil).S++(bs #[45])).size+g.S.size≤4294967296)) then (call3 (ae [.i 6,e,f]) fun h i j=>(bif (decide (0≤h.I)) then (bif (decide (h.I<((rows [[.i 1],[.i 1],[.i 5],[.i 5],[.i 9],[.i 50]]).length:Int))) then (call3 (ae [.i 30,i,j]) fun k l m=>(call3 (ae [.i 7,l,m]) fun n o p=>(call3 (ae [.i 8,o,p]) fun q r s=>(call3 (eL [r,s]) fun t u v=>(call3 (ae [.i 5,u,v]) fun w x y=>(ai 0 (lim (HC ca.d1) [(((rows [[.s (bs #[119,101,98])],[.s (bs #[100,98])],[.s (bs #[106,111,98])],[.s (bs #[99,97,99,104,101])]]).getD d.I.toNat []).getD 0 .nil),.i (w64 (w.I-2)),x,y,.s (bs #[]),.s (bs #[]),.i 0,.i 0,.i 0,.i 0,.s (bs #[]),.i 0,.s (bs #[]),.s (bs #[]),.s (bs #[]),.s (((((rows [[.s (bs #[119,101,98])],[.s (bs #[100,98])],[.s (bs #[106,111,98])],[.s (bs #[99,97,99,104,101])]]).getD d.I.toNat []).getD 0 .nil).S++(bs #[45]))++g.S),(((rows [[.s (bs #[119,101,98])],[.s (bs #[100,98])],[.s (bs #[106,111,98])],[.s (bs #[99,97,99,104,101])]]).getD d.I.toNat []).getD 0 .nil),(((rows [[.i 1],[.i 1],[.i 5],[.i 5],[.i 9],[.i 50]]).getD h.I.toNat []).getD 0 .nil),k,.i (w64 (1+n.I)),q,t,.i 0,.s (bs #[]),.s (bs #[]),.s (bs #[]),.l ao,.l ao]) (Fp ca.d2))))))) else none) else none)) else none)) else none) else none) else none))
def ca:List C→Option (List C):=fun xs=>aZ (ap3 ca.d3 xs)
def kL:FS:=⟨2,⟨[(0,(.pt 2000 0)),(1,zi)],[(2000,z5)]⟩,⟨[(0,z3)],[(2000,z5)]⟩,[2000],ca⟩
theorem uO:aA Tryz.checked.prog T0 133 kL:=bC aE (fn:=Tryz.f133) (c:=Tryz.f133.body.getD .skip) kL (.seq .leaf (.seq .leaf (.seq .leaf (.seq (.seq .leaf (.block ⟨[(0,(.pt 2000 0)),(4,(.pt 4 0)),(5,zt),(6,(.pt 6 0))],[(2000,z5),(4,.var 45 [zt,zt,zi,zi,zi,zi,zt,(.ow 1034200),zi,zt,zt,zt]),(6,.var 45 [zt,zt,zi,zi,zi,zi,zt,(.ow 1034201),zi,zt,zt,zt]),(1034200,.arr 109 1),(1034201,.arr 109 1)]⟩ (.loop ⟨[(0,(.pt 2000 0)),(4,(.pt 4 0)),(5,zt),(6,(.pt 6 0)),(7,zi)],[(2000,z5),(4,.var 45 [zt,zt,zi,zi,zi,zi,zt,(.ow 1034200),zi,zt,zt,zt]),(6,.var 45 [zt,zt,zi,zi,zi,zi,zt,(.ow 1034201),zi,zt,zt,zt]),(1034200,.arr 109 1),(1034201,.arr 109 1)]⟩ .leaf))) (.seq .leaf (.seq .leaf (.frz [1034201] .leaf))))))) [(76,some 10,aa),(76,some 21,aa),(76,some 25,aa),(76,some 27,aa),(76,some 30,aa),(76,some 35,aa),(76,some 46,aa),(76,some 53,aa),(76,some 65,aa),(76,some 72,aa),(76,some 75,aa),(131,some 16,(ff dL)),(131,some 76,(ff dL)),(164,some 32,gO),(164,some 44,gO)] (.cons ab (.cons ab (.cons ab (.cons ab (.cons ab (.cons ab (.cons ab (.cons ab (.cons ab (.cons ab (.cons ab (.cons nN (.cons nN (.cons mn (.cons mn .nil))))))))))))))) (by kernel_rfl) (by kernel_rfl) (by kernel_rfl) (fun xs=>by kernel_rfl)
end
end Go.Ev
