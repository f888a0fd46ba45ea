/- Proved here: the law FnPilotHarmCard of the given program answers true at every input, and leaves the input as it was; no condition. This text: lemmas on the way (an evaluator of the program's code, sound once for all; the functions it prints; plain proofs on these). -/
import Derived.Test.YtephnkjnbnjicaaGreatDoorP1
import Derived.LoopN
import Derived.ScopeJumps
import Derived.ChangeArms
import Derived.WalkKit
import Derived.ProofKit
import Derived.OpenShut
import Derived.ShutString
import Derived.ChangeOld
import Derived.Below
import Derived.SizedLaws
import Derived.Test.YtephnkjnbnjicaaGreatDoorChecked
import Derived.Lib.Strings
import Derived.Lib.Slices
import Derived.Lib.Walk
import Derived.Lib.Bytealg
import Derived.Sort.Grow
import Derived.Sort.Row
import Derived.Shelf.SlSortCmp.InsertionK
import Derived.Deep.Draws
import Derived.Lib.SliceRun
import Derived.Lib.JoinLaws
import Derived.Lib.AppendZerosOnto
import Derived.Lib.Overlaps
import Derived.Laws.Externs
import Derived.Laws.IdiomCopy
import Derived.Laws.CopyRow
import Derived.Shelf.RegionOpenPlain
import Derived.Shelf.Lays
import Derived.Shelf.Sort.Plain
import Derived.Shelf.Slices.In.SortNone
set_option linter.all false
set_option autoImplicit false
namespace Go.Ev
theorem lH {ρ ρ':cu}:∀ {l:List Operand},(∀x,x∈l->bX ρ x=bX ρ' x)->jh ρ l=jh ρ' l
 |[],_=>rfl
 |x::r,h=>by
  show bX ρ x::jh ρ r=bX ρ' x::jh ρ' r
  rw[h x (Mz ..),lH fun y hy=>h y (MF _ hy)]
theorem xh {T:Tys} {fs:List (Nat×TypeId)} {ρ ρ':cu}:∀ {ps:List (Nat×Operand)} {cs:List V},(∀x,x∈ps.map (·.2)->bX ρ x=bX ρ' x)->w9 T fs ρ ps cs=w9 T fs ρ' ps cs
 |[],cs,_=>rfl
 |(i,x)::r,cs,h=>by
  have e:=h x (by simp)
  simp only[w9,e]
  split
  ·split
   ·rw[xh fun y hy=>h y (by simp at hy⊢;exact .inr hy)]
   ·rfl
  ·rfl
theorem xa {ρ ρ':cu}:∀ {ps:List (Nat×Operand)},(∀x,x∈ps.map (·.2)->bX ρ x=bX ρ' x)->xd ρ ps=xd ρ' ps
 |[],h=>rfl
 |(i,x)::r,h=>by
  simp only[xd]
  rw[h x (by simp),xa fun y hy=>h y (by simp at hy⊢;exact .inr hy)]
theorem En (K:List KE) {ρ ρ':cu} {x:Operand} (h:bX ρ x=bX ρ' x):bX (uJ K ρ) x=bX (uJ K ρ') x:=by
 cases x with
 |tmp d=>
  show uJ K ρ d=uJ K ρ' d
  rw[r9,r9]
  exact congrArg _ h
 |const v=>rfl
 |func f=>rfl
 |global g=>rfl
theorem w6 {cts:List CT} {ρ ρ':cu}:∀ {ps:List (Nat×Operand)} {es:List (List C)},(∀x,x∈ps.map (·.2)->bX ρ x=bX ρ' x)->sM cts ρ ps es=sM cts ρ' ps es
 |[],es,_=>rfl
 |(i,x)::r,es,h=>by
  have e:=h x (by simp)
  simp only[sM,e]
  split
  ·rw[w6 fun y hy=>h y (by simp at hy⊢;exact .inr hy)]
  ·rfl
theorem Cv (X:Cx) (dst:Option Tmp) {ρ ρ':cu} (op:Op) (h:∀x,x∈op.operands.toList->bX ρ x=bX ρ' x):evalOp X dst ρ op=evalOp X dst ρ' op:=by
 cases op with
 |pick c a b=>
  simp only[Op.operands] at h
  simp only[evalOp]
  rw[h c (by simp),h a (by simp),h b (by simp)]
 |build t ps=>
  simp only[Op.operands] at h
  simp only[evalOp,wD]
  congr 1;funext d
  split
  ·congr 1;funext _
   rw[xh fun x hx=>h x (by simpa using hx)]
  ·rfl
 |buildSlice t n ps=>
  simp only[Op.operands] at h
  simp only[evalOp,j6]
  congr 1;funext d
  congr 1;funext d
  rw[xa fun x hx=>h x (by simpa using hx)]
  congr 1;funext q
  congr 1;funext K
  rw[w6 fun x hx=>En K (h x (by simpa using hx))]
 |makeFunc fn first caps=>
  simp only[Op.operands] at h
  cases fn with
  |func f=>
   simp only[evalOp]
   rw[lH fun x hx=>h x (by simp at hx⊢;exact .inr hx)]
  |_=>rfl
 |slice t x lo hi mx=>
  simp only[Op.operands] at h
  simp only[evalOp]
  have e1:=h x (by simp)
  have e2:zh ρ lo=zh ρ' lo:=by
   cases lo with
   |none=>rfl
   |some y=>show some _=some _;rw[h y (by simp)]
  have e3:zh ρ hi=zh ρ' hi:=by
   cases hi with
   |none=>rfl
   |some y=>show some _=some _;rw[h y (by simp)]
  rw[e1,e2,e3]
 |call c=>
  obtain ⟨callee,args,argTypes⟩:=c
  simp only[Op.operands,Call.operands] at h
  cases callee with
  |value f=>
   simp only[evalOp,lE]
   rw[h f (by simp),lH (l:=args.toList) fun x hx=>h x (by simp at hx⊢;exact .inr hx)]
  |invoke _ _=>rfl
  |builtin b=>
   have ha:∀x,x∈args.toList->bX ρ x=bX ρ' x:=fun x hx=>h x (by simpa using hx)
   simp only[evalOp,lE]
   cases b with
   |len=>
    simp only
    rcases hx:args.toList with _|⟨x,_|⟨y,l⟩⟩
    ·rfl
    ·have e1:=ha x (by simp[hx])
     rcases argTypes.toList with _|⟨t,_|⟨t',l'⟩⟩
     ·rfl
     ·show E6 X.T t (bX ρ x)=E6 X.T t (bX ρ' x)
      rw[e1]
     ·rfl
    ·rfl
   |clear=>
    simp only
    rcases hx:args.toList with _|⟨x,_|⟨y,l⟩⟩
    ·rfl
    ·have e1:=ha x (by simp[hx])
     rcases argTypes.toList with _|⟨t,_|⟨t',l'⟩⟩
     ·rfl
     ·show wO X.T t (bX ρ x)=wO X.T t (bX ρ' x)
      rw[e1]
     ·rfl
    ·rfl
   |append=>
    simp only
    rcases hx:args.toList with _|⟨x,_|⟨y,_|⟨z,l⟩⟩⟩
    ·rfl
    ·rfl
    ·have e1:=ha x (by simp[hx])
     have e2:=ha y (by simp[hx])
     rcases argTypes.toList with _|⟨t,_|⟨t',_|⟨t'',l'⟩⟩⟩
     ·rfl
     ·rfl
     ·show (do bd (Nat.beq t t');EL X t (mO dst) (bX ρ x) (bX ρ y):M Eff)=(do bd (Nat.beq t t');EL X t (mO dst) (bX ρ' x) (bX ρ' y):M Eff)
      rw[e1,e2]
     ·rfl
    ·rfl
   |min=>simp only;rw[lH ha]
   |max=>simp only;rw[lH ha]
   |_=>rfl
 |unOp op t x=>
  simp only[Op.operands] at h
  simp only[evalOp]
  rw[h x (by simp)]
 |extract x i=>
  simp only[Op.operands] at h
  simp only[evalOp]
  rw[h x (by simp)]
 |alloc t=>rfl
 |box t x=>simp only[Op.operands] at h;simp only[evalOp];rw[h x (by simp)]
 |move x=>simp only[Op.operands] at h;simp only[evalOp];rw[h x (by simp)]
 |assign x=>simp only[Op.operands] at h;simp only[evalOp];rw[h x (by simp)]
 |load t x=>simp only[Op.operands] at h;simp only[evalOp];rw[h x (by simp)]
 |store t x y=>simp only[Op.operands] at h;simp only[evalOp];rw[h x (by simp),h y (by simp)]
 |nilCheck x=>simp only[Op.operands] at h;simp only[evalOp];rw[h x (by simp)]
 |binOp op t x y e=>simp only[Op.operands] at h;simp only[evalOp];rw[h x (by simp),h y (by simp)]
 |convert s d x=>simp only[Op.operands] at h;simp only[evalOp];rw[h x (by simp)]
 |makeSlice t x y=>simp only[Op.operands] at h;simp only[evalOp];rw[h x (by simp),h y (by simp)]
 |fieldAddr s x f=>simp only[Op.operands] at h;simp only[evalOp];rw[h x (by simp)]
 |field s x f=>simp only[Op.operands] at h;simp only[evalOp];rw[h x (by simp)]
 |indexAddr t x y=>simp only[Op.operands] at h;simp only[evalOp];rw[h x (by simp),h y (by simp)]
 |index t x y=>simp only[Op.operands] at h;simp only[evalOp];rw[h x (by simp),h y (by simp)]
 |makeMap t c=>cases c<;>rfl
 |lookup t x y ok=>simp only[Op.operands] at h;simp only[evalOp];rw[h x (by simp),h y (by simp)]
 |mapUpdate t x y z=>simp only[Op.operands] at h;simp only[evalOp];rw[h x (by simp),h y (by simp),h z (by simp)]
 |_=>rfl
theorem Ch (X:Cx) (dst:Option Tmp) (ρ:cu) (c:Call):Loc (lE X dst ρ c):=by
 unfold lE
 split
 ·split
  ·exact J1 _ _ _
  ·exact Loc.fail
 ·split
  ·exact Loc.bind (Loc.bd _) fun _=>Jz _ _ _ _ _
  ·exact Loc.fail
 ·split
  ·unfold wO
   refine Loc.bind (Loc.opt _) fun _=>Loc.bind (Loc.opt _) fun _=>?_
   split
   ·refine Loc.bind (Loc.bR _) fun _=>?_
    split
    ·exact Loc.bind (Loc.bd _) fun _=>Loc.ret _
    ·exact Loc.fail
   ·exact Loc.fail
  ·exact Loc.fail
 ·split
  ·exact Ff _ _ _
  ·exact Loc.fail
 ·split
  ·exact Ff _ _ _
  ·exact Loc.fail
 ·split
  ·exact Loc.bind (Loc.opt _) fun _=>GG _ _ _ _ _
  ·exact Loc.fail
 ·exact Loc.fail
theorem yF (X:Cx) (dst:Option Tmp) (ρ:cu) (op:Op):Loc (evalOp X dst ρ op):=by
 cases op with
 |pick c a b=>
  simp only[evalOp]
  split
  ·exact H0 _ _ _
  ·exact Loc.fail
 |build t ps=>exact Hl _ _ _ _
 |buildSlice t n ps=>exact zN _ _ _ _ _ _
 |load t x=>exact Loc.bind (Bq _ _) fun _=>KU _ _ _
 |store t x y=>exact J0 _ _ _ _
 |nilCheck x=>exact BT _ _
 |binOp op t x y e=>
  simp only[evalOp]
  unfold HP
  split
  ·unfold JK
   refine Loc.bind (Loc.bd _) fun _=>Loc.bind (Loc.opt _) fun _=>Loc.bind (Loc.opt _) fun _=>?_
   split
   ·exact Loc.rv _
   ·exact Loc.rv _
   ·exact Loc.fail
  ·exact JR _ _ _ _ _
 |unOp op t x=>simp only[evalOp];repeat (first|exact Loc.rv _|exact Loc.ret _|exact Loc.fail|exact Loc.opt _|exact Loc.chk _|exact Loc.bd _|exact Loc.bR _|exact Loc.dq _|exact Loc.pure _|refine Loc.bind ?_ (fun _=>?_)|split)
 |convert s d x=>exact Hr _ _ _ _
 |makeFunc fn first caps=>cases fn<;>first|exact Loc.fail|exact Loc.bind (Loc.bd _) fun _=>Loc.rv _
 |makeSlice t x y=>exact Hs _ _ _ _ _
 |slice t x lo hi mx=>exact Loc.bind (Loc.bd _) fun _=>GR _ _ _ _ _
 |fieldAddr s x f=>exact Loc.bind (Bq _ _) fun _=>Ap _ _ _ _
 |field s x f=>exact GU _ _ _ _
 |indexAddr t x y=>exact Ai _ _ _ _
 |index t x y=>exact Hg _ _ _ _
 |makeMap t c=>
  cases c with
  |some c=>exact Loc.fail
  |none=>exact Loc.bind (Loc.opt _) fun _=>Loc.bind (Loc.opt _) fun _=>Loc.bind (Loc.opt _) fun _=>Loc.bind (Loc.dq _) fun _=>Loc.ret _
 |lookup t x y ok=>
  simp only[evalOp]
  unfold xL
  split
  ·refine Loc.bind (Loc.opt _) fun _=>Loc.bind (Loc.opt _) fun _=>Loc.bind (Loc.opt _) fun _=>Loc.bind (Loc.bR _) fun _=>?_
   split
   ·exact Loc.bind (Loc.bd _) fun _=>Loc.rv _
   ·exact Loc.fail
  ·exact Loc.fail
 |mapUpdate t x y z=>
  simp only[evalOp]
  unfold qd
  split
  ·refine Loc.bind (Loc.opt _) fun _=>Loc.bind (Loc.opt _) fun _=>Loc.bind (Loc.opt _) fun _=>Loc.bind (Loc.bR _) fun _=>?_
   split
   ·exact Loc.bind (Loc.bd _) fun _=>Loc.ret _
   ·exact Loc.fail
  ·exact Loc.fail
 |extract x i=>
  simp only[evalOp]
  split
  ·exact Loc.bind (Loc.opt _) fun _=>Loc.rv _
  ·exact Loc.fail
 |call c=>exact Ch _ _ _ _
 |alloc t=>exact Loc.bind (Loc.opt _) fun _=>Loc.bind (Loc.dq _) fun _=>Loc.ret _
 |box t x=>exact Loc.bind (Loc.opt _) fun _=>Loc.bind (Loc.dq _) fun _=>Loc.bind (Loc.bd _) fun _=>Loc.bind (Loc.bd _) fun _=>Loc.ret _
 |move x=>exact Loc.rv _
 |assign x=>exact Loc.rv _
 |_=>exact Loc.fail
end Go.Ev
namespace Go.Ev
inductive oX (X:Cx) (ops:List Oper) (o:Oper) (σ:St) (v:V) (up:List (Nat×Box)) (lg:Lg):Prop
 |plain (e:Eff) (rd:List Nat) (hg:guardOf ops o=none) (h:∀k,evalOp X o.dst σ.sl o.op σ.bx k=k e rd) (hv:v=oP e.v) (hu:up=e.up) (hl:lg=⟨rd,bZ e.up⟩)
 |yes (gd:Nat) (want:Bool) (e:Eff) (rd:List Nat) (hg:guardOf ops o=some (some gd,want)) (hs:σ.sl gd=.c .bool (.b want)) (h:∀k,evalOp X o.dst σ.sl o.op σ.bx k=k e rd) (hv:v=oP e.v) (hu:up=e.up) (hl:lg=⟨rd,bZ e.up⟩)
 |no (gd:Nat) (want:Bool) (hg:guardOf ops o=some (some gd,want)) (hs:σ.sl gd=.c .bool (.b (!want))∨σ.sl gd=.ud) (hv:v=.ud) (hu:up=[]) (hl:lg=⟨[],[]⟩)
def St.step (σ:St) (o:Oper) (v:V) (up:List (Nat×Box)):St:=⟨uC σ.sl o.dst v,dL σ.bx up⟩
theorem zC {X:Cx} {dst:Option Tmp} {ρ:cu} {op:Op} {bx:Bxs} {k:Eff->List Nat->R} {r:Out} (h:evalOp X dst ρ op bx k=some r):
  ∃e rd,k e rd=some r/\∀k',evalOp X dst ρ op bx k'=k' e rd:=by
 obtain ⟨e,rd,h1,h2⟩:=yF X dst ρ op bx k r h
 exact ⟨e,rd,h1,fun k'=>h2 bx (fun _ _=>rfl) k'⟩
theorem oX.wr {X:Cx} {ops:List Oper} {o:Oper} {σ:St} {v:V} {up:List (Nat×Box)} {lg:Lg} (h:oX X ops o σ v up lg):lg.wr=bZ up:=by
 cases h with
 |plain e rd hg h hv hu hl=>rw[hl,hu]
 |yes gd want e rd hg hs h hv hu hl=>rw[hl,hu]
 |no gd want hg hs hv hu hl=>rw[hl,hu];rfl
theorem Cw {l:List Operand} {t:Nat} (h:Operand.tmp t∈l):t∈rU l:=by
 induction l with
 |nil=>simp at h
 |cons x r ih=>
  cases h with
  |head=>exact Mz ..
  |tail _ h=>
   have:=ih h
   cases x<;>simp only[rU]<;>first|exact MF _ this|exact this
theorem oX.at {X:Cx} {ops:List Oper} {o:Oper} {σ σ2:St} {v:V} {up:List (Nat×Box)} {lg:Lg} (h:oX X ops o σ v up lg) (hs:∀d,d∈looks ops o->σ2.sl d=σ.sl d) (hb:∀b,b∈lg.rd->σ2.bx b=σ.bx b):
  oX X ops o σ2 v up lg:=by
 have hev:∀(e:Eff) (rd:List Nat),lg=⟨rd,bZ e.up⟩->(∀k,evalOp X o.dst σ.sl o.op σ.bx k=k e rd)->∀k,evalOp X o.dst σ2.sl o.op σ2.bx k=k e rd:=by
  intro e rd hl h k
  have hc:evalOp X o.dst σ2.sl o.op=evalOp X o.dst σ.sl o.op:=Cv X o.dst o.op fun x hx=>by
   cases x with
   |tmp t=>exact hs t (by unfold looks;rw[fP];exact List.mem_append_left _ (Cw hx))
   |_=>rfl
  rw[hc]
  have h1:=h fun e' rd'=>some (.ret [])
  obtain ⟨e2,rd2,g1,g2⟩:=yF X o.dst σ.sl o.op σ.bx _ _ h1
  have h3:∀k:Eff->List Nat->R,k e rd=k e2 rd2:=fun k=>by rw[←h k,g2 σ.bx (fun _ _=>rfl) k]
  have hbx:∀b,b∈rd2->σ2.bx b=σ.bx b:=by
   have key:rd=rd2:=by
    open Classical in
    have:=h3 fun _ l=>if l=rd2 then some (.ret []) else none
    simp only[if_true] at this
    by_cases hh:rd=rd2
    ·exact hh
    ·rw[if_neg hh] at this;simp at this
   intro b hb'
   rw[←key] at hb'
   exact hb b (by rw[hl];exact hb')
  rw[g2 σ2.bx hbx k,h3 k]
 have hgd:∀gd want,guardOf ops o=some (some gd,want)->σ2.sl gd=σ.sl gd:=fun gd want hg=>hs gd (by unfold looks;rw[hg,fP];exact List.mem_append_right _ (Mz ..))
 cases h with
 |plain e rd hg h hv hu hl=>exact .plain e rd hg (hev e rd hl h) hv hu hl
 |yes gd want e rd hg hs' h hv hu hl=>exact .yes gd want e rd hg (by rw[hgd gd want hg];exact hs') (hev e rd hl h) hv hu hl
 |no gd want hg hs' hv hu hl=>exact .no gd want hg (by rw[hgd gd want hg];exact hs') hv hu hl
theorem rF {a b:List Nat} (h:meets a b=false):∀x,x∈a->¬x∈b:=by
 induction a with
 |nil=>intro x hx;simp at hx
 |cons y r ih=>
  simp only[meets,kN,Bool.or_eq_false_iff] at h
  intro x hx hb
  rcases Mw.1 hx with rfl|hx
  ·rw[(cN _ _).2 hb] at h;simp at h
  ·exact ih h.2 x hx hb
theorem CG {f:cu} {d:Option Tmp} {v:V} {k:Nat} (h:d≠some k):uC f d v k=f k:=by
 cases d with
 |none=>rfl
 |some d=>exact aY _ _ (fun e=>h (by rw[e]))
theorem G5 {f:cu} {d d':Option Tmp} {v v':V} (h:∀k,d=some k->d'≠some k):uC (uC f d v) d' v'=uC (uC f d' v') d v:=by
 funext k
 cases d with
 |none=>rfl
 |some d=>cases d' with
  |none=>rfl
  |some d'=>
   have hne:d≠d':=fun e=>h d rfl (by rw[e])
   show upd (upd f d v) d' v' k=upd (upd f d' v') d v k
   simp only[sj]
   split
   ·rename_i e;subst e;rw[if_neg (Ne.symm hne)]
   ·rfl
theorem D6:∀ {l:List (Nat×Box)} {f f':Bxs} {b:Nat},f b=f' b->dL f l b=dL f' l b
 |[],f,f',b,h=>h
 |(c,x)::r,f,f',b,h=>by
  show dL (upd f c (some x)) r b=dL (upd f' c (some x)) r b
  refine D6 ?_
  simp only[sj]
  split<;>first|rfl|exact h
theorem vH:∀ {l:List (Nat×Box)} {f f':Bxs} {b:Nat},b∈bZ l->dL f l b=dL f' l b
 |[],f,f',b,h=>by simp[bZ] at h
 |(c,x)::r,f,f',b,h=>by
  show dL (upd f c (some x)) r b=dL (upd f' c (some x)) r b
  by_cases hb:b∈bZ r
  ·exact vH hb
  ·have:b=c:=by
    simp only[bZ,Mw] at h
    exact h.resolve_right hb
   subst this
   exact D6 (by simp only[ar])
theorem GS {f:Bxs} {l m:List (Nat×Box)} (h:∀b,b∈bZ l->¬b∈bZ m):dL (dL f l) m=dL (dL f m) l:=by
 funext b
 by_cases h1:b∈bZ l
 ·rw[ia (h b h1)]
  exact vH h1
 ·by_cases h2:b∈bZ m
  ·rw[ia (l:=l) h1]
   exact vH h2
  ·rw[ia h2,ia h1,ia h1,ia h2]
theorem D7 {ops:List Oper} {x y:Oper} (h:pZ ops x y=true):(∀d,x.dst=some d->¬d∈looks ops y)/\(∀d,x.dst=some d->y.dst≠some d)/\∀d,y.dst=some d->¬d∈looks ops x:=by
 have nm:∀ {l:List Nat} {d:Nat},dY (cZ l d)=true->¬d∈l:=fun h hm=>by rw[(cN _ _).2 hm] at h;simp[dY] at h
 unfold pZ at h
 simp only[ao,Mk] at h
 refine ⟨fun d hd=>?_,fun d hd=>?_,fun d hd=>?_⟩
 ·have h1:=h.1
  rw[hd] at h1
  simp only[Mk] at h1
  exact nm h1.1
 ·have h1:=h.1
  rw[hd] at h1
  simp only[Mk] at h1
  intro hy
  have h2:=h1.2
  rw[hy] at h2
  simp only[Nat.beq_refl,dY] at h2
  simp at h2
 ·have h1:=h.2
  rw[hd] at h1
  exact nm h1
theorem swap {X:Cx} {ops:List Oper} {q o:Oper} {σ:St} {vq vo:V} {uq uo:List (Nat×Box)} {h g:Lg} (h1:oX X ops q σ vq uq h) (h2:oX X ops o (σ.step q vq uq) vo uo g) (ha:pZ ops q o=true) (hc:Lg.xg h g=false):
  oX X ops o σ vo uo g/\oX X ops q (σ.step o vo uo) vq uq h/\(σ.step o vo uo).step q vq uq=(σ.step q vq uq).step o vo uo:=by
 obtain ⟨a1,a2,a3⟩:=D7 ha
 simp only[Lg.xg,kN,Bool.or_eq_false_iff] at hc
 obtain ⟨c1,c2,c3⟩:=hc
 have c1:=rF c1
 have c2:=rF c2
 have c3:=rF c3
 rw[h1.wr] at c1 c2
 rw[h2.wr] at c2 c3
 refine ⟨h2.at (fun d hd=>?_) (fun b hb=>?_),h1.at (fun d hd=>?_) (fun b hb=>?_),?_⟩
 ·exact (CG (fun e=>a1 d e hd)).symm
 ·exact (ia (fun e=>c1 b e hb)).symm
 ·exact CG (fun e=>a3 d e hd)
 ·exact ia (fun e=>c3 b e hb)
 ·unfold St.step
  rw[G5 a2,GS c2]
inductive w7 (X:Cx) (ops:List Oper):St->List (Nat×Oper×Lg)->St->Prop
 |nil (σ:St):w7 X ops σ [] σ
 |cons {σ σ':St} {i:Nat} {o:Oper} {lg:Lg} {v:V} {up:List (Nat×Box)} {L:List (Nat×Oper×Lg)} (hd:Bg X.n o.dst=true) (h:oX X ops o σ v up lg) (hr:w7 X ops (σ.step o v up) L σ'):w7 X ops σ ((i,o,lg)::L) σ'
theorem HZ {X:Cx} {ops:List Oper} {i:Nat} {o:Oper} {g:Lg} {post:List (Nat×Oper×Lg)} {σ':St}:∀(pre:List (Nat×Oper×Lg)) (σ:St),w7 X ops σ (pre++(i,o,g)::post) σ'->
  (∀j q h,(j,q,h)∈pre->pZ ops q o=true/\Lg.xg h g=false)->w7 X ops σ ((i,o,g)::(pre++post)) σ'
 |[],σ,hc,_=>hc
 |(j,q,h)::pre,σ,hc,ha=>by
  cases hc with
  |cons hd hs hr=>
   have hb:=HZ pre _ hr fun j q h hm=>ha j q h (MF _ hm)
   obtain ⟨x1,x2⟩:=ha j q h (Mz ..)
   cases hb with
   |cons hd2 hs2 hr2=>
    obtain ⟨s1,s2,s3⟩:=swap hs hs2 x1 x2
    refine .cons hd2 s1 (.cons hd s2 ?_)
    rw[s3]
    exact hr2
end Go.Ev
namespace Go.Ev
theorem AA {ops:List Oper} {an:List Nat} {o:Oper} {g:Lg}:∀ {l:List (Oper×Lg)} {j0:Nat},nL ops an o g l j0=true->∀(j:Nat) (q:Oper) (h:Lg),l[j]?=some (q,h)->cZ an (j0+j)=true∨(pZ ops q o=true/\Lg.xg h g=false)
 |[],j0,_,j,q,h,hj=>by simp at hj
 |(q',h')::r,j0,hl,j,q,h,hj=>by
  simp only[nL,ao,kN,cX,Mk,MX,MM] at hl
  cases j with
  |zero=>simp at hj;obtain ⟨rfl,rfl⟩:=hj;exact hl.1
  |succ j=>
   have:=AA hl.2 j q h (by simpa using hj)
   rw[show j0+(j+1)=j0+1+j from by omega]
   exact this
def CB (n:Nat) (ops:List Oper) (σ:St):Prop:=∀j q d x,j<n->ops[j]?=some q->q.dst=some d->σ.sl d=.c .bool x->∃v,x=.b v
theorem Cj {v:V} {x:C} (h:oP v=.c .bool x):∃b,x=.b b:=by
 cases v with
 |c t y=>cases t with
  |bool=>
   simp only[oP,V.c.injEq,true_and] at h
   exact ⟨_,h.symm⟩
  |_=>simp[oP] at h
 |_=>simp[oP] at h
theorem CB.step {n:Nat} {ops:List Oper} {σ:St} {o:Oper} {v:V} {up:List (Nat×Box)} (h:CB n ops σ) (ho:ops[n]?=some o) (hv:∀x,v=.c .bool x->∃b,x=.b b):CB (n+1) ops (σ.step o v up):=by
 intro j q d x hj hq hd hx
 by_cases he:o.dst=some d
 ·have:(σ.step o v up).sl d=v:=by show uC σ.sl o.dst v d=v;rw[he];exact ar _ _ _
  rw[this] at hx
  exact hv x hx
 ·have:(σ.step o v up).sl d=σ.sl d:=CG he
  rw[this] at hx
  have hjn:j≠n:=by
   rintro rfl
   rw[ho] at hq
   obtain rfl:=Mh hq
   exact he hd
  exact h j q d x (by omega) hq hd hx
theorem DZ {f:cu} {d:Nat} {v:V} (h:f d=v):upd f d v=f:=by
 funext k
 rw[sj]
 split
 ·rename_i e;rw[e,h]
 ·rfl
structure Run (X:Cx) (draw:Bool) (ops:List Oper) (an:List (List Nat)) (κ:St->R) (r:Out) (rem:List Oper) (lg:List (Oper×Lg)) (σ:St):Prop where
 ex:∃(L:List (Nat×Oper×Lg)) (σ':St),w7 X ops σ L σ'/\κ σ'=some r/\L.map (fun p=>(p.1,p.2.1))=(rem.zipIdx lg.length).map (fun p=>(p.2,p.1))/\
  (draw=true->∀(p:Nat) (i:Nat) (o:Oper) (g:Lg),L[p]?=some (i,o,g)->∀(j:Nat) (q:Oper) (h:Lg),(lg++L.map (·.2))[j]?=some (q,h)->j<lg.length+p->cZ (nth [] an i) j=true∨(pZ ops q o=true/\Lg.xg h g=false))
theorem uL {X:Cx} {draw:Bool} {ops:List Oper} {an:List (List Nat)} {κ:St->R} {r:Out}:∀(rem:List Oper) (lg:List (Oper×Lg)) (σ:St),(∀(i:Nat) (o:Oper),rem[i]?=some o->ops[lg.length+i]?=some o)->CB lg.length ops σ->
  kL X draw ops an κ rem lg σ=some r->Run X draw ops an κ r rem lg σ
 |[],lg,σ,_,_,h=>⟨[],σ,.nil σ,h,rfl,fun _ p i o g hp=>by simp at hp⟩
 |o::rem,lg,σ,hrem,hpr,h=>by
  have ho:ops[lg.length]?=some o:=hrem 0 o rfl
  cases hd:az (Bg X.n o.dst) (BN (len lg) o) with
  |false=>
   simp only[kL,hd,sif] at h
   simp at h
  |true=>
  have hd':=hd
  simp only[ao,Mk,dA] at hd'
  have key:∀(v:V) (up:List (Nat×Box)) (g:Lg),oX X ops o σ v up g->(∀x,v=.c .bool x->∃b,x=.b b)->orS (dY draw) (nL ops (nth [] an (len lg)) o g lg 0)=true->
    kL X draw ops an κ rem (app lg [(o,g)]) (σ.step o v up)=some r->Run X draw ops an κ r (o::rem) lg σ:=by
   intro v up g hs hv hlog hrun
   rw[fP] at hrun
   have hlen:(lg++[(o,g)]).length=lg.length+1:=by simp
   obtain ⟨⟨L,σ',c1,c2,c3,c4⟩⟩:=uL rem (lg++[(o,g)]) (σ.step o v up) (fun i q hq=>by
    rw[hlen,show lg.length+1+i=lg.length+(i+1) from by omega]
    exact hrem (i+1) q (by simpa using hq)) (by rw[hlen];exact hpr.step ho hv) hrun
   refine ⟨(lg.length,o,g)::L,σ',.cons hd'.1 hs c1,c2,?_,fun hdr p i q' g' hp j q h hj hjl=>?_⟩
   ·rw[hlen] at c3
    simp[List.zipIdx_cons,c3]
   ·cases p with
    |zero=>
     simp only[M3,Mj,MG] at hp
     obtain ⟨rfl,rfl,rfl⟩:=hp
     rw[hdr] at hlog
     simp only[kN,cX,Bool.not_true,Nj,dA] at hlog
     rw[MV (by omega)] at hj
     have:=AA hlog j q h hj
     simpa using this
    |succ p=>
     have e:lg++((lg.length,o,g)::L).map (·.2)=lg++[(o,g)]++L.map (·.2):=by simp
     rw[e] at hj
     exact c4 hdr p i q' g' (by simpa using hp) j q h hj (by rw[hlen];omega)
  simp only[kL,hd,ai] at h
  have fin:∀(e:Eff) (rd:List Nat) (ρ:cu),ρ=σ.sl->(∀k,evalOp X o.dst σ.sl o.op σ.bx k=k e rd)->oX X ops o σ (oP e.v) e.up ⟨rd,bZ e.up⟩->
    (sif (orS (dY draw) (nL ops (nth [] an (len lg)) o ⟨rd,bZ e.up⟩ lg 0))
     (e.v.force fun v=>wu e.up fun up=>kL X draw ops an κ rem (app lg [(o,⟨rd,bZ e.up⟩)]) (BH ⟨ρ,σ.bx⟩ o.dst ⟨oP v,up⟩)) none)=some r->Run X draw ops an κ r (o::rem) lg σ:=by
   intro e rd ρ hρ hall hs h
   cases hl:orS (dY draw) (nL ops (nth [] an (len lg)) o ⟨rd,bZ e.up⟩ lg 0) with
   |false=>simp[hl,sif] at h
   |true=>
    rw[hl,ai,force_eq,Bx] at h
    subst hρ
    exact key _ _ _ hs (fun x hx=>Cj hx) hl h
  split at h
  ·rename_i hg
   obtain ⟨e,rd,h1,h2⟩:=zC h
   exact fin e rd σ.sl rfl h2 (.plain e rd hg h2 rfl rfl rfl) h1
  ·rename_i gd want hg
   have hprop:∀x,σ.sl gd=.c .bool x->∃v,x=.b v:=by
    intro x hx
    unfold guardOf at hg
    split at hg
    ·simp at hg
    ·rename_i gi want' hgu
     simp only[Mj,MG] at hg
     obtain ⟨hq,rfl⟩:=hg
     have hlt:gi<lg.length:=by
      have:=hd'.2
      simp only[BN,hgu] at this
      simp[Nat.blt] at this
      omega
     rw[nU] at hq
     split at hq
     ·rename_i q hqq
      exact hpr gi q gd x hlt hqq hq hx
     ·simp at hq
   split at h
   ·rename_i x hx
    obtain ⟨v,rfl⟩:=hprop x hx
    have hcond:(sif want v (!v))=(v==want):=by cases want<;>cases v<;>rfl
    replace h:cond (sif want v (!v))
     (evalOp X o.dst (upd σ.sl gd (.c .bool (.b want))) o.op σ.bx fun e rd=>
      sif (orS (dY draw) (nL ops (nth [] an (len lg)) o ⟨rd,bZ e.up⟩ lg 0))
       (e.v.force fun v=>wu e.up fun up=>kL X draw ops an κ rem (app lg [(o,⟨rd,bZ e.up⟩)]) (BH ⟨upd σ.sl gd (.c .bool (.b want)),σ.bx⟩ o.dst ⟨oP v,up⟩)) none)
     (sif (orS (dY draw) (nL ops (nth [] an (len lg)) o ⟨[],[]⟩ lg 0))
      (kL X draw ops an κ rem (app lg [(o,⟨[],[]⟩)]) ⟨uC (upd σ.sl gd (.c .bool (.b (dY want)))) o.dst .ud,σ.bx⟩) none)=some r:=h
    rw[hcond] at h
    by_cases hvw:v=want
    ·subst hvw
     rw[show (v==v)=true from beq_self_eq_true v] at h
     simp only[cond_true] at h
     rw[DZ hx] at h
     obtain ⟨e,rd,h1,h2⟩:=zC h
     exact fin e rd σ.sl rfl h2 (.yes gd v e rd hg hx h2 rfl rfl rfl) h1
    ·rw[show (v==want)=false from by simpa using hvw] at h
     simp only[cond_false] at h
     have hv':v=!want:=by cases v<;>cases want<;>simp_all
     rw[cX want,←hv',DZ hx] at h
     cases hl:orS (dY draw) (nL ops (nth [] an (len lg)) o ⟨[],[]⟩ lg 0) with
     |false=>simp[hl,sif] at h
     |true=>
      rw[hl,ai] at h
      exact key .ud [] ⟨[],[]⟩ (.no gd want hg (.inl (by rw[hx,hv'])) rfl rfl rfl) (fun x hx=>by simp at hx) hl h
   ·rename_i hx
    cases hl:orS (dY draw) (nL ops (nth [] an (len lg)) o ⟨[],[]⟩ lg 0) with
    |false=>simp[hl,sif] at h
    |true=>
     rw[hl,ai] at h
     exact key .ud [] ⟨[],[]⟩ (.no gd want hg (.inr hx) rfl rfl rfl) (fun x hx=>by simp at hx) hl h
   ·simp at h
  ·simp at h
section
variable {P:Program} {X:Cx} {fr:Fr}
theorem Hu {T:Tys} {F:Nat->Prop} {w:World} {bx:Bxs} {θ:Nat->Value} {x:V} {v:Value} (h:aj T F w bx θ x v):aj T F w bx θ (oP x) v:=by
 cases x with
 |c t y=>cases t with
  |bool=>
   cases h with
   |c t y v hr=>cases hr with
    |bool b=>exact .c _ _ _ (.bool b)
  |_=>exact h
 |_=>exact h
theorem IX {a:Act} {dst:Option Tmp} {v:Value} {n:Nat} (hn:a.tmps.size=n) (hd:Bg n dst=true) (k:Nat):(a.put dst v).tmps.getD k undef=if dst=some k then v else a.tmps.getD k undef:=by
 cases dst with
 |none=>simp[Act.put]
 |some d=>
  have hlt:d<a.tmps.size:=by rw[hn];exact MJ hd
  simp only[Act.put,M6,Mj]
  rw[Array.getElem?_setIfInBounds]
  split
  ·rename_i e;subst e;simp[hlt]
  ·rfl
theorem Hw (a:Act) (dst:Option Tmp) (v:Value):(a.put dst v).tmps.size=a.tmps.size:=by cases dst<;>simp[Act.put]
theorem put_defers (a:Act) (dst:Option Tmp) (v:Value):(a.put dst v).defers=a.defers:=by cases dst<;>rfl
theorem Ip {f:cu} {d:Option Tmp} {v:V} (k:Nat):uC f d v k=if d=some k then v else f k:=by
 cases d with
 |none=>simp[uC]
 |some d=>
  show upd f d v k=_
  rw[sj]
  by_cases h:k=d
  ·subst h;simp
  ·rw[if_neg h,if_neg (fun e=>h (Mh e).symm)]
theorem DD {T:Tys} {F:Nat->Prop} {w w':World} {θ:Nat->Value} {σ:St} {a:Act} {n:Nat} {o:Oper} {e:Eff} {v:Value} {x:V} (hs:SlR T F w σ.bx θ n σ.sl a) (hd:Bg n o.dst=true)
  (h:Aft T fr F w σ.bx θ e v w') (hx:∀F' θ',aj T F' w' (dL σ.bx e.up) θ' e.v v->aj T F' w' (dL σ.bx e.up) θ' x v):Sim T fr n (σ.step o x e.up) (a.put o.dst v) w':=by
 obtain ⟨F',θ',h1,h2,h3⟩:=h
 refine ⟨F',θ',h1,⟨fun k=>?_,by rw[Hw];exact hs.n,by rw[put_defers];exact hs.defers⟩⟩
 rw[IX hs.n hd]
 show aj T F' w' (dL σ.bx e.up) θ' (uC σ.sl o.dst x k) _
 rw[Ip]
 split
 ·exact hx _ _ h3
 ·exact (hs.sl k).mv h2
theorem y5 {ops:List Oper} {a:Act} {g:Nat} {gd:Nat} (hq:(match uA ops g with|some q=>q.dst|none=>none)=some gd):yielded ops.toArray a.tmps g=match a.tmps[gd]? with|some (.bool b)=>some b|_=>none:=by
 unfold yielded
 rw[nU] at hq
 split at hq
 ·rename_i q hqq
  simp[hqq,hq]
  cases a.tmps[gd]? with
  |none=>rfl
  |some u=>cases u<;>rfl
 ·simp at hq
theorem Fu {a:Act} {gd:Nat} {v:Bool} (h:a.tmps.getD gd undef=.bool v):a.tmps[gd]?=some (.bool v):=by
 rw[M6] at h
 cases hh:a.tmps[gd]? with
 |none=>rw[hh] at h;simp[undef] at h
 |some u=>rw[hh] at h;simp at h;rw[h]
theorem FZ (hX:Env P X) {ops:List Oper} {i:Nat} {o:Oper} {σ:St} {v:V} {up:List (Nat×Box)} {lg:Lg} {a:Act} {w:World} (hi:ops[i]?=some o) (hd:Bg X.n o.dst=true) (h:oX X ops o σ v up lg) (hs:Sim X.T fr X.n σ a w)
  {K:Act->World->Prop} {Q:Exit->Act->World->Prop} (hK:∀a' w',Sim X.T fr X.n (σ.step o v up) a' w'->K a' w'):wpOp P ops.toArray Q i K a w:=by
 unfold wpOp
 have hi':ops.toArray[i]?=some o:=by simpa using hi
 rw[hi']
 simp only
 obtain ⟨F,θ,hw,hsl⟩:=hs
 have run:∀(e:Eff) (rd:List Nat),(∀k,evalOp X o.dst σ.sl o.op σ.bx k=k e rd)->v=oP e.v->up=e.up->o.wp P a w K Q:=by
  intro e rd hall hv hu
  have h1:=hall fun e rd=>some (.ret [])
  have ho:=FV (ρ:=σ.sl) (a:=a) hsl.sl
  have open_:∀(p:Eff->List Nat->Prop),p e rd->True:=fun _ _=>trivial
  obtain ⟨e2,rd2,g1,g2⟩:=Dt (k:=fun e' rd'=>open Classical in if e'=e/\rd'=rd then some (.ret []) else none) (r:=.ret []) hX hw ho (by rw[hall];simp)
  have he:e2=e:=by
   open Classical in
   by_cases hh:e2=e/\rd2=rd
   ·exact hh.1
   ·simp only[hh,if_false] at g1;simp at g1
  subst he
  refine g2 K Q fun u w' hA=>hK _ _ ?_
  rw[hv,hu]
  exact DD hsl hd hA fun F' θ' hr=>Hu hr
 cases h with
 |plain e rd hg hall hv hu hl=>
  have hwant:Region.wanted o (yielded ops.toArray a.tmps)=true:=by
   unfold guardOf at hg
   unfold Region.wanted
   split at hg
   ·rename_i hgu;rw[hgu]
   ·simp at hg
  rw[if_pos hwant]
  exact .inl (run e rd hall hv hu)
 |yes gd want e rd hg hsg hall hv hu hl=>
  have hwant:Region.wanted o (yielded ops.toArray a.tmps)=true:=by
   unfold guardOf at hg
   unfold Region.wanted
   split at hg
   ·simp at hg
   ·rename_i g want' hgu
    simp only[Mj,MG] at hg
    obtain ⟨hq,rfl⟩:=hg
    rw[hgu]
    simp only
    rw[y5 hq]
    have hr:=hsl.sl gd
    rw[hsg] at hr
    rw[Fu (mm hr)]
    simp[C.B]
  rw[if_pos hwant]
  exact .inl (run e rd hall hv hu)
 |no gd want hg hsg hv hu hl=>
  have hwant:¬Region.wanted o (yielded ops.toArray a.tmps)=true:=by
   unfold guardOf at hg
   unfold Region.wanted
   split at hg
   ·simp at hg
   ·rename_i g want' hgu
    simp only[Mj,MG] at hg
    obtain ⟨hq,rfl⟩:=hg
    rw[hgu]
    simp only
    rw[y5 hq]
    have hr:=hsl.sl gd
    rcases hsg with hsg|hsg
    ·rw[hsg] at hr
     rw[Fu (mm hr)]
     cases want'<;>simp[C.B]
    ·rw[hsg] at hr
     generalize hz:a.tmps.getD gd undef=z at hr
     cases hr
     rw[M6] at hz
     cases hh:a.tmps[gd]? with
     |none=>simp
     |some u=>rw[hh] at hz;simp at hz;subst hz;simp[undef]
  rw[if_neg hwant]
  refine hK _ _ ?_
  rw[hv,hu]
  exact DD (e:=⟨.ud,[]⟩) hsl hd (Aft.same hw .ud) fun F' θ' hr=>hr
theorem C6 (hX:Env P X) {ops:List Oper} {Q:Exit->Act->World->Prop} {σ':St}:∀(L:List (Nat×Oper×Lg)) (σ:St) (a:Act) (w:World),w7 X ops σ L σ'->(∀i o g,(i,o,g)∈L->ops[i]?=some o)->Sim X.T fr X.n σ a w->
  (∀a' w',Sim X.T fr X.n σ' a' w'->Q .normal a' w')->wpOps P ops.toArray Q (L.map (·.1)) a w
 |[],σ,a,w,hc,_,hs,hQ=>by
  cases hc
  exact hQ a w hs
 |(i,o,g)::L,σ,a,w,hc,hi,hs,hQ=>by
  cases hc with
  |cons hd h hr=>
   show wpOps P ops.toArray Q (i::L.map (·.1)) a w
   rw[wpOps_cons]
   exact FZ hX (hi i o g (Mz ..)) hd h hs fun a' w' hs'=>C6 hX L _ a' w' hr (fun i o g hm=>hi i o g (MF _ hm)) hs' hQ
end
end Go.Ev
namespace Go.Ev
theorem zA {j:Nat}:∀ {l m:List Nat},j∈Gm l m->j∈l∨j∈m
 |[],m,h=>.inr h
 |a::r,m,h=>by
  replace h:j∈sif (cZ m a) (Gm r m) (a::Gm r m):=h
  cases hm:cZ m a with
  |true=>rw[hm,ai] at h;exact (zA h).imp (MF _) id
  |false=>
   rw[hm,aX] at h
   rcases Mw.1 h with rfl|h
   ·exact .inl (Mz ..)
   ·exact (zA h).imp (MF _) id
theorem JQ {j:Nat} {l m:List Nat} (h:j∈uni l m):j∈l∨j∈m:=by
 unfold uni at h
 split at h
 ·exact .inl h
 ·exact zA h
theorem AB {acc:List (List Nat)} {j:Nat}:∀(l:List Edge) (s:List Nat),j∈l.foldl (fun s e=>sif (kJ e) (sif (cZ s e.on) s (e.on::uni (nth [] acc e.on) s)) s) s->j∈s∨∃e,e∈l/\kJ e=true/\(j=e.on∨j∈nth [] acc e.on)
 |[],s,h=>.inl h
 |e::r,s,h=>by
  rcases AB r _ h with h|⟨e',h1,h2⟩
  ·replace h:j∈sif (kJ e) (sif (cZ s e.on) s (e.on::uni (nth [] acc e.on) s)) s:=h
   cases hb:kJ e with
   |false=>rw[hb,aX] at h;exact .inl h
   |true=>
    rw[hb,ai] at h
    cases hm:cZ s e.on with
    |true=>rw[hm,ai] at h;exact .inl h
    |false=>
     rw[hm,aX] at h
     rcases Mw.1 h with h|h
     ·exact .inr ⟨e,Mz ..,hb,.inl h⟩
     ·rcases JQ h with h|h
      ·exact .inr ⟨e,Mz ..,hb,.inr h⟩
      ·exact .inl h
  ·exact .inr ⟨e',MF _ h1,h2⟩
theorem uV:∀(l:List Oper) (acc:List (List Nat)),(∀i,i<acc.length->(anc l acc)[i]?=acc[i]?)/\
  ∀(i:Nat) (o:Oper),l[i]?=some o->∀j,j∈nth [] (anc l acc) (acc.length+i)->∃e,e∈o.after.toList/\kJ e=true/\(j=e.on∨j∈nth [] (anc l acc) e.on)
 |[],acc=>⟨fun i _=>rfl,fun i o h=>by simp at h⟩
 |o::r,acc=>by
  have e0:∃x,x=o.after.toList.foldl (fun s e=>sif (kJ e) (sif (cZ s e.on) s (e.on::uni (nth [] acc e.on) s)) s) []:=⟨_,rfl⟩
  obtain ⟨x,hx⟩:=e0
  have e1:anc (o::r) acc=anc r (acc++[x]):=by
   show anc r (app acc [_])=_
   rw[fP,←hx]
  obtain ⟨h1,h2⟩:=uV r (acc++[x])
  have hlen:(acc++[x]).length=acc.length+1:=by simp
  rw[e1]
  refine ⟨fun i hi=>?_,fun i q hq j hj=>?_⟩
  ·rw[h1 i (by omega),MV hi]
  ·cases i with
   |zero=>
    simp at hq;subst hq
    rw[Nat.add_zero,sZ,Mm,h1 acc.length (by omega),MW (Mp _)] at hj
    simp at hj
    rw[hx] at hj
    rcases AB _ _ hj with h|⟨e,a1,a2,a3⟩
    ·simp at h
    ·refine ⟨e,a1,a2,a3.imp id fun hm=>?_⟩
     rw[sZ,Mm] at hm⊢
     by_cases hlt:e.on<acc.length
     ·rw[h1 e.on (by omega),MV hlt];exact hm
     ·rw[M7 (by omega)] at hm;simp at hm
   |succ i=>
    have:=h2 i q (by simpa using hq) j (by rw[hlen,show acc.length+1+i=acc.length+(i+1) from by omega];exact hj)
    exact this
theorem od:∀ {l:List Oper} {n:Nat},pG l n=true->∀(i:Nat) (o:Oper),l[i]?=some o->∀e,e∈o.after.toList->kJ e=true->e.on<n+i
 |[],n,_,i,o,h,_,_,_=>by simp at h
 |q::r,n,h,i,o,ho,e,he,hb=>by
  simp only[pG,ao,Mk] at h
  cases i with
  |zero=>
   simp at ho;subst ho
   have key:∀ {l:List Edge},I9 (uQ n) l=true->∀e,e∈l->uQ n e=true:=by
    intro l
    induction l with
    |nil=>intro _ e he;simp at he
    |cons y r ih=>
     intro hl e he
     simp only[I9,ao,Mk] at hl
     rcases Mw.1 he with rfl|he
     ·exact hl.1
     ·exact ih hl.2 e he
   have:=key h.1 e he
   simp only[uQ,kN,cX,hb,Bool.not_true,Nj] at this
   exact MJ this
  |succ i=>
   have:=od h.2 i o (by simpa using ho) e he hb
   omega
section
variable {P:Program} {X:Cx} {fr:Fr}
structure Inv (ops:List Oper) (listed:Array Bool) (L:List (Nat×Oper×Lg)):Prop where
 size:listed.size=ops.length
 mem:∀i o g,(i,o,g)∈L->ops[i]?=some o/\listed.getD i false=false
 all:∀i,i<ops.length->listed.getD i false=false->∃o g,(i,o,g)∈L
 sorted:L.Pairwise fun a b=>a.1<b.1
 ind:L.Pairwise fun a b=>cZ (nth [] (anc ops []) b.1) a.1=true∨(pZ ops a.2.1 b.2.1=true/\Lg.xg a.2.2 b.2.2=false)
 closed:∀i o,listed.getD i false=true->ops[i]?=some o->∀e,e∈o.after.toList->kJ e=true->listed.getD e.on false=true
theorem wm {ops:List Oper} {listed:Array Bool} (hsz:listed.size=ops.length) (i:Nat):i∈Region.ready .any ops.toArray listed↔∃o,ops[i]?=some o/\listed.getD i false=false/\∀e,e∈o.after.toList->kJ e=true->listed.getD e.on false=true:=by
 unfold Region.ready
 simp only[List.mem_filter,List.mem_range,List.size_toArray,Mk,MM]
 constructor
 ·rintro ⟨h1,h2,h3⟩
  have ho:ops[i]?=some ops[i]:=Mg h1
  refine ⟨_,ho,?_,fun e he hb=>?_⟩
  ·simp only[M6] at h2⊢
   rw[M5 (by omega)] at h2⊢
   simpa using h2
  ·rw[show ops.toArray[i]?=some ops[i] from by simpa using ho] at h3
   simp only[Nn,Ng] at h3
   rw[←Array.all_toList,Ni] at h3
   have:=h3 e he
   unfold kJ at hb
   rw[hb] at this
   simpa using this
 ·rintro ⟨o,ho,h2,h3⟩
  have h1:i<ops.length:=(Ml.1 ho).1
  refine ⟨h1,?_,?_⟩
  ·simp only[M6] at h2⊢
   rw[M5 (by omega)] at h2⊢
   simpa using h2
  ·rw[show ops.toArray[i]?=some o from by simpa using ho]
   simp only[Nn,Ng]
   rw[←Array.all_toList,Ni]
   intro e he
   cases hb:Region.binds .any e with
   |false=>rfl
   |true=>
    have:=h3 e he hb
    simpa using this
theorem Fe {ops:List Oper} {listed:Array Bool} (hB:pG ops 0=true) (hcl:∀i o,listed.getD i false=true->ops[i]?=some o->∀e,e∈o.after.toList->kJ e=true->listed.getD e.on false=true):
  ∀(n m:Nat),m<=n->listed.getD m false=true->∀j,j∈nth [] (anc ops []) m->listed.getD j false=true:=by
 intro n
 induction n with
 |zero=>
  intro m hm hl j hj
  cases ho:ops[m]? with
  |none=>
   have:(anc ops [])[m]?=none:=by
    have key:∀(l:List Oper) (acc:List (List Nat)),(anc l acc).length=acc.length+l.length:=by
     intro l
     induction l with
     |nil=>intro acc;rfl
     |cons o r ih=>intro acc;show (anc r (app acc [_])).length=_;rw[ih,fP];simp;omega
    rw[List.getElem?_eq_none_iff,key]
    rw[List.getElem?_eq_none_iff] at ho
    simpa using ho
   rw[sZ,Mm,this] at hj
   simp at hj
  |some o=>
   obtain ⟨e,h1,h2,h3⟩:=(uV ops []).2 m o ho j (by simpa using hj)
   have:=od hB m o ho e h1 h2
   omega
 |succ n ih=>
  intro m hm hl j hj
  cases ho:ops[m]? with
  |none=>
   have:(anc ops [])[m]?=none:=by
    have key:∀(l:List Oper) (acc:List (List Nat)),(anc l acc).length=acc.length+l.length:=by
     intro l
     induction l with
     |nil=>intro acc;rfl
     |cons o r ih=>intro acc;show (anc r (app acc [_])).length=_;rw[ih,fP];simp;omega
    rw[List.getElem?_eq_none_iff,key]
    rw[List.getElem?_eq_none_iff] at ho
    simpa using ho
   rw[sZ,Mm,this] at hj
   simp at hj
  |some o=>
   obtain ⟨e,h1,h2,h3⟩:=(uV ops []).2 m o ho j (by simpa using hj)
   have hlt:=od hB m o ho e h1 h2
   have hle:=hcl m o hl ho e h1 h2
   rcases h3 with rfl|h3
   ·exact hle
   ·exact ih e.on (by omega) hle j h3
theorem KN (hX:Env P X) {ops:List Oper} {Q:Exit->Act->World->Prop} {σ':St} (hB:pG ops 0=true) (hQ:∀a' w',Sim X.T fr X.n σ' a' w'->Q .normal a' w'):
  ∀(fuel:Nat) (listed:Array Bool) (L:List (Nat×Oper×Lg)) (σ:St) (a:Act) (w:World),Inv ops listed L->L.length<=fuel->w7 X ops σ L σ'->Sim X.T fr X.n σ a w->wpAny P .any ops.toArray Q fuel listed a w:=by
 intro fuel
 induction fuel with
 |zero=>
  intro listed L σ a w hI hlen hc hs
  have:L=[]:=List.eq_nil_of_length_eq_zero (by omega)
  subst this
  cases hc
  refine ⟨?_,hQ a w hs⟩
  cases hr:Region.ready .any ops.toArray listed with
  |nil=>rfl
  |cons i t=>
   have:i∈Region.ready .any ops.toArray listed:=by rw[hr];exact Mz ..
   obtain ⟨o,h1,h2,_⟩:=(wm hI.size i).1 this
   obtain ⟨o',g,hm⟩:=hI.all i (Ml.1 h1).1 h2
   simp at hm
 |succ fuel ih=>
  intro listed L σ a w hI hlen hc hs
  refine ⟨fun hr=>?_,fun i hi=>?_⟩
  ·cases L with
   |nil=>cases hc;exact hQ a w hs
   |cons p L=>
    obtain ⟨i,o,g⟩:=p
    exfalso
    obtain ⟨h1,h2⟩:=hI.mem i o g (Mz ..)
    have:i∈Region.ready .any ops.toArray listed:=by
     refine (wm hI.size i).2 ⟨o,h1,h2,fun e he hb=>?_⟩
     have hlt:=od hB i o h1 e he hb
     cases hl:listed.getD e.on false with
     |true=>rfl
     |false=>
      obtain ⟨o',g',hm⟩:=hI.all e.on (by have:=(Ml.1 h1).1;omega) hl
      rcases Mw.1 hm with heq|hm
      ·simp only[MG] at heq;omega
      ·have:=(List.pairwise_cons.1 hI.sorted).1 _ hm
       simp only at this
       omega
    rw[hr] at this
    simp at this
  ·obtain ⟨o,h1,h2,h3⟩:=(wm hI.size i).1 hi
   obtain ⟨o',g,hm⟩:=hI.all i (Ml.1 h1).1 h2
   have ho:=(hI.mem i o' g hm).1
   rw[h1] at ho;obtain rfl:=Mh ho
   obtain ⟨pre,post,rfl⟩:=List.append_of_mem hm
   have hpre:∀j q h,(j,q,h)∈pre->pZ ops q o=true/\Lg.xg h g=false:=by
    intro j q h hj
    have hind:=(List.pairwise_append.1 hI.ind).2.2 (j,q,h) hj (i,o,g) (Mz ..)
    refine hind.resolve_left fun hmb=>?_
    have hjun:=(hI.mem j q h (List.mem_append_left _ hj)).2
    have:listed.getD j false=true:=by
     obtain ⟨e,e1,e2,e3⟩:=(uV ops []).2 i o h1 j (by simpa using (cN _ _).1 hmb)
     have hle:=h3 e e1 e2
     rcases e3 with rfl|e3
     ·exact hle
     ·exact Fe hB hI.closed e.on e.on (Mp _) hle j e3
    rw[this] at hjun;simp at hjun
   have hb:=HZ pre σ hc hpre
   cases hb with
   |cons hd hstep hr=>
    refine FZ hX h1 hd hstep hs fun a' w' hs'=>?_
    refine ih _ (pre++post) _ a' w' ?_ (by simp at hlen⊢;omega) hr hs'
    have hil:i<listed.size:=by rw[hI.size];exact (Ml.1 h1).1
    have hset:∀k,(listed.setIfInBounds i true).getD k false=if k=i then true else listed.getD k false:=by
     intro k
     simp only[M6,Array.getElem?_setIfInBounds]
     by_cases hk:k=i
     ·subst hk;simp[hil]
     ·rw[if_neg (Ne.symm hk),if_neg hk]
    have hsub:List.Sublist (pre++post) (pre++(i,o,g)::post):=List.Sublist.append_left (List.sublist_cons_self ..) _
    have hne:∀p,p∈pre++post->p.1≠i:=by
     intro p hp
     have hs:=List.pairwise_append.1 hI.sorted
     rcases MO.1 hp with hp|hp
     ·have:=hs.2.2 p hp (i,o,g) (Mz ..);simp only at this;omega
     ·have:=(List.pairwise_cons.1 hs.2.1).1 p hp;simp only at this;omega
    refine ⟨by simpa using hI.size,fun k q h hk=>?_,fun k hk hl=>?_,hI.sorted.sublist hsub,hI.ind.sublist hsub,fun k q hl hq e he hbe=>?_⟩
    ·have:=hI.mem k q h (hsub.subset hk)
     refine ⟨this.1,?_⟩
     rw[hset,if_neg (hne _ hk)]
     exact this.2
    ·rw[hset] at hl
     split at hl
     ·simp at hl
     ·rename_i hki
      obtain ⟨q,h,hm⟩:=hI.all k hk hl
      refine ⟨q,h,?_⟩
      rcases MO.1 hm with hm|hm
      ·exact List.mem_append_left _ hm
      ·rcases Mw.1 hm with he|hm
       ·simp only[MG] at he;exact absurd he.1 hki
       ·exact List.mem_append_right _ hm
    ·rw[hset]
     split
     ·rfl
     ·rw[hset] at hl
      split at hl
      ·rename_i hki
       subst hki
       rw[h1] at hq;obtain rfl:=Mh hq
       exact h3 e he hbe
      ·exact hI.closed k q hl hq e he hbe
end
end Go.Ev
namespace Go.Ev
section
variable {T:Tys} {fr:Fr} {F:Nat->Prop} {w:World} {bx:Bxs} {θ:Nat->Value} {bs:List Nat}
def Aa (T:Tys) (bx:Bxs) (bs:List Nat):Bxs:=fun b=>match bx b with|some x=>some (sif (cZ bs b) (.dead (x.ver+1)) (x.frz T bx bs))|none=>none
theorem pn (T:Tys) (bx:Bxs) (bs:List Nat):∀(l:List V) (i:Nat),(V.yN T bx bs l)[i]?=(l[i]?).map (V.frz T bx bs)
 |[],i=>by simp[V.yN]
 |v::r,0=>by simp[V.yN]
 |v::r,i+1=>by simp[V.yN,pn T bx bs r i]
theorem oO (T:Tys) (bx:Bxs) (bs:List Nat) (l:List V):(V.yN T bx bs l).length=l.length:=by
 induction l with
 |nil=>rfl
 |cons v r ih=>simp[V.yN,ih]
theorem nk {b:Nat} {x:Box} (h:bx b=some x) (hb:cZ bs b=false):Aa T bx bs b=some (x.frz T bx bs):=by
 unfold Aa;rw[h];simp only;rw[hb,aX]
theorem Ka {b:Nat} {x:Box} (h:bx b=some x) (hb:cZ bs b=true):Aa T bx bs b=some (.dead (x.ver+1)):=by
 unfold Aa;rw[h];simp only;rw[hb,ai]
theorem iU (x:Box):(x.frz T bx bs).ver=x.ver:=by cases x<;>rfl
theorem HE {F':Nat->Prop} {b ver m:Nat} {lo hi:Int} {t:TypeId} {es:List (List C)} {v:Value} (hy:bx b=some (.arr ver t es m)) (hR:iZ T F' w bx θ b (.arr ver t es 0)) (hx:aj T F w bx θ (.vw b ver lo hi) v) (hg:∀g,bJ (θ b)=some g->F' g):
  cE T F' w (.sl t) (.l ((es.take hi.toNat).drop lo.toNat)) v:=by
 obtain ⟨_,d,A',c',hd',h0,hlh,hhi,rfl,hcc,hblk,_⟩:=tx hx hy (Nat.beq_refl _)
 have hsl:=zf h0 hlh hhi
 rcases Int.lt_or_eq_of_le hlh with hlt|rfl
 ·obtain ⟨g,og,e2,rfl⟩:=hblk hlt
  obtain ⟨A,cap,us,hth,hul,hrw,hA⟩:=oN hR hd'
  rw[←hsl]
  have hp:=hrw.part lo.toNat hi.toNat
  refine .sl t d _ g (og+lo.toNat*d.cts.length) c' (fun i j=>((us.take (hi.toNat*d.cts.length)).drop (lo.toNat*d.cts.length)).getD (i*d.cts.length+j) undef) hd' (hg g (by rw[e2];rfl)) (by omega) hp.len (fun i c j x a1 a2=>?_) (fun i c j x ct a1 a2 a3=>?_)
  ·rcases hA with ⟨rfl,rfl,rfl⟩|⟨g',o',cs,rfl,h1,h2,h3,rfl⟩
   ·simp at hhi;omega
   ·rw[hth] at e2
    simp only[ML,Mj,Addr.mk.injEq,true_and] at e2
    obtain ⟨⟨rfl,rfl,_⟩,_⟩:=e2
    have hi':i<(hi-lo).toNat:=by rw[←hsl];exact (Ml.1 a1).1
    have hj:j<d.cts.length:=by rw[←hp.len i c a1];exact (Ml.1 a2).1
    have q1:lo.toNat*d.cts.length+(i*d.cts.length+j)<hi.toNat*d.cts.length:=by
     have:=kK (show lo.toNat+i<hi.toNat by omega) hj
     rw[Nat.add_mul] at this;omega
    have q2:hi.toNat*d.cts.length<=es.length*d.cts.length:=MA _ (by omega)
    have q3:es.length*d.cts.length<=cap*d.cts.length:=MA _ h3.1
    have q4:o'+(lo.toNat*d.cts.length+(i*d.cts.length+j))<cs.size:=by omega
    simp only[Mm,MB,List.getElem?_take]
    rw[if_pos q1,if_pos (by omega),Nat.add_assoc]
    simp[World.cell?,h1,q4]
  ·clear hA
   have hi':i<(hi-lo).toNat:=by rw[←hsl];exact (Ml.1 a1).1
   have hj:j<d.cts.length:=(Ml.1 a3).1
   have q1:lo.toNat*d.cts.length+(i*d.cts.length+j)<hi.toNat*d.cts.length:=by
    have:=kK (show lo.toNat+i<hi.toNat by omega) hj
    rw[Nat.add_mul] at this;omega
   have q2:hi.toNat*d.cts.length<=es.length*d.cts.length:=MA _ (by omega)
   have hlen:i*d.cts.length+j<((us.take (hi.toNat*d.cts.length)).drop (lo.toNat*d.cts.length)).length:=by
    rw[MQ,ME,hul];omega
   refine hp.rel i c j x ct _ a1 a2 a3 ?_
   rw[Mm,Mg hlen];rfl
 ·have:((es.take lo.toNat).drop lo.toNat)=[]:=by simp
  rw[this]
  have:(lo-lo).toNat=0:=by omega
  rw[this]
  exact .sl0 _ _ _
theorem vD:∀ {f:List Nat},AM bs f=true->∀c,c∈f->cZ bs c=true
 |b::r,h,c,hc=>by
  simp only[AM,ao,Mk] at h
  rcases Mw.1 hc with rfl|hc
  ·exact h.1
  ·exact vD h.2 c hc
theorem K9 {m:Nat} (h:dY (Nat.beq m 3)=true):m≠3:=by
 rintro rfl
 simp[dY] at h
theorem J3 (hw:WR T fr F w bx θ) {b v m:Nat} {t:TypeId} {es:List (List C)} (hm:cZ bs b=true) (hb:bx b=some (.arr v t es m)) (hm3:m≠3):iZ T (FzF T F w bx θ bs) w bx θ b (.arr v t es 0):=by
 by_cases h2:2<=m
 ·have h0:m≠0:=by omega
  exact iZ.HB (m':=0) (hw.box b _ hb) ((hw.lin b _ hb h0).1 hm3) (by decide) (fun _ k hk=>.inr ⟨b,_,(cN _ _).1 hm,hb,.inr ⟨h0,hk⟩⟩) rfl
 ·obtain ⟨d,A,cap,q1,q2,q3,q4⟩:=qL hw hb h2
  refine ⟨d,A,cap,q1,q2,q3,q4.imp id ?_⟩
  rintro ⟨g,o,cs,g1,g2,g3,g4,g5⟩
  exact ⟨g,o,cs,g1,g2,g3,g4,fun i c j x ct v a1 a2 a3 a4=>CR.mv (m:=0) (g5 i c j x ct v a1 a2 a3 a4) (fun _ h=>.inl h) (fun _ _=>rfl) fun _ _ _=>rfl⟩
theorem Fm (hw:WR T fr F w bx θ) {x:V} {v:Value} (h:aj T F w bx θ x v):aj T (FzF T F w bx θ bs) w (Aa T bx bs) θ (x.frz T bx bs) v:=by
 have hin:∀ {b:Nat} {y:Box},cZ bs b=true->bx b=some y->y.live=true->∀g,bJ (θ b)=some g->FzF T F w bx θ bs g:=fun hb hy hl g hg=>.inr ⟨_,_,(cN _ _).1 hb,hy,.inl ⟨hl,hg⟩⟩
 induction h with
 |un v=>exact .un v
 |ud=>exact .ud
 |c t x v hr=>exact .c t x v (hr.mv (fun _ h=>.inl h) fun _ _=>rfl)
 |nl=>exact .nl
 |np=>exact .np
 |ow b ver v y hb hv hs hh=>
  show aj T _ w _ θ (sif (cZ bs b) (match bx b with
   |some (.arr v t es m)=>sif (az (Nat.beq v ver) (dY (Nat.beq m 3))) (.c (.sl t) (.l es)) .un
   |_=>.un) (.ow b ver)) v
  cases hm:cZ bs b with
  |true=>
   rw[ai,hb]
   cases y with
   |arr v' t es md=>
    simp only
    cases hc:az (Nat.beq v' ver) (dY (Nat.beq md 3)) with
    |false=>exact .un _
    |true=>
     rw[ai]
     rw[ao,Mk] at hc
     obtain ⟨_,rfl⟩:=oC (T:=T) (F:=F) (w:=w) (.ow b ver v _ hb hv hs hh) hb hc.1
     exact .c _ _ _ (pr (J3 hw hm hb (K9 hc.2)) (fun _ h=>h) (hin hm hb rfl))
   |_=>exact .un _
  |false=>
   rw[aX]
   refine .ow b ver v _ (nk hb hm) (by rw[iU];exact hv) hs fun e=>?_
   rw[iU] at e
   obtain ⟨t,es,md,rfl,hvv⟩:=hh e
   exact ⟨t,es,md,rfl,hvv⟩
 |vw b ver lo hi v y hb hv hs hh=>
  show aj T _ w _ θ (sif (cZ bs b) (match bx b with
   |some (.arr v t es m)=>sif (az (Nat.beq v ver) (dY (Nat.beq m 3))) (.c (.sl t) (.l ((es.take hi.toNat).drop lo.toNat))) .un
   |_=>.un) (.vw b ver lo hi)) v
  cases hm:cZ bs b with
  |true=>
   rw[ai,hb]
   cases y with
   |arr v' t es md=>
    simp only
    cases hc:az (Nat.beq v' ver) (dY (Nat.beq md 3)) with
    |false=>exact .un _
    |true=>
     rw[ai]
     rw[ao,Mk] at hc
     have:=Mi hc.1;subst this
     exact .c _ _ _ (HE (F:=F) hb (J3 hw hm hb (K9 hc.2)) (.vw b v' lo hi v _ hb hv hs hh) (hin hm hb rfl))
   |_=>exact .un _
  |false=>
   rw[aX]
   refine .vw b ver lo hi v _ (nk hb hm) (by rw[iU];exact hv) hs fun e=>?_
   rw[iU] at e
   obtain ⟨t,es,md,d,A,c,rfl,hrest⟩:=hh e
   exact ⟨t,es,md,d,A,c,rfl,hrest⟩
 |rf b ver ix off e v y hb hv hs hh=>
  show aj T _ w _ θ (sif (cZ bs b) .un (.rf b ver ix off e)) v
  cases hm:cZ bs b with
  |true=>rw[ai];exact .un _
  |false=>
   rw[aX]
   refine .rf b ver ix off e v _ (nk hb hm) (by rw[iU];exact hv) hs fun e1 e2=>?_
   rw[iU] at e1
   obtain ⟨t,es,d,g,o,cap,rfl,hrest⟩:=hh e1 (by cases y<;>first|exact e2|simp[Box.m,Box.frz] at e2)
   exact ⟨t,es,d,g,o,cap,rfl,hrest⟩
 |mp b ver v y hb hv hs hh=>
  show aj T _ w _ θ (sif (cZ bs b) .un (.mp b ver)) v
  cases hm:cZ bs b with
  |true=>rw[ai];exact .un _
  |false=>
   rw[aX]
   refine .mp b ver v _ (nk hb hm) (by rw[iU];exact hv) hs fun e=>?_
   rw[iU] at e
   obtain ⟨t,es,rfl,hvv⟩:=hh e
   exact ⟨t,es,rfl,hvv⟩
 |pt b ver off v y hb hv hs hh=>
  show aj T _ w _ θ (sif (cZ bs b) (match bx b with
   |some (.var v t cells)=>sif (Nat.beq v ver) (match bj T t with
    |some d=>match j9 bx d.cts cells with
     |some (cs,f)=>sif (AM bs f) (match (generalizing:=false) off with|0=>.c (.pt t) (.p cs)|off=>.fa d.cts cs off) .un
     |none=>.un
    |none=>.un) .un
   |_=>.un) (.pt b ver off)) v
  cases hm:cZ bs b with
  |true=>
   rw[ai,hb]
   cases y with
   |var v' t cells=>
    simp only
    cases hc:Nat.beq v' ver with
    |false=>exact .un _
    |true=>
     rw[ai]
     have:=Mi hc;subst this
     cases htd:bj T t with
     |none=>exact .un _
     |some td=>
      simp only
      cases hcs:j9 bx td.cts cells with
      |none=>exact .un _
      |some q=>
       obtain ⟨cs,f⟩:=q
       simp only
       cases hmf:AM bs f with
       |false=>exact .un _
       |true=>
        rw[ai]
        obtain ⟨t2,cells2,g,e3,e4,rfl⟩:=hh rfl
        simp only[Box.var.injEq,true_and] at e3
        obtain ⟨rfl,rfl⟩:=e3
        obtain ⟨g',wcs,ee,d,k1,k2,k3,k4,k5,k6⟩:=hw.box b _ hb
        rw[e4] at k1
        simp only[Value.pointer.injEq,Mj,Addr.mk.injEq,true_and] at k1
        obtain ⟨rfl,_⟩:=k1
        rw[htd] at k4
        obtain rfl:=Mh k4
        obtain ⟨l1,l2⟩:=xP (T:=T) (F:=F) (F':=FzF T F w bx θ bs) (w:=w) (θ:=θ) hcs
        have l3:=l2 (fun _ h=>.inl h) (fun c hc v t es md hbc h3=>pr (J3 hw (vD hmf c hc) hbc h3) (fun _ h=>h) (hin (vD hmf c hc) hbc rfl))
        have c1:∀(j:Nat) (c:C),cs[j]?=some c->w.cell? ⟨g,0+j,none⟩=some (wcs.getD j undef):=fun j c hj=>by
         have hj':j<wcs.size:=by rw[k3,k5,←l1];exact (Ml.1 hj).1
         simp[World.cell?,k2,hj']
        have c2:∀(j:Nat) (c:C) (ct:CT),cs[j]?=some c->td.cts[j]?=some ct->cE T (FzF T F w bx θ bs) w ct c (wcs.getD j undef):=fun j c ct hj hct=>by
         obtain ⟨x,a1,a2⟩:=l3 j c ct hj hct
         have hj':j<wcs.size:=by rw[k3];exact (Ml.1 a1).1
         refine a2 _ (k6 j x _ a1 ?_)
         simp[hj']
        cases off with
        |zero=>exact .c _ _ _ (.pt t td cs g 0 _ htd (hin hm hb rfl g (by rw[e4];rfl)) l1 c1 c2)
        |succ off=>
         have:=aj.fa (T:=T) (F:=FzF T F w bx θ bs) (w:=w) (bx:=Aa T bx bs) (θ:=θ) td.cts cs (off+1) g 0 (fun j=>wcs.getD j undef) (hin hm hb rfl g (by rw[e4];rfl)) l1 c1 c2
         rwa [My] at this
   |_=>exact .un _
  |false=>
   rw[aX]
   refine .pt b ver off v _ (nk hb hm) (by rw[iU];exact hv) hs fun e=>?_
   rw[iU] at e
   obtain ⟨t,cells,g,rfl,h1,h2⟩:=hh e
   exact ⟨t,_,g,rfl,h1,h2⟩
 |pe b ver ix off nb v y hb hv hs hh=>
  show aj T _ w _ θ (sif (cZ bs b) (match bx b with
   |some (.arr v t es m)=>sif (az (az (Nat.beq v ver) (dY (Nat.beq m 3))) (dY nb)) (match bj T t with|some d=>.fa d.cts (es.getD ix.toNat []) off|none=>.un) .un
   |_=>.un) (.pe b ver ix off nb)) v
  cases hm:cZ bs b with
  |true=>
   rw[ai,hb]
   cases y with
   |arr v' t es md=>
    simp only
    cases hc:az (az (Nat.beq v' ver) (dY (Nat.beq md 3))) (dY nb) with
    |false=>exact .un _
    |true=>
     rw[ai]
     rw[ao,ao,Mk,Mk] at hc
     have hm3:=K9 hc.1.2
     simp only[cX,Mk,MM] at hc
     obtain ⟨rfl,d,hd,hp⟩:=s9 (F:=F) (w:=w) (.pe b ver ix off nb v _ hb hv hs hh) hb hc.1.1
     rw[hd]
     simp only
     rcases hp with ⟨h1,_⟩|⟨h0,hlt,g,og,cap,h2,rfl⟩
     ·rw[hc.2] at h1;simp at h1
     ·obtain ⟨A,cap',us,hth,hul,hrw,hA⟩:=oN (J3 (bs:=bs) hw hm hb hm3) hd
      have hn:ix.toNat<es.length:=by omega
      have hnn:es[ix.toNat]?=some es[ix.toNat]:=Mg hn
      have hgd:es.getD ix.toNat []=es[ix.toNat]:=by rw[Mm,hnn];rfl
      have hrl:=hrw.len _ _ hnn
      rw[hgd]
      rcases hA with ⟨rfl,rfl,rfl⟩|⟨g',o',cs,rfl,q1,q2,q3,rfl⟩
      ·simp at hn
      ·rw[hth] at h2
       simp only[ML,Mj,Addr.mk.injEq,true_and] at h2
       obtain ⟨⟨rfl,rfl,_⟩,_⟩:=h2
       have hlt':∀j,j<d.cts.length->ix.toNat*d.cts.length+j<es.length*d.cts.length:=fun j hj=>kK hn hj
       have q4:o'+es.length*d.cts.length<=cs.size:=by rw[q2];exact Nat.add_le_add_left (MA _ q3.1) o'
       rw[←Nat.add_assoc]
       refine .fa d.cts es[ix.toNat] off g' (o'+ix.toNat*d.cts.length) (fun j=>cs.getD (o'+(ix.toNat*d.cts.length+j)) undef) (hin hm hb rfl g' (by rw[hth];rfl)) hrl (fun j c hc=>?_) (fun j c t' hc ht=>?_)
       ·have hj:j<d.cts.length:=by rw[←hrl];exact (Ml.1 hc).1
        have:=hlt' j hj
        simp[World.cell?,q1,Array.getD,Nat.add_assoc,show o'+(ix.toNat*d.cts.length+j)<cs.size by omega]
       ·have hj:j<d.cts.length:=(Ml.1 ht).1
        have:=hlt' j hj
        refine hrw.rel _ _ j c t' _ hnn hc ht ?_
        rw[List.getElem?_take_of_lt this,MB]
        simp[Array.getD,show o'+(ix.toNat*d.cts.length+j)<cs.size by omega]
   |_=>exact .un _
  |false=>
   rw[aX]
   refine .pe b ver ix off nb v _ (nk hb hm) (by rw[iU];exact hv) hs fun e=>?_
   rw[iU] at e
   obtain ⟨t,es,md,d,rfl,hrest⟩:=hh e
   exact ⟨t,es,md,d,rfl,hrest⟩
 |fa cts cs off g o cv hF hlen hc hr=>exact .fa cts cs off g o cv (.inl hF) hlen hc fun j c t h1 h2=>(hr j c t h1 h2).mv (fun _ h=>.inl h) fun _ _=>rfl
 |ag l o vs hl ho h ih=>
  refine .ag _ _ vs (by rw[oO];exact hl) (fun x hx=>by
   obtain ⟨cs,e1,e2,e3⟩:=ho x hx
   refine ⟨cs,e1,by rw[oO];exact e2,fun i v hv=>?_⟩
   rw[pn] at hv
   obtain ⟨z,hz,rfl⟩:=Option.map_eq_some_iff.1 hv
   obtain ⟨t,rfl⟩:=e3 i z hz
   exact ⟨t,rfl⟩) fun i x v h1 h2=>?_
  rw[pn] at h1
  obtain ⟨y,hy,rfl⟩:=Option.map_eq_some_iff.1 h1
  exact ih i y v hy h2
 |tu l vs hl h ih=>
  refine .tu _ vs (by rw[oO];exact hl) fun i x v h1 h2=>?_
  rw[pn] at h1
  obtain ⟨y,hy,rfl⟩:=Option.map_eq_some_iff.1 h1
  exact ih i y v hy h2
 |fn f l vs hl h ih=>
  refine .fn f _ vs (by rw[oO];exact hl) fun i x v h1 h2=>?_
  rw[pn] at h1
  obtain ⟨y,hy,rfl⟩:=Option.map_eq_some_iff.1 h1
  exact ih i y v hy h2
theorem K8 {n:Nat} {σ:St} {a:Act} (bs:List Nat) (h:Sim T fr n σ a w):Sim T fr n (σ.frz T bs) a w:=by
 obtain ⟨F,θ,hw,hs⟩:=h
 have hb:(σ.frz T bs).bx=Aa T σ.bx bs:=rfl
 have hget:∀b y,Aa T σ.bx bs b=some y->∃x,σ.bx b=some x/\((cZ bs b=true/\y=.dead (x.ver+1))∨(cZ bs b=false/\y=x.frz T σ.bx bs)):=by
  intro b y hy
  unfold Aa at hy
  cases hx:σ.bx b with
  |none=>rw[hx] at hy;simp at hy
  |some x=>
   rw[hx] at hy
   simp only[Mj] at hy
   cases hm:cZ bs b with
   |true=>rw[hm,ai] at hy;exact ⟨x,rfl,.inl ⟨rfl,hy.symm⟩⟩
   |false=>rw[hm,aX] at hy;exact ⟨x,rfl,.inr ⟨rfl,hy.symm⟩⟩
 have hlive:∀b y,Aa T σ.bx bs b=some y->y.live=true->∃x,σ.bx b=some x/\x.live=true/\cZ bs b=false:=by
  intro b y hy hl
  obtain ⟨x,hx,⟨hm,rfl⟩|⟨hm,rfl⟩⟩:=hget b y hy
  ·simp[Box.live] at hl
  ·exact ⟨x,hx,by cases x<;>simp_all [Box.live,Box.frz],hm⟩
 have hnst:∀b y k,Aa T σ.bx bs b=some y->y.nst T w (θ b) k->∃x,σ.bx b=some x/\cZ bs b=false/\x.nst T w (θ b) k/\y.m=x.m:=by
  intro b y k hy hk
  obtain ⟨x,hx,⟨hm,rfl⟩|⟨hm,rfl⟩⟩:=hget b y hy
  ·exact hk.elim
  ·refine ⟨x,hx,hm,?_⟩
   cases x with
   |arr v t es m=>exact ⟨hk,rfl⟩
   |_=>exact hk.elim
 refine ⟨FzF T F w σ.bx θ bs,θ,⟨?_,?_,?_,E8 hw,hw.keep,fun k hk=>.inl (hw.sub k hk),Ft hw,?_,fun b y hy=>?_,fun b y k hy hk=>?_,fun b b' y y' k hy hy' hk hk'=>?_,fun k hk=>.inl (hw.nlF k hk)⟩,⟨fun k=>?_,hs.n,hs.defers⟩⟩
 ·intro b y hy
  obtain ⟨x,hx,⟨hm,rfl⟩|⟨hm,rfl⟩⟩:=hget b y hy
  ·trivial
  ·have hbx:=hw.box b x hx
   cases x with
   |var ver t cells=>
    obtain ⟨g,cs,e,d,q1,q2,q3,q4,q5,q6⟩:=hbx
    refine ⟨g,cs,e,d,q1,q2,by rw[oO];exact q3,q4,by rw[oO];exact q5,fun i z v h1 h2=>?_⟩
    rw[pn] at h1
    obtain ⟨u,hu,rfl⟩:=Option.map_eq_some_iff.1 h1
    exact Fm hw (q6 i u v hu h2)
   |arr ver t es md=>
    obtain ⟨d,A,cap,q1,q2,q3,q4⟩:=hbx
    refine ⟨d,A,cap,q1,q2,q3,q4.imp id ?_⟩
    rintro ⟨g,o,cs,g1,g2,g3,g4,g5⟩
    exact ⟨g,o,cs,g1,g2,g3,g4,fun i c j x ct v a1 a2 a3 a4=>CR.mv (m:=md) (g5 i c j x ct v a1 a2 a3 a4) (fun _ h=>.inl h) (fun _ _=>rfl) fun _ _ _=>rfl⟩
   |mp ver t es=>exact hbx
   |dead v=>trivial
 ·intro b b' y y' g hy hy' hl hl' hg hg'
  obtain ⟨x,h1,h2,_⟩:=hlive b y hy hl
  obtain ⟨x',h1',h2',_⟩:=hlive b' y' hy' hl'
  exact hw.disj b b' x x' g h1 h1' h2 h2' hg hg'
 ·intro b y g hy hl hg
  obtain ⟨x,h1,h2,h3⟩:=hlive b y hy hl
  obtain ⟨q1,q2⟩:=hw.out b x g h1 h2 hg
  refine ⟨?_,q2⟩
  rintro (h|⟨c,z,c1,c2,⟨c3,c4⟩|c3⟩)
  ·exact q1 h
  ·have:=hw.disj b c x z g h1 c2 h2 c3 hg c4
   subst this
   rw[(cN _ _).2 c1] at h3
   simp at h3
  ·exact (hw.own c z g c2 c3).2.2.2.2 b x h1 h2 hg
 ·intro n hn
  obtain ⟨x,h1,h2⟩:=hw.stay n hn
  cases hm:cZ bs n with
  |true=>exact ⟨_,Ka h1 hm,fun e=>by simp[Box.ver] at e⟩
  |false=>
   refine ⟨_,nk h1 hm,fun e=>?_⟩
   obtain ⟨p1,p2⟩:=h2 (by rw[iU] at e;exact e)
   exact ⟨p1,fun hm2=>p2 (by cases x<;>first|exact hm2|simp[Box.m,Box.frz] at hm2)⟩
 ·obtain ⟨x,hx,⟨hm,rfl⟩|⟨hm,rfl⟩⟩:=hget b y hy
  ·trivial
  ·have:=hw.lin b x hx
   cases x<;>first|exact this|trivial
 ·obtain ⟨x,h1,h2,h3,h4⟩:=hnst b y k hy hk
  obtain ⟨o1,o2,o3,o4,o5⟩:=hw.own b x k h1 h3
  rw[h4]
  refine ⟨o1,fun hm=>?_,fun hm=>.inl (o3 hm),o4,fun b' y' hy' hl' hg'=>?_⟩
  ·rintro (h|⟨c,z,c1,c2,⟨c3,c4⟩|c3⟩)
   ·exact o2 hm h
   ·exact o5 c z c2 c3 c4
   ·have:=hw.odj b c x z k h1 c2 h3 c3
    subst this
    rw[(cN _ _).2 c1] at h2
    simp at h2
  ·obtain ⟨x',q1,q2,_⟩:=hlive b' y' hy' hl'
   exact o5 b' x' q1 q2 hg'
 ·obtain ⟨x,h1,_,h3,_⟩:=hnst b y k hy hk
  obtain ⟨x',h1',_,h3',_⟩:=hnst b' y' k hy' hk'
  exact hw.odj b b' x x' k h1 h1' h3 h3'
 ·exact Fm hw (hs.sl k)
theorem Dk {n:Nat} {σ:St} {a:Act} {d b v md:Nat} {lo hi:Int} {t:TypeId} {es:List (List C)} (hsl:σ.sl d=.vw b v lo hi) (hbx:σ.bx b=some (.arr v t es md)) (hmd:¬2<=md) (hlo:lo=0∨lo<hi) (h:Sim T fr n σ a w):
  Sim T fr n ⟨upd σ.sl d (.ow b (v+1)),upd σ.bx b (some (.arr (v+1) t ((es.take hi.toNat).drop lo.toNat) (mT T t)))⟩ a w:=by
 obtain ⟨F,θ,hw,hs⟩:=h
 have hx:=hs.sl d
 rw[hsl] at hx
 obtain ⟨dd,_,_,hdd,_⟩:=hw.box b _ hbx
 have hmT:mT T t=mF dd:=by simp[mT,hdd]
 obtain ⟨hput,hva⟩:=BM (md:=mT T t) hx hbx hmd hdd (by rw[hmT];exact zK dd) hlo hw
 refine ⟨F,_,hput.1,⟨fun k=>?_,hs.n,hs.defers⟩⟩
 by_cases hk:k=d
 ·subst hk
  show aj T F w (upd σ.bx b _) _ (upd σ.sl k _ k) _
  rw[ar]
  exact .ow b (v+1) _ _ (ar _ _ _) (Mp _) hva fun _=>⟨t,_,_,rfl,(ar _ _ _).symm⟩
 ·show aj T F w (upd σ.bx b _) _ (upd σ.sl d _ k) _
  rw[aY _ _ hk]
  exact (hs.sl k).mv hput.2
theorem Bs {n:Nat} {σ:St} {a:Act} {m i b v vw md:Nat} {lo hi:Int} {t tw:TypeId} {es:List (List C)} {cells:List V} (hm:σ.bx m=some (.var vw tw cells)) (hci:cells[i]?=some (.vw b v lo hi)) (hbx:σ.bx b=some (.arr v t es md)) (hmd:¬2<=md) (hlo:lo=0∨lo<hi) (h:Sim T fr n σ a w):
  Sim T fr n ⟨σ.sl,upd (upd σ.bx b (some (.arr (v+1) t ((es.take hi.toNat).drop lo.toNat) (mT T t)))) m (some (.var vw tw (cells.set i (.ow b (v+1)))))⟩ a w:=by
 obtain ⟨F,θ,hw,hs⟩:=h
 have hmb:m≠b:=by rintro rfl;rw[hm] at hbx;simp at hbx
 obtain ⟨g,cs,e,dt,q1,q2,q3,q4,q5,q6⟩:=hw.box m _ hm
 have hil:i<cells.length:=(Ml.1 hci).1
 have hcs:cs[i]?=some (cs[i]'(by omega)):=M5 (by omega)
 have hx:=q6 i _ _ hci hcs
 obtain ⟨dd,_,_,hdd,_⟩:=hw.box b _ hbx
 have hmT:mT T t=mF dd:=by simp[mT,hdd]
 obtain ⟨hput,hva⟩:=BM (md:=mT T t) hx hbx hmd hdd (by rw[hmT];exact zK dd) hlo hw
 have hm':(upd σ.bx b (some (.arr (v+1) t ((es.take hi.toNat).drop lo.toNat) (mT T t)))) m=some (.var vw tw cells):=by rw[aY _ _ hmb];exact hm
 have hthm:(upd θ b (cs[i]'(by omega))) m=θ m:=aY _ _ hmb
 have hput2:=hput.1.put m (.var vw tw (cells.set i (.ow b (v+1)))) (θ m) w (fun z hz=>by
   rw[hm'] at hz;obtain rfl:=Mh hz
   exact .inr ⟨rfl,by simp[Box.same],hthm.symm,fun h=>by simp[Box.m] at h⟩) (fun q hq=>.inl rfl) (Mp _) rfl rfl ⟨rfl,Mp _⟩
  (fun q hq=>.inr ⟨_,hm',rfl,by rw[hthm];exact hq⟩) (fun _ h=>h) trivial (fun mv=>by
   refine ⟨g,cs,e,dt,by rw[ar];exact q1,q2,by rw[MI];exact q3,q4,by rw[MI];exact q5,fun k x u hk hu=>?_⟩
   rw[M9] at hk
   split at hk
   ·rename_i e
    subst e
    obtain rfl:=Mh hk
    rw[hcs] at hu
    obtain rfl:=Mh hu
    exact (aj.ow b (v+1) _ _ (ar _ _ _) (Mp _) hva fun _=>⟨t,_,_,rfl,(ar _ _ _).symm⟩).mv mv
   ·exact ((q6 k x u hk hu).mv hput.2).mv mv)
 exact ⟨F,_,hput2.1,⟨fun k=>((hs.sl k).mv hput.2).mv hput2.2,hs.n,hs.defers⟩⟩
theorem Jp {n:Nat} {σ:St} {a:Act} (m i:Nat) (hc:σ.yY m i=true) (h:Sim T fr n σ a w):Sim T fr n (σ.Ie T m i) a w:=by
 unfold St.Ie
 unfold St.yY at hc
 split
 ·rename_i vw tw cells hm
  rw[hm] at hc
  simp only at hc
  split
  ·rename_i b ver lo hi hci
   rw[hci] at hc
   simp only at hc
   rw[nU] at hci
   split
   ·rename_i v t es md hbx
    cases hv:az (Nat.beq v ver) (Nat.blt md 2) with
    |false=>exact h
    |true=>
     have hv':=hv
     rw[ao,Mk] at hv'
     have hmd:=lv hv'.2
     have e:=Mi hv'.1
     subst e
     rw[ai]
     split
     ·have:=Bs hm hci hbx hmd (.inl rfl) h
      simpa [xG] using this
     ·rename_i hne
      have:=Bs hm hci hbx hmd (by
       split at hc
       ·exact (hne rfl).elim
       ·exact .inr (by simpa using hc)) h
      simpa [xG] using this
   ·exact h
  ·exact h
 ·exact h
theorem Lh {n:Nat} {σ:St} {a:Act} (d:Nat) (hc:σ.Ej d=true) (h:Sim T fr n σ a w):Sim T fr n (σ.cut T d) a w:=by
 unfold St.cut
 unfold St.Ej at hc
 split
 ·rename_i b ver lo hi hsl
  rw[hsl] at hc
  simp only at hc
  split
  ·rename_i v t es md hbx
   cases hv:az (Nat.beq v ver) (Nat.blt md 2) with
   |false=>exact h
   |true=>
    have hv':=hv
    rw[ao,Mk] at hv'
    have hmd:=lv hv'.2
    have e:=Mi hv'.1
    subst e
    rw[ai]
    split
    ·have:=Dk hsl hbx hmd (.inl rfl) h
     simpa using this
    ·rename_i hne
     refine Dk hsl hbx hmd ?_ h
     split at hc
     ·exact (hne rfl).elim
     ·exact .inr (by simpa using hc)
  ·exact h
 ·exact h
end
end Go.Ev
namespace Go.Ev
section
variable {P:Program} {X:Cx} {fr:Fr}
theorem Ih {T:Tys} {n:Nat} {σ:St} {a:Act} {w w':World} (h:Sim T fr n σ a w) (hh:w'.heap=w.heap) (hos:w'.os=w.os) (htp:w'.tape=w.tape) (hou:w'.output=w.output/\w.drawn<=w'.drawn):Sim T fr n σ a w':=by
 obtain ⟨F,θ,hw,hs⟩:=h
 have m:Mv F w σ.bx θ F w' σ.bx θ:=⟨fun _ h=>h,fun k _=>by rw[hh],fun b x hx=>⟨x,hx,Mp _,fun _=>⟨x.kI,rfl,fun h=>⟨h,fun g o n cap e p A l c hc=>(fZ (show w'.heap[g]?=w.heap[g]? by rw[hh]) p).trans hc⟩⟩⟩⟩
 have hb:∀(b:Nat) (x:Box) (k:Nat),x.nst T w' (θ b) k->x.nst T w (θ b) k:=fun b x k hk=>CH hk (fun g _=>by rw[hh]) fun k _=>by rw[hh]
 refine ⟨F,θ,⟨fun b x hx=>(hw.box b x hx).mv m rfl (fun g _=>by rw[hh]) fun k _=>by rw[hh],hw.disj,fun b x g h1 h2 h3=>by rw[hh];exact hw.out b x g h1 h2 h3,fun k hk=>by rw[hh];exact hw.lt k hk,
  hw.keep.next hos htp hou (by rw[hh];exact Mp _) fun k _ _=>by rw[hh],hw.sub,hw.new,sw hw.stay m,fun b x hx=>BE (hw.lin b x hx) (fun g _=>by rw[hh]) fun k _=>by rw[hh],fun b x k hx hk=>by rw[hh];exact hw.own b x k hx (hb b x k hk),
  fun b b' x x' k hx hx' hk hk'=>hw.odj b b' x x' k hx hx' (hb b x k hk) (hb b' x' k hk'),hw.nlF⟩,⟨fun k=>(hs.sl k).mv m,hs.n,hs.defers⟩⟩
theorem GZ (hX:Env P X) {id:Nat} {ops:Array Oper} {draw:Bool} {κ:St->R} {σ:St} {r:Out} {a:Act} {w:World} {Q:Exit->Act->World->Prop}
  (h:sif (orS (dY draw) (pG ops.toList 0)) (kL X draw ops.toList (sif draw (anc ops.toList []) []) κ ops.toList [] σ) none=some r) (hs:Sim X.T fr X.n σ a w)
  (hκ:∀σ' a' w',κ σ'=some r->Sim X.T fr X.n σ' a' w'->Q .normal a' w'):(Code.region id ops draw).wp P Q a w:=by
 cases hB:orS (dY draw) (pG ops.toList 0) with
 |false=>rw[hB,aX] at h;simp at h
 |true=>
  rw[hB,ai] at h
  obtain ⟨⟨L,σ',c1,c2,c3,c4⟩⟩:=uL ops.toList [] σ (fun i o ho=>by simpa using ho) (fun j q d x hj=>by simp at hj) h
  simp only[Mo] at c3
  have hget:∀(p i:Nat) (o:Oper) (g:Lg),L[p]?=some (i,o,g)->i=p/\ops.toList[p]?=some o:=by
   intro p i o g hp
   have h1:(L.map fun p=>(p.1,p.2.1))[p]?=some (i,o):=by simp[hp]
   rw[c3] at h1
   simp only[No,Option.map_eq_some_iff] at h1
   obtain ⟨⟨o',i'⟩,h2,h3⟩:=h1
   simp only[MG] at h3
   obtain ⟨rfl,rfl⟩:=h3
   rw[List.getElem?_zipIdx] at h2
   obtain ⟨z,hz,he⟩:=Option.map_eq_some_iff.1 h2
   simp only[MG] at he
   obtain ⟨rfl,rfl⟩:=he
   exact ⟨by omega,hz⟩
  have hlen:L.length=ops.size:=by
   have:=congrArg List.length c3
   simpa using this
  have hmem:∀i o g,(i,o,g)∈L->ops.toList[i]?=some o:=by
   intro i o g hm
   obtain ⟨p,hp,he⟩:=List.mem_iff_getElem.1 hm
   obtain ⟨rfl,h2⟩:=hget p i o g (by rw[Mg hp,he])
   exact h2
  cases draw with
  |false=>
   refine wp_region ?_
   have:=C6 hX (Q:=Q) L σ a w c1 hmem hs fun a' w' hs'=>hκ σ' a' w' c2 hs'
   have e:L.map (·.1)=List.range ops.size:=by
    refine List.ext_getElem? fun p=>?_
    rw[No]
    rcases Nat.lt_or_ge p L.length with hp|hp
    ·have hp':=Mg hp
     obtain ⟨h1,h2⟩:=hget p _ _ _ hp'
     rw[hp',List.getElem?_range (by omega)]
     exact congrArg some h1
    ·rw[M7 hp,M7 (by simp;omega)];rfl
   rw[e] at this
   simpa using this
  |true=>
   refine wp_region_any hX.mixed ?_
   have hB':pG ops.toList 0=true:=by simpa [kN,cX] using hB
   have hs':Sim X.T fr X.n σ a {w with drawn:=w.drawn+1}:=Ih hs rfl rfl rfl ⟨rfl,Nat.le_succ _⟩
   have hI:Inv ops.toList (Array.replicate ops.size false) L:=by
    refine ⟨by simp,fun i o g hm=>⟨hmem i o g hm,?_⟩,fun i hi _=>?_,?_,?_,fun i o hl=>?_⟩
    ·have:=(Ml.1 (hmem i o g hm)).1
     simp at this
     simp[Array.getD,this]
    ·have hi':i<L.length:=by rw[hlen];simpa using hi
     have hp':=Mg hi'
     obtain ⟨h1,h2⟩:=hget i _ _ _ hp'
     refine ⟨L[i].2.1,L[i].2.2,?_⟩
     have hm:=Mq hi'
     have e:L[i]=(i,L[i].2.1,L[i].2.2):=Prod.ext h1 rfl
     rw[e] at hm
     exact hm
    ·refine List.pairwise_iff_getElem.2 fun p q hp hq hpq=>?_
     have h1:L[p].1=p:=(hget p _ _ _ (Mg hp)).1
     have h2:L[q].1=q:=(hget q _ _ _ (Mg hq)).1
     omega
    ·refine List.pairwise_iff_getElem.2 fun p q hp hq hpq=>?_
     have h1:L[p].1=p:=(hget p _ _ _ (Mg hp)).1
     have h2:=c4 rfl q L[q].1 L[q].2.1 L[q].2.2 (Mg hq) p L[p].2.1 L[p].2.2 (by simp[hp]) (by simpa using hpq)
     rw[h1]
     exact h2
    ·by_cases hi:i<ops.size
     ·simp[Array.getD,hi] at hl
     ·simp[Array.getD,hi] at hl
   have:=KN hX (Q:=Q) hB' (fun a' w' hs''=>hκ σ' a' w' c2 hs'') ops.size _ L σ a _ hI (by omega) c1 hs'
   simpa using this
def Aw (id:Nat):Exit:=if id<=999999 then .exit id else .goto (id-1000000)
theorem C9 {id:Nat} (h:id<=999999):Aw id=.exit id:=if_pos h
theorem wJ (l:Nat):Aw (Nat.add 1000000 l)=.goto l:=by
 rw[Nat.add_eq]
 unfold Aw
 rw[if_neg (by omega),Nat.add_sub_cancel_left]
theorem FE {K:Act->World->Prop} {Q:Exit->Act->World->Prop} {id:Nat} {a:Act} {w:World} (h:Q (Aw id) a w):Exit.then K Q (Aw id) a w:=by
 unfold Aw at h⊢
 by_cases hl:id<=999999
 ·rw[if_pos hl] at h⊢;exact h
 ·rw[if_neg hl] at h⊢;exact h
def Snd (P:Program) (X:Cx) (fr:Fr) (J:Jn) (c:Code) (m:Ann->(St->R)->St->R):Prop:=
 ∀(n:Ann) (κ:St->R) (σ:St) (r:Out) (Q:Exit->Act->World->Prop) (a:Act) (w:World),m n κ σ=some r->Sim X.T fr X.n σ a w->
  (∀σ' a' w',κ σ'=some r->Sim X.T fr X.n σ' a' w'->Q .normal a' w')->
  (∀id t xs a' w',rj J id=some t->r=.brk id xs->Sim X.T fr X.n (t.inj xs) a' w'->Q (Aw id) a' w')->
  (∀σ' a' w',rh X σ'=some r->Sim X.T fr X.n σ' a' w'->Q .ret a' w')->c.wp P Q a w
theorem DM {β:Type} (xs:List C):∀(q:List (Nat×Sk)) (p:Nat) (f:cu) (k:cu->Nat->β),HK xs q p f k=k (cy nm0 xs q p f).1 (cy nm0 xs q p f).2
 |[],p,f,k=>rfl
 |(d,s)::r,p,f,k=>by
  show (s.inst nm0 xs p).1.force _=_
  rw[force_eq,DM xs r]
  rfl
theorem tU {β:Type} (xs:List C):∀(q:List (Nat×BSk)) (p:Nat) (f:Bxs) (k:Bxs->β),yt xs q p f k=k (ck nm0 xs q p f)
 |[],p,f,k=>rfl
 |(b,.var t cells)::r,p,f,k=>by
  show V.qT _ _=_
  rw[mH,tU xs r]
  rfl
 |(b,.arr t m)::r,p,f,k=>by
  show yt xs r _ _ k=_
  rw[tU xs r]
  rfl
 |(b,.mp t)::r,p,f,k=>by
  show yt xs r _ _ k=_
  rw[tU xs r]
  rfl
theorem sa {β:Type} (t:Tm) (xs:List C) (k:St->β):t.qQ xs k=k (t.inj xs):=by
 unfold Tm.qQ
 rw[DM,tU]
 rfl
theorem ln {σ:St} {r:Out} (h:rh X σ=some r):∃ys,r=.ret ys:=by
 unfold rh at h
 split at h
 ·cases hc:az (E7 σ.bx X.ip) (mR X.inT.bx X.ip) with
  |false=>rw[hc,aX] at h;simp at h
  |true=>
   rw[hc,ai] at h
   split at h
   ·rename_i e _
    cases hz:isNil e.fz with
    |false=>rw[hz,aX] at h;simp at h
    |true=>rw[hz,ai] at h;exact ⟨_,(Mh h).symm⟩
   ·simp at h
 ·simp at h
theorem jl {J:Jn} {c:Code} {f:Ann->(St->R)->St->R} (hst:fr.st=X.ip) (hf:Snd P X fr J c f):Snd P X fr J c (wrap X f):=by
 intro n
 induction n with
 |frz bs x ih=>
  intro κ σ r Q a w h hs h1 h2 h3
  exact ih κ (σ.frz X.T bs) r Q a w h (K8 bs hs) h1 h2 h3
 |cut d x ih=>
  intro κ σ r Q a w h hs h1 h2 h3
  replace h:cond (σ.Ej d) (wrap X f x κ (σ.cut X.T d)) none=some r:=h
  cases hc:σ.Ej d with
  |false=>rw[hc] at h;simp at h
  |true=>rw[hc] at h;exact ih κ (σ.cut X.T d) r Q a w h (Lh d hc hs) h1 h2 h3
 |cutc m i x ih=>
  intro κ σ r Q a w h hs h1 h2 h3
  replace h:cond (σ.yY m i) (wrap X f x κ (σ.Ie X.T m i)) none=some r:=h
  cases hc:σ.yY m i with
  |false=>rw[hc] at h;simp at h
  |true=>rw[hc] at h;exact ih κ (σ.Ie X.T m i) r Q a w h (Jp m i hc hs) h1 h2 h3
 |join t x ih=>
  intro κ σ r Q a w h hs h1 h2 h3
  replace h:aZ (wrap X f x (fun σ'=>qx X t σ' .nrm) σ) (fun xs=>t.qQ xs κ)=some r:=h
  cases hr1:wrap X f x (fun σ'=>qx X t σ' .nrm) σ with
  |none=>rw[hr1] at h;simp[aZ] at h
  |some r1=>
   rw[hr1] at h
   refine ih _ σ r1 Q a w hr1 hs (fun σ' a' w' hk hs'=>?_) (fun id t' xs a' w' hj he hs'=>?_) (fun σ' a' w' hk hs'=>?_)
   ·obtain ⟨xs,rfl,hs''⟩:=sq hst hk hs'
    replace h:t.qQ xs κ=some r:=h
    rw[sa] at h
    exact h1 _ a' w' h hs''
   ·subst he
    have e:r=.brk id xs:=(Mh h).symm
    exact h2 id t' xs a' w' hj e hs'
   ·obtain ⟨ys,rfl⟩:=ln hk
    have e:r=.ret ys:=(Mh h).symm
    rw[←e] at hk
    exact h3 σ' a' w' hk hs'
 |leaf=>exact hf .leaf
 |seq x y _ _=>exact hf (.seq x y)
 |cond x y _ _=>exact hf (.cond x y)
 |block t x _=>exact hf (.block t x)
 |loop t x _=>exact hf (.loop t x)
 |skip x _=>exact hf (.skip x)
 |scp l t x y _ _=>exact hf (.scp l t x y)
theorem Ee (id:Nat):∀(J:Jn),rj (vU id J) id=none/\∀k t,rj (vU id J) k=some t->rj J k=some t
 |[]=>⟨rfl,fun k t h=>h⟩
 |(m,u)::r=>by
  obtain ⟨h1,h2⟩:=Ee id r
  cases hb:Nat.beq m id with
  |true=>
   have e:vU id ((m,u)::r)=vU id r:=by show sif (Nat.beq m id) _ _=_;rw[hb];rfl
   rw[e]
   refine ⟨h1,fun k t hk=>?_⟩
   have hmk:Nat.beq m k=false:=by
    cases hmk:Nat.beq m k with
    |false=>rfl
    |true=>
     have a1:=Mi hb
     have a2:=Mi hmk
     subst a1;subst a2
     rw[h1] at hk;simp at hk
   show sif (Nat.beq m k) _ _=_
   rw[hmk]
   exact h2 k t hk
  |false=>
   have e:vU id ((m,u)::r)=(m,u)::vU id r:=by show sif (Nat.beq m id) _ _=_;rw[hb];rfl
   rw[e]
   refine ⟨?_,fun k t hk=>?_⟩
   ·show sif (Nat.beq m id) _ _=_
    rw[hb];exact h1
   ·replace hk:sif (Nat.beq m k) (some u) (rj (vU id r) k)=some t:=hk
    show sif (Nat.beq m k) (some u) (rj r k)=some t
    cases hmk:Nat.beq m k with
    |true=>rw[hmk] at hk;exact hk
    |false=>rw[hmk] at hk;exact h2 k t hk
theorem uK {body:List C->R} {xs:List C} {r:Out} (h:lim body xs=some r):∃k,iter body k xs=some r:=by
 unfold lim at h
 split at h
 ·exact ⟨_,h⟩
 ·simp at h
theorem Cu (hX:Env P X) (hst:fr.st=X.ip):∀(c:Code) (J:Jn),Snd P X fr J c (ev X c J):=by
 intro c
 induction c with
 |skip=>
  intro J
  refine jl hst ?_
  intro n κ σ r Q a w h hs h1 h2 h3
  exact wp_skip (h1 σ a w h hs)
 |region id ops draw=>
  intro J
  refine jl hst ?_
  intro n κ σ r Q a w h hs h1 h2 h3
  exact GZ hX h hs h1
 |seq x y ihx ihy=>
  intro J
  refine jl hst ?_
  intro n κ σ r Q a w h hs h1 h2 h3
  have key:∀n1 n2,ev X x J n1 (fun σ=>ev X y J n2 κ σ) σ=some r->(Code.seq x y).wp P Q a w:=by
   intro n1 n2 h
   refine wp_seq (ihx J n1 _ σ r _ a w h hs (fun σ' a' w' hk hs'=>?_) (fun id t xs a' w' h4 h5 h6=>FE (h2 id t xs a' w' h4 h5 h6)) h3)
   exact ihy J n2 κ σ' r Q a' w' hk hs' h1 h2 h3
  cases n with
  |seq n1 n2=>exact key n1 n2 h
  |_=>exact key _ _ h
 |cond q x y ihx ihy=>
  intro J
  refine jl hst ?_
  intro n κ σ r Q a w h hs h1 h2 h3
  have hv:aj X.T _ _ _ _ (bX σ.sl q) (a.eval q):=FV hs.ex.choose_spec.choose_spec.2.sl q
  dsimp only at h
  generalize ho:bX σ.sl q=oq at h hv
  cases oq with
  |c t z=>cases t with
   |bool=>
    have hb:=mm hv
    have key:∀n1 n2,cond z.B (ev X x J n1 κ σ) (ev X y J n2 κ σ)=some r->(Code.cond q x y).wp P Q a w:=by
     intro n1 n2 h
     refine wp_cond_split hb (fun ht=>?_) (fun hf=>?_)
     ·rw[ht] at h;exact ihx J n1 κ σ r Q a w h hs h1 h2 h3
     ·rw[hf] at h;exact ihy J n2 κ σ r Q a w h hs h1 h2 h3
    cases n with
    |cond n1 n2=>exact key n1 n2 h
    |_=>exact key _ _ h
   |_=>exact absurd (show (none:R)=some r from h) (by simp)
  |_=>exact absurd (show (none:R)=some r from h) (by simp)
 |block id x ih=>
  intro J
  refine jl hst ?_
  intro n κ σ r Q a w h hs h1 h2 h3
  cases hlow:Nat.ble id 999999 with
  |false=>dsimp only at h;rw[hlow,aX] at h;simp at h
  |true=>
  dsimp only at h
  rw[hlow,ai] at h
  have hlow':=MJ hlow
  have hblk:∀(id':Nat) (a':Act) (w':World),id'≠id->Q (Aw id') a' w'->Exit.inBlock id Q (Aw id') a' w':=by
   intro id' a' w' hid hq
   unfold Aw at hq⊢
   by_cases hl:id'<=999999
   ·rw[if_pos hl] at hq⊢
    show if id'=id then _ else _
    rw[if_neg hid];exact hq
   ·rw[if_neg hl] at hq⊢;exact hq
  have key:∀n1,ev X x (vU id J) n1 κ σ=some r->(Code.block id x).wp P Q a w:=by
   intro n1 h
   refine wp_block (ih (vU id J) n1 κ σ r _ a w h hs h1 (fun id' t xs a' w' hj he hs'=>?_) h3)
   obtain ⟨d1,d2⟩:=Ee id J
   by_cases hid:id'=id
   ·subst hid;rw[d1] at hj;simp at hj
   ·exact hblk id' a' w' hid (h2 id' t xs a' w' (d2 _ _ hj) he hs')
  cases n with
  |block t n1=>
   replace h:ah id (ev X x ((id,t)::J) n1 (fun σ'=>qx X t σ' (.brk id)) σ) (fun xs=>t.qQ xs κ)=some r:=h
   cases hr1:ev X x ((id,t)::J) n1 (fun σ'=>qx X t σ' (.brk id)) σ with
   |none=>rw[hr1] at h;simp[ah] at h
   |some r1=>
    rw[hr1] at h
    have hbrk:∀xs a' w',r1=.brk id xs->Sim X.T fr X.n (t.inj xs) a' w'->Q .normal a' w':=by
     intro xs a' w' he hs'
     subst he
     replace h:sif (Nat.beq id id) (t.qQ xs κ) (some (.brk id xs))=some r:=h
     rw[Nat.beq_refl,ai,sa] at h
     exact h1 _ a' w' h hs'
    refine wp_block (ih ((id,t)::J) n1 _ σ r1 _ a w hr1 hs (fun σ' a' w' hk hs'=>?_) (fun id' t' xs a' w' hj he hs'=>?_) (fun σ' a' w' hk hs'=>?_))
    ·obtain ⟨xs,he,hs''⟩:=sq hst hk hs'
     exact hbrk xs a' w' he hs''
    ·by_cases hid:id'=id
     ·subst hid
      replace hj:sif (Nat.beq id' id') (some t) (rj J id')=some t':=hj
      rw[Nat.beq_refl,ai] at hj
      obtain rfl:=Mh hj
      rw[C9 hlow']
      show if id'=id' then _ else _
      rw[if_pos rfl]
      exact hbrk xs a' w' he hs'
     ·refine hblk id' a' w' hid ?_
      have hb1:Nat.beq id id'=false:=by
       cases hb:Nat.beq id id' with
       |false=>rfl
       |true=>exact absurd (Mi hb).symm hid
      have hb2:Nat.beq id' id=false:=by
       cases hb:Nat.beq id' id with
       |false=>rfl
       |true=>exact absurd (Mi hb) hid
      replace hj:sif (Nat.beq id id') (some t) (rj J id')=some t':=hj
      rw[hb1,aX] at hj
      subst he
      replace h:sif (Nat.beq id' id) (t.qQ xs κ) (some (.brk id' xs))=some r:=h
      rw[hb2,aX] at h
      exact h2 id' t' xs a' w' hj (Mh h).symm hs'
    ·obtain ⟨ys,rfl⟩:=ln hk
     have e:r=.ret ys:=(Mh h).symm
     rw[←e] at hk
     exact h3 σ' a' w' hk hs'
  |skip n1=>exact key n1 h
  |_=>exact key _ h
 |loop x ih=>
  intro J
  refine jl hst ?_
  intro n κ σ r Q a w h hs h1 h2 h3
  cases n with
  |loop t n1=>
   replace h:sif (wP X t σ) (match t.data X.T (xZ X.ip) σ with
    |some xs=>lim (fun xs=>t.qQ xs (ev X x J n1 fun σ'=>qx X t σ' .again)) xs
    |none=>none) none=some r:=h
   cases hj:wP X t σ with
   |false=>rw[hj,aX] at h;simp at h
   |true=>
    rw[hj,ai] at h
    split at h
    ·rename_i xs hxs
     have h0:qx X t σ .again=some (.again xs):=by unfold qx;rw[hj,ai,hxs]
     obtain ⟨xs',he,hs0⟩:=sq hst h0 hs
     simp only[Out.again.injEq] at he
     subst he
     obtain ⟨k,hk⟩:=uK h
     refine wp_loop_rounds k ?_
     have rounds:∀(k:Nat) (xs:List C) (a:Act) (w:World),iter (fun xs=>t.qQ xs (ev X x J n1 fun σ'=>qx X t σ' .again)) k xs=some r->Sim X.T fr X.n (t.inj xs) a w->Code.rounds P x Q k a w:=by
      intro k
      induction k with
      |zero=>intro xs a w hk _;simp[iter] at hk
      |succ k ihk=>
       intro xs a w hk hs
       show x.wp P (Exit.then (Code.rounds P x Q k) Q) a w
       simp only[iter] at hk
       rw[sa] at hk
       cases hr1:ev X x J n1 (fun σ'=>qx X t σ' .again) (t.inj xs) with
       |none=>rw[hr1] at hk;simp at hk
       |some r1=>
        rw[hr1] at hk
        refine ih J n1 _ _ r1 _ a w hr1 hs (fun σ' a' w' hk' hs'=>?_) (fun id' t' ys a' w' hj he hs'=>?_) (fun σ' a' w' hk' hs'=>?_)
        ·obtain ⟨ys,rfl,hs''⟩:=sq hst hk' hs'
         exact ihk ys a' w' hk hs''
        ·subst he
         exact FE (h2 id' t' ys a' w' hj (Mh hk).symm hs')
        ·obtain ⟨ys,rfl⟩:=ln hk'
         have e:r=.ret ys:=(Mh hk).symm
         rw[←e] at hk'
         exact h3 σ' a' w' hk' hs'
     exact rounds k _ a w hk hs0
    ·simp at h
  |_=>exact absurd (show (none:R)=some r from h) (by simp)
 |exit id=>
  intro J
  refine jl hst ?_
  intro n κ σ r Q a w h hs h1 h2 h3
  replace h:sif (Nat.ble id 999999) (match rj J id with
   |some t=>qx X t σ (.brk id)
   |none=>none) none=some r:=h
  cases hlow:Nat.ble id 999999 with
  |false=>rw[hlow,aX] at h;simp at h
  |true=>
   rw[hlow,ai] at h
   split at h
   ·rename_i t hj
    obtain ⟨xs,he,hs'⟩:=sq hst h hs
    have:=h2 id t xs a w hj he hs'
    rw[C9 (MJ hlow)] at this
    exact wp_exit this
   ·simp at h
 |label l=>
  intro J
  refine jl hst ?_
  intro n κ σ r Q a w h hs h1 h2 h3
  exact wp_label (h1 σ a w h hs)
 |goto l=>
  intro J
  refine jl hst ?_
  intro n κ σ r Q a w h hs h1 h2 h3
  replace h:(match rj J (Nat.add 1000000 l) with
   |some t=>qx X t σ (.brk (Nat.add 1000000 l))
   |none=>none)=some r:=h
  split at h
  ·rename_i t hj
   obtain ⟨xs,he,hs'⟩:=sq hst h hs
   have:=h2 _ t xs a w hj he hs'
   rw[wJ] at this
   exact wp_goto this
  ·simp at h
 |ret=>
  intro J
  refine jl hst ?_
  intro n κ σ r Q a w h hs h1 h2 h3
  exact wp_ret (h3 σ a w h hs)
 |_=>
  intro J n κ σ r Q a w h
  exact absurd (show (none:R)=some r from h) (by simp)
theorem xB {c rest:Code} {Q:Exit->Act->World->Prop} {a:Act} {w:World} (l:Nat) (R:Nat->Act->World->Prop) (hf:findLabel c l=some rest)
  (first:c.wp P (Exit.jump l (fun a w=>∃k,R k a w) Q) a w)
  (pass:∀k a w,R k a w->rest.wp P (Exit.jump l (fun a' w'=>∃j,j<k/\R j a' w') Q) a w):(Code.scope c).wp P Q a w:=by
 intro b k cs
 have hg:gotoIn l (.inScope c::k)=some (.code rest::.inScope c::k):=by simp[gotoIn,hf]
 have key:∀n a w,R n a w->∃e a' w',Q e a' w'/\Arrives P (lone (b.at a (.code rest::.inScope c::k)) cs w) b k cs e a' w':=by
  intro n
  induction n using Nat.strongRecOn with
  |_ n ih=>
   intro a w hR
   obtain ⟨e,a₁,w₁,hq,harr⟩:=pass n a w hR b (.inScope c::k) cs
   cases e with
   |normal=>exact ⟨.normal,a₁,w₁,hq,Steps.trans harr (.one step_inScope)⟩
   |exit id=>exact ⟨.exit id,a₁,w₁,hq,fun k' hk=>harr k' (by simp[exitTo,hk])⟩
   |goto l'=>
    obtain ⟨rfl,j,hj,hR'⟩:=hq
    obtain ⟨e₂,a₂,w₂,hq₂,harr₂⟩:=ih j hj a₁ w₁ hR'
    exact ⟨e₂,a₂,w₂,hq₂,.of_steps (harr _ hg) harr₂⟩
   |ret=>exact ⟨_,a₁,w₁,hq,harr⟩
   |panic ch=>exact ⟨_,a₁,w₁,hq,harr⟩
   |outgrown=>exact ⟨_,a₁,w₁,hq,harr⟩
 obtain ⟨e,a₁,w₁,hq,harr⟩:=first b (.inScope c::k) cs
 cases e with
 |normal=>exact ⟨.normal,a₁,w₁,hq,.head step_scope (Steps.trans harr (.one step_inScope))⟩
 |exit id=>exact ⟨.exit id,a₁,w₁,hq,fun k' hk=>.head step_scope (harr k' (by simp[exitTo,hk]))⟩
 |goto l'=>
  obtain ⟨rfl,j,hR'⟩:=hq
  obtain ⟨e₂,a₂,w₂,hq₂,harr₂⟩:=key j a₁ w₁ hR'
  exact ⟨e₂,a₂,w₂,hq₂,.of_steps (.head step_scope (harr _ hg)) harr₂⟩
 |ret=>exact ⟨_,a₁,w₁,hq,.of_steps (.one step_scope) harr⟩
 |panic ch=>exact ⟨_,a₁,w₁,hq,.of_steps (.one step_scope) harr⟩
 |outgrown=>exact ⟨_,a₁,w₁,hq,.of_steps (.one step_scope) harr⟩
theorem J7 (hX:Env P X) (hst:fr.st=X.ip) {c:Code} {l:Nat} {t:Tm} {x y:Ann} {σ:St} {ys:List C} {Q:Exit->Act->World->Prop} {a:Act} {w:World} (h:evS X l t x y c σ=some (.ret ys)) (hs:Sim X.T fr X.n σ a w)
  (h1:∀σ' a' w',rh X σ'=some (.ret ys)->Sim X.T fr X.n σ' a' w'->Q .normal a' w') (h3:∀σ' a' w',rh X σ'=some (.ret ys)->Sim X.T fr X.n σ' a' w'->Q .ret a' w'):(Code.scope c).wp P Q a w:=by
 unfold evS at h
 split at h
 ·rename_i c' hc'
  have hjg:rj [(Nat.add 1000000 l,t)] (Nat.add 1000000 l)=some t:=by
   show sif (Nat.beq _ _) _ _=_
   rw[Nat.beq_refl];rfl
  have hjo:∀id t',rj [(Nat.add 1000000 l,t)] id=some t'->id=Nat.add 1000000 l/\t'=t:=by
   intro id t' h
   replace h:sif (Nat.beq (Nat.add 1000000 l) id) (some t) none=some t':=h
   cases hb:Nat.beq (Nat.add 1000000 l) id with
   |false=>rw[hb,aX] at h;simp at h
   |true=>rw[hb,ai] at h;exact ⟨(Mi hb).symm,(Mh h).symm⟩
  let body:List C->R:=fun xs=>goA (Nat.add 1000000 l) (t.qQ xs (ev X c' [(Nat.add 1000000 l,t)] y fun σ=>rh X σ))
  refine xB l (fun k a w=>∃xs,iter body k xs=some (.ret ys)/\Sim X.T fr X.n (t.inj xs) a w) hc' ?_ ?_
  ·cases hr1:ev X c [(Nat.add 1000000 l,t)] x (fun σ=>rh X σ) σ with
   |none=>rw[hr1] at h;simp[Cz] at h
   |some r1=>
    rw[hr1] at h
    refine Cu hX hst c _ x _ _ r1 _ _ w hr1 hs (fun σ' a' w' hk hs'=>?_) (fun id t' xs a' w' hj he hs'=>?_) (fun σ' a' w' hk hs'=>?_)
    ·obtain ⟨zs,rfl⟩:=ln hk
     have e:zs=ys:=by simpa [Cz] using h
     exact h1 σ' a' w' (e▸hk) hs'
    ·obtain ⟨rfl,rfl⟩:=hjo _ _ hj
     subst he
     replace h:sif (Nat.beq (Nat.add 1000000 l) (Nat.add 1000000 l)) (lim body xs) none=some (.ret ys):=h
     rw[Nat.beq_refl,ai] at h
     obtain ⟨k,hk⟩:=uK h
     rw[wJ]
     exact ⟨rfl,k,xs,hk,hs'⟩
    ·obtain ⟨zs,rfl⟩:=ln hk
     have e:zs=ys:=by simpa [Cz] using h
     exact h3 σ' a' w' (e▸hk) hs'
  ·rintro k a w ⟨xs,hk,hs⟩
   cases k with
   |zero=>simp[iter] at hk
   |succ k=>
    simp only[iter] at hk
    cases hr2:ev X c' [(Nat.add 1000000 l,t)] y (fun σ=>rh X σ) (t.inj xs) with
    |none=>
     have e:body xs=none:=by show goA _ (t.qQ xs _)=none;rw[sa,hr2];rfl
     rw[e] at hk;simp at hk
    |some r1=>
     have e:body xs=goA (Nat.add 1000000 l) (some r1):=by show goA _ (t.qQ xs _)=_;rw[sa,hr2]
     rw[e] at hk
     refine Cu hX hst c' _ y _ _ r1 _ _ w hr2 hs (fun σ' a' w' hk' hs'=>?_) (fun id t' zs a' w' hj he hs'=>?_) (fun σ' a' w' hk' hs'=>?_)
     ·obtain ⟨zs,rfl⟩:=ln hk'
      have e:zs=ys:=by simpa [goA] using hk
      exact h1 σ' a' w' (e▸hk') hs'
     ·obtain ⟨rfl,rfl⟩:=hjo _ _ hj
      subst he
      have e2:goA (Nat.add 1000000 l) (some (.brk (Nat.add 1000000 l) zs))=some (.again zs):=by
       show sif (Nat.beq _ _) _ _=_
       rw[Nat.beq_refl];rfl
      rw[e2] at hk
      rw[wJ]
      exact ⟨rfl,k,Nat.lt_succ_self k,zs,hk,hs'⟩
     ·obtain ⟨zs,rfl⟩:=ln hk'
      have e:zs=ys:=by simpa [goA] using hk
      exact h3 σ' a' w' (e▸hk') hs'
 ·simp at h
theorem Jy (hX:Env P X) (hst:fr.st=X.ip) {c:Code} {an:Ann} {σ:St} {ys:List C} {Q:Exit->Act->World->Prop} {a:Act} {w:World} (h:evT X an c σ=some (.ret ys)) (hs:Sim X.T fr X.n σ a w)
  (h1:∀σ' a' w',rh X σ'=some (.ret ys)->Sim X.T fr X.n σ' a' w'->Q .normal a' w') (h3:∀σ' a' w',rh X σ'=some (.ret ys)->Sim X.T fr X.n σ' a' w'->Q .ret a' w'):c.wp P Q a w:=by
 have flat:∀an,ev X c [] an (fun σ=>rh X σ) σ=some (.ret ys)->c.wp P Q a w:=fun an h=>
  Cu hX hst c [] an _ _ _ _ _ w h hs h1 (fun id t xs a' w' h=>by simp[rj] at h) h3
 unfold evT at h
 split at h
 ·rename_i x l t y z b c
  exact wp_seq (Cu hX hst b [] x _ _ _ _ _ w h hs (fun σ' a' w' hk hs'=>J7 hX hst hk hs' h1 h3) (fun id t xs a' w' h=>by simp[rj] at h) h3)
 ·exact flat _ h
end
end Go.Ev
namespace Go.Ev
section
variable {P:Program} {T:Tys} {X:Cx} {fr:Fr} {F:Nat->Prop} {w:World} {θ:Nat->Value}
def yX (tmps:Array Value):ResultVar->Sem Value
 |.tmp t=>pure (tmps.getD t undef)
 |.cell a t=>do loadVar t (←asAddr (tmps.getD a undef))
theorem GX (hT:TOk P T) {σ:St} {n:Nat} {a:Act} (hw:WR T fr F w σ.bx θ) (hs:SlR T F w σ.bx θ n σ.sl a) {q:ResultVar} {v:V} (h:BI T σ q=some v):
  ∃u,(yX a.tmps q).run P w=.ok u w/\aj T F w σ.bx θ v u:=by
 cases q with
 |tmp t=>
  simp only[BI,Mj] at h
  subst h
  exact ⟨_,by simp[yX],hs.sl t⟩
 |cell b t=>
  simp only[BI] at h
  split at h
  ·rename_i d b' ver off hd hb
   have hv:=hs.sl b
   rw[hb] at hv
   split at h
   ·rename_i v' t' cells hbx
    cases hc:az (Nat.beq v' ver) (Nat.ble (off+len d.cts) (len cells)) with
    |false=>rw[hc,aX] at h;simp at h
    |true=>
     rw[hc,ai] at h
     simp only[ao,Mk,dA] at hc
     obtain ⟨g,hth,hvv,rfl⟩:=y7 hv hbx hc.1
     obtain ⟨g',cs,e,d',q1,q2,q3,q4,q5,q6⟩:=hw.box b' _ hbx
     rw[hth] at q1
     simp only[Value.pointer.injEq,Mj,Addr.mk.injEq,and_true] at q1
     subst q1
     have hle:=MJ hc.2
     rw[qC,rz,dA] at h
     have ht:=cC hT hd
     have hl:((cs.toList.drop off).take d.cts.length).length=d.cts.length:=by
      rw[ME,MQ];simp;omega
     have hl2:((cells.drop off).take d.cts.length).length=d.cts.length:=by
      rw[ME,MQ];omega
     have hrun:=ht.nO (w:=w) (g:=g) (o:=off) hl (fun j u hj=>by
      rw[List.getElem?_take] at hj
      split at hj
      ·rw[MB] at hj
       simp[World.cell?,q2];simpa using hj
      ·simp at hj)
     refine ⟨_,?_,E9 ht h (by rw[hl,hl2]) (fun i x u h1 h2=>?_)⟩
     ·simp[yX,hvv,asAddr,hrun]
     ·rw[List.getElem?_take] at h1 h2
      split at h1
      ·rename_i hi
       rw[if_pos hi] at h2
       rw[MB] at h1 h2
       exact q6 _ x u h1 (by simpa using h2)
      ·simp at h1
   ·simp at h
  ·simp at h
theorem AZ (hT:TOk P T) {σ:St} {n:Nat} {a:Act} (hw:WR T fr F w σ.bx θ) (hs:SlR T F w σ.bx θ n σ.sl a):∀(qs:List ResultVar) (vs:List V),wN T σ qs=some vs->
  ∃us:List Value,(qs.mapM (yX a.tmps)).run P w=.ok us w/\us.length=vs.length/\∀(i:Nat) (x:V) (v:Value),vs[i]?=some x->us[i]?=some v->aj T F w σ.bx θ x v
 |[],vs,h=>by
  simp only[wN,Mj] at h
  subst h
  exact ⟨[],by simp,rfl,fun i x v h=>by simp at h⟩
 |q::r,vs,h=>by
  simp only[wN] at h
  split at h
  ·rename_i v hv
   split at h
   ·rename_i vs' hvs
    simp only[Mj] at h
    subst h
    obtain ⟨u,h1,h2⟩:=GX (P:=P) hT hw hs hv
    obtain ⟨us,h3,h4,h5⟩:=AZ hT hw hs r vs' hvs
    refine ⟨u::us,by simp[List.mapM_cons,h1,h3],by simp[h4],fun i x z a1 a2=>?_⟩
    cases i with
    |zero=>simp at a1 a2;subst a1;subst a2;exact h2
    |succ i=>exact h5 i x z (by simpa using a1) (by simpa using a2)
   ·simp at h
  ·simp at h
theorem J2 (hT:TOk P T) {σ:St} {n:Nat} {a:Act} (hw:WR T fr F w σ.bx θ) (hs:SlR T F w σ.bx θ n σ.sl a) {fn:Func} {v:V} (h:Li T σ fn.results.toList=some v):
  ∃u,(results fn a.tmps).run P w=.ok u w/\aj T F w σ.bx θ v u:=by
 unfold Li at h
 have key:∀vs,wN T σ fn.results.toList=some vs->∃us:List Value,(results fn a.tmps).run P w=.ok (if h:us.toArray.size=1 then us.toArray[0] else .tuple us.toArray) w/\us.length=vs.length/\∀(i:Nat) (x:V) (v:Value),vs[i]?=some x->us[i]?=some v->aj T F w σ.bx θ x v:=by
  intro vs hvs
  obtain ⟨us,h1,h2,h3⟩:=AZ (P:=P) hT hw hs _ vs hvs
  refine ⟨us,?_,h2,h3⟩
  have e:results fn a.tmps=(do let vs←fn.results.mapM (yX a.tmps);pure (if h:vs.size=1 then vs[0] else .tuple vs)):=by
   unfold results
   congr 1
  rw[e]
  simp[Array.mapM_eq_mapM_toList,h1]
 split at h
 ·rename_i x hx
  simp only[Mj] at h
  subst h
  obtain ⟨us,h1,h2,h3⟩:=key _ hx
  match us,h2 with
  |[u],_=>exact ⟨u,by simpa using h1,h3 0 _ u rfl rfl⟩
 ·rename_i vs hne hx
  simp only[Mj] at h
  subst h
  obtain ⟨us,h1,h2,h3⟩:=key _ hx
  have hl:¬us.length=1:=by
   intro hl
   match vs,(h2.symm.trans hl) with
   |[x],_=>exact hne x rfl
  exact ⟨.tuple us.toArray,by simpa [hl] using h1,.tu _ us h2 h3⟩
 ·simp at h
theorem oh.LJ (hX:Env P X) {f:FuncId} {fn:Func} {c:Code} {fs:FS} {an:Ann} (hf:P.funcs[f]?=some fn) (hb:fn.body=some c) (hname:(fn.name== "runtime.NumGoroutine")=false)
  (hn:fn.ntmps=X.n) (hres:fn.results.toList=X.res) (hin:X.inT=fs.inT) (hout:X.outT=fs.outT) (hip:X.ip=fs.ip) (hle:fs.n<=fn.ntmps) (hsl:∀xs k,fs.n<=k->(fs.inT.inj xs).sl k=.un)
  (hF:∀xs ys,fs.F xs=some ys->evF X c an xs=some ys):oh P X.T f fs:=by
 refine ⟨⟨fn,c,hf,hb,hname⟩,?_⟩
 intro w wr nl F0 θ xs ys args hw hsz hr hys
 refine calls_of_wp hf hb ?_
 have hev:=hF xs ys hys
 unfold evF at hev
 rw[hin,sa] at hev
 have hr1:evT X an c (fs.inT.inj xs)=some (.ret ys):=by
  unfold aU at hev
  split at hev
  ·rename_i ys' h;rw[h];simp only[Mj] at hev;rw[hev]
  ·simp at hev
 have hs:Sim X.T ⟨w,wr,F0,θ,fs.ip,nl⟩ X.n (fs.inT.inj xs) {tmps:=args++Array.replicate (fn.ntmps-args.size) undef,defers:=[]} w:=by
  refine ⟨F0,θ,hw,⟨fun k=>?_,by simp;omega,rfl⟩⟩
  by_cases hk:k<fs.n
  ·have:=hr k hk
   have e:(args++Array.replicate (fn.ntmps-args.size) undef).getD k undef=args.getD k undef:=by
    simp only[M6]
    rw[Array.getElem?_append_left (by omega)]
   show aj _ _ _ _ _ _ ((args++Array.replicate (fn.ntmps-args.size) undef).getD k undef)
   rw[e]
   exact this
  ·rw[hsl xs k (by omega)];exact .un _
 have hfin:∀(σ':St) (a':Act) (w':World),rh X σ'=some (.ret ys)->Sim X.T ⟨w,wr,F0,θ,fs.ip,nl⟩ X.n σ' a' w'->a'.defers=[]/\∃v,(results fn a'.tmps).run P w'=.ok v w'/\∃v' F1 θ1,Ending.returned v=.returned v'/\WR X.T ⟨w,wr,F0,θ,[],nl⟩ F1 w' (fs.outT.inj ys).bx θ1/\aj X.T F1 w' (fs.outT.inj ys).bx θ1 ((fs.outT.inj ys).sl 0) v'/\
   ∀n x,n∈fs.ip->(fs.outT.inj ys).bx n=some x->θ1 n=θ n/\(x.m=2->Hdr w w' (θ n)):=by
  intro σ' a' w' hret hsim
  obtain ⟨F,θ',hw',hs'⟩:=hsim
  refine ⟨hs'.defers,?_⟩
  unfold rh at hret
  split at hret
  ·rename_i v hv
   cases hc:az (E7 σ'.bx X.ip) (mR X.inT.bx X.ip) with
   |false=>rw[hc,aX] at hret;simp at hret
   |true=>
    rw[hc,ai] at hret
    simp only[ao,Mk] at hc
    split at hret
    ·rename_i e he
     cases hz:isNil e.fz with
     |false=>rw[hz,aX] at hret;simp at hret
     |true=>
      rw[hz,ai] at hret
      simp only[Mj,Out.ret.injEq] at hret
      obtain ⟨u,hu,hru⟩:=J2 (P:=P) (fn:=fn) hX.T hw' hs' (by rw[hres];exact hv)
      have hval:∀d,aj X.T F w' σ'.bx θ' (upd (fun _=>V.un) 0 v d) (if d=0 then u else undef):=by
       intro d
       by_cases hd:d=0
       ·subst hd;rw[ar,if_pos rfl];exact hru
       ·rw[aY _ _ hd];exact .un _
      have hi:=vO hw' hval he
      have hle':=HG hw' hval he
      rw[hret] at hi
      rw[hout] at hi he
      refine ⟨u,hu,u,_,_,rfl,hi.wr hw' (st:=[]) (fun n hn=>by simp at hn),?_,fun n x' hn hx=>?_⟩
      ·have:=hi.sl 0;simpa using this
      ·rw[hip,hin] at hc
       have hf':=hle' n _ (tC (l:=X.ip) (by rw[hip];exact hn))
       obtain ⟨x,q1,q2⟩:=hw'.stay n hn
       obtain ⟨y,q3,q4,q5⟩:=yZ hc.1 n hn
       rw[q1] at q3;obtain rfl:=Mh q3
       have hth:oE θ' e.r n=θ n:=by simp only[oE,hf'];exact (q2 q4).1
       refine ⟨hth,fun hm=>?_⟩
       obtain ⟨x2,p1,p2⟩:=hi.has n (hi.hasnt n x' hx)
       have hx2:x2=x':=by
        rw[hx] at p1;exact (Mh p1).symm
       subst hx2
       have:=(q2 q4).2 ?_
       ·rw[(q2 q4).1] at this;exact this
       ·rcases p2.2 with ⟨b',y',r1,r2,r3,r4,_⟩|⟨r1,_⟩
        ·rw[hf'] at r1
         simp only[Mj] at r1
         subst r1
         rw[q1] at r2;obtain rfl:=Mh r2
         exact yL r4 q5 hm
        ·rw[hf'] at r1;simp at r1
    ·simp at hret
  ·simp at hret
 refine Jy hX (fr:=⟨w,wr,F0,θ,fs.ip,nl⟩) hip.symm hr1 hs (fun σ' a' w' h1 h2=>?_) (fun σ' a' w' h1 h2=>?_)
 ·exact hfin σ' a' w' h1 h2
 ·exact hfin σ' a' w' h1 h2
end
end Go.Ev
namespace Go.Ev
def isZero:CT->Value->Bool
 |.int k,.int k' n=>az (yh k k') (match n with|.ofNat 0=>true|_=>false)
 |.bool,.bool b=>dY b
 |.str,.string s=>match s with|⟨⟨[]⟩⟩=>true|_=>false
 |.sl _,.slice none 0 0=>true
 |.pt _,.pointer none=>true
 |.fn,.nilFunc=>true
 |_,_=>false
theorem Bm {c:CT} {v:Value} (h:isZero c v=true):v=cd c:=by
 unfold isZero at h
 split at h
 ·rename_i k k' n
  simp only[ao,Mk] at h
  have:=nP h.1;subst this
  have h2:=h.2
  split at h2
  ·rfl
  ·simp at h2
 ·rename_i b;cases b<;>simp[dY] at h⊢;rfl
 ·split at h
  ·rfl
  ·simp at h
 ·rfl
 ·rfl
 ·rfl
 ·simp at h
def vz:List CT->List Value->Bool
 |[],[]=>true
 |c::cs,v::vs=>az (isZero c v) (vz cs vs)
 |_,_=>false
theorem Bj:∀ {cs:List CT} {vs:List Value},vz cs vs=true->vs=cs.map cd
 |[],[],_=>rfl
 |[],_::_,h=>by simp[vz] at h
 |_::_,[],h=>by simp[vz] at h
 |c::cs,v::vs,h=>by
  simp only[vz,ao,Mk] at h
  rw[Bm h.1,Bj h.2];rfl
def Ig (d:TD) (v:Value):Bool:=match d.agg with
 |true=>match v with|.agg cs=>vz d.cts cs.toList|_=>false
 |false=>match d.cts with|[t]=>isZero t v|_=>false
theorem HY {d:TD} {v:Value} (h:Ig d v=true):v=zeroOf d:=by
 unfold Ig at h
 unfold zeroOf
 split at h
 ·rename_i ha
  rw[ha,if_pos rfl]
  split at h
  ·rw[←Bj h]
  ·simp at h
 ·rename_i ha
  rw[ha,if_neg (by simp)]
  split at h
  ·rename_i t ht
   rw[ht]
   exact Bm h
  ·simp at h
def qj:List CT->List CT->Bool
 |[],[]=>true
 |a::r,b::s=>az (jg a b) (qj r s)
 |_,_=>false
theorem ye:∀ {a b:List CT},qj a b=true->a=b
 |[],[],_=>rfl
 |[],_::_,h=>by simp[qj] at h
 |_::_,[],h=>by simp[qj] at h
 |x::r,y::s,h=>by
  simp only[qj,ao,Mk] at h
  rw[gI h.1,ye h.2]
def GI:List (Nat×TypeId)->List (Nat×TypeId)->Bool
 |[],[]=>true
 |(a,b)::r,(c,d)::s=>az (Nat.beq a c) (az (Nat.beq b d) (GI r s))
 |_,_=>false
theorem Gb:∀ {a b:List (Nat×TypeId)},GI a b=true->a=b
 |[],[],_=>rfl
 |[],_::_,h=>by simp[GI] at h
 |_::_,[],h=>by simp[GI] at h
 |(x,x')::r,(y,y')::s,h=>by
  simp only[GI,ao,Mk] at h
  rw[Mi h.1,Mi h.2.1,Gb h.2.2]
def KQ:DV->DV->Bool
 |.bool,.bool=>true|.int k,.int k'=>yh k k'|.str,.str=>true|.sl e,.sl e'=>Nat.beq e e'|.pt e,.pt e'=>Nat.beq e e'|.st f,.st f'=>GI f f'|.fn,.fn=>true|_,_=>false
theorem Jk {a b:DV} (h:KQ a b=true):a=b:=by
 unfold KQ at h
 split at h
 ·rfl
 ·rw[nP h]
 ·rfl
 ·rw[Mi h]
 ·rw[Mi h]
 ·rw[Gb h]
 ·rfl
 ·simp at h
def JV (T:Tys) (cts:List CT):List (Nat×TypeId)->Bool
 |[]=>true
 |(o,f)::r=>az (match bj T f with|some df=>qj (tak (len df.cts) (drp o cts)) df.cts|none=>true) (JV T cts r)
theorem Gg {T:Tys} {cts:List CT}:∀ {fs:List (Nat×TypeId)},JV T cts fs=true->∀o f,(o,f)∈fs->∀df,bj T f=some df->(cts.drop o).take df.cts.length=df.cts
 |[],_,o,f,h,_,_=>by simp at h
 |(o',f')::r,h,o,f,hm,df,hd=>by
  simp only[JV,ao,Mk] at h
  rcases Mw.1 hm with e|hm
  ·simp only[MG] at e
   obtain ⟨rfl,rfl⟩:=e
   have h1:=h.1
   rw[hd] at h1
   have:=ye h1
   rw[qC,rz,dA] at this
   exact this
  ·exact Gg h.2 o f hm df hd
def Kf (T:Tys) (d:TD):Bool:=match d.dv with
 |.bool=>qj d.cts [.bool]|.int k=>qj d.cts [.int k]|.str=>qj d.cts [.str]|.sl e=>qj d.cts [.sl e]|.pt e=>qj d.cts [.pt e]|.fn=>qj d.cts [.fn]
 |.st fs=>JV T d.cts fs
 |.other=>false
def tyB (P:Program) (T:Tys) (t:TypeId) (d:TD):Bool:=
 match P.info? t,P.underlying t with
 |some i,some u=>az (match i.zero with|some z=>Ig d z|none=>false) (az (Nat.beq i.size (len d.cts)) (az (Nat.beq i.bytes d.bytes) (az (KQ (eo u) d.dv) (az (Nat.blt 0 (len d.cts)) (Kf T d)))))
 |_,_=>false
theorem Lc {P:Program} {T:Tys} {t:TypeId} {d:TD} (h:tyB P T t d=true):mz P T t d:=by
 unfold tyB at h
 split at h
 ·rename_i i u hi hu
  simp only[ao,Mk] at h
  obtain ⟨h1,h2,h3,h4,h5,h6⟩:=h
  have h2:=Mi h2
  have h5:=MJ h5
  rw[dA] at h2 h5
  refine ⟨⟨i,hi,?_,h2,Mi h3⟩,⟨u,hu,Jk h4⟩,h5,?_⟩
  ·split at h1
   ·rename_i z hz;rw[hz,HY h1]
   ·simp at h1
  ·unfold Kf at h6
   cases hd:d.dv with
   |st fs=>rw[hd] at h6;exact Gg h6
   |other=>rw[hd] at h6;simp at h6
   |_=>rw[hd] at h6;exact ye h6
 ·simp at h
def ID (P:Program) (T:Tys):List (Nat×TD)->Bool
 |[]=>true
 |(t,d)::r=>az (az (tyB P T t d) (match d.dv with|.sl e=>(P.info? e).isSome|_=>true)) (ID P T r)
theorem yf {t:Nat} {d:TD}:∀ {T:Tys},bj T t=some d->(t,d)∈T
 |[],h=>by simp[bj] at h
 |(n,d')::r,h=>by
  replace h:sif (Nat.beq n t) (some d') (bj r t)=some d:=h
  cases hb:Nat.beq n t with
  |true=>
   rw[hb,ai] at h
   rw[Mh h,Mi hb]
   exact Mz ..
  |false=>rw[hb,aX] at h;exact MF _ (yf h)
theorem FL {P:Program} {T:Tys} (h:ID P T T=true):TOk P T/\∀t e,ey T t=some e->(P.info? e).isSome=true:=by
 have key:∀ {l:List (Nat×TD)},ID P T l=true->∀t d,(t,d)∈l->tyB P T t d=true/\(match d.dv with|.sl e=>(P.info? e).isSome|_=>true)=true:=by
  intro l
  induction l with
  |nil=>intro _ t d h;simp at h
  |cons p r ih=>
   obtain ⟨t',d'⟩:=p
   intro h t d hm
   simp only[ID,ao,Mk] at h
   rcases Mw.1 hm with e|hm
   ·simp only[MG] at e;obtain ⟨rfl,rfl⟩:=e;exact h.1
   ·exact ih h.2 t d hm
 refine ⟨fun t d hd=>Lc (key h t d (yf hd)).1,fun t e he=>?_⟩
 unfold ey at he
 split at he
 ·rename_i e' cts b hd
  simp only[Mj] at he
  subst he
  exact (key h t _ (yf hd)).2
 ·simp at he
def so (P:Program) (f:TypeId):CT->Bool
 |.int k=>match P.underlying f with|some (.int k')=>yh k' k|_=>false
 |.bool=>match P.underlying f with|some .bool=>true|_=>false
 |.str=>match P.underlying f with|some .string=>true|_=>false
 |_=>false
theorem EU {P:Program} {f:TypeId} {ct:CT} (h:so P f ct=true):th P f ct:=by
 cases ct with
 |int k=>
  simp only[so] at h
  split at h
  ·rename_i k' hu;simp only[th];rw[hu,nP h]
  ·simp at h
 |bool=>
  simp only[so] at h
  split at h
  ·rename_i hu;exact hu
  ·simp at h
 |str=>
  simp only[so] at h
  split at h
  ·rename_i hu;exact hu
  ·simp at h
 |_=>simp[so] at h
def r7 (P:Program):List Field->List CT->Nat->Bool
 |[],[],_=>true
 |f::fs,ct::cts,j=>az (dY (f.name== "_")) (az (Nat.beq f.offset j) (az (so P f.type ct) (r7 P fs cts (j+1))))
 |_,_,_=>false
theorem zH {P:Program}:∀ {fs:List Field} {cts:List CT} {j:Nat},r7 P fs cts j=true->fs.length=cts.length/\∀(i:Nat) (f:Field) (ct:CT),fs[i]?=some f->cts[i]?=some ct->f.name≠ "_" /\f.offset=j+i/\th P f.type ct
 |[],[],j,_=>⟨rfl,fun i f ct h=>by simp at h⟩
 |[],_::_,j,h=>by simp[r7] at h
 |_::_,[],j,h=>by simp[r7] at h
 |f::fs,ct::cts,j,h=>by
  simp only[r7,ao,cX,Mk] at h
  obtain ⟨h1,h2,h3,h4⟩:=h
  obtain ⟨a,b⟩:=zH h4
  refine ⟨by simp[a],fun i g c hg hc=>?_⟩
  cases i with
  |zero=>
   simp only[M3,Mj] at hg hc
   subst hg;subst hc
   refine ⟨fun e=>?_,by simpa using Mi h2,EU h3⟩
   rw[e] at h1
   simp at h1
  |succ i=>
   obtain ⟨c1,c2,c3⟩:=b i g c (by simpa using hg) (by simpa using hc)
   exact ⟨c1,by omega,c3⟩
def eqB (P:Program) (T:Tys) (t:TypeId):Bool:=
 match P.underlying t,bj T t with
 |some (.struct fs),some d=>az (dY (P.stoodInHeld t)) (az (dY (P.eqGuardType P.depth t)) (r7 P fs.toList d.cts 0))
 |_,_=>false
theorem KK {P:Program} {T:Tys} {t:TypeId} (h:eqB P T t=true):Hv P T t:=by
 unfold eqB at h
 split at h
 ·rename_i fs d hu hd
  simp only[ao,cX,Mk,MM] at h
  have hf:P.fieldsOf t=fs:=by simp[Program.fieldsOf,hu]
  refine ⟨by rw[hf];exact hu,h.1,h.2.1,fun d' hd'=>?_⟩
  rw[hd] at hd'
  obtain rfl:=Mh hd'
  obtain ⟨a,b⟩:=zH h.2.2
  rw[hf]
  exact ⟨a,fun i f ct h1 h2=>by have:=b i f ct h1 h2;simpa using this⟩
 ·simp at h
def JZ (P:Program) (T:Tys):List Nat->Bool|[]=>true|t::r=>az (eqB P T t) (JZ P T r)
theorem FO {P:Program} {T:Tys}:∀ {l:List Nat},JZ P T l=true->∀t,cZ l t=true->Hv P T t
 |[],_,t,h=>by simp[cZ] at h
 |a::r,h,t,hm=>by
  simp only[JZ,ao,Mk] at h
  rw[cN] at hm
  rcases Mw.1 hm with rfl|hm
  ·exact KK h.1
  ·exact FO h.2 t ((cN _ _).2 hm)
end Go.Ev
namespace Go.Ev
abbrev bs (l:Array UInt8):ByteArray:=⟨l⟩
abbrev af:List (List C):=[]
abbrev rows (l:List (List C)):List (List C):=l
abbrev w64 (n:Int):Int:=IntKind.wrap .i64 n
def ad (o:Option (List C)) (K:C->R):R:=im o fun ys=>K (ys.getD 0 .nil)
def call2 (o:Option (List C)) (K:C->C->R):R:=im o fun ys=>K (ys.getD 0 .nil) (ys.getD 1 .nil)
def call3 (o:Option (List C)) (K:C->C->C->R):R:=im o fun ys=>K (ys.getD 0 .nil) (ys.getD 1 .nil) (ys.getD 2 .nil)
def call4 (o:Option (List C)) (K:C->C->C->C->R):R:=im o fun ys=>K (ys.getD 0 .nil) (ys.getD 1 .nil) (ys.getD 2 .nil) (ys.getD 3 .nil)
def call5 (o:Option (List C)) (K:C->C->C->C->C->R):R:=im o fun ys=>K (ys.getD 0 .nil) (ys.getD 1 .nil) (ys.getD 2 .nil) (ys.getD 3 .nil) (ys.getD 4 .nil)
def call6 (o:Option (List C)) (K:C->C->C->C->C->C->R):R:=im o fun ys=>K (ys.getD 0 .nil) (ys.getD 1 .nil) (ys.getD 2 .nil) (ys.getD 3 .nil) (ys.getD 4 .nil) (ys.getD 5 .nil)
def call7 (o:Option (List C)) (K:C->C->C->C->C->C->C->R):R:=im o fun ys=>K (ys.getD 0 .nil) (ys.getD 1 .nil) (ys.getD 2 .nil) (ys.getD 3 .nil) (ys.getD 4 .nil) (ys.getD 5 .nil) (ys.getD 6 .nil)
def call8 (o:Option (List C)) (K:C->C->C->C->C->C->C->C->R):R:=im o fun ys=>K (ys.getD 0 .nil) (ys.getD 1 .nil) (ys.getD 2 .nil) (ys.getD 3 .nil) (ys.getD 4 .nil) (ys.getD 5 .nil) (ys.getD 6 .nil) (ys.getD 7 .nil)
def call10 (o:Option (List C)) (K:C->C->C->C->C->C->C->C->C->C->R):R:=im o fun ys=>K (ys.getD 0 .nil) (ys.getD 1 .nil) (ys.getD 2 .nil) (ys.getD 3 .nil) (ys.getD 4 .nil) (ys.getD 5 .nil) (ys.getD 6 .nil) (ys.getD 7 .nil) (ys.getD 8 .nil) (ys.getD 9 .nil)
def call12 (o:Option (List C)) (K:C->C->C->C->C->C->C->C->C->C->C->C->R):R:=im o fun ys=>K (ys.getD 0 .nil) (ys.getD 1 .nil) (ys.getD 2 .nil) (ys.getD 3 .nil) (ys.getD 4 .nil) (ys.getD 5 .nil) (ys.getD 6 .nil) (ys.getD 7 .nil) (ys.getD 8 .nil) (ys.getD 9 .nil) (ys.getD 10 .nil) (ys.getD 11 .nil)
def call13 (o:Option (List C)) (K:C->C->C->C->C->C->C->C->C->C->C->C->C->R):R:=im o fun ys=>K (ys.getD 0 .nil) (ys.getD 1 .nil) (ys.getD 2 .nil) (ys.getD 3 .nil) (ys.getD 4 .nil) (ys.getD 5 .nil) (ys.getD 6 .nil) (ys.getD 7 .nil) (ys.getD 8 .nil) (ys.getD 9 .nil) (ys.getD 10 .nil) (ys.getD 11 .nil) (ys.getD 12 .nil)
def call14 (o:Option (List C)) (K:C->C->C->C->C->C->C->C->C->C->C->C->C->C->R):R:=im o fun ys=>K (ys.getD 0 .nil) (ys.getD 1 .nil) (ys.getD 2 .nil) (ys.getD 3 .nil) (ys.getD 4 .nil) (ys.getD 5 .nil) (ys.getD 6 .nil) (ys.getD 7 .nil) (ys.getD 8 .nil) (ys.getD 9 .nil) (ys.getD 10 .nil) (ys.getD 11 .nil) (ys.getD 12 .nil) (ys.getD 13 .nil)
abbrev Fun:Nat->Type|0=>R|n+1=>C->Fun n
def apk:(n k:Nat)->Fun n->List C->R
 |0,_,f,_=>f
 |n+1,k,f,xs=>apk n (k+1) (f (xs.getD k .nil)) xs
def apn (n:Nat) (f:Fun n) (xs:List C):R:=apk n 0 f xs
def phi:List (Nat×Option Nat×FS)->FuncId->Option Tmp->Option FS
 |[],_,_=>none
 |(g,d,fs)::r,f,o=>sif (az (Nat.beq g f) (onb d o)) (some fs) (phi r f o)
def qi (P:Program) (T:Tys):List (Nat×Option Nat×FS)->Prop
 |[]=>True
 |(g,_,fs)::r=>oh P T g fs/\qi P T r
theorem qi.nil {P:Program} {T:Tys}:qi P T []:=trivial
theorem qi.cons {P:Program} {T:Tys} {g:FuncId} {d:Option Nat} {fs:FS} {r:List (Nat×Option Nat×FS)} (h:oh P T g fs) (hr:qi P T r):qi P T ((g,d,fs)::r):=⟨h,hr⟩
theorem HD {P:Program} {T:Tys}:∀ {l:List (Nat×Option Nat×FS)},qi P T l->∀f d fs,phi l f d=some fs->oh P T f fs
 |[],_,f,d,fs,h=>by simp[phi] at h
 |(g,d',fs')::r,hl,f,d,fs,h=>by
  replace h:sif (az (Nat.beq g f) (onb d' d)) (some fs') (phi r f d)=some fs:=h
  cases hc:az (Nat.beq g f) (onb d' d) with
  |true=>
   rw[hc,ai] at h
   simp only[ao,Mk] at hc
   have e:=Mi hc.1
   subst e
   obtain rfl:=Mh h
   exact hl.1
  |false=>rw[hc,aX] at h;exact HD hl.2 f d fs h
def Jq (P:Program):List (Nat×Nat)->Bool
 |[]=>true
 |(t,e)::r=>(match P.underlying t with|some (.map k e')=>(match P.underlying k with|some .string=>e==e'|_=>false)|_=>false)&&Jq P r
theorem FR {P:Program}:∀ {l:List (Nat×Nat)},Jq P l=true->MOk P l
 |[],_,t,e,h=>by simp[zg] at h
 |(t',e')::r,hb,t,e,h=>by
  simp only[Jq,Mk] at hb
  replace h:sif (Nat.beq t' t) (some e') (zg r t)=some e:=h
  cases hc:Nat.beq t' t with
  |false=>rw[hc,aX] at h;exact FR hb.2 t e h
  |true=>
   rw[hc,ai] at h
   obtain rfl:=Mh h
   have:=Mi hc;subst this
   have h1:=hb.1
   split at h1
   ·rename_i k e2 hu
    split at h1
    ·rename_i hk
     have:e'=e2:=by simpa using h1
     subst this
     exact ⟨k,hu,hk⟩
    ·simp at h1
   ·simp at h1
structure EV (P:Program) (T:Tys) (eqT:List Nat) (mp:List (Nat×Nat)):Prop where
 tok:TOk P T
 E:∀t e,ey T t=some e->(P.info? e).isSome=true
 mixed:P.follows .mixedOrders=true
 Q:∀t,cZ eqT t=true->Hv P T t
 M:MOk P mp
theorem EV.of {P:Program} {T:Tys} {eqT:List Nat} {mp:List (Nat×Nat)} (h1:ID P T T=true) (h2:P.follows .mixedOrders=true) (h3:JZ P T eqT=true) (h4:Jq P mp=true):EV P T eqT mp:=
 ⟨(FL h1).1,(FL h1).2,h2,FO h3,FR h4⟩
def slB (n:Nat):List (Nat×Sk)->Bool|[]=>true|(d,_)::r=>az (Nat.blt d n) (slB n r)
theorem zx {nm:Nm} {xs:List C} {n:Nat}:∀ {l:List (Nat×Sk)} {p:Nat} {f:cu},slB n l=true->(∀k,n<=k->f k=.un)->∀k,n<=k->(cy nm xs l p f).1 k=.un
 |[],p,f,_,hf,k,hk=>hf k hk
 |(d,q)::r,p,f,h,hf,k,hk=>by
  simp only[slB,ao,Mk] at h
  refine zx h.2 (fun k hk=>?_) k hk
  have hd:d<n:=MJ h.1
  rw[aY _ _ (by omega)]
  exact hf k hk
def stat (fn:Func) (fs:FS):Bool:=az (dY (fn.name== "runtime.NumGoroutine")) (az (Nat.ble fs.n fn.ntmps) (slB fs.n fs.inT.sl))
theorem Kk {P:Program} {T:Tys} {eqT:List Nat} {mp:List (Nat×Nat)} (B:EV P T eqT mp) (mv:List Nat) (tr:Bool) (nt:List Nat) {f:FuncId} {fn:Func} {c:Code} (fs:FS) (an:Ann) (l:List (Nat×Option Nat×FS)) (hl:qi P T l)
  (hf:P.funcs[f]?=some fn) (hb:fn.body=some c) (hs:stat fn fs=true)
  (hF:∀xs,evF ⟨T,phi l,fn.ntmps,fn.results.toList,fs.inT,fs.outT,fs.ip,eqT,mp,mv,tr,nt⟩ c an xs=fs.F xs):oh P T f fs:=by
 simp only[stat,ao,cX,Mk,MM] at hs
 exact oh.LJ (X:=⟨T,phi l,fn.ntmps,fn.results.toList,fs.inT,fs.outT,fs.ip,eqT,mp,mv,tr,nt⟩) ⟨B.tok,B.E,HD hl,B.Q,B.M,B.mixed⟩ hf hb hs.1 rfl rfl rfl rfl rfl (MJ hs.2.1)
  (fun xs k hk=>zx hs.2.2 (fun _ _=>rfl) k hk) (fun xs ys h=>by rw[hF];exact h)
theorem Kz {P:Program} {T:Tys} {eqT:List Nat} {mp:List (Nat×Nat)} (B:EV P T eqT mp) (mv:List Nat) (tr:Bool) {f:FuncId} {fn:Func} {c:Code} (fs:FS) (an:Ann) (l:List (Nat×Option Nat×FS)) (hl:qi P T l)
  (hf:P.funcs[f]?=some fn) (hb:fn.body=some c) (hs:stat fn fs=true)
  (hF:∀xs,evF ⟨T,phi l,fn.ntmps,fn.results.toList,fs.inT,fs.outT,fs.ip,eqT,mp,mv,tr,[]⟩ c an xs=fs.F xs):oh P T f fs:=Kk B mv tr [] fs an l hl hf hb hs hF
theorem LU {P:Program} {T:Tys} {eqT:List Nat} {mp:List (Nat×Nat)} (B:EV P T eqT mp) {f:FuncId} {fn:Func} {c:Code} (fs:FS) (an:Ann) (l:List (Nat×Option Nat×FS)) (hl:qi P T l)
  (hf:P.funcs[f]?=some fn) (hb:fn.body=some c) (hs:stat fn fs=true)
  (hF:∀xs,evF ⟨T,phi l,fn.ntmps,fn.results.toList,fs.inT,fs.outT,fs.ip,eqT,mp,[],false,[]⟩ c an xs=fs.F xs):oh P T f fs:=Kz B [] false fs an l hl hf hb hs hF
theorem kX {P:Program} {T:Tys} {f:FuncId} {fn:Func} {c:Code} (n:Nat) (i o:Tm) (ip:List Nat) (hf:P.funcs[f]?=some fn) (hb:fn.body=some c) (hs:stat fn ⟨n,i,o,ip,fun _=>none⟩=true):oh P T f ⟨n,i,o,ip,fun _=>none⟩:=by
 simp only[stat,ao,cX,Mk,MM] at hs
 exact ⟨⟨fn,c,hf,hb,hs.1⟩,fun w wr nl F0 θ xs ys args h1 h2 h3 h4=>absurd h4 (by simp)⟩
noncomputable def jd:Nat:=Classical.choose (⟨1000000,Mp _⟩:∃n,1000000<=n)
theorem mr:1000000<=jd:=Classical.choose_spec (⟨1000000,Mp _⟩:∃n,1000000<=n)
end Go.Ev
namespace Go.Ev
@[simp] theorem C.I_i (n:Int):(C.i n).I=n:=rfl
@[simp] theorem C.B_b (x:Bool):(C.b x).B=x:=rfl
@[simp] theorem C.S_s (x:ByteArray):(C.s x).S=x:=rfl
@[simp] theorem C.L_l (x:List (List C)):(C.l x).L=x:=rfl
@[simp] theorem C.P_p (x:List C):(C.p x).P=x:=rfl
@[simp] theorem C.wT (x:List C):(C.p x).isP=true:=rfl
@[simp] theorem C.LS:C.nil.isP=false:=rfl
@[simp] theorem C.Mf:C.nil.L=[]:=rfl
@[simp] theorem Lq (ys:List C):aU (some (.ret ys))=some ys:=rfl
@[simp] theorem KS (ys:List C) (K:List C->R):im (some ys) K=K ys:=rfl
@[simp] theorem KB (xs:List C) (K:List C->R):aZ (some (.nrm xs)) K=K xs:=rfl
@[simp] theorem wX (xs:List C) (K:List C->R):aZ (some (.ret xs)) K=some (.ret xs):=rfl
@[simp] theorem Kr (i:Nat) (xs:List C) (K:List C->R):aZ (some (.brk i xs)) K=some (.brk i xs):=rfl
@[simp] theorem I4 (xs:List C) (K:List C->R):aZ (some (.again xs)) K=some (.again xs):=rfl
@[simp] theorem re (i:Nat) (xs:List C) (K:List C->R):ah i (some (.ret xs)) K=some (.ret xs):=rfl
@[simp] theorem I3 (i:Nat) (xs:List C) (K:List C->R):ah i (some (.again xs)) K=some (.again xs):=rfl
@[simp] theorem KA (i:Nat) (xs:List C) (K:List C->R):ah i (some (.nrm xs)) K=some (.nrm xs):=rfl
theorem C3 (i j:Nat) (xs:List C) (K:List C->R):ah i (some (.brk j xs)) K=if j=i then K xs else some (.brk j xs):=by
 show sif (Nat.beq j i) (K xs) (some (.brk j xs))=_
 by_cases h:j=i
 ·subst h;rw[Nat.beq_refl,ai,if_pos rfl]
 ·have:Nat.beq j i=false:=by
   cases hb:Nat.beq j i with
   |false=>rfl
   |true=>exact absurd (Mi hb) h
  rw[this,aX,if_neg h]
@[simp] theorem aq (i:Nat) (xs:List C) (K:List C->R):ah i (some (.brk i xs)) K=K xs:=by rw[C3,if_pos rfl]
attribute [simp] af
attribute [simp] rows
@[simp] theorem I2 (n:Nat):((n:Int)).toNat=n:=Int.toNat_natCast n
theorem jA {α:Type} {a:α} {us vs:List α}:a::us++vs=a::(us++vs):=rfl
theorem jB {α:Type} (us:List α):[]++us=us:=rfl
theorem jC {α:Type} {x:α} {xs:List α} {d:α}:(x::xs).getD 0 d=x:=List.getD_cons_zero
theorem jD {α:Type} {x:α} {xs:List α} {n:Nat} {d:α}:(x::xs).getD (n+1) d=xs.getD n d:=List.getD_cons_succ
theorem jI (ys:List C) (K:List C->R):im (some ys) K=K ys:=rfl
theorem jJ (xs:List C) (K:List C->R):aZ (some (.nrm xs)) K=K xs:=rfl
theorem jR {α:Type} (a b:α):(bif true then a else b)=a:=rfl
theorem jS {α:Type} (a b:α):(bif false then a else b)=b:=rfl
theorem jV (ys:List C):aU (some (.ret ys))=some ys:=rfl
theorem jW {α β:Type} {us:List α} (f:α->β):(List.map f us).length=us.length:=List.length_map f
theorem jX (n:Nat):0<=(n:Int):=Int.natCast_nonneg n
theorem jY (n:Nat):((n:Int)).toNat=n:=Int.toNat_natCast n
theorem jZ:(!true)=false:=rfl
theorem ja:(!false)=true:=rfl
def gC (l:List C) (i:Nat):C:=l.getD i .nil
theorem apL:(∀(f:Fun 1) l,apn 1 f l=f (gC l 0))/\
 (∀(f:Fun 2) l,apn 2 f l=f (gC l 0) (gC l 1))/\
 (∀(f:Fun 3) l,apn 3 f l=f (gC l 0) (gC l 1) (gC l 2))/\
 (∀(f:Fun 4) l,apn 4 f l=f (gC l 0) (gC l 1) (gC l 2) (gC l 3))/\
 (∀(f:Fun 5) l,apn 5 f l=f (gC l 0) (gC l 1) (gC l 2) (gC l 3) (gC l 4))/\
 (∀(f:Fun 6) l,apn 6 f l=f (gC l 0) (gC l 1) (gC l 2) (gC l 3) (gC l 4) (gC l 5))/\
 (∀(f:Fun 7) l,apn 7 f l=f (gC l 0) (gC l 1) (gC l 2) (gC l 3) (gC l 4) (gC l 5) (gC l 6))/\
 (∀(f:Fun 8) l,apn 8 f l=f (gC l 0) (gC l 1) (gC l 2) (gC l 3) (gC l 4) (gC l 5) (gC l 6) (gC l 7))/\
 (∀(f:Fun 9) l,apn 9 f l=f (gC l 0) (gC l 1) (gC l 2) (gC l 3) (gC l 4) (gC l 5) (gC l 6) (gC l 7) (gC l 8))/\
 (∀(f:Fun 10) l,apn 10 f l=f (gC l 0) (gC l 1) (gC l 2) (gC l 3) (gC l 4) (gC l 5) (gC l 6) (gC l 7) (gC l 8) (gC l 9))/\
 (∀(f:Fun 11) l,apn 11 f l=f (gC l 0) (gC l 1) (gC l 2) (gC l 3) (gC l 4) (gC l 5) (gC l 6) (gC l 7) (gC l 8) (gC l 9) (gC l 10))/\
 (∀(f:Fun 12) l,apn 12 f l=f (gC l 0) (gC l 1) (gC l 2) (gC l 3) (gC l 4) (gC l 5) (gC l 6) (gC l 7) (gC l 8) (gC l 9) (gC l 10) (gC l 11))/\
 (∀(f:Fun 13) l,apn 13 f l=f (gC l 0) (gC l 1) (gC l 2) (gC l 3) (gC l 4) (gC l 5) (gC l 6) (gC l 7) (gC l 8) (gC l 9) (gC l 10) (gC l 11) (gC l 12))/\
 (∀(f:Fun 14) l,apn 14 f l=f (gC l 0) (gC l 1) (gC l 2) (gC l 3) (gC l 4) (gC l 5) (gC l 6) (gC l 7) (gC l 8) (gC l 9) (gC l 10) (gC l 11) (gC l 12) (gC l 13))/\
 (∀(f:Fun 15) l,apn 15 f l=f (gC l 0) (gC l 1) (gC l 2) (gC l 3) (gC l 4) (gC l 5) (gC l 6) (gC l 7) (gC l 8) (gC l 9) (gC l 10) (gC l 11) (gC l 12) (gC l 13) (gC l 14))/\
 (∀(f:Fun 16) l,apn 16 f l=f (gC l 0) (gC l 1) (gC l 2) (gC l 3) (gC l 4) (gC l 5) (gC l 6) (gC l 7) (gC l 8) (gC l 9) (gC l 10) (gC l 11) (gC l 12) (gC l 13) (gC l 14) (gC l 15))/\
 (∀(f:Fun 17) l,apn 17 f l=f (gC l 0) (gC l 1) (gC l 2) (gC l 3) (gC l 4) (gC l 5) (gC l 6) (gC l 7) (gC l 8) (gC l 9) (gC l 10) (gC l 11) (gC l 12) (gC l 13) (gC l 14) (gC l 15) (gC l 16))/\
 (∀(f:Fun 18) l,apn 18 f l=f (gC l 0) (gC l 1) (gC l 2) (gC l 3) (gC l 4) (gC l 5) (gC l 6) (gC l 7) (gC l 8) (gC l 9) (gC l 10) (gC l 11) (gC l 12) (gC l 13) (gC l 14) (gC l 15) (gC l 16) (gC l 17))/\
 (∀(f:Fun 19) l,apn 19 f l=f (gC l 0) (gC l 1) (gC l 2) (gC l 3) (gC l 4) (gC l 5) (gC l 6) (gC l 7) (gC l 8) (gC l 9) (gC l 10) (gC l 11) (gC l 12) (gC l 13) (gC l 14) (gC l 15) (gC l 16) (gC l 17) (gC l 18))/\
 (∀(f:Fun 20) l,apn 20 f l=f (gC l 0) (gC l 1) (gC l 2) (gC l 3) (gC l 4) (gC l 5) (gC l 6) (gC l 7) (gC l 8) (gC l 9) (gC l 10) (gC l 11) (gC l 12) (gC l 13) (gC l 14) (gC l 15) (gC l 16) (gC l 17) (gC l 18) (gC l 19))/\
 (∀(f:Fun 21) l,apn 21 f l=f (gC l 0) (gC l 1) (gC l 2) (gC l 3) (gC l 4) (gC l 5) (gC l 6) (gC l 7) (gC l 8) (gC l 9) (gC l 10) (gC l 11) (gC l 12) (gC l 13) (gC l 14) (gC l 15) (gC l 16) (gC l 17) (gC l 18) (gC l 19) (gC l 20))/\
 (∀(f:Fun 22) l,apn 22 f l=f (gC l 0) (gC l 1) (gC l 2) (gC l 3) (gC l 4) (gC l 5) (gC l 6) (gC l 7) (gC l 8) (gC l 9) (gC l 10) (gC l 11) (gC l 12) (gC l 13) (gC l 14) (gC l 15) (gC l 16) (gC l 17) (gC l 18) (gC l 19) (gC l 20) (gC l 21))/\
 (∀(f:Fun 23) l,apn 23 f l=f (gC l 0) (gC l 1) (gC l 2) (gC l 3) (gC l 4) (gC l 5) (gC l 6) (gC l 7) (gC l 8) (gC l 9) (gC l 10) (gC l 11) (gC l 12) (gC l 13) (gC l 14) (gC l 15) (gC l 16) (gC l 17) (gC l 18) (gC l 19) (gC l 20) (gC l 21) (gC l 22))/\
 (∀(f:Fun 24) l,apn 24 f l=f (gC l 0) (gC l 1) (gC l 2) (gC l 3) (gC l 4) (gC l 5) (gC l 6) (gC l 7) (gC l 8) (gC l 9) (gC l 10) (gC l 11) (gC l 12) (gC l 13) (gC l 14) (gC l 15) (gC l 16) (gC l 17) (gC l 18) (gC l 19) (gC l 20) (gC l 21) (gC l 22) (gC l 23))/\
 (∀(f:Fun 25) l,apn 25 f l=f (gC l 0) (gC l 1) (gC l 2) (gC l 3) (gC l 4) (gC l 5) (gC l 6) (gC l 7) (gC l 8) (gC l 9) (gC l 10) (gC l 11) (gC l 12) (gC l 13) (gC l 14) (gC l 15) (gC l 16) (gC l 17) (gC l 18) (gC l 19) (gC l 20) (gC l 21) (gC l 22) (gC l 23) (gC l 24))/\
 (∀(f:Fun 26) l,apn 26 f l=f (gC l 0) (gC l 1) (gC l 2) (gC l 3) (gC l 4) (gC l 5) (gC l 6) (gC l 7) (gC l 8) (gC l 9) (gC l 10) (gC l 11) (gC l 12) (gC l 13) (gC l 14) (gC l 15) (gC l 16) (gC l 17) (gC l 18) (gC l 19) (gC l 20) (gC l 21) (gC l 22) (gC l 23) (gC l 24) (gC l 25))/\
 (∀(f:Fun 27) l,apn 27 f l=f (gC l 0) (gC l 1) (gC l 2) (gC l 3) (gC l 4) (gC l 5) (gC l 6) (gC l 7) (gC l 8) (gC l 9) (gC l 10) (gC l 11) (gC l 12) (gC l 13) (gC l 14) (gC l 15) (gC l 16) (gC l 17) (gC l 18) (gC l 19) (gC l 20) (gC l 21) (gC l 22) (gC l 23) (gC l 24) (gC l 25) (gC l 26))/\
 (∀(f:Fun 28) l,apn 28 f l=f (gC l 0) (gC l 1) (gC l 2) (gC l 3) (gC l 4) (gC l 5) (gC l 6) (gC l 7) (gC l 8) (gC l 9) (gC l 10) (gC l 11) (gC l 12) (gC l 13) (gC l 14) (gC l 15) (gC l 16) (gC l 17) (gC l 18) (gC l 19) (gC l 20) (gC l 21) (gC l 22) (gC l 23) (gC l 24) (gC l 25) (gC l 26) (gC l 27))/\
 (∀(f:Fun 29) l,apn 29 f l=f (gC l 0) (gC l 1) (gC l 2) (gC l 3) (gC l 4) (gC l 5) (gC l 6) (gC l 7) (gC l 8) (gC l 9) (gC l 10) (gC l 11) (gC l 12) (gC l 13) (gC l 14) (gC l 15) (gC l 16) (gC l 17) (gC l 18) (gC l 19) (gC l 20) (gC l 21) (gC l 22) (gC l 23) (gC l 24) (gC l 25) (gC l 26) (gC l 27) (gC l 28))/\
 (∀(f:Fun 30) l,apn 30 f l=f (gC l 0) (gC l 1) (gC l 2) (gC l 3) (gC l 4) (gC l 5) (gC l 6) (gC l 7) (gC l 8) (gC l 9) (gC l 10) (gC l 11) (gC l 12) (gC l 13) (gC l 14) (gC l 15) (gC l 16) (gC l 17) (gC l 18) (gC l 19) (gC l 20) (gC l 21) (gC l 22) (gC l 23) (gC l 24) (gC l 25) (gC l 26) (gC l 27) (gC l 28) (gC l 29))/\
 (∀(f:Fun 31) l,apn 31 f l=f (gC l 0) (gC l 1) (gC l 2) (gC l 3) (gC l 4) (gC l 5) (gC l 6) (gC l 7) (gC l 8) (gC l 9) (gC l 10) (gC l 11) (gC l 12) (gC l 13) (gC l 14) (gC l 15) (gC l 16) (gC l 17) (gC l 18) (gC l 19) (gC l 20) (gC l 21) (gC l 22) (gC l 23) (gC l 24) (gC l 25) (gC l 26) (gC l 27) (gC l 28) (gC l 29) (gC l 30))/\
 (∀(f:Fun 32) l,apn 32 f l=f (gC l 0) (gC l 1) (gC l 2) (gC l 3) (gC l 4) (gC l 5) (gC l 6) (gC l 7) (gC l 8) (gC l 9) (gC l 10) (gC l 11) (gC l 12) (gC l 13) (gC l 14) (gC l 15) (gC l 16) (gC l 17) (gC l 18) (gC l 19) (gC l 20) (gC l 21) (gC l 22) (gC l 23) (gC l 24) (gC l 25) (gC l 26) (gC l 27) (gC l 28) (gC l 29) (gC l 30) (gC l 31))/\
 (∀(f:Fun 33) l,apn 33 f l=f (gC l 0) (gC l 1) (gC l 2) (gC l 3) (gC l 4) (gC l 5) (gC l 6) (gC l 7) (gC l 8) (gC l 9) (gC l 10) (gC l 11) (gC l 12) (gC l 13) (gC l 14) (gC l 15) (gC l 16) (gC l 17) (gC l 18) (gC l 19) (gC l 20) (gC l 21) (gC l 22) (gC l 23) (gC l 24) (gC l 25) (gC l 26) (gC l 27) (gC l 28) (gC l 29) (gC l 30) (gC l 31) (gC l 32))/\
 (∀(f:Fun 34) l,apn 34 f l=f (gC l 0) (gC l 1) (gC l 2) (gC l 3) (gC l 4) (gC l 5) (gC l 6) (gC l 7) (gC l 8) (gC l 9) (gC l 10) (gC l 11) (gC l 12) (gC l 13) (gC l 14) (gC l 15) (gC l 16) (gC l 17) (gC l 18) (gC l 19) (gC l 20) (gC l 21) (gC l 22) (gC l 23) (gC l 24) (gC l 25) (gC l 26) (gC l 27) (gC l 28) (gC l 29) (gC l 30) (gC l 31) (gC l 32) (gC l 33))/\
 (∀(f:Fun 35) l,apn 35 f l=f (gC l 0) (gC l 1) (gC l 2) (gC l 3) (gC l 4) (gC l 5) (gC l 6) (gC l 7) (gC l 8) (gC l 9) (gC l 10) (gC l 11) (gC l 12) (gC l 13) (gC l 14) (gC l 15) (gC l 16) (gC l 17) (gC l 18) (gC l 19) (gC l 20) (gC l 21) (gC l 22) (gC l 23) (gC l 24) (gC l 25) (gC l 26) (gC l 27) (gC l 28) (gC l 29) (gC l 30) (gC l 31) (gC l 32) (gC l 33) (gC l 34))/\
 (∀(f:Fun 36) l,apn 36 f l=f (gC l 0) (gC l 1) (gC l 2) (gC l 3) (gC l 4) (gC l 5) (gC l 6) (gC l 7) (gC l 8) (gC l 9) (gC l 10) (gC l 11) (gC l 12) (gC l 13) (gC l 14) (gC l 15) (gC l 16) (gC l 17) (gC l 18) (gC l 19) (gC l 20) (gC l 21) (gC l 22) (gC l 23) (gC l 24) (gC l 25) (gC l 26) (gC l 27) (gC l 28) (gC l 29) (gC l 30) (gC l 31) (gC l 32) (gC l 33) (gC l 34) (gC l 35))/\
 (∀(f:Fun 37) l,apn 37 f l=f (gC l 0) (gC l 1) (gC l 2) (gC l 3) (gC l 4) (gC l 5) (gC l 6) (gC l 7) (gC l 8) (gC l 9) (gC l 10) (gC l 11) (gC l 12) (gC l 13) (gC l 14) (gC l 15) (gC l 16) (gC l 17) (gC l 18) (gC l 19) (gC l 20) (gC l 21) (gC l 22) (gC l 23) (gC l 24) (gC l 25) (gC l 26) (gC l 27) (gC l 28) (gC l 29) (gC l 30) (gC l 31) (gC l 32) (gC l 33) (gC l 34) (gC l 35) (gC l 36))/\
 (∀(f:Fun 38) l,apn 38 f l=f (gC l 0) (gC l 1) (gC l 2) (gC l 3) (gC l 4) (gC l 5) (gC l 6) (gC l 7) (gC l 8) (gC l 9) (gC l 10) (gC l 11) (gC l 12) (gC l 13) (gC l 14) (gC l 15) (gC l 16) (gC l 17) (gC l 18) (gC l 19) (gC l 20) (gC l 21) (gC l 22) (gC l 23) (gC l 24) (gC l 25) (gC l 26) (gC l 27) (gC l 28) (gC l 29) (gC l 30) (gC l 31) (gC l 32) (gC l 33) (gC l 34) (gC l 35) (gC l 36) (gC l 37))/\
 (∀(f:Fun 39) l,apn 39 f l=f (gC l 0) (gC l 1) (gC l 2) (gC l 3) (gC l 4) (gC l 5) (gC l 6) (gC l 7) (gC l 8) (gC l 9) (gC l 10) (gC l 11) (gC l 12) (gC l 13) (gC l 14) (gC l 15) (gC l 16) (gC l 17) (gC l 18) (gC l 19) (gC l 20) (gC l 21) (gC l 22) (gC l 23) (gC l 24) (gC l 25) (gC l 26) (gC l 27) (gC l 28) (gC l 29) (gC l 30) (gC l 31) (gC l 32) (gC l 33) (gC l 34) (gC l 35) (gC l 36) (gC l 37) (gC l 38))/\
 (∀(f:Fun 40) l,apn 40 f l=f (gC l 0) (gC l 1) (gC l 2) (gC l 3) (gC l 4) (gC l 5) (gC l 6) (gC l 7) (gC l 8) (gC l 9) (gC l 10) (gC l 11) (gC l 12) (gC l 13) (gC l 14) (gC l 15) (gC l 16) (gC l 17) (gC l 18) (gC l 19) (gC l 20) (gC l 21) (gC l 22) (gC l 23) (gC l 24) (gC l 25) (gC l 26) (gC l 27) (gC l 28) (gC l 29) (gC l 30) (gC l 31) (gC l 32) (gC l 33) (gC l 34) (gC l 35) (gC l 36) (gC l 37) (gC l 38) (gC l 39))/\
 (∀x l,gC (x::l) 0=x)/\
 ∀x l n,gC (x::l) (n+1)=gC l n:=
 ⟨fun _ _=>rfl,fun _ _=>rfl,fun _ _=>rfl,fun _ _=>rfl,fun _ _=>rfl,fun _ _=>rfl,fun _ _=>rfl,fun _ _=>rfl,fun _ _=>rfl,fun _ _=>rfl,fun _ _=>rfl,fun _ _=>rfl,fun _ _=>rfl,fun _ _=>rfl,fun _ _=>rfl,fun _ _=>rfl,fun _ _=>rfl,fun _ _=>rfl,fun _ _=>rfl,fun _ _=>rfl,fun _ _=>rfl,fun _ _=>rfl,fun _ _=>rfl,fun _ _=>rfl,fun _ _=>rfl,fun _ _=>rfl,fun _ _=>rfl,fun _ _=>rfl,fun _ _=>rfl,fun _ _=>rfl,fun _ _=>rfl,fun _ _=>rfl,fun _ _=>rfl,fun _ _=>rfl,fun _ _=>rfl,fun _ _=>rfl,fun _ _=>rfl,fun _ _=>rfl,fun _ _=>rfl,fun _ _=>rfl,fun _ _=>rfl,fun _ _ _=>rfl⟩
attribute [simp] apL
theorem vY {body:List C->R}:∀ {k m:Nat} {xs:List C} {o:Out},k<=m->iter body k xs=some o->iter body m xs=some o
 |0,_,xs,o,_,h=>by simp[iter] at h
 |k+1,0,xs,o,hk,h=>by omega
 |k+1,m+1,xs,o,hk,h=>by
  simp only[iter] at h⊢
  split
  ·rename_i ys hb
   rw[hb] at h
   exact vY (by omega) h
  ·rename_i hb
   split at h
   ·rename_i ys hb';exact absurd hb' (hb ys)
   ·exact h
theorem lO {body:List C->R} {k:Nat} {xs:List C} {o:Out} (h:iter body k xs=some o):lim body xs=some o:=by
 have hex:∃k,(iter body k xs).isSome:=⟨k,by rw[h];rfl⟩
 unfold lim
 rw[dif_pos hex]
 have hs:=Classical.choose_spec hex
 obtain ⟨o',ho'⟩:=Option.isSome_iff_exists.1 hs
 rw[ho']
 rcases Nat.le_total k (Classical.choose hex) with hle|hle
 ·rw[vY hle h] at ho';exact ho'.symm
 ·rw[vY hle ho'] at h;exact h
theorem aD {body:List C->R} {xs ys:List C} (h:body xs=some (.again ys)):lim body xs=lim body ys:=by
 have key:∀k,iter body (k+1) xs=iter body k ys:=fun k=>by simp only[iter,h]
 cases hr:lim body ys with
 |some o=>
  obtain ⟨k,hk⟩:=uK hr
  exact lO (k:=k+1) (by rw[key];exact hk)
 |none=>
  cases hl:lim body xs with
  |none=>rfl
  |some o=>
   obtain ⟨k,hk⟩:=uK hl
   cases k with
   |zero=>simp[iter] at hk
   |succ k=>rw[key] at hk;rw[lO hk] at hr;simp at hr
theorem js {body:List C->R} {xs ys:List C} (h:body xs=some (.ret ys)):lim body xs=some (.ret ys):=lO (k:=1) (by simp only[iter,h])
theorem aR {body:List C->R} {xs ys:List C} {i:Nat} (h:body xs=some (.brk i ys)):lim body xs=some (.brk i ys):=lO (k:=1) (by simp only[iter,h])
theorem aN {n:Int} (h1:-9223372036854775808<=n) (h2:n<=9223372036854775807):w64 n=n:=by
 show (if (true&&decide (n%18446744073709551616≥9223372036854775808))=true then n%18446744073709551616-18446744073709551616 else n%18446744073709551616)=n
 split
 ·rename_i h;simp only[Mx,Ms] at h;omega
 ·rename_i h;simp only[Mx,Ms] at h;omega
theorem El {α β:Type} (f:α->β) {l:List α} {i:Nat} (h:i<l.length) (d:β):(l.map f).getD i d=f l[i]:=by
 rw[Mm,No,Mg h];rfl
def AH {α σ:Type} (f:Nat->α->σ->σ ⊕ Out) (fin:σ->Out):List α->Nat->σ->Out
 |[],_,a=>fin a
 |x::r,i,a=>match f i x a with
  |.inl b=>AH f fin r (i+1) b
  |.inr o=>o
def Out.stops:Out->Prop|.again _=>False|_=>True
theorem yj {body:List C->R} {xs:List C} {o:Out} (h:body xs=some o) (ho:o.stops):lim body xs=some o:=by
 cases o with
 |ret ys=>exact js h
 |brk i ys=>exact aR h
 |nrm ys=>exact lO (k:=1) (by simp only[iter,h])
 |again ys=>exact ho.elim
def Le {σ:Type} (body:List C->R) (S:Nat->σ->List C) (Inv:Nat->σ->Prop) (i:Nat) (a:σ):σ ⊕ Out->Prop
 |.inl b=>body (S i a)=some (.again (S (i+1) b))/\Inv (i+1) b
 |.inr o=>body (S i a)=some o/\o.stops
theorem zw {α σ:Type} {l:List α} {body:List C->R} {S:Nat->σ->List C} (Inv:Nat->σ->Prop) (f:Nat->α->σ->σ ⊕ Out) (fin:σ->Out)
  (hstep:∀(i:Nat) (a:σ) (h:i<l.length),Inv i a->Le body S Inv i a (f i l[i] a))
  (hend:∀a,Inv l.length a->body (S l.length a)=some (fin a)/\(fin a).stops):
  ∀(n i:Nat) (a:σ),n+i=l.length->Inv i a->lim body (S i a)=some (AH f fin (l.drop i) i a)
 |0,i,a,hn,ha=>by
  have:i=l.length:=by omega
  subst this
  obtain ⟨h1,h2⟩:=hend a ha
  rw[yj h1 h2,List.drop_length];rfl
 |n+1,i,a,hn,ha=>by
  have hi:i<l.length:=by omega
  have hs:=hstep i a hi ha
  rw[MU hi]
  show _=some (match f i l[i] a with
   |.inl b=>AH f fin (l.drop (i+1)) (i+1) b
   |.inr o=>o)
  cases hf:f i l[i] a with
  |inl b=>
   rw[hf] at hs
   rw[aD hs.1]
   exact zw Inv f fin hstep hend n (i+1) b (by omega) hs.2
  |inr o=>
   rw[hf] at hs
   exact yj hs.1 hs.2
end Go.Ev
namespace Go.Ev
open Go.RowKit
inductive DB (T:Tys):CT->C->Prop
 |i (k:IntKind) (n:Int) (h:(Lit.int k n).wf=true):DB T (.int k) (.i n)
 |b (x:Bool):DB T .bool (.b x)
 |s (x:ByteArray) (h:x.size<=maxLen):DB T .str (.s x)
 |l (e:TypeId) (es:List (List C)) (h:es.length<=maxLen) (h1:∀(r:List C) (d:TD),r∈es->bj T e=some d->r.length=d.cts.length)
   (h2:∀(r:List C) (d:TD) (j:Nat) (c:C) (ct:CT),r∈es->bj T e=some d->r[j]?=some c->d.cts[j]?=some ct->DB T ct c):DB T (.sl e) (.l es)
theorem Gl {w:World} {a:Addr} {v:Value} (h:w.cell? a=some v):a.block<w.heap.size/\a.spot=none:=by
 simp only[World.cell?] at h
 split at h
 ·rename_i c _ _ hb
  refine ⟨?_,?_⟩
  ·exact (Array.getElem?_eq_some_iff.1 hb).1
  ·split at h
   ·simp at h
   ·rename_i hs;simpa using hs
 ·simp at h
structure Rd (T:Tys) (w:World) (cts:List CT) (cs:List Value) (xs:List C):Prop where
 n:xs.length=cts.length
 m:cs.length=cts.length
 rel:∀(j:Nat) (c:C) (ct:CT) (v:Value),xs[j]?=some c->cts[j]?=some ct->cs[j]?=some v->cE T (fun k=>k<w.heap.size) w ct c v
 db:∀(j:Nat) (c:C) (ct:CT),xs[j]?=some c->cts[j]?=some ct->DB T ct c
theorem Rd.one {T:Tys} {w:World} {ct:CT} {c:C} {v:Value} (h:cE T (fun k=>k<w.heap.size) w ct c v) (hd:DB T ct c):Rd T w [ct] [v] [c]:=
 ⟨rfl,rfl,fun j c' ct' v' h1 h2 h3=>by
  cases j with
  |zero=>
   simp only[M3,Mj] at h1 h2 h3
   subst h1;subst h2;subst h3;exact h
  |succ j=>simp at h1,fun j c' ct' h1 h2=>by
  cases j with
  |zero=>
   simp only[M3,Mj] at h1 h2
   subst h1;subst h2;exact hd
  |succ j=>simp at h1⟩
def Hz (f:TypeId->Bool) (T:Tys):List (Nat×TypeId)->Nat->Nat->Bool
 |[],o,m=>Nat.beq o m
 |(o',t)::r,o,m=>az (Nat.beq o' o) (az (f t) (match bj T t with|some d=>Hz f T r (o+d.cts.length) m|none=>false))
def okA:Nat->Tys->TypeId->Bool
 |0,_,_=>false
 |n+1,T,t=>match bj T t with
  |some d=>match d.dv with
   |.int _=>true|.bool=>true|.str=>true
   |.sl e=>okA n T e
   |.st fs=>Hz (okA n T) T fs 0 d.cts.length
   |_=>false
  |none=>false
theorem FY {β:Type} {p:Nat->β->Prop}:∀(n:Nat),(∀i,i<n->∃y,p i y)->∃l:List β,l.length=n/\∀i y,l[i]?=some y->p i y
 |0,_=>⟨[],rfl,fun i y h=>by simp at h⟩
 |n+1,h=>by
  obtain ⟨l,h1,h2⟩:=FY n fun i hi=>h i (by omega)
  obtain ⟨y,hy⟩:=h n (by omega)
  refine ⟨l++[y],by simp[h1],fun i z hz=>?_⟩
  by_cases hi:i<n
  ·rw[MV (by omega)] at hz;exact h2 i z hz
  ·have hlt:=(Ml.1 hz).1
   simp[h1] at hlt
   have:i=n:=by omega
   subst this
   rw[MW (by omega),h1,Nat.sub_self] at hz
   simp at hz;subst hz;exact hy
section
variable {H:Type} {enc:TypeId×Value->H} {P:Program} {w:World} {base:Nat} {sp:Nat->Bool} {held:Bool} {T:Tys}
theorem tB (hT:TOk P T) {t:TypeId} {d:TD} (h:bj T t=some d):P.cellsOf t=d.cts.length:=by
 obtain ⟨i,z,hi,hz,hs,hb,hzc⟩:=(hT t d h).facts
 simp[Program.cellsOf,hi,hs]
theorem rd (hT:TOk P T):∀(n:Nat) (t:TypeId) (d:TD) (fuel:Nat) (cs:List Value) (x:DataW H×List MemPlace),okA n T t=true->bj T t=some d->
  DataW.trod enc P w base sp held fuel t cs=some x->∃xs,Rd T w d.cts cs xs
 |0,t,d,fuel,cs,x,h,_,_=>by simp[okA] at h
 |n+1,t,d,fuel,cs,x,h,hd,hx=>by
  have ht:=hT t d hd
  obtain ⟨u,hu,hv⟩:=ht.desc
  have hleaf:=ht.leaf
  simp only[okA,hd] at h
  cases u with
  |bool=>
   obtain ⟨b,rfl,_⟩:=DataW.trod_bool hu hx
   rw[←hv] at hleaf;simp only[eo] at hleaf;rw[hleaf]
   exact ⟨_,.one (.bool b) (.b b)⟩
  |int k=>
   obtain ⟨b,rfl,_,hb⟩:=DataW.trod_int hu hx
   rw[←hv] at hleaf;simp only[eo] at hleaf;rw[hleaf]
   exact ⟨_,.one (.int k b) (.i k b hb)⟩
  |string=>
   obtain ⟨b,rfl,_,hb⟩:=DataW.trod_string hu hx
   rw[←hv] at hleaf;simp only[eo] at hleaf;rw[hleaf]
   exact ⟨_,.one (.str b) (.s b hb)⟩
  |slice e=>
   rw[←hv] at hleaf h;simp only[eo] at hleaf h;rw[hleaf]
   rcases DataW.trod_slice hu hx with ⟨rfl,_⟩|⟨a,len,cap,elems,rest,m,_,rfl,_,hb,hl,hm,hlen,hel,_,_⟩
   ·exact ⟨[.l []],.one (.sl0 e none 0) (.l e [] (by simp) (fun r d hr=>by simp at hr) fun r d j c ct hr=>by simp at hr)⟩
   ·obtain ⟨de,hde⟩:∃de,bj T e=some de:=by
     cases n with
     |zero=>simp[okA] at h
     |succ n=>
      simp only[okA] at h
      cases hq:bj T e with
      |none=>simp[hq] at h
      |some de=>exact ⟨de,rfl⟩
    have hpos:=(hT e de hde).pos
    have hc:=tB hT hde
    obtain ⟨es,h1,h2⟩:=FY (p:=fun i ys=>∃cs',w.cells? base (a.add (i*P.cellsOf e)) (P.cellsOf e)=some cs'/\Rd T w de.cts cs' ys) len fun i hi=>by
     have:=hel i hi
     rw[Mg (by omega)] at this
     obtain ⟨cs',q1,q2⟩:=Option.bind_eq_some_iff.1 this
     obtain ⟨ys,q3⟩:=rd hT n e de m cs' _ h hde q2
     exact ⟨ys,cs',q1,q3⟩
    rw[hc] at h2
    have hdb:DB T (.sl e) (.l es):=.l e es (by omega) (fun r d hr hd=>by
     obtain ⟨i,hi⟩:=List.getElem?_of_mem hr
     obtain ⟨cs',_,q⟩:=h2 i r hi
     rw[hde] at hd;obtain rfl:=Mh hd
     exact q.n) fun r d j c ct hr hd hc hct=>by
     obtain ⟨i,hi⟩:=List.getElem?_of_mem hr
     obtain ⟨cs',_,q⟩:=h2 i r hi
     rw[hde] at hd;obtain rfl:=Mh hd
     exact q.db j c ct hc hct
    rcases Nat.eq_zero_or_pos len with h0|h0
    ·have:es=[]:=List.eq_nil_of_length_eq_zero (by omega)
     subst this
     subst h0
     exact ⟨[.l []],.one (.sl0 e (some a) cap) hdb⟩
    ·obtain ⟨cs0,q1,q2⟩:=h2 0 es[0] (Mg (by omega))
     obtain ⟨_,q3,q4⟩:=World.cells?_some q1
     have q5:=q4 0 hpos
     rw[Mg (by omega)] at q5
     have q6:=Gl q5
     obtain ⟨g,o,spt⟩:=a
     have hspot:spt=none:=by
      by_cases he:spt=none
      ·exact he
      ·simp[Addr.add] at q6;exact q6.2
     subst hspot
     simp only[Addr.add_lit] at q6
     have hg:g<w.heap.size:=q6.1
     have key:=cE.sl (T:=T) (F:=fun k=>k<w.heap.size) (w:=w) e de es g o cap (fun i j=>(w.cell? ⟨g,o+(i*de.cts.length+j),none⟩).getD undef) hde hg (by omega)
      (fun i ys hi=>by
       obtain ⟨cs',_,q⟩:=h2 i ys hi
       exact q.n)
      (fun i ys j c hi hj=>by
       obtain ⟨cs',p1,q⟩:=h2 i ys hi
       obtain ⟨_,p2,p3⟩:=World.cells?_some p1
       have hjl:j<de.cts.length:=by rw[←q.n];exact (Ml.1 hj).1
       have p4:=p3 j hjl
       rw[Mg (by omega)] at p4
       simp only[Addr.add_lit] at p4
       rw[←Nat.add_assoc,p4];rfl)
      (fun i ys j c ct hi hj hct=>by
       obtain ⟨cs',p1,q⟩:=h2 i ys hi
       obtain ⟨_,p2,p3⟩:=World.cells?_some p1
       have hjl:j<de.cts.length:=by rw[←q.n];exact (Ml.1 hj).1
       have p4:=p3 j hjl
       rw[Mg (by omega)] at p4
       simp only[Addr.add_lit] at p4
       rw[←Nat.add_assoc,p4]
       exact q.rel j c ct _ hj hct (Mg (by omega)))
     rw[h1] at key
     exact ⟨[.l es],.one key hdb⟩
  |struct fs=>
   obtain ⟨zs,m,_,_,hl,hz,hf⟩:=DataW.trod_struct hu hx
   rw[←hv] at hleaf h;simp only[eo] at hleaf h
   rw[tB hT hd] at hl
   have key:∀(l:List Field) (o:Nat),Hz (okA n T) T (dT l) o d.cts.length=true->(∀q,q∈dT l->q∈dT fs.toList)->(∀f,f∈l->∃z,DataW.trod enc P w base sp held m f.type ((cs.drop f.offset).take (P.cellsOf f.type))=some z)->
     ∃xs:List C,xs.length+o=d.cts.length/\(∀(j:Nat) (c:C) (ct:CT) (v:Value),xs[j]?=some c->d.cts[o+j]?=some ct->cs[o+j]?=some v->cE T (fun k=>k<w.heap.size) w ct c v)/\∀(j:Nat) (c:C) (ct:CT),xs[j]?=some c->d.cts[o+j]?=some ct->DB T ct c:=by
    intro l
    induction l with
    |nil=>
     intro o h _ _
     simp only[dT,MC,Hz] at h
     exact ⟨[],by simpa using Mi h,fun j c ct v h=>by simp at h,fun j c ct h=>by simp at h⟩
    |cons f l ih=>
     intro o h hin hall
     simp only[dT,MD,Hz,ao,Mk] at h
     obtain ⟨ho,hok,h⟩:=h
     have ho:=Mi ho
     cases hdf:bj T f.type with
     |none=>simp[hdf] at h
     |some df=>
      simp only[hdf] at h
      obtain ⟨z,hz⟩:=hall f (by simp)
      obtain ⟨ys,hys⟩:=rd hT n f.type df m _ z hok hdf hz
      obtain ⟨xs,h1,h2,h3⟩:=ih (o+df.cts.length) h (fun q hq=>hin q (by simp only[dT,MD,Mw];exact .inr hq)) (fun f' hf'=>hall f' (by simp[hf']))
      have hsub:=hleaf f.offset f.type (hin _ (by simp[dT])) df hdf
      rw[tB hT hdf] at hys
      rw[ho] at hsub hys
      refine ⟨ys++xs,by rw[MP,hys.n];omega,fun j c ct v a1 a2 a3=>?_,fun j c ct a1 a2=>?_⟩
      ·by_cases hj:j<ys.length
       ·rw[MV hj] at a1
        have hjl:j<df.cts.length:=by rw[←hys.n];exact hj
        refine hys.rel j c ct v a1 ?_ ?_
        ·rw[←hsub,List.getElem?_take_of_lt hjl,MB];exact a2
        ·rw[List.getElem?_take_of_lt hjl,MB];exact a3
       ·rw[MW (by omega)] at a1
        have e:o+df.cts.length+(j-ys.length)=o+j:=by rw[hys.n] at hj⊢;omega
        exact h2 (j-ys.length) c ct v a1 (by rw[e];exact a2) (by rw[e];exact a3)
      ·by_cases hj:j<ys.length
       ·rw[MV hj] at a1
        have hjl:j<df.cts.length:=by rw[←hys.n];exact hj
        refine hys.db j c ct a1 ?_
        rw[←hsub,List.getElem?_take_of_lt hjl,MB];exact a2
       ·rw[MW (by omega)] at a1
        have e:o+df.cts.length+(j-ys.length)=o+j:=by rw[hys.n] at hj⊢;omega
        exact h3 (j-ys.length) c ct a1 (by rw[e];exact a2)
   obtain ⟨xs,h1,h2,h3⟩:=key fs.toList 0 h (fun _ h=>h) (fun f hf'=>by
    obtain ⟨i,hi⟩:=List.getElem?_of_mem hf'
    have hi':fs[i]?=some f:=by simpa using hi
    have:=hf i f hi'
    have hil:i<zs.length:=by rw[hz];exact (Array.getElem?_eq_some_iff.1 hi').1
    rw[Mg hil] at this
    exact ⟨_,this⟩)
   exact ⟨xs,by simpa using h1,hl,fun j c ct v a1 a2 a3=>h2 j c ct v a1 (by simpa using a2) (by simpa using a3),fun j c ct a1 a2=>h3 j c ct a1 (by simpa using a2)⟩
  |_=>rw[←hv] at h;simp[eo] at h
end
theorem L5 {P:Program} {T:Tys} {f n:Nat} {sl:List (Nat×Sk)} {Fn:List C->Option (List C)} (hf:oh P T f ⟨n,⟨sl,[]⟩,⟨[(0,.d .bool)],[]⟩,[],Fn⟩)
  (xs:List C) (args:Array Value) (W:World) (hs:args.size=n) (ha:∀k,k<n->aj T (fun k=>k<W.heap.size) W (fun _=>none) (fun _=>.bool false) (((⟨sl,[]⟩:Tm).inj xs).sl k) (args.getD k undef)) (hF:Fn xs=some [.b true]):
  Calls P f args W fun e W'=>e=.returned (.bool true)/\Below W.heap.size W W':=by
 refine (hf.calls W (fun _=>False) (fun _=>False) (fun k=>k<W.heap.size) (fun _=>.bool false) xs [.b true] args ?_ hs ha hF).mono ?_
 ·exact ⟨fun b x h=>(by cases h),fun b b' x x' g h=>(by cases h),fun b x g h=>(by cases h),fun k h=>h,⟨rfl,rfl,⟨rfl,Mp _⟩,Mp _,fun _ _ _=>rfl⟩,fun k h=>h,fun k h=>.inl h,fun n hn=>(by cases hn),fun b x h=>(by cases h),fun b x k h=>(by cases h),fun b b' x x' k h=>(by cases h),fun k h=>h.elim⟩
 ·rintro e W' ⟨v,F1,θ1,rfl,hw,hv,_⟩
  have hv':aj T F1 W' _ θ1 (.c .bool (.b true)) v:=hv
  cases hv' with
  |c _ _ _ h=>
   cases h
   exact ⟨rfl,⟨hw.keep.os,hw.keep.tape,hw.keep.output.1,hw.keep.size,fun k hk=>hw.keep.old k hk (fun h=>h)⟩⟩
end Go.Ev
set_option maxRecDepth 100000
namespace Go.Ev
open Go.Proofs
def zi:Sk:=.d (.int .i64)
def zt:Sk:=.d .str
def zo:Sk:=.d .bool
def zl (n:Nat):Sk:=.d (.sl n)
def z0:BSk:=.var 27 [zo,(zl 72),(zl 40),(zl 38)]
def z1:BSk:=.var 38 [zt,zt,zi,zi,zi,zi,zt,(zl 100),zi,zt,zt,zt]
def z2:Sk:=(.ag [zo,(zl 72),(zl 40),(zl 38)])
def z3:BSk:=.var 72 [zt,zt,(zl 9),zi,zi,zo]
def z4:BSk:=.var 90 [(zl 5),zi]
def z5:Sk:=(.ag [zt,zt,zi,zi,zi,zi,zt,(zl 100),zi,zt,zt,zt])
def z6:BSk:=.var 120 [zi,zt,zt,(.ow 2003),zi,zi,zo,zt,zt,zi,zi,zi,zi,zt,(.ow 2004),zi,zt,zt,zt,zt,zt]
def z7:BSk:=.var 27 [zo,(.ow 1036800),(.ow 1036801),(.ow 1036802)]
def z8:BSk:=.var 27 [zo,(.ow 1036803),(.ow 1036804),(.ow 1036805)]
def z9:BSk:=.var 27 [zo,(.ow 1027600),(.ow 1027601),(.ow 1027602)]
def z10:Sk:=(.ag [zt,zt,(zl 9),zi,zi,zo])
def z11:BSk:=.var 27 [zo,(.ow 1164200),(.ow 1164201),(.ow 1164202)]
def z12:BSk:=.var 27 [zo,(.ow 1164203),(.ow 8),(.ow 1164204)]
def z13:BSk:=.var 165 [zi,zi,zi,zi]
def z14:BSk:=.var 27 [zo,(.ow 248760),(.ow 248761),(.ow 248762)]
def z15:Sk:=(.ag [zo,(.ow 3000),(.ow 3001),(.ow 3002)])
def z16:BSk:=.var 27 [zo,(.ow 1020200),(.ow 1020201),(.ow 1020202)]
def z17:BSk:=.var 27 [zo,(.ow 1371700),(.ow 1371701),(.ow 1371702)]
def z18:Sk:=(.ag [zi,zt,zt,(.ow 2003),zi,zi,zo,zt,zt,zi,zi,zi,zi,zt,(.ow 2004),zi,zt,zt,zt,zt,zt])
def T0:Tys:=[(1,⟨.fn,[.fn],8⟩),
 (2,⟨(.int .i64),[(.int .i64)],8⟩),
 (3,⟨(.int .i64),[(.int .i64)],8⟩),
 (4,⟨.bool,[.bool],1⟩),
 (5,⟨(.int .u8),[(.int .u8)],1⟩),
 (6,⟨(.int .u8),[(.int .u8)],1⟩),
 (7,⟨(.st [(0,2),(1,3),(2,4),(3,6)]),[(.int .i64),(.int .i64),.bool,(.int .u8)],24⟩),
 (8,⟨(.st [(0,2),(1,3),(2,4),(3,6)]),[(.int .i64),(.int .i64),.bool,(.int .u8)],24⟩),
 (9,⟨.str,[.str],16⟩),
 (10,⟨.str,[.str],16⟩),
 (11,⟨.str,[.str],16⟩),
 (12,⟨(.int .u64),[(.int .u64)],8⟩),
 (13,⟨(.st [(0,9),(1,12)]),[.str,(.int .u64)],24⟩),
 (14,⟨(.st [(0,9),(1,12)]),[.str,(.int .u64)],24⟩),
 (15,⟨(.pt 217),[(.pt 217)],8⟩),
 (16,⟨(.pt 220),[(.pt 220)],8⟩),
 (17,⟨(.pt 228),[(.pt 228)],8⟩),
 (18,⟨(.st [(0,17)]),[(.pt 228)],8⟩),
 (19,⟨(.st [(0,17)]),[(.pt 228)],8⟩),
 (21,⟨(.int .i32),[(.int .i32)],4⟩),
 (22,⟨(.sl 5),[(.sl 5)],24⟩),
 (23,⟨(.sl 72),[(.sl 72)],24⟩),
 (24,⟨(.sl 40),[(.sl 40)],24⟩),
 (25,⟨(.sl 38),[(.sl 38)],24⟩),
 (26,⟨(.st [(0,4),(1,23),(2,24),(3,25)]),[.bool,(.sl 72),(.sl 40),(.sl 38)],80⟩),
 (27,⟨(.st [(0,4),(1,23),(2,24),(3,25)]),[.bool,(.sl 72),(.sl 40),(.sl 38)],80⟩),
 (28,⟨(.sl 9),[(.sl 9)],24⟩),
 (29,⟨(.st [(0,9),(1,9),(2,28)]),[.str,.str,(.sl 9)],56⟩),
 (30,⟨(.st [(0,9),(1,9),(2,28)]),[.str,.str,(.sl 9)],56⟩),
 (32,⟨.fn,[.fn],8⟩),
 (34,⟨.fn,[.fn],8⟩),
 (35,⟨.fn,[.fn],8⟩),
 (36,⟨(.sl 100),[(.sl 100)],24⟩),
 (37,⟨(.st [(0,9),(1,9),(2,3),(3,3),(4,3),(5,3),(6,9),(7,36),(8,3),(9,9),(10,9),(11,9)]),[.str,.str,(.int .i64),(.int .i64),(.int .i64),(.int .i64),.str,(.sl 100),(.int .i64),.str,.str,.str],160⟩),
 (38,⟨(.st [(0,9),(1,9),(2,3),(3,3),(4,3),(5,3),(6,9),(7,36),(8,3),(9,9),(10,9),(11,9)]),[.str,.str,(.int .i64),(.int .i64),(.int .i64),(.int .i64),.str,(.sl 100),(.int .i64),.str,.str,.str],160⟩),
 (39,⟨(.st [(0,9),(1,3)]),[.str,(.int .i64)],24⟩),
 (40,⟨(.st [(0,9),(1,3)]),[.str,(.int .i64)],24⟩),
 (41,⟨.fn,[.fn],8⟩),
 (42,⟨.fn,[.fn],8⟩),
 (43,⟨.fn,[.fn],8⟩),
 (45,⟨.fn,[.fn],8⟩),
 (47,⟨.fn,[.fn],8⟩),
 (48,⟨.fn,[.fn],8⟩),
 (50,⟨.fn,[.fn],8⟩),
 (51,⟨.fn,[.fn],8⟩),
 (53,⟨.fn,[.fn],8⟩),
 (54,⟨.fn,[.fn],8⟩),
 (55,⟨(.sl 3),[(.sl 3)],24⟩),
 (56,⟨.fn,[.fn],8⟩),
 (58,⟨.fn,[.fn],8⟩),
 (59,⟨.fn,[.fn],8⟩),
 (60,⟨(.pt 90),[(.pt 90)],8⟩),
 (61,⟨.fn,[.fn],8⟩),
 (62,⟨.fn,[.fn],8⟩),
 (64,⟨.fn,[.fn],8⟩),
 (65,⟨.fn,[.fn],8⟩),
 (66,⟨.fn,[.fn],8⟩),
 (67,⟨.fn,[.fn],8⟩),
 (68,⟨.fn,[.fn],8⟩),
 (69,⟨.fn,[.fn],8⟩),
 (70,⟨.fn,[.fn],8⟩),
 (71,⟨(.st [(0,9),(1,9),(2,28),(3,3),(4,3),(5,4)]),[.str,.str,(.sl 9),(.int .i64),(.int .i64),.bool],80⟩),
 (72,⟨(.st [(0,9),(1,9),(2,28),(3,3),(4,3),(5,4)]),[.str,.str,(.sl 9),(.int .i64),(.int .i64),.bool],80⟩),
 (73,⟨.fn,[.fn],8⟩),
 (74,⟨.fn,[.fn],8⟩),
 (75,⟨.fn,[.fn],8⟩),
 (77,⟨.fn,[.fn],8⟩),
 (78,⟨.fn,[.fn],8⟩),
 (80,⟨.fn,[.fn],8⟩),
 (82,⟨.fn,[.fn],8⟩),
 (83,⟨.fn,[.fn],8⟩),
 (85,⟨.fn,[.fn],8⟩),
 (86,⟨.fn,[.fn],8⟩),
 (87,⟨.fn,[.fn],8⟩),
 (88,⟨.fn,[.fn],8⟩),
 (89,⟨(.st [(0,22),(1,3)]),[(.sl 5),(.int .i64)],32⟩),
 (90,⟨(.st [(0,22),(1,3)]),[(.sl 5),(.int .i64)],32⟩),
 (91,⟨.fn,[.fn],8⟩),
 (92,⟨.fn,[.fn],8⟩),
 (93,⟨.fn,[.fn],8⟩),
 (94,⟨.fn,[.fn],8⟩),
 (95,⟨.fn,[.fn],8⟩),
 (96,⟨.fn,[.fn],8⟩),
 (97,⟨.fn,[.fn],8⟩),
 (98,⟨.fn,[.fn],8⟩),
 (99,⟨(.st [(0,9),(1,3)]),[.str,(.int .i64)],24⟩),
 (100,⟨(.st [(0,9),(1,3)]),[.str,(.int .i64)],24⟩),
 (102,⟨.fn,[.fn],8⟩),
 (103,⟨.fn,[.fn],8⟩),
 (104,⟨(.pt 139),[(.pt 139)],8⟩),
 (106,⟨.fn,[.fn],8⟩),
 (107,⟨.fn,[.fn],8⟩),
 (108,⟨.fn,[.fn],8⟩),
 (109,⟨.fn,[.fn],8⟩),
 (110,⟨.fn,[.fn],8⟩),
 (111,⟨(.int .u64),[(.int .u64)],8⟩),
 (112,⟨.fn,[.fn],8⟩),
 (113,⟨(.sl 30),[(.sl 30)],24⟩),
 (115,⟨.fn,[.fn],8⟩),
 (116,⟨.fn,[.fn],8⟩),
 (118,⟨.fn,[.fn],8⟩),
 (119,⟨(.st [(0,3),(1,72),(7,38),(19,9),(20,9)]),[(.int .i64),.str,.str,(.sl 9),(.int .i64),(.int .i64),.bool,.str,.str,(.int .i64),(.int .i64),(.int .i64),(.int .i64),.str,(.sl 100),(.int .i64),.str,.str,.str,.str,.str],280⟩),
 (120,⟨(.st [(0,3),(1,72),(7,38),(19,9),(20,9)]),[(.int .i64),.str,.str,(.sl 9),(.int .i64),(.int .i64),.bool,.str,.str,(.int .i64),(.int .i64),(.int .i64),(.int .i64),.str,(.sl 100),(.int .i64),.str,.str,.str,.str,.str],280⟩),
 (121,⟨.fn,[.fn],8⟩),
 (122,⟨(.sl 28),[(.sl 28)],24⟩),
 (123,⟨.fn,[.fn],8⟩),
 (124,⟨.fn,[.fn],8⟩),
 (125,⟨.fn,[.fn],8⟩),
 (126,⟨.fn,[.fn],8⟩),
 (127,⟨.fn,[.fn],8⟩),
 (128,⟨(.sl 170),[(.sl 170)],24⟩),
 (129,⟨(.st [(0,128)]),[(.sl 170)],24⟩),
 (130,⟨(.st [(0,128)]),[(.sl 170)],24⟩),
 (132,⟨.fn,[.fn],8⟩),
 (133,⟨.fn,[.fn],8⟩),
 (134,⟨.fn,[.fn],8⟩),
 (135,⟨.fn,[.fn],8⟩),
 (136,⟨.fn,[.fn],8⟩),
 (137,⟨(.sl 104),[(.sl 104)],24⟩),
 (138,⟨(.st [(0,3),(1,9),(2,9),(3,137)]),[(.int .i64),.str,.str,(.sl 104)],64⟩),
 (139,⟨(.st [(0,3),(1,9),(2,9),(3,137)]),[(.int .i64),.str,.str,(.sl 104)],64⟩),
 (140,⟨(.pt 142),[(.pt 142)],8⟩),
 (141,⟨(.st [(0,9),(1,3),(2,4)]),[.str,(.int .i64),.bool],32⟩),
 (142,⟨(.st [(0,9),(1,3),(2,4)]),[.str,(.int .i64),.bool],32⟩),
 (143,⟨.fn,[.fn],8⟩),
 (144,⟨.fn,[.fn],8⟩),
 (145,⟨.fn,[.fn],8⟩),
 (146,⟨.fn,[.fn],8⟩),
 (147,⟨.fn,[.fn],8⟩),
 (148,⟨(.int .i64),[(.int .i64)],8⟩),
 (150,⟨.fn,[.fn],8⟩),
 (151,⟨.fn,[.fn],8⟩),
 (152,⟨.fn,[.fn],8⟩),
 (153,⟨.fn,[.fn],8⟩),
 (155,⟨.fn,[.fn],8⟩),
 (156,⟨.fn,[.fn],8⟩),
 (157,⟨(.int .u32),[(.int .u32)],4⟩),
 (158,⟨.fn,[.fn],8⟩),
 (159,⟨(.int .u64),[(.int .u64)],8⟩),
 (160,⟨.fn,[.fn],8⟩),
 (161,⟨.fn,[.fn],8⟩),
 (162,⟨.fn,[.fn],8⟩),
 (163,⟨.fn,[.fn],8⟩),
 (164,⟨(.st [(0,3),(1,3),(2,3),(3,3)]),[(.int .i64),(.int .i64),(.int .i64),(.int .i64)],32⟩),
 (165,⟨(.st [(0,3),(1,3),(2,3),(3,3)]),[(.int .i64),(.int .i64),(.int .i64),(.int .i64)],32⟩),
 (166,⟨.fn,[.fn],8⟩),
 (167,⟨.fn,[.fn],8⟩),
 (168,⟨.fn,[.fn],8⟩),
 (169,⟨(.st [(0,3),(1,9),(2,9),(3,3)]),[(.int .i64),.str,.str,(.int .i64)],48⟩),
 (170,⟨(.st [(0,3),(1,9),(2,9),(3,3)]),[(.int .i64),.str,.str,(.int .i64)],48⟩),
 (171,⟨(.pt 173),[(.pt 173)],8⟩),
 (172,⟨(.st [(0,28),(1,3),(2,4)]),[(.sl 9),(.int .i64),.bool],40⟩),
 (173,⟨(.st [(0,28),(1,3),(2,4)]),[(.sl 9),(.int .i64),.bool],40⟩),
 (174,⟨.fn,[.fn],8⟩),
 (175,⟨.fn,[.fn],8⟩),
 (176,⟨(.sl 55),[(.sl 55)],24⟩),
 (178,⟨.fn,[.fn],8⟩),
 (179,⟨.fn,[.fn],8⟩),
 (180,⟨.fn,[.fn],8⟩),
 (184,⟨.fn,[.fn],8⟩),
 (185,⟨.fn,[.fn],8⟩),
 (186,⟨(.pt 182),[(.pt 182)],8⟩),
 (187,⟨(.int .u64),[(.int .u64)],8⟩),
 (188,⟨.fn,[.fn],8⟩),
 (189,⟨.fn,[.fn],8⟩),
 (190,⟨.fn,[.fn],8⟩),
 (191,⟨(.pt 3),[(.pt 3)],8⟩),
 (192,⟨.fn,[.fn],8⟩),
 (193,⟨.fn,[.fn],8⟩),
 (194,⟨.fn,[.fn],8⟩),
 (195,⟨.fn,[.fn],8⟩),
 (196,⟨.fn,[.fn],8⟩),
 (197,⟨.fn,[.fn],8⟩),
 (199,⟨.fn,[.fn],8⟩),
 (200,⟨.fn,[.fn],8⟩),
 (201,⟨(.pt 187),[(.pt 187)],8⟩),
 (202,⟨.fn,[.fn],8⟩),
 (203,⟨.fn,[.fn],8⟩),
 (204,⟨.fn,[.fn],8⟩),
 (205,⟨(.sl 128),[(.sl 128)],24⟩),
 (206,⟨.fn,[.fn],8⟩),
 (207,⟨.fn,[.fn],8⟩),
 (208,⟨.fn,[.fn],8⟩),
 (210,⟨.fn,[.fn],8⟩),
 (212,⟨(.st [(0,5),(1,5)]),[(.int .u8),(.int .u8)],2⟩),
 (213,⟨(.st [(0,5),(1,5)]),[(.int .u8),(.int .u8)],2⟩),
 (215,⟨.fn,[.fn],8⟩),
 (216,⟨(.st [(0,17),(1,17),(2,17),(3,9)]),[(.pt 228),(.pt 228),(.pt 228),.str],40⟩),
 (217,⟨(.st [(0,17),(1,17),(2,17),(3,9)]),[(.pt 228),(.pt 228),(.pt 228),.str],40⟩),
 (221,⟨(.int .u8),[(.int .u8)],1⟩),
 (222,⟨(.int .u8),[(.int .u8)],1⟩),
 (223,⟨.fn,[.fn],8⟩),
 (224,⟨(.pt 5),[(.pt 5)],8⟩),
 (225,⟨(.int .i32),[(.int .i32)],4⟩),
 (226,⟨(.int .i32),[(.int .i32)],4⟩),
 (227,⟨(.st [(0,12),(1,12),(2,157),(3,221),(4,5),(5,5),(6,222),(7,223),(8,224),(9,225),(10,226)]),[(.int .u64),(.int .u64),(.int .u32),(.int .u8),(.int .u8),(.int .u8),(.int .u8),.fn,(.pt 5),(.int .i32),(.int .i32)],48⟩),
 (228,⟨(.st [(0,12),(1,12),(2,157),(3,221),(4,5),(5,5),(6,222),(7,223),(8,224),(9,225),(10,226)]),[(.int .u64),(.int .u64),(.int .u32),(.int .u8),(.int .u8),(.int .u8),(.int .u8),.fn,(.pt 5),(.int .i32),(.int .i32)],48⟩)]
def KW:List Nat:=[]
def K6:List (Nat×Nat):=[(76,4),(79,3)]
theorem HM:EV Tryz.checked.prog T0 KW K6:=EV.of (by kernel_rfl) (by kernel_rfl) (by kernel_rfl) (by kernel_rfl)
abbrev FK (n:FuncId) (s:FS):Prop:=oh Tryz.checked.prog T0 n s
theorem okO {n:FuncId} (fn:Func) (fs:FS) (an:Ann) (l:List (Nat×Option Nat×FS)) (hl:qi Tryz.checked.prog T0 l) (hf:Tryz.checked.prog.funcs[n]?=some fn) (hs:(fn.body.isSome&&stat fn fs)=true)
  (hF:∀xs,evF ⟨T0,phi l,fn.ntmps,fn.results.toList,fs.inT,fs.outT,fs.ip,KW,K6,[],false,[]⟩ (fn.body.getD .skip) an xs=fs.F xs):FK n fs:=by
 rw[Mk] at hs
 exact LU HM fs an l hl hf (by cases h:fn.body with|none=>rw[h] at hs;cases hs.1|some c=>rfl) hs.2 hF
theorem okP (mv:List Nat) (tr:Bool) {n:FuncId} (fn:Func) (fs:FS) (an:Ann) (l:List (Nat×Option Nat×FS)) (hl:qi Tryz.checked.prog T0 l) (hf:Tryz.checked.prog.funcs[n]?=some fn) (hs:(fn.body.isSome&&stat fn fs)=true)
  (hF:∀xs,evF ⟨T0,phi l,fn.ntmps,fn.results.toList,fs.inT,fs.outT,fs.ip,KW,K6,mv,tr,[]⟩ (fn.body.getD .skip) an xs=fs.F xs):FK n fs:=by
 rw[Mk] at hs
 exact Kz HM mv tr fs an l hl hf (by cases h:fn.body with|none=>rw[h] at hs;cases hs.1|some c=>rfl) hs.2 hF
end Go.Ev
namespace Go.Proofs
set_option maxHeartbeats 1000000 in
set_option maxRecDepth 100000 in
theorem stringslite_IndexByte (s:ByteArray) (c:Int) (w:World):
  Calls Tryz.prog 176 #[.string s,.int .u8 c] w fun e w'=>e=.returned (.int .i64 (Lib.indexByte s.data.toList c.toNat.toUInt8))/\w'=w:=by
 go_enter Tryz.func176,Tryz.ntmps176
 go_wp2
 rw[run_callFunc_extern Tryz.func187 (by kernel_rfl) (by kernel_rfl) (by kernel_rfl) (e:=Extern.BytealgIndexByte.indexByte) (by kernel_rfl),Lib.run_indexByteString]
 simp only[Result.andThen]
 rw[Oper.upon_value]
 go_wp2
 go_ret
 exact ⟨rfl,rfl⟩
end Go.Proofs
namespace Go.Ev
open Go.Proofs
def ibF:List C->Option (List C):=fun xs=>some [.i (Lib.indexByte (xs.getD 0 .nil).S.data.toList (xs.getD 1 .nil).I.toNat.toUInt8)]
theorem LC:oh Tryz.checked.prog T0 176 ⟨2,⟨[(0,.d .str),(1,.d (.int .u8))],[]⟩,⟨[(0,.d (.int .i64))],[]⟩,[],ibF⟩:=by
 refine ⟨⟨Tryz.f176,_,Tryz.func176,rfl,by kernel_rfl⟩,?_⟩
 intro W wr nl F0 θ xs ys args hW hsz hargs hF
 obtain ⟨a0,a1,rfl⟩:∃a0 a1,args= #[a0,a1]:=by
  obtain ⟨l⟩:=args
  simp only[List.size_toArray] at hsz
  match l,hsz with
  |[a,b],_=>exact ⟨a,b,rfl⟩
 have r0:aj T0 F0 W (fun _=>none) θ (.c .str (xs.getD 0 .nil)) a0:=hargs 0 (by decide)
 have r1:aj T0 F0 W (fun _=>none) θ (.c (.int .u8) (xs.getD 1 .nil)) a1:=hargs 1 (by decide)
 simp only[ibF,Mj] at hF
 subst hF
 generalize hx0:xs.getD 0 .nil=x0 at*
 generalize hx1:xs.getD 1 .nil=x1 at*
 cases r0 with
 |c _ _ _ hc=>
 cases hc with
 |str s=>
 cases r1 with
 |c _ _ _ hc=>
 cases hc with
 |int _ m=>
 refine (stringslite_IndexByte s m W).mono ?_
 rintro e w' ⟨rfl,rfl⟩
 exact ⟨_,F0,θ,rfl,hW,.c _ _ _ (.int _ _),fun n _ hn=>by simp at hn⟩
end Go.Ev
namespace Go.Ev
open Go.Sort
structure LP (w w':World) (g:Nat):Prop where
 os:w'.os=w.os
 tape:w'.tape=w.tape
 output:w'.output=w.output
 drawn:w.drawn<=w'.drawn
 size:w.heap.size<=w'.heap.size
 old:∀k,k<w.heap.size->k≠g->w'.heap[k]?=w.heap[k]?
theorem G7 {α:Type} [Inhabited α] (enc:α->Value) (w:World) (n g o:Nat) (d:Array α) (os:Array Obj):LP w (grow (putRow enc (Sort.ahead w n) g o d) os) g:=by
 refine ⟨rfl,rfl,rfl,Nat.le_add_right _ _,?_,fun k hk hg=>?_⟩
 ·simp[grow,putRow,mapBlock,Sort.ahead]
 ·have:k<(w.heap.modify g (onCells (putCells enc o d))).size:=by simpa using hk
  simp only[grow,putRow,mapBlock,Sort.ahead,Array.getElem?_append,if_pos this,Array.getElem?_modify]
  rw[if_neg (fun h=>hg h.symm)]
theorem Hf {α:Type} [Inhabited α] (enc:α->Value) (w:World) (n g o:Nat) (d:Array α) (os:Array Obj) {cs:Array Value} {t:TypeId} {p:Nat×Nat} (h:w.heap[g]?=some (.cells cs t p)):
  (grow (putRow enc (Sort.ahead w n) g o d) os).heap[g]?=some (.cells (putCells enc o d cs) t p):=by
 have hg:g<w.heap.size:=by
  rcases Nat.lt_or_ge g w.heap.size with h1|h1
  ·exact h1
  ·rw[Array.getElem?_eq_none h1] at h;cases h
 have:g<(w.heap.modify g (onCells (putCells enc o d))).size:=by simpa using hg
 simp only[grow,putRow,mapBlock,Sort.ahead,Array.getElem?_append,if_pos this,Array.getElem?_modify,h]
 rfl
theorem Je {α:Type} [Inhabited α] (enc:α->Value) (o:Nat) (d:Array α) (cs:Array Value) {i:Nat} (hi:i<d.size) (h:o+i<cs.size):(putCells enc o d cs)[o+i]?=some (enc d[i]!):=by
 have:o<=o+i/\o+i<o+d.size:=by omega
 simp only[putCells,Array.getElem?_mapIdx,M5 h,Nn,this,and_self,if_true,Nat.add_sub_cancel_left]
theorem Hj {α:Type} [Inhabited α] (enc:α->Value) (o:Nat) (d:Array α) (cs:Array Value):(putCells enc o d cs).size=cs.size:=by simp[putCells]
theorem holds_of {α:Type} [Inhabited α] (enc:α->Value) {w:World} {g o:Nat} {cs:Array Value} {t:TypeId} (hg:w.heap[g]?=some (.cells cs t (0,0))) (d:Array α) (h:∀j,j<d.size->cs[o+j]?=some (enc d[j]!)):Holds enc w g o d:=by
 intro j hj
 refine ⟨?_,?_⟩
 ·simp[World.cell?,hg,h j hj]
 ·simp[World.frozen?,hg]
section
variable {T:Tys} {w w':World} {wr nl F0:Nat->Prop} {θ:Nat->Value} {bx bx':Bxs} {t:TypeId} {d:TD} {es es':List (List C)} {m:Nat} {ip:List Nat}
theorem AU {v:Value} {k:Nat} (hd:bj T t=some d) (hf:bF d.cts=true) (h:Nst T w t es v k):False:=by
 obtain ⟨i,j,ct,c,u,⟨d',g,o,n,cap,cs,h1,_,_,_,h5,_⟩,h2⟩:=h
 rw[hd] at h1;obtain rfl:=Mh h1
 have:=cH hf _ _ h5
 cases h2<;>simp[CT.flat] at this
theorem IJ (hd:bj T t=some d) (hm:m=0∨(m=1/\bF d.cts=true)) (hbx:∀b x,bx' b=some x->b=2000/\x=.arr 0 t es' m)
  (hF:∀k,F0 k->k<w.heap.size) (hnl:∀k,nl k->F0 k) (hk:E2 ⟨w,wr,F0,θ,[],nl⟩ w')
  (hbox:iZ T F0 w' bx' θ 2000 (.arr 0 t es' m)) (hout:∀g,bJ (θ 2000)=some g->¬F0 g/\g<w.heap.size/\wr g):WR T ⟨w,wr,F0,θ,[],nl⟩ F0 w' bx' θ:=by
 refine ⟨fun b x h=>?_,fun b b' x x' g h1 h2 _ _ _ _=>?_,fun b x g h _ hg=>?_,fun k h=>MS (hF k h) hk.size,hk,fun k h=>h,fun k h=>.inl h,fun n hn=>(by cases hn),fun b x h=>?_,fun b x k h hk'=>?_,fun b b' x x' k h1 h2 _ _=>?_,hnl⟩
 ·obtain ⟨rfl,rfl⟩:=hbx b x h
  exact hbox
 ·rw[(hbx _ _ h1).1,(hbx _ _ h2).1]
 ·obtain ⟨rfl,rfl⟩:=hbx b x h
  obtain ⟨a1,a2,a3⟩:=hout g hg
  exact ⟨a1,MS a2 hk.size,.inr a3⟩
 ·obtain ⟨rfl,rfl⟩:=hbx b x h
  intro h0
  obtain ⟨rfl,hf⟩:=hm.resolve_left h0
  obtain ⟨d',A,cap,q1,q2,q3,q4⟩:=hbox
  rw[hd] at q1;obtain rfl:=Mh q1
  refine ⟨fun _=>⟨fun i j ct c u h=>?_,fun i j ct c u i' j' ct' c' u' k h1 h2 h3 h4=>?_⟩,fun h=>absurd h (by decide)⟩
  ·obtain ⟨d',g,o,n,cap',cs,h1,h2,h3,h4,h5,h6⟩:=h
   rw[hd] at h1;obtain rfl:=Mh h1
   rw[q2] at h2
   simp only[ML] at h2
   obtain ⟨rfl,rfl,rfl⟩:=h2
   rcases q4 with ⟨q,_⟩|⟨g',o',cs',r1,r2,r3,r4,r5⟩
   ·cases q
   ·simp only[Mj,Addr.mk.injEq] at r1
    obtain ⟨rfl,rfl,_⟩:=r1
    simp only[World.cell?,r2] at h6
    exact (r5 i cs j c ct u h3 h4 h5 (by simpa using h6)).rl (cH hf _ _ h5)
  ·exact (AU hd hf ⟨i,j,ct,c,u,h1,h3⟩).elim
 ·obtain ⟨rfl,rfl⟩:=hbx b x h
  obtain ⟨h0,h1⟩:=hk'
  obtain ⟨rfl,hf⟩:=hm.resolve_left h0
  exact (AU hd hf h1).elim
 ·rw[(hbx _ _ h1).1,(hbx _ _ h2).1]
theorem IU {g:Nat} (h:LP w w' g) (hg:wr g):E2 ⟨w,wr,F0,θ,[],nl⟩ w':=
 ⟨h.os,h.tape,⟨h.output,h.drawn⟩,h.size,fun k hk hn=>h.old k hk fun e=>hn (e▸hg)⟩
theorem Hm:E2 ⟨w,wr,F0,θ,[],nl⟩ w:=⟨rfl,rfl,⟨rfl,Mp _⟩,Mp _,fun _ _ _=>rfl⟩
end
end Go.Ev
namespace Go.Ev
open Go.Sort
def iB (es:List (List C)):List Int:=es.map fun r=>(r.getD 0 .nil).I
def iE (n:Int):List C:=[.i n]
def jf (l:List Int):List Int:=l.mergeSort fun x y=>decide (x<=y)
def x9:List C->Option (List C):=fun xs=>bif decide ((xs.getD 0 .nil).L.length<=4294967296) then some [.l ((jf (iB (xs.getD 0 .nil).L)).map iE)] else none
theorem Dl {P:Program} {T:Tys} {f:Nat} {t:TypeId} {d:TD} (hd:bj T t=some d) (hc:d.cts=[.int .i64])
  (hfn:∃fn c,P.funcs[f]?=some fn/\fn.body=some c/\(fn.name== "runtime.NumGoroutine")=false)
  (hs:∀(blk off cap:Nat) (zs:List Int) (w:World),Holds (Value.int .i64) w blk off zs.toArray->blk<w.heap.size->zs.length<4611686018427387904->
   Calls P f #[.slice (some ⟨blk,off,none⟩) zs.length cap] w fun e w'=>e=.returned (.tuple #[])/\∃n os,w'=grow (putRow (Value.int .i64) (Sort.ahead w n) blk off (zs.mergeSort fun x y=>decide (x<=y)).toArray) os)
  (hn:∀(p:Option Addr) (cap:Nat) (w:World),Calls P f #[.slice p 0 cap] w fun e w'=>e=.returned (.tuple #[])/\w'=w):
  oh P T f ⟨1,⟨[(0,.ow 2000)],[(2000,.arr t 1)]⟩,⟨[(0,.tu [])],[(2000,.arr t 1)]⟩,[2000],x9⟩:=by
 refine ⟨hfn,?_⟩
 intro w wr nl F0 θ xs ys args hw hsz hargs hF
 obtain ⟨a0,rfl⟩:∃a,args= #[a]:=by
  obtain ⟨l⟩:=args
  simp only[List.size_toArray] at hsz
  match l,hsz with
  |[a],_=>exact ⟨a,rfl⟩
 have hb:(Tm.inj ⟨[(0,.ow 2000)],[(2000,.arr t 1)]⟩ xs).bx 2000=some (.arr 0 t (xs.getD 0 .nil).L 1):=rfl
 have hob:∀b x,(Tm.inj ⟨[(0,.tu [])],[(2000,.arr t 1)]⟩ ys).bx b=some x->b=2000/\x=.arr 0 t (ys.getD 0 .nil).L 1:=by
  intro b x h
  simp only[Tm.inj,ck,cy,nm0,upd] at h
  by_cases hb:b=2000
  ·subst hb
   exact ⟨rfl,(Mh h).symm⟩
  ·have:Nat.beq b 2000=false:=by
    cases h':Nat.beq b 2000 with
    |false=>rfl
    |true=>exact absurd (Mi h') hb
   simp[this,sif] at h
 have r0:aj T F0 w (Tm.inj ⟨[(0,.ow 2000)],[(2000,.arr t 1)]⟩ xs).bx θ (.ow 2000 0) a0:=hargs 0 Nat.zero_lt_one
 obtain rfl:a0=θ 2000:=by
  cases r0 with
  |ow _ _ _ x hb' hv hs' h=>
   rw[hb] at hb'
   obtain rfl:=Mh hb'
   obtain ⟨_,_,_,_,e⟩:=h rfl
   exact e
 obtain ⟨hle,hF⟩:(xs.getD 0 .nil).L.length<=4294967296/\some [C.l ((jf (iB (xs.getD 0 .nil).L)).map iE)]=some ys:=by
  simp only[x9] at hF
  cases hq:decide ((xs.getD 0 .nil).L.length<=4294967296) with
  |false=>rw[hq] at hF;cases hF
  |true=>rw[hq] at hF;exact ⟨of_decide_eq_true hq,hF⟩
 obtain rfl:=Mh hF
 generalize hes:(xs.getD 0 .nil).L=es at*
 have hB:=hw.box 2000 _ hb
 obtain ⟨d',A,cap,q1,q2,q3,q4⟩:=hB
 rw[hd] at q1;obtain rfl:=Mh q1
 have hlt:∀k,F0 k->k<w.heap.size:=hw.lt
 have hout:∀g,bJ (θ 2000)=some g->¬F0 g/\g<w.heap.size/\wr g:=fun g hg=>by
  obtain ⟨a1,a2,a3⟩:=hw.out 2000 _ g hb rfl hg
  exact ⟨a1,a2,a3.resolve_left (by simp only;omega)⟩
 have hfl:bF d.cts=true:=by rw[hc];rfl
 have hdl:d.cts.length=1:=by rw[hc];rfl
 have hvt:∀(W:World) (θ1:Nat->Value),aj T F0 W (Tm.inj ⟨[(0,.tu [])],[(2000,.arr t 1)]⟩ [.l ((jf (iB es)).map iE)]).bx θ1 ((Tm.inj ⟨[(0,.tu [])],[(2000,.arr t 1)]⟩ [.l ((jf (iB es)).map iE)]).sl 0) (.tuple #[]):=fun W θ1=>by
  exact .tu [] [] rfl fun i x v h=>by simp at h
 rcases q4 with ⟨rfl,rfl,rfl⟩|⟨g,o,cs,rfl,hg,hcs,hcap,hcell⟩
 ·rw[q2]
  refine (hn none 0 w).mono ?_
  rintro e w' ⟨rfl,rfl⟩
  refine ⟨_,F0,θ,rfl,IJ (m:=1) hd (.inr ⟨rfl,hfl⟩) hob hlt hw.nlF Hm ⟨d,none,0,hd,by rw[q2];simp[jf,iB,C.L],fun i c h=>by simp[jf,iB,C.L] at h,.inl ⟨rfl,by simp[jf,iB,C.L],rfl⟩⟩ hout,hvt _ _,fun n x _ h=>⟨rfl,fun h2=>?_⟩⟩
  obtain ⟨_,rfl⟩:=hob n x h
  simp[Box.m] at h2
 ·have hcl:∀i (h:i<es.length),∃n:Int,es[i]=iE n/\cs[o+i]?=some (.int .i64 n):=by
   intro i hi
   have h1:=q3 i es[i] (Mg hi)
   rw[hdl] at h1
   obtain ⟨c,hc1⟩:∃c,es[i]=[c]:=by
    match es[i],h1 with
    |[c],_=>exact ⟨c,rfl⟩
   have hlt2:o+i<cs.size:=by rw[hcs,hdl];omega
   obtain ⟨u,hu⟩:∃u,cs[o+i]?=some u:=⟨_,M5 hlt2⟩
   have:=hcell i es[i] 0 c (.int .i64) u (Mg hi) (by rw[hc1];rfl) (by rw[hc];rfl) (by rw[hdl,Nat.mul_one,Nat.add_zero];exact hu)
   simp only[CR] at this
   cases this with
   |int _ n=>exact ⟨n,hc1,hu⟩
  have hes':es=(iB es).map iE:=by
   refine List.ext_getElem? fun i=>?_
   simp only[iB,List.map_map,No]
   rcases Nat.lt_or_ge i es.length with hi|hi
   ·obtain ⟨n,h1,_⟩:=hcl i hi
    simp[Mg hi,h1,iE,C.I]
   ·simp[M7 hi]
  have hil:(iB es).length=es.length:=by simp[iB]
  have hsl:(jf (iB es)).length=es.length:=by rw[jf,List.length_mergeSort,hil]
  obtain ⟨hnF,hgs,hwr⟩:=hout g (by rw[q2];rfl)
  have hcall:=hs g o cap (iB es) w (holds_of _ hg _ fun j hj=>by
   simp only[List.size_toArray,hil] at hj
   obtain ⟨n,h1,h2⟩:=hcl j hj
   rw[h2]
   simp[iB,hj,h1,iE,C.I]) hgs (by omega)
  rw[hil,←q2] at hcall
  refine hcall.mono ?_
  rintro e w' ⟨rfl,n,os,rfl⟩
  refine ⟨_,F0,θ,rfl,IJ (m:=1) hd (.inr ⟨rfl,hfl⟩) hob hlt hw.nlF (IU (G7 _ w n g o _ os) hwr) ⟨d,some ⟨g,o,none⟩,cap,hd,by rw[q2];simp[C.L,hsl],fun i c h=>?_,.inr ⟨g,o,_,rfl,Hf _ w n g o _ os hg,by rw[Hj];exact hcs,by simpa [C.L,hsl] using hcap,?_⟩⟩ hout,hvt _ _,fun n x _ h=>⟨rfl,fun h2=>?_⟩⟩
  ·simp only[List.getD_cons_zero,C.L,No,Option.map_eq_some_iff] at h
   obtain ⟨n,_,rfl⟩:=h
   rw[hdl];rfl
  ·intro i c j x ct v h1 h2 h3 h4
   simp only[List.getD_cons_zero,C.L,No,Option.map_eq_some_iff] at h1
   obtain ⟨n,hn1,rfl⟩:=h1
   obtain ⟨hi,hn2⟩:=Ml.1 hn1
   have hj:j=0:=by have:=(Ml.1 h3).1;rw[hdl] at this;omega
   subst hj
   rw[hc] at h3
   simp only[M3,Mj] at h3
   subst h3
   simp only[iE,M3,Mj] at h2
   subst h2
   rw[hdl,Nat.mul_one,Nat.add_zero] at h4
   rw[Je _ _ _ _ (by rw[List.size_toArray];exact hi) (by rw[hcs,hdl];omega)] at h4
   obtain rfl:=Mh h4
   have:(((iB es).mergeSort fun x y=>decide (x<=y)).toArray)[i]! =n:=by
    rw[getElem!_pos _ i (by rw[List.size_toArray];exact hi),List.getElem_toArray]
    exact hn2
   rw[this]
   exact .int _ _
  ·obtain ⟨_,rfl⟩:=hob n x h
   simp[Box.m] at h2
end Go.Ev
namespace Go.Ev
open Go.Sort Go.Proofs
end Go.Ev
namespace Go.Ev
open Go.Sort Go.Proofs
section
variable {P:Program} {T:Tys} {g:FuncId} {cts:List CT} {CF:List C->Option (List C)} {Q:List C->Bool}
end
end Go.Ev
namespace Go.Ev
theorem HW:∀(a b:List UInt8),Op.bytesLess a b=false->Op.bytesLess b a=true∨b=a
 |[],[],_=>.inr rfl
 |[],_::_,h=>by simp[Op.bytesLess] at h
 |_::_,[],_=>.inl (by simp[Op.bytesLess])
 |x::a,y::b,h=>by
  simp only[Op.bytesLess,Bool.or_eq_false_iff,Bool.and_eq_false_iff,decide_eq_false_iff_not,Ns] at h
  obtain ⟨h1,h2⟩:=h
  have lt (p q:UInt8):p<q↔p.toNat<q.toNat:=Iff.rfl
  rw[lt] at h1
  rcases Nat.lt_or_ge y.toNat x.toNat with h3|h3
  ·exact .inl (by simp only[Op.bytesLess,MX,Ms,lt];exact .inl h3)
  ·have e:x=y:=UInt8.toNat_inj.1 (by omega)
   subst e
   rcases HW a b (h2.resolve_left (fun h=>h rfl)) with h4|rfl
   ·exact .inl (by simp[Op.bytesLess,h4])
   ·exact .inr rfl
theorem Ib:∀(a:List UInt8),Op.bytesLess a a=false
 |[]=>rfl
 |x::r=>by
  have ih:=Ib r
  simp only[Op.bytesLess,ih]
  simp
theorem DU:∀(a b c:List UInt8),Op.bytesLess a b=true->Op.bytesLess b c=true->Op.bytesLess a c=true
 |_,_,[],_,h2=>by cases ‹List UInt8›<;>simp[Op.bytesLess] at h2
 |_,[],_::_,h1,_=>by simp[Op.bytesLess] at h1
 |[],_::_,_::_,_,_=>by simp[Op.bytesLess]
 |x::a,y::b,z::c,h1,h2=>by
  simp only[Op.bytesLess,MX,Mk,Ms,MY] at h1 h2⊢
  have lt (p q:UInt8):p<q↔p.toNat<q.toNat:=Iff.rfl
  simp only[lt] at h1 h2⊢
  rcases h1 with h1|⟨rfl,h1⟩
  ·rcases h2 with h2|⟨rfl,h2⟩
   ·left;omega
   ·left;exact h1
  ·rcases h2 with h2|⟨rfl,h2⟩
   ·left;exact h2
   ·right;exact ⟨rfl,DU a b c h1 h2⟩
def L6 (rk bn:Int) (n:ByteArray) (rk' bn':Int) (n':ByteArray):Int:=bif rk !=rk' then w64 (rk'-rk) else bif bn !=bn' then w64 (bn-bn') else Lib.compareBytes n.data.toList n'.data.toList
def ltE (rk bn:Int) (n:ByteArray) (rk' bn':Int) (n':ByteArray):Bool:=decide (rk'<rk)||(rk==rk'&&(decide (bn<bn')||(bn==bn'&&Op.bytesLess n.data.toList n'.data.toList)))
theorem Jt (rk bn:Int) (n:ByteArray):ltE rk bn n rk bn n=false:=by simp[ltE,Ib]
theorem AP {a b c:Int} {a' b' c':Int} {x y z:ByteArray} (h1:ltE a a' x b b' y=true) (h2:ltE b b' y c c' z=true):ltE a a' x c c' z=true:=by
 simp only[ltE,MX,Mk,Ms,MY] at*
 rcases h1 with h1|⟨rfl,h1|⟨rfl,h1⟩⟩<;>rcases h2 with h2|⟨rfl,h2|⟨rfl,h2⟩⟩
 all_goals first|(left;omega)|(right;refine ⟨rfl,?_⟩;first|(left;omega)|(right;exact ⟨rfl,DU _ _ _ h1 h2⟩))
theorem Jj {a b:Int} {a' b':Int} {x y:ByteArray} (h:ltE a a' x b b' y=false):ltE b b' y a a' x=true∨(b=a/\b'=a'/\y.data.toList=x.data.toList):=by
 simp only[ltE,Bool.or_eq_false_iff,Bool.and_eq_false_iff,decide_eq_false_iff_not,Ns,MX,Mk,Ms,MY] at*
 obtain ⟨h1,h2⟩:=h
 by_cases e1:a=b
 ·subst e1
  obtain ⟨h3,h4⟩:=h2.resolve_left (fun h=>h rfl)
  by_cases e2:a'=b'
  ·subst e2
   rcases HW _ _ (h4.resolve_left (fun h=>h rfl)) with h5|h5
   ·exact .inl (.inr ⟨rfl,.inr ⟨rfl,h5⟩⟩)
   ·exact .inr ⟨rfl,rfl,h5⟩
  ·exact .inl (.inr ⟨rfl,.inl (by omega)⟩)
 ·exact .inl (.inl (by omega))
theorem E3 {a b c:Int} {a' b' c':Int} {x y z:ByteArray} (h1:ltE a a' x b b' y=false) (h2:ltE b b' y c c' z=false):ltE a a' x c c' z=false:=by
 cases h:ltE a a' x c c' z with
 |false=>rfl
 |true=>
  rcases Jj h1 with q1|⟨rfl,rfl,q1⟩
  ·have:=AP q1 h
   rw[h2] at this;cases this
  ·have:ltE b b' y c c' z=ltE b b' x c c' z:=by unfold ltE;rw[q1]
   rw[this,h] at h2;cases h2
section
variable {CF:List C->Option (List C)} (hCF:∀(a0 a1 a6 a9 a10 a11:ByteArray) (a2 a3 a4 a5 a8:Int) (a7:List (List C)) (b0 b1 b6 b9 b10 b11:ByteArray) (b2 b3 b4 b5 b8:Int) (b7:List (List C)),
 CF [.s a0,.s a1,.i a2,.i a3,.i a4,.i a5,.s a6,.l a7,.i a8,.s a9,.s a10,.s a11,.s b0,.s b1,.i b2,.i b3,.i b4,.i b5,.s b6,.l b7,.i b8,.s b9,.s b10,.s b11]=some [.i (L6 a2 a3 a0 b2 b3 b0)])
include hCF
end
end Go.Ev
namespace Go.Ev
open Go.Proofs Go.RowKit Go.Lib
section
variable {T:Tys} {F:Nat->Prop} {w:World}
end
end Go.Ev
namespace Go.Ev
open Go.Proofs Go.RowKit Go.Lib
section
variable {P:Program}
end
section
variable {P:Program} {tS tE tI k:Nat} {i0:TypeInfo} {z:Value} {g o n c i gv ov cv:Nat} {cs csv:Array Value} {w:World}
end
end Go.Ev
namespace Go.Ev
open Go.Proofs Go.RowKit Go.Lib
section
variable {P:Program} {tS tE tI k:Nat} {i0:TypeInfo} {z:Value} {g o n c i gv ov cv:Nat} {cs csv:Array Value} {w:World}
end
end Go.Ev
namespace Go.Ev
open Go.Proofs Go.RowKit Go.Lib
section
variable {P:Program} {T:Tys} {t:Nat} {d:TD} {W w':World} {wr nl F0 F:Nat->Prop} {θ:Nat->Value} {bx:Bxs} {es:List (List C)} {v:Value}
end
end Go.Ev
namespace Go.Ev
open Go.Proofs Go.RowKit Go.Lib
section
variable {P:Program} {tS tE k g o n c i:Nat} {i0:TypeInfo} {z:Value} {cs r:Array Value} {want:List Value} {gg:Option Nat}
end
end Go.Ev
namespace Go.Proofs
def Tryz.Gv:Go.Shelf.Ren:=⟨fun|189=>53|125=>88|257=>87|128=>127|129=>128|294=>118|295=>119|296=>120|297=>121|298=>122|299=>123|216=>124|300=>125|301=>126|328=>152|329=>153|330=>154|331=>155|332=>156|215=>117|343=>171|n=>n,fun|28=>55|3=>3|46=>111|0=>0|51=>157|53=>159|4=>4|183=>149|182=>148|131=>154|5=>5|9=>9|218=>187|222=>191|228=>201|229=>81|n=>n,fun|n=>n⟩
theorem Tryz.jf:Go.Proofs.Lays.n189 Tryz.prog Tryz.Gv where
 mixed:=by kernel_rfl
 f125:=Tryz.func88.trans (congrArg some (by kernel_rfl))
 f128:=Tryz.func127.trans (congrArg some (by kernel_rfl))
 f129:=Tryz.func128.trans (congrArg some (by kernel_rfl))
 f189:=Tryz.func53.trans (congrArg some (by kernel_rfl))
 f215:=Tryz.func117.trans (congrArg some (by kernel_rfl))
 f216:=Tryz.func124.trans (congrArg some (by kernel_rfl))
 f257:=Tryz.func87.trans (congrArg some (by kernel_rfl))
 f294:=Tryz.func118.trans (congrArg some (by kernel_rfl))
 f295:=Tryz.func119.trans (congrArg some (by kernel_rfl))
 f296:=Tryz.func120.trans (congrArg some (by kernel_rfl))
 f297:=Tryz.func121.trans (congrArg some (by kernel_rfl))
 f298:=Tryz.func122.trans (congrArg some (by kernel_rfl))
 f299:=Tryz.func123.trans (congrArg some (by kernel_rfl))
 f300:=Tryz.func125.trans (congrArg some (by kernel_rfl))
 f301:=Tryz.func126.trans (congrArg some (by kernel_rfl))
 f328:=Tryz.func152.trans (congrArg some (by kernel_rfl))
 f329:=Tryz.func153.trans (congrArg some (by kernel_rfl))
 f330:=Tryz.func154.trans (congrArg some (by kernel_rfl))
 f331:=Tryz.func155.trans (congrArg some (by kernel_rfl))
 f332:=Tryz.func156.trans (congrArg some (by kernel_rfl))
 f343:=Tryz.func171.trans (congrArg some (by kernel_rfl))
 t0:=Tryz.underlying0
 a0:=Tryz.isAgg0
 z0:=Tryz.sizeOf0
 v0:=Tryz.zeroValue0
 t3:=Tryz.underlying3
 a3:=Tryz.isAgg3
 z3:=Tryz.sizeOf3
 v3:=Tryz.zeroValue3
 t4:=Tryz.underlying4
 a4:=Tryz.isAgg4
 z4:=Tryz.sizeOf4
 v4:=Tryz.zeroValue4
 t5:=Tryz.underlying5
 a5:=Tryz.isAgg5
 z5:=Tryz.sizeOf5
 v5:=Tryz.zeroValue5
 t9:=Tryz.underlying9
 a9:=Tryz.isAgg9
 z9:=Tryz.sizeOf9
 v9:=Tryz.zeroValue9
 t28:=Tryz.underlying55
 a28:=Tryz.isAgg55
 z28:=Tryz.sizeOf55
 v28:=Tryz.zeroValue55
 t46:=Tryz.underlying111
 a46:=Tryz.isAgg111
 z46:=Tryz.sizeOf111
 v46:=Tryz.zeroValue111
 t51:=Tryz.underlying157
 a51:=Tryz.isAgg157
 z51:=Tryz.sizeOf157
 v51:=Tryz.zeroValue157
 t53:=Tryz.underlying159
 a53:=Tryz.isAgg159
 z53:=Tryz.sizeOf159
 v53:=Tryz.zeroValue159
 t131:=Tryz.underlying154
 a131:=Tryz.isAgg154
 z131:=Tryz.sizeOf154
 v131:=Tryz.zeroValue154
 t182:=Tryz.underlying148
 a182:=Tryz.isAgg148
 z182:=Tryz.sizeOf148
 v182:=Tryz.zeroValue148
 t183:=Tryz.underlying149
 a183:=Tryz.isAgg149
 z183:=Tryz.sizeOf149
 v183:=Tryz.zeroValue149
 t218:=Tryz.underlying187
 a218:=Tryz.isAgg187
 z218:=Tryz.sizeOf187
 v218:=Tryz.zeroValue187
 t222:=Tryz.underlying191
 a222:=Tryz.isAgg191
 z222:=Tryz.sizeOf191
 v222:=Tryz.zeroValue191
 t228:=Tryz.underlying201
 a228:=Tryz.isAgg201
 z228:=Tryz.sizeOf201
 v228:=Tryz.zeroValue201
 t229:=Tryz.underlying81
 a229:=Tryz.isAgg81
 z229:=Tryz.sizeOf81
 v229:=Tryz.zeroValue81
end Go.Proofs
namespace Go.Ev
open Go.Proofs
theorem Iq:oh Tryz.checked.prog T0 53 ⟨1,⟨[(0,.ow 2000)],[(2000,.arr 3 1)]⟩,⟨[(0,.tu [])],[(2000,.arr 3 1)]⟩,[2000],x9⟩:=Dl (P:=Tryz.checked.prog) (T:=T0) (f:=53) (t:=3) (d:=⟨.int .i64,[.int .i64],8⟩) rfl rfl ⟨Tryz.f53,_,Tryz.func53,rfl,by kernel_rfl⟩ (fun blk off cap zs w=>Any.slices_Sort_int Tryz.jf blk off cap zs w) (fun p cap w=>Any.slices_Sort_int_none Tryz.jf p cap w)
end Go.Ev
namespace Go.Ev
open Go.Proofs
noncomputable section
def kg.d1 (a:C):R:=(bif (decide ((a.L.length:Int)>2000)) then (bif (decide (2000<=(a.L.length:Int))) then (some (.ret [.l ((a.L.take 2000).drop 0),.i 0])) else none) else (some (.ret [a,.i 0])))
def kg:List C->Option (List C):=fun xs=>aU (apn 1 kg.d1 xs)
def lM:FS:=⟨1,⟨[(0,(zl 5))],[]⟩,⟨[(0,(.pt 3000 0))],[(3000,z4)]⟩,[],kg⟩
theorem qS:FK 24 lM:=okO Tryz.f24 lM .leaf [] .nil (by kernel_rfl) (by kernel_rfl) (fun xs=>by kernel_rfl)
def ae.d1 (a b c:C):R:=(bif (!(decide (a.I<1))) then (bif ((b.L.length:Int)==0) then (some (.ret [.i 0,b,.i (w64 (c.I+1))])) else (bif (decide ((w64 ((w64 (c.I+1))-1))<(b.L.length:Int))) then (bif (decide (0<=(w64 ((w64 (c.I+1))-1)))) then (bif (decide ((w64 ((w64 (c.I+1))-1))<(b.L.length:Int))) then (bif (a.I !=0) then (some (.ret [.i ((w64 (((b.L.getD (w64 ((w64 (c.I+1))-1)).toNat []).getD 0 .nil).I)).tmod a.I),b,.i (w64 (c.I+1))])) else none) else none) else none) else (bif ((b.L.length:Int) !=0) then (bif (decide (0<=((w64 ((w64 (c.I+1))-1)).tmod (b.L.length:Int)))) then (bif (decide (((w64 ((w64 (c.I+1))-1)).tmod (b.L.length:Int))<(b.L.length:Int))) then (bif ((b.L.length:Int) !=0) then (bif (decide (0<=((w64 ((w64 ((w64 ((w64 (c.I+1))-1))*7))+3)).tmod (b.L.length:Int)))) then (bif (decide (((w64 ((w64 ((w64 ((w64 (c.I+1))-1))*7))+3)).tmod (b.L.length:Int))<(b.L.length:Int))) then (bif ((b.L.length:Int) !=0) then (bif (a.I !=0) then (some (.ret [.i ((w64 ((BitVec.ofInt (IntKind.bits .i64) (w64 ((w64 ((w64 ((w64 ((w64 (((b.L.getD ((w64 ((w64 (c.I+1))-1)).tmod (b.L.length:Int)).toNat []).getD 0 .nil).I))*131))+(w64 ((w64 (((b.L.getD ((w64 ((w64 ((w64 ((w64 (c.I+1))-1))*7))+3)).tmod (b.L.length:Int)).toNat []).getD 0 .nil).I))*1117))))+(w64 ((w64 ((w64 (c.I+1))-1))*29))))+(w64 ((w64 ((w64 ((w64 (c.I+1))-1)).tdiv (b.L.length:Int)))*53))))^^^BitVec.ofInt (IntKind.bits .i64) (w64 ((w64 ((w64 ((w64 ((w64 ((w64 (((b.L.getD ((w64 ((w64 (c.I+1))-1)).tmod (b.L.length:Int)).toNat []).getD 0 .nil).I))*131))+(w64 ((w64 (((b.L.getD ((w64 ((w64 ((w64 ((w64 (c.I+1))-1))*7))+3)).tmod (b.L.length:Int)).toNat []).getD 0 .nil).I))*1117))))+(w64 ((w64 ((w64 (c.I+1))-1))*29))))+(w64 ((w64 ((w64 ((w64 (c.I+1))-1)).tdiv (b.L.length:Int)))*53)))).tdiv 64))).toNat:Int)).tmod a.I),b,.i (w64 (c.I+1))])) else none) else none) else none) else none) else none) else none) else none) else none))) else (some (.ret [.i 0,b,.i (w64 (c.I+1))])))
def ae:List C->Option (List C):=fun xs=>aU (apn 3 ae.d1 xs)
def aa:FS:=⟨2,⟨[(0,(.pt 2000 0)),(1,zi)],[(2000,z4)]⟩,⟨[(0,zi)],[(2000,z4)]⟩,[2000],ae⟩
theorem ab:FK 27 aa:=okO Tryz.f27 aa .leaf [] .nil (by kernel_rfl) (by kernel_rfl) (fun xs=>by kernel_rfl)
def dX.d1 (G0:List C->Option (List C)) (a:C):R:=(bif (decide (a.I<0)) then (ad (G0 [.i (w64 (0-a.I))]) fun b=>(bif (decide ((bs #[45]).size+b.S.size<=4294967296)) then (some (.ret [.s ((bs #[45])++b.S)])) else none)) else (bif (decide (a.I<10)) then (some (.ret [.s (lJ (rows [[.i (IntKind.wrap .u8 (w64 (48+a.I)))]]))])) else (ad (G0 [.i (w64 (a.I.tdiv 10))]) fun c=>(bif (decide (c.S.size+(lJ (rows [[.i (IntKind.wrap .u8 (w64 (48+(a.I.tmod 10))))]])).size<=4294967296)) then (some (.ret [.s (c.S++(lJ (rows [[.i (IntKind.wrap .u8 (w64 (48+(a.I.tmod 10))))]])))])) else none))))
def dX.step (G0:List C->Option (List C)):List C->Option (List C):=fun xs=>aU (apn 1 (dX.d1 G0) xs)
def fD (G:List C->Option (List C)):FS:=⟨1,⟨[(0,(.d (.int .i64)))],[]⟩,⟨[(0,(.d .str))],[]⟩,[],G⟩
theorem EA {G0:List C->Option (List C)} (h0:FK 89 (fD G0)):FK 89 (fD (dX.step G0)):=okO Tryz.f89 (fD (dX.step G0)) .leaf [(89,some 7,(fD G0)),(89,some 18,(fD G0))] (.cons h0 (.cons h0 .nil)) (by kernel_rfl) (by kernel_rfl) (fun xs=>by kernel_rfl)
def dX.g:Nat->Nat->List C->Option (List C)
 |0,_=>fun _=>none
 |k+1,0=>dX.step (dX.g k 0)
 |_,_=>fun _=>none
theorem xe:∀k:Nat,FK 89 (fD (dX.g k 0))
 |0=>kX (fn:=Tryz.f89) (c:=Tryz.f89.body.getD .skip) (1) (⟨[(0,(.d (.int .i64)))],[]⟩) (⟨[(0,(.d .str))],[]⟩) [] (by kernel_rfl) (by kernel_rfl) (by kernel_rfl)
 |k+1=>EA (xe k)
def dX:List C->Option (List C):=dX.g jd 0
theorem pz:FK 89 (fD dX):=xe jd
def cQ.d1 (a b c d e f g h i j k:C):R:=(bif (decide (a.I<2)) then (ad (dX [a]) fun l=>(bif (decide ((bs #[98]).size+l.S.size<=4294967296)) then (bif (decide (i.L.length+(rows [[.s ((bs #[98])++l.S),.s (bs #[101,97,115,116]),.l af,.i 30,.i 30,.b false]]).length<=4294967296)) then (some (.again [.i (w64 (a.I+1)),b,c,d,e,.l f.L,.l g.L,.l h.L,.l (i.L++(rows [[.s ((bs #[98])++l.S),.s (bs #[101,97,115,116]),.l af,.i 30,.i 30,.b false]])),.l j.L,.l k.L])) else none) else none)) else (some (.brk 0 [b,c,d,e,.l f.L,.l g.L,.l h.L,.l i.L,.l j.L,.l k.L])))
def cQ.d2 (a b c d e f g h i j k l:C):R:=(bif (decide (b.I<(w64 (a.I+2)))) then (bif (decide ((bs #[99]).size+(lJ (rows [[.i (IntKind.wrap .u8 (w64 (97+b.I)))]])).size<=4294967296)) then (call3 (ae [.i 3,c,d]) fun m n o=>(call3 (ae [.i 2,n,o]) fun p q r=>(bif (decide (b.I<a.I)) then (bif (decide (l.L.length+(rows [[.s ((bs #[99])++(lJ (rows [[.i (IntKind.wrap .u8 (w64 (97+b.I)))]]))),.s (bs #[119,101,98]),m,.i 0,.i 1,p,.s (bs #[]),.l af,.i 0,.s (bs #[]),.s (bs #[]),.s (bs #[98,48])]]).length<=4294967296)) then (some (.again [a,.i (w64 (b.I+1)),q,r,e,f,.l g.L,.l h.L,.l i.L,.l j.L,.l k.L,.l (l.L++(rows [[.s ((bs #[99])++(lJ (rows [[.i (IntKind.wrap .u8 (w64 (97+b.I)))]]))),.s (bs #[119,101,98]),m,.i 0,.i 1,p,.s (bs #[]),.l af,.i 0,.s (bs #[]),.s (bs #[]),.s (bs #[98,48])]]))])) else none) else (call3 (ae [.i 3,q,r]) fun s t u=>(bif (decide (s.I>0)) then (call3 (ae [.i 4,t,u]) fun v w x=>(bif (decide (l.L.length+(rows [[.s ((bs #[99])++(lJ (rows [[.i (IntKind.wrap .u8 (w64 (97+b.I)))]]))),.s (bs #[119,101,98]),.i (w64 (1+v.I)),.i 0,.i 1,p,.s (bs #[]),.l af,.i 0,.s (bs #[]),.s (bs #[98,48]),.s (bs #[])]]).length<=4294967296)) then (some (.again [a,.i (w64 (b.I+1)),w,x,e,f,.l g.L,.l h.L,.l i.L,.l j.L,.l k.L,.l (l.L++(rows [[.s ((bs #[99])++(lJ (rows [[.i (IntKind.wrap .u8 (w64 (97+b.I)))]]))),.s (bs #[119,101,98]),.i (w64 (1+v.I)),.i 0,.i 1,p,.s (bs #[]),.l af,.i 0,.s (bs #[]),.s (bs #[98,48]),.s (bs #[])]]))])) else none)) else (bif (decide (l.L.length+(rows [[.s ((bs #[99])++(lJ (rows [[.i (IntKind.wrap .u8 (w64 (97+b.I)))]]))),.s (bs #[119,101,98]),m,.i 0,.i 1,p,.s (bs #[]),.l af,.i 0,.s (bs #[]),.s (bs #[]),.s (bs #[])]]).length<=4294967296)) then (some (.again [a,.i (w64 (b.I+1)),t,u,e,f,.l g.L,.l h.L,.l i.L,.l j.L,.l k.L,.l (l.L++(rows [[.s ((bs #[99])++(lJ (rows [[.i (IntKind.wrap .u8 (w64 (97+b.I)))]]))),.s (bs #[119,101,98]),m,.i 0,.i 1,p,.s (bs #[]),.l af,.i 0,.s (bs #[]),.s (bs #[]),.s (bs #[])]]))])) else none)))))) else none) else (some (.brk 2 [c,d,e,f,.l g.L,.l h.L,.l i.L,.l j.L,.l k.L,.l l.L])))
def cQ.d3 (a b c d e f g h i j:C):R:=(some (.ret [d,a,b,.l h.L,.l i.L,.l j.L]))
def cQ.d4 (a b c d e f g h i j:C):R:=(call3 (ae [.i 2,a,b]) fun k l m=>(ah 2 (lim (apn 12 cQ.d2) [.i (w64 (10-k.I)),.i 0,l,m,c,d,.l e.L,.l f.L,.l g.L,.l h.L,.l i.L,.l j.L]) (apn 10 cQ.d3)))
def cQ.d5 (a b:C):R:=(call3 (ae [.i 2,a,b]) fun c d e=>(call3 (ae [.i 9,d,e]) fun f g h=>(ah 0 (lim (apn 11 cQ.d1) [.i 0,g,h,.b false,.b (c.I==0),.l af,.l af,.l af,.l af,.l (rows [[.s (bs #[119,101,98]),f]]),.l af]) (apn 10 cQ.d4))))
def cQ:List C->Option (List C):=fun xs=>aU (apn 2 cQ.d5 xs)
def qV:FS:=⟨1,⟨[(0,(.pt 2000 0))],[(2000,z4)]⟩,⟨[(0,(.ag [zo,(.ow 3001),(.ow 3002),(.ow 3003)]))],[(2000,z4),(3001,.arr 72 1),(3002,.arr 40 1),(3003,.arr 38 1)]⟩,[2000],cQ⟩
theorem DY:FK 56 qV:=okP [26,64] false Tryz.f56 qV (.seq .leaf (.seq .leaf (.seq (.seq .leaf (.block ⟨[(0,(.pt 2000 0)),(2,(.pt 2 0)),(3,(.pt 3 0))],[(2000,z4),(2,z16),(3,.var 27 [zo,(.ow 1020203),(.ow 14),(.ow 1020204)]),(1020200,.arr 72 1),(1020201,.arr 40 1),(1020202,.arr 38 1),(1020203,.arr 72 1),(14,.arr 40 1),(1020204,.arr 38 1)]⟩ (.loop ⟨[(0,(.pt 2000 0)),(2,(.pt 2 0)),(3,(.pt 3 0)),(4,zi)],[(2000,z4),(2,z16),(3,.var 27 [zo,(.ow 1020203),(.ow 14),(.ow 1020204)]),(1020200,.arr 72 1),(1020201,.arr 40 1),(1020202,.arr 38 1),(1020203,.arr 72 1),(14,.arr 40 1),(1020204,.arr 38 1)]⟩ .leaf))) (.seq .leaf (.seq (.seq .leaf (.block ⟨[(2,(.pt 2 0)),(3,(.pt 3 0))],[(2000,z4),(2,z16),(3,.var 27 [zo,(.ow 1020203),(.ow 14),(.ow 1020204)]),(1020200,.arr 72 1),(1020201,.arr 40 1),(1020202,.arr 38 1),(1020203,.arr 72 1),(14,.arr 40 1),(1020204,.arr 38 1)]⟩ (.loop ⟨[(0,(.pt 2000 0)),(2,(.pt 2 0)),(3,(.pt 3 0)),(5,zi),(6,zi)],[(2000,z4),(2,z16),(3,.var 27 [zo,(.ow 1020203),(.ow 14),(.ow 1020204)]),(1020200,.arr 72 1),(1020201,.arr 40 1),(1020202,.arr 38 1),(1020203,.arr 72 1),(14,.arr 40 1),(1020204,.arr 38 1)]⟩ .leaf))) .leaf))))) [(27,some 9,aa),(27,some 12,aa),(27,some 30,aa),(27,some 45,aa),(27,some 47,aa),(27,some 54,aa),(27,some 58,aa),(89,some 23,(fD dX))] (.cons ab (.cons ab (.cons ab (.cons ab (.cons ab (.cons ab (.cons ab (.cons pz .nil)))))))) (by kernel_rfl) (by kernel_rfl) (fun xs=>by kernel_rfl)
def cS.d1 (a b c:C):R:=(call3 (ae [.i 2,a,b]) fun d e f=>(bif (d.I==0) then (call3 (ae [.i 2,e,f]) fun g h i=>(bif (decide (0<=g.I)) then (bif (decide (g.I<((rows [[.s (bs #[115,115,100])],[.s (bs #[115,115,100,61,97])]]).length:Int))) then (bif (decide (c.L.length+(rows [[(((rows [[.s (bs #[115,115,100])],[.s (bs #[115,115,100,61,97])]]).getD g.I.toNat []).getD 0 .nil)]]).length<=4294967296)) then (some (.ret [h,i,.l (c.L++(rows [[(((rows [[.s (bs #[115,115,100])],[.s (bs #[115,115,100,61,97])]]).getD g.I.toNat []).getD 0 .nil)]]))])) else none) else none) else none)) else (some (.ret [e,f,.l c.L]))))
def cS.d2 (a b c:C):R:=(aZ (call3 (ae [.i 3,a,b]) fun d e f=>(bif (d.I==0) then (bif (decide (c.L.length+(rows [[.s (bs #[111,108,100])]]).length<=4294967296)) then (some (.nrm [e,f,.l (c.L++(rows [[.s (bs #[111,108,100])]]))])) else none) else (some (.nrm [e,f,.l c.L])))) (apn 3 cS.d1))
def cS.d3 (a b c:C):R:=(aZ (call3 (ae [.i 3,a,b]) fun d e f=>(bif (d.I==0) then (bif (decide (c.L.length+(rows [[.s (bs #[103,112,117])]]).length<=4294967296)) then (some (.nrm [e,f,.l (c.L++(rows [[.s (bs #[103,112,117])]]))])) else none) else (some (.nrm [e,f,.l c.L])))) (apn 3 cS.d2))
def cS.d4 (a b:C):R:=(aZ (call3 (ae [.i 2,a,b]) fun c d e=>(bif (c.I==0) then (call3 (ae [.i 2,d,e]) fun f g h=>(bif (decide (0<=f.I)) then (bif (decide (f.I<((rows [[.s (bs #[114,101,100])],[.s (bs #[97])]]).length:Int))) then (bif (decide ((bs #[99,111,108,111,114,61]).size+((((rows [[.s (bs #[114,101,100])],[.s (bs #[97])]]).getD f.I.toNat []).getD 0 .nil).S).size<=4294967296)) then (bif (decide (af.length+(rows [[.s ((bs #[99,111,108,111,114,61])++(((rows [[.s (bs #[114,101,100])],[.s (bs #[97])]]).getD f.I.toNat []).getD 0 .nil).S)]]).length<=4294967296)) then (some (.nrm [g,h,.l (af++(rows [[.s ((bs #[99,111,108,111,114,61])++(((rows [[.s (bs #[114,101,100])],[.s (bs #[97])]]).getD f.I.toNat []).getD 0 .nil).S)]]))])) else none) else none) else none) else none)) else (some (.nrm [d,e,.l af])))) (apn 3 cS.d3))
def cS:List C->Option (List C):=fun xs=>aU (apn 2 cS.d4 xs)
def pI:FS:=⟨1,⟨[(0,(.pt 2000 0))],[(2000,z4)]⟩,⟨[(0,(.ow 3001))],[(2000,z4),(3001,.arr 9 1)]⟩,[2000],cS⟩
theorem BP:FK 157 pI:=okO Tryz.f157 pI (.seq .leaf (.seq .leaf (.seq (.join ⟨[(0,(.pt 2000 0)),(3,(.ow 4))],[(2000,z4),(4,.arr 9 1)]⟩ .leaf) (.seq (.join ⟨[(0,(.pt 2000 0)),(3,(.ow 4))],[(2000,z4),(4,.arr 9 1)]⟩ .leaf) (.seq (.join ⟨[(0,(.pt 2000 0)),(3,(.ow 4))],[(2000,z4),(4,.arr 9 1)]⟩ .leaf) .leaf))))) [(27,some 6,aa),(27,some 11,aa),(27,some 18,aa),(27,some 24,aa),(27,some 30,aa),(27,some 35,aa)] (.cons ab (.cons ab (.cons ab (.cons ab (.cons ab (.cons ab .nil)))))) (by kernel_rfl) (by kernel_rfl) (fun xs=>by kernel_rfl)
def gw.d1 (a b c:C):R:=(call3 (ae [.i 3,b,c]) fun d e f=>(bif (decide (0<=d.I)) then (bif (decide (d.I<((rows [[.s (bs #[101,97,115,116])],[.s (bs #[119,101,115,116])],[.s (bs #[110,111,114,116,104])]]).length:Int))) then (call3 (cS [e,f]) fun g h i=>(call3 (ae [.i 20,g,h]) fun j k l=>(call3 (ae [.i 20,k,l]) fun m n o=>(call3 (ae [.i 10,n,o]) fun p q r=>(some (.ret [a,(((rows [[.s (bs #[101,97,115,116])],[.s (bs #[119,101,115,116])],[.s (bs #[110,111,114,116,104])]]).getD d.I.toNat []).getD 0 .nil),.i (w64 (4+j.I)),.i (w64 (4+m.I)),.b (p.I==0),q,r,.l i.L])))))) else none) else none))
def gw:List C->Option (List C):=fun xs=>aU (apn 3 gw.d1 xs)
def kH:FS:=⟨2,⟨[(0,(.pt 2000 0)),(1,zt)],[(2000,z4)]⟩,⟨[(0,(.ag [zt,zt,(.ow 3001),zi,zi,zo]))],[(2000,z4),(3001,.arr 9 1)]⟩,[2000],gw⟩
theorem vK:FK 129 kH:=okO Tryz.f129 kH .leaf [(27,some 8,aa),(27,some 14,aa),(27,some 17,aa),(27,some 20,aa),(157,some 12,pI)] (.cons ab (.cons ab (.cons ab (.cons ab (.cons BP .nil))))) (by kernel_rfl) (by kernel_rfl) (fun xs=>by kernel_rfl)
def nD.d1 (a b:C):R:=(call3 (ae [.i 8,a,b]) fun c d e=>(bif (decide (0<=c.I)) then (bif (decide (c.I<((rows [[.s (bs #[115,115,100])],[.s (bs #[111,108,100])],[.s (bs #[103,112,117])],[.s (bs #[122,111,110,101])],[.s (bs #[99,111,108,111,114])],[.s (bs #[97])],[.s (bs #[98,45,49])],[.s (bs #[120,95,50])]]).length:Int))) then (some (.ret [(((rows [[.s (bs #[115,115,100])],[.s (bs #[111,108,100])],[.s (bs #[103,112,117])],[.s (bs #[122,111,110,101])],[.s (bs #[99,111,108,111,114])],[.s (bs #[97])],[.s (bs #[98,45,49])],[.s (bs #[120,95,50])]]).getD c.I.toNat []).getD 0 .nil),d,e])) else none) else none))
def nD:List C->Option (List C):=fun xs=>aU (apn 2 nD.d1 xs)
def qF:FS:=⟨1,⟨[(0,(.pt 2000 0))],[(2000,z4)]⟩,⟨[(0,zt)],[(2000,z4)]⟩,[2000],nD⟩
theorem C1:FK 185 qF:=okO Tryz.f185 qF .leaf [(27,some 5,aa)] (.cons ab .nil) (by kernel_rfl) (by kernel_rfl) (fun xs=>by kernel_rfl)
def ke.d1 (a b:C):R:=(call3 (ae [.i 2,a,b]) fun c d e=>(bif (c.I==0) then (call3 (nD [d,e]) fun f g h=>(some (.ret [g,h,.l (rows [[.i 1,f,.s (bs #[]),.i 0]])]))) else (call3 (ae [.i 3,d,e]) fun i j k=>(bif (decide (0<=i.I)) then (bif (decide (i.I<((rows [[.s (bs #[122,111,110,101])],[.s (bs #[99,111,108,111,114])],[.s (bs #[115,115,100])]]).length:Int))) then (call3 (ae [.i 4,j,k]) fun l m n=>(bif (decide (0<=l.I)) then (bif (decide (l.I<((rows [[.s (bs #[101,97,115,116])],[.s (bs #[119,101,115,116])],[.s (bs #[114,101,100])],[.s (bs #[97])]]).length:Int))) then (some (.ret [m,n,.l (rows [[.i 2,(((rows [[.s (bs #[122,111,110,101])],[.s (bs #[99,111,108,111,114])],[.s (bs #[115,115,100])]]).getD i.I.toNat []).getD 0 .nil),(((rows [[.s (bs #[101,97,115,116])],[.s (bs #[119,101,115,116])],[.s (bs #[114,101,100])],[.s (bs #[97])]]).getD l.I.toNat []).getD 0 .nil),.i 0]])])) else none) else none)) else none) else none))))
def ke:List C->Option (List C):=fun xs=>aU (apn 2 ke.d1 xs)
def q9:FS:=⟨1,⟨[(0,(.pt 2000 0))],[(2000,z4)]⟩,⟨[(0,(.ow 3001))],[(2000,z4),(3001,.arr 170 1)]⟩,[2000],ke⟩
theorem DS:FK 173 q9:=okO Tryz.f173 q9 .leaf [(27,some 4,aa),(27,some 12,aa),(27,some 17,aa),(185,some 7,qF)] (.cons ab (.cons ab (.cons ab (.cons C1 .nil)))) (by kernel_rfl) (by kernel_rfl) (fun xs=>by kernel_rfl)
def bS.d1 (a b c d e:C):R:=(bif (decide (c.I<(d.L.length:Int))) then (bif (decide (0<=c.I)) then (bif (decide (c.I<(d.L.length:Int))) then (bif (decide (e.L.length+(((d.L.getD c.I.toNat []).getD 0 .nil).L).length<=4294967296)) then (some (.again [a,b,.i (w64 (c.I+1)),.l d.L,.l (e.L++(((d.L.getD c.I.toNat []).getD 0 .nil).L))])) else none) else none) else none) else (some (.brk 0 [a,b,.l d.L,.l e.L])))
def bS.d2 (a b c d:C):R:=(bif (decide (d.L.length+(rows [[a,.s (bs #[]),.s (bs #[]),b]]).length<=4294967296)) then (some (.ret [.l c.L,.l (d.L++(rows [[a,.s (bs #[]),.s (bs #[]),b]]))])) else none)
def bS.d3 (a b c:C):R:=(ah 0 (lim (apn 5 bS.d1) [a,b,.i 0,.l c.L,.l af]) (apn 4 bS.d2))
def bS:List C->Option (List C):=fun xs=>aU (apn 3 bS.d3 xs)
def ru:FS:=⟨3,⟨[(0,zi),(1,zi),(2,(.ow 2000))],[(2000,.arr 128 1)]⟩,⟨[(0,(.ow 3001))],[(2000,.arr 128 1),(3001,.arr 170 1)]⟩,[2000],bS⟩
theorem Dz:FK 162 ru:=okO Tryz.f162 ru (.seq .leaf (.seq .leaf (.seq (.seq .leaf (.block ⟨[(0,zi),(1,zi),(7,(.ow 9))],[(2000,.arr 128 1),(9,.arr 170 1)]⟩ (.loop ⟨[(0,zi),(1,zi),(2,(.ow 2000)),(7,(.ow 9)),(8,zi)],[(2000,.arr 128 1),(9,.arr 170 1)]⟩ .leaf))) .leaf))) [] .nil (by kernel_rfl) (by kernel_rfl) (fun xs=>by kernel_rfl)
def fE:FS:=⟨3,⟨[(0,zi),(1,zi),(2,(.ow 2000))],[(2000,.arr 128)]⟩,⟨[(0,(.ow 3001))],[(2000,.arr 128),(3001,.arr 170 1)]⟩,[2000],bS⟩
theorem iG:FK 162 fE:=okO Tryz.f162 fE (.seq .leaf (.seq .leaf (.seq (.seq .leaf (.block ⟨[(0,zi),(1,zi),(7,(.ow 9))],[(2000,.arr 128),(9,.arr 170 1)]⟩ (.loop ⟨[(0,zi),(1,zi),(2,(.ow 2000)),(7,(.ow 9)),(8,zi)],[(2000,.arr 128),(9,.arr 170 1)]⟩ .leaf))) .leaf))) [] .nil (by kernel_rfl) (by kernel_rfl) (fun xs=>by kernel_rfl)
def ej.d1 (G0:List C->Option (List C)) (a b c:C):R:=(bif (!(decide (a.I<=0))) then (call3 (ae [.i 3,b,c]) fun d e f=>(bif (d.I==0) then (call3 (ke [e,f]) fun g h i=>(some (.ret [g,h,.l i.L]))) else (call3 (ae [.i 3,e,f]) fun j k l=>(bif (j.I==0) then (call3 (G0 [.i (w64 (a.I-1)),k,l]) fun m n o=>(call2 (bS [.i 3,.i 1,.l (rows [[.l o.L]])]) fun p q=>(some (.ret [m,n,.l q.L])))) else (bif (j.I==1) then (call3 (G0 [.i (w64 (a.I-1)),k,l]) fun r s t=>(call3 (G0 [.i (w64 (a.I-1)),r,s]) fun u v w=>(call2 (bS [.i 4,.i 2,.l (rows [[.l t.L],[.l w.L]])]) fun x y=>(some (.ret [u,v,.l y.L]))))) else (call3 (G0 [.i (w64 (a.I-1)),k,l]) fun z a0 a1=>(call3 (G0 [.i (w64 (a.I-1)),z,a0]) fun a2 a3 a4=>(call2 (bS [.i 5,.i 2,.l (rows [[.l a1.L],[.l a4.L]])]) fun a5 a6=>(some (.ret [a2,a3,.l a6.L])))))))))) else (call3 (ke [b,c]) fun a7 a8 a9=>(some (.ret [a7,a8,.l a9.L]))))
def ej.step (G0:List C->Option (List C)):List C->Option (List C):=fun xs=>aU (apn 3 (ej.d1 G0) xs)
def ff (G:List C->Option (List C)):FS:=⟨2,⟨[(0,(.pt 2000 0)),(1,(.d (.int .i64)))],[(2000,.var 90 [(.d (.sl 5)),(.d (.int .i64))])]⟩,⟨[(0,(.ow 3001))],[(2000,.var 90 [(.d (.sl 5)),(.d (.int .i64))]),(3001,.arr 170 1)]⟩,[2000],G⟩
theorem Ei {G0:List C->Option (List C)} (h0:FK 159 (ff G0)):FK 159 (ff (ej.step G0)):=okO Tryz.f159 (ff (ej.step G0)) .leaf [(27,some 11,aa),(27,some 17,aa),(159,some 23,(ff G0)),(159,some 31,(ff G0)),(159,some 36,(ff G0)),(159,some 42,(ff G0)),(159,some 47,(ff G0)),(162,some 25,ru),(162,some 38,fE),(162,some 49,fE),(173,some 15,q9)] (.cons ab (.cons ab (.cons h0 (.cons h0 (.cons h0 (.cons h0 (.cons h0 (.cons Dz (.cons iG (.cons iG (.cons DS .nil))))))))))) (by kernel_rfl) (by kernel_rfl) (fun xs=>by kernel_rfl)
def ej.g:Nat->Nat->List C->Option (List C)
 |0,_=>fun _=>none
 |k+1,0=>ej.step (ej.g k 0)
 |_,_=>fun _=>none
theorem uF:∀k:Nat,FK 159 (ff (ej.g k 0))
 |0=>kX (fn:=Tryz.f159) (c:=Tryz.f159.body.getD .skip) (2) (⟨[(0,(.pt 2000 0)),(1,(.d (.int .i64)))],[(2000,.var 90 [(.d (.sl 5)),(.d (.int .i64))])]⟩) (⟨[(0,(.ow 3001))],[(2000,.var 90 [(.d (.sl 5)),(.d (.int .i64))]),(3001,.arr 170 1)]⟩) [2000] (by kernel_rfl) (by kernel_rfl) (by kernel_rfl)
 |k+1=>Ei (uF k)
def ej:List C->Option (List C):=ej.g jd 0
theorem CX:FK 159 (ff ej):=uF jd
def ec.d1 (a b c d:C):R:=(bif (decide (a.I<(b.L.length:Int))) then (bif (decide (0<=a.I)) then (bif (decide (a.I<(b.L.length:Int))) then (bif (!(decide (((b.L.getD a.I.toNat []).getD 3 .nil).I<0))) then (bif (decide (((b.L.getD a.I.toNat []).getD 3 .nil).I>(d.L.length:Int))) then (some (.ret [.b false,.l c.L])) else (bif (decide (0<=(w64 ((d.L.length:Int)-((b.L.getD a.I.toNat []).getD 3 .nil).I)))) then (bif (decide ((w64 ((d.L.length:Int)-((b.L.getD a.I.toNat []).getD 3 .nil).I))<=(d.L.length:Int))) then (bif (decide ((d.L.length:Int)<=(d.L.length:Int))) then (bif (decide (af.length+((d.L.take (d.L.length:Int).toNat).drop (w64 ((d.L.length:Int)-((b.L.getD a.I.toNat []).getD 3 .nil).I)).toNat).length<=4294967296)) then (bif (decide (c.L.length+(rows [[.l (af++((d.L.take (d.L.length:Int).toNat).drop (w64 ((d.L.length:Int)-((b.L.getD a.I.toNat []).getD 3 .nil).I)).toNat))]]).length<=4294967296)) then (bif (decide (0<=(w64 ((d.L.length:Int)-((b.L.getD a.I.toNat []).getD 3 .nil).I)))) then (bif (decide ((w64 ((d.L.length:Int)-((b.L.getD a.I.toNat []).getD 3 .nil).I))<=(d.L.length:Int))) then (bif (decide (((d.L.take (w64 ((d.L.length:Int)-((b.L.getD a.I.toNat []).getD 3 .nil).I)).toNat).drop 0).length+(rows [[a]]).length<=4294967296)) then (some (.again [.i (w64 (a.I+1)),b,.l (c.L++(rows [[.l (af++((d.L.take (d.L.length:Int).toNat).drop (w64 ((d.L.length:Int)-((b.L.getD a.I.toNat []).getD 3 .nil).I)).toNat))]])),.l (((d.L.take (w64 ((d.L.length:Int)-((b.L.getD a.I.toNat []).getD 3 .nil).I)).toNat).drop 0)++(rows [[a]]))])) else none) else none) else none) else none) else none) else none) else none) else none)) else (some (.ret [.b false,.l c.L]))) else none) else none) else (some (.brk 0 [.l c.L,.l d.L])))
def ec.d2 (a b:C):R:=(some (.ret [.b ((b.L.length:Int)==1),.l a.L]))
def ec.d3 (a:C):R:=(ah 0 (lim (apn 4 ec.d1) [.i 0,a,.l af,.l af]) (apn 2 ec.d2))
def ec:List C->Option (List C):=fun xs=>aU (apn 1 ec.d3 xs)
def jT:FS:=⟨1,⟨[(0,(.ag [(zl 170)]))],[]⟩,⟨[(0,(.tu [(.ow 3000),zo]))],[(3000,.arr 55 1)]⟩,[],ec⟩
theorem nZ:FK 139 jT:=okP [41] false Tryz.f139 jT (.seq .leaf (.seq .leaf (.seq .leaf (.seq (.seq .leaf (.block ⟨[(4,(.ow 8)),(5,(.ow 9))],[(8,.arr 55 1),(9,.arr 3 1)]⟩ (.loop ⟨[(1,(.pt 1 0)),(4,(.ow 8)),(5,(.ow 9)),(6,zi)],[(1,.var 130 [(zl 170)]),(8,.arr 55 1),(9,.arr 3 1)]⟩ .leaf))) .leaf)))) [] .nil (by kernel_rfl) (by kernel_rfl) (fun xs=>by kernel_rfl)
def hD.d1 (a b c:C):R:=(bif (decide (a.I≥b.I)) then (some (.ret [.b (decide (a.I<=c.I))])) else (some (.ret [.b false])))
def hD:List C->Option (List C):=fun xs=>aU (apn 3 hD.d1 xs)
def fi:FS:=⟨3,⟨[(0,zi),(1,zi),(2,zi)],[]⟩,⟨[(0,zo)],[]⟩,[],hD⟩
theorem fS:FK 70 fi:=okO Tryz.f70 fi .leaf [] .nil (by kernel_rfl) (by kernel_rfl) (fun xs=>by kernel_rfl)
def iy.d1 (a:C):R:=(bif (decide (a.I≥97)) then (bif (!(decide (a.I<=122))) then (bif (decide (a.I≥48)) then (bif (!(decide (a.I<=57))) then (bif (!(a.I==45)) then (some (.ret [.b (a.I==95)])) else (some (.ret [.b true]))) else (some (.ret [.b true]))) else (bif (!(a.I==45)) then (some (.ret [.b (a.I==95)])) else (some (.ret [.b true])))) else (some (.ret [.b true]))) else (bif (decide (a.I≥48)) then (bif (!(decide (a.I<=57))) then (bif (!(a.I==45)) then (some (.ret [.b (a.I==95)])) else (some (.ret [.b true]))) else (some (.ret [.b true]))) else (bif (!(a.I==45)) then (some (.ret [.b (a.I==95)])) else (some (.ret [.b true])))))
def iy:List C->Option (List C):=fun xs=>aU (apn 1 iy.d1 xs)
def lu:FS:=⟨1,⟨[(0,(.d (.int .u8)))],[]⟩,⟨[(0,zo)],[]⟩,[],iy⟩
theorem sN:FK 101 lu:=okO Tryz.f101 lu .leaf [] .nil (by kernel_rfl) (by kernel_rfl) (fun xs=>by kernel_rfl)
def br.d1 (a b:C):R:=(bif (decide (b.I<(a.S.size:Int))) then (bif (decide (0<=b.I)) then (bif (decide (b.I<(a.S.size:Int))) then (ad (iy [.i ((a.S.data.getD b.I.toNat 0).toNat:Int)]) fun c=>(bif (!c.B) then (some (.ret [.b false])) else (some (.again [a,.i (w64 (b.I+1))])))) else none) else none) else (some (.brk 0 [])))
def br.d2:R:=(some (.ret [.b true]))
def br.d3 (a:C):R:=(ad (hD [.i (a.S.size:Int),.i 1,.i 20]) fun b=>(bif (!b.B) then (some (.ret [.b false])) else (ah 0 (lim (apn 2 br.d1) [a,.i 0]) (fun xs=>br.d2))))
def br:List C->Option (List C):=fun xs=>aU (apn 1 br.d3 xs)
def cB:FS:=⟨1,⟨[(0,zt)],[]⟩,⟨[(0,zo)],[]⟩,[],br⟩
theorem dm:FK 69 cB:=okO Tryz.f69 cB (.seq .leaf (.seq .leaf (.seq (.seq .leaf (.block ⟨[],[]⟩ (.loop ⟨[(0,zt),(3,zi)],[]⟩ .leaf))) .leaf))) [(70,some 6,fi),(101,some 17,lu)] (.cons fS (.cons sN .nil)) (by kernel_rfl) (by kernel_rfl) (fun xs=>by kernel_rfl)
def aO.d1 (a b c:C):R:=(bif b.B then (some (.ret [.b false])) else (some (.again [.i (w64 (a.I+1)),c])))
def aO.d2 (a b c d e f g:C):R:=(aZ (bif b.B then (ad (br [e]) fun h=>(bif (!(!h.B)) then (bif (!b.B) then (bif (!(!(e.S.toList==(bs #[]).toList))) then (bif (d.I==2) then (ad (br [f]) fun i=>(bif (!(!i.B)) then (bif (d.I !=2) then (some (.nrm [a,.b (!(f.S.toList==(bs #[]).toList)),c])) else (some (.nrm [a,.b false,c]))) else (some (.nrm [a,.b true,c])))) else (bif (d.I !=2) then (some (.nrm [a,.b (!(f.S.toList==(bs #[]).toList)),c])) else (some (.nrm [a,.b false,c])))) else (some (.nrm [a,.b true,c]))) else (bif (d.I==2) then (ad (br [f]) fun j=>(bif (!(!j.B)) then (bif (d.I !=2) then (some (.nrm [a,.b (!(f.S.toList==(bs #[]).toList)),c])) else (some (.nrm [a,.b false,c]))) else (some (.nrm [a,.b true,c])))) else (bif (d.I !=2) then (some (.nrm [a,.b (!(f.S.toList==(bs #[]).toList)),c])) else (some (.nrm [a,.b false,c]))))) else (some (.nrm [a,.b true,c])))) else (bif (!b.B) then (bif (!(!(e.S.toList==(bs #[]).toList))) then (bif (d.I==2) then (ad (br [f]) fun k=>(bif (!(!k.B)) then (bif (d.I !=2) then (some (.nrm [a,.b (!(f.S.toList==(bs #[]).toList)),c])) else (some (.nrm [a,.b false,c]))) else (some (.nrm [a,.b true,c])))) else (bif (d.I !=2) then (some (.nrm [a,.b (!(f.S.toList==(bs #[]).toList)),c])) else (some (.nrm [a,.b false,c])))) else (some (.nrm [a,.b true,c]))) else (bif (d.I==2) then (ad (br [f]) fun l=>(bif (!(!l.B)) then (bif (d.I !=2) then (some (.nrm [a,.b (!(f.S.toList==(bs #[]).toList)),c])) else (some (.nrm [a,.b false,c]))) else (some (.nrm [a,.b true,c])))) else (bif (d.I !=2) then (some (.nrm [a,.b (!(f.S.toList==(bs #[]).toList)),c])) else (some (.nrm [a,.b false,c])))))) (apn 3 aO.d1))
def aO.d3 (a b c d e f:C):R:=(aZ (bif (!(c.I==1)) then (some (.nrm [a,.b (c.I==2),b,c,d,e,f])) else (some (.nrm [a,.b true,b,c,d,e,f]))) (apn 7 aO.d2))
def aO.d4 (a b:C):R:=(bif (decide (a.I<(b.L.length:Int))) then (bif (decide (0<=a.I)) then (bif (decide (a.I<(b.L.length:Int))) then (aZ (ad (hD [((b.L.getD a.I.toNat []).getD 0 .nil),.i 0,.i 5]) fun c=>(bif (!(!c.B)) then (bif (decide (0<=((b.L.getD a.I.toNat []).getD 0 .nil).I)) then (bif (decide (((b.L.getD a.I.toNat []).getD 0 .nil).I<((rows [[.i 0],[.i 0],[.i 0],[.i 1],[.i 2],[.i 2]]).length:Int))) then (bif (!(((b.L.getD a.I.toNat []).getD 3 .nil).I !=(((rows [[.i 0],[.i 0],[.i 0],[.i 1],[.i 2],[.i 2]]).getD (((b.L.getD a.I.toNat []).getD 0 .nil).I).toNat []).getD 0 .nil).I)) then (bif (((b.L.getD a.I.toNat []).getD 0 .nil).I==0) then (bif (decide ((b.L.length:Int)>1)) then (some (.ret [.b false])) else (some (.nrm [a,b,((b.L.getD a.I.toNat []).getD 0 .nil),((b.L.getD a.I.toNat []).getD 1 .nil),((b.L.getD a.I.toNat []).getD 2 .nil),((b.L.getD a.I.toNat []).getD 3 .nil)]))) else (some (.nrm [a,b,((b.L.getD a.I.toNat []).getD 0 .nil),((b.L.getD a.I.toNat []).getD 1 .nil),((b.L.getD a.I.toNat []).getD 2 .nil),((b.L.getD a.I.toNat []).getD 3 .nil)]))) else (some (.ret [.b false]))) else none) else none) else (some (.ret [.b false])))) (apn 6 aO.d3)) else none) else none) else (some (.brk 0 [])))
def aO.d5:R:=(some (.ret [.b true]))
def aO.d6 (a:C):R:=(bif (decide ((a.L.length:Int)>400)) then (some (.ret [.b false])) else (call2 (ec [a]) fun b c=>(bif (!b.B) then (some (.ret [.b false])) else (ah 0 (lim (apn 2 aO.d4) [.i 0,a]) (fun xs=>aO.d5)))))
def aO:List C->Option (List C):=fun xs=>aU (apn 1 aO.d6 xs)
def qz:FS:=⟨1,⟨[(0,(.ag [(zl 170)]))],[]⟩,⟨[(0,zo)],[]⟩,[],aO⟩
theorem Dw:FK 163 qz:=okO Tryz.f163 qz (.seq .leaf (.seq .leaf (.seq .leaf (.seq .leaf (.seq (.seq .leaf (.block ⟨[],[]⟩ (.loop ⟨[(1,(.pt 1 0)),(5,zi)],[(1,.var 130 [(zl 170)])]⟩ (.seq .leaf (.seq (.skip (.seq .leaf (.seq (.join ⟨[(1,(.pt 1 0)),(5,zi),(6,(.pt 6 0))],[(1,.var 130 [(zl 170)]),(6,.var 170 [zi,zt,zt,zi])]⟩ .leaf) (.seq (.join ⟨[(1,(.pt 1 0)),(5,zi),(6,(.pt 6 0)),(7,zo)],[(1,.var 130 [(zl 170)]),(6,.var 170 [zi,zt,zt,zi])]⟩ .leaf) (.seq (.join ⟨[(1,(.pt 1 0)),(5,zi),(100,zo)],[(1,.var 130 [(zl 170)])]⟩ .leaf) .leaf))))) .leaf))))) .leaf))))) [(69,some 68,cB),(69,some 87,cB),(70,some 33,fi),(139,some 14,jT)] (.cons dm (.cons dm (.cons fS (.cons nZ .nil)))) (by kernel_rfl) (by kernel_rfl) (fun xs=>by kernel_rfl)
def bH.d1 (G0:List C->Option (List C)) (a b c d:C):R:=(bif (decide (0<=b.I)) then (bif (decide (b.I<(a.L.length:Int))) then (bif (decide (d.I<((((a.L.getD b.I.toNat []).getD 0 .nil).L).length:Int))) then (bif (decide (0<=b.I)) then (bif (decide (b.I<(a.L.length:Int))) then (bif (decide (0<=d.I)) then (bif (decide (d.I<((((a.L.getD b.I.toNat []).getD 0 .nil).L).length:Int))) then (ad (G0 [a,(((((a.L.getD b.I.toNat []).getD 0 .nil).L).getD d.I.toNat []).getD 0 .nil)]) fun e=>(bif (decide ((w64 (e.I+1))>c.I)) then (some (.again [a,b,.i (w64 (e.I+1)),.i (w64 (d.I+1))])) else (some (.again [a,b,c,.i (w64 (d.I+1))])))) else none) else none) else none) else none) else (some (.brk 0 [c]))) else none) else none)
def bH.d2 (G0:List C->Option (List C)) (a:C):R:=(some (.ret [a]))
def bH.d3 (G0:List C->Option (List C)) (a b:C):R:=(ah 0 (lim (apn 4 (bH.d1 G0)) [a,b,.i 0,.i 0]) (apn 1 (bH.d2 G0)))
def bH.step (G0:List C->Option (List C)):List C->Option (List C):=fun xs=>aU (apn 2 (bH.d3 G0) xs)
def iM (G:List C->Option (List C)):FS:=⟨2,⟨[(0,(.d (.sl 55))),(1,(.d (.int .i64)))],[]⟩,⟨[(0,(.d (.int .i64)))],[]⟩,[],G⟩
theorem Dx {G0:List C->Option (List C)} (h0:FK 164 (iM G0)):FK 164 (iM (bH.step G0)):=okO Tryz.f164 (iM (bH.step G0)) (.seq .leaf (.seq .leaf (.seq (.seq .leaf (.block ⟨[(5,(.d (.int .i64)))],[]⟩ (.loop ⟨[(0,(.d (.sl 55))),(1,(.d (.int .i64))),(5,(.d (.int .i64))),(6,(.d (.int .i64)))],[]⟩ .leaf))) .leaf))) [(164,some 25,(iM G0))] (.cons h0 .nil) (by kernel_rfl) (by kernel_rfl) (fun xs=>by kernel_rfl)
def bH.g:Nat->Nat->List C->Option (List C)
 |0,_=>fun _=>none
 |k+1,0=>bH.step (bH.g k 0)
 |_,_=>fun _=>none
theorem tJ:∀k:Nat,FK 164 (iM (bH.g k 0))
 |0=>kX (fn:=Tryz.f164) (c:=Tryz.f164.body.getD .skip) (2) (⟨[(0,(.d (.sl 55))),(1,(.d (.int .i64)))],[]⟩) (⟨[(0,(.d (.int .i64)))],[]⟩) [] (by kernel_rfl) (by kernel_rfl) (by kernel_rfl)
 |k+1=>Dx (tJ k)
def bH:List C->Option (List C):=bH.g jd 0
theorem DK:FK 164 (iM bH):=tJ jd
def fW.d1 (a:C):R:=(ad (aO [a]) fun b=>(bif (!b.B) then (some (.ret [.b false])) else (call2 (ec [a]) fun c d=>(ad (bH [.l d.L,.i (w64 ((a.L.length:Int)-1))]) fun e=>(some (.ret [.b (decide (e.I<=20))]))))))
def fW:List C->Option (List C):=fun xs=>aU (apn 1 fW.d1 xs)
def kq:FS:=⟨1,⟨[(0,(.ag [(zl 170)]))],[]⟩,⟨[(0,zo)],[]⟩,[],fW⟩
theorem pW:FK 138 kq:=okO Tryz.f138 kq .leaf [(139,some 10,jT),(163,some 6,qz),(164,some 18,(iM bH))] (.cons nZ (.cons Dw (.cons DK .nil))) (by kernel_rfl) (by kernel_rfl) (fun xs=>by kernel_rfl)
def ng.d1 (a:C):R:=(bif (a.I==5) then (some (.ret [.i 1])) else (bif (a.I==4) then (some (.ret [.i 2])) else (some (.ret [.i 3]))))
def ng:List C->Option (List C):=fun xs=>aU (apn 1 ng.d1 xs)
def rO:FS:=⟨1,⟨[(0,zi)],[]⟩,⟨[(0,zi)],[]⟩,[],ng⟩
theorem CK:FK 184 rO:=okO Tryz.f184 rO .leaf [] .nil (by kernel_rfl) (by kernel_rfl) (fun xs=>by kernel_rfl)
def bA.d1 (G0:List C->Option (List C)) (a b c d e f:C):R:=(ad (ng [c]) fun g=>(bif (decide (g.I<a.I)) then (bif (decide ((bs #[40]).size+b.S.size<=4294967296)) then (bif (decide (((bs #[40])++b.S).size+(bs #[41]).size<=4294967296)) then (some (.ret [.s (((bs #[40])++b.S)++(bs #[41]))])) else none) else none) else (some (.ret [b]))))
def bA.d2 (G0:List C->Option (List C)) (a b c d:C):R:=(bif (decide (0<=c.I)) then (bif (decide (c.I<(a.L.length:Int))) then (aZ (bif (((a.L.getD c.I.toNat []).getD 0 .nil).I==1) then (some (.nrm [d,((a.L.getD c.I.toNat []).getD 1 .nil),((a.L.getD c.I.toNat []).getD 0 .nil),((a.L.getD c.I.toNat []).getD 1 .nil),((a.L.getD c.I.toNat []).getD 2 .nil),((a.L.getD c.I.toNat []).getD 3 .nil)])) else (bif (((a.L.getD c.I.toNat []).getD 0 .nil).I==2) then (bif (decide ((((a.L.getD c.I.toNat []).getD 1 .nil).S).size+(bs #[61]).size<=4294967296)) then (bif (decide ((((a.L.getD c.I.toNat []).getD 1 .nil).S++(bs #[61])).size+(((a.L.getD c.I.toNat []).getD 2 .nil).S).size<=4294967296)) then (some (.nrm [d,.s ((((a.L.getD c.I.toNat []).getD 1 .nil).S++(bs #[61]))++((a.L.getD c.I.toNat []).getD 2 .nil).S),((a.L.getD c.I.toNat []).getD 0 .nil),((a.L.getD c.I.toNat []).getD 1 .nil),((a.L.getD c.I.toNat []).getD 2 .nil),((a.L.getD c.I.toNat []).getD 3 .nil)])) else none) else none) else (bif (((a.L.getD c.I.toNat []).getD 0 .nil).I==3) then (bif (decide (0<=c.I)) then (bif (decide (c.I<(b.L.length:Int))) then (bif (decide (0<((((b.L.getD c.I.toNat []).getD 0 .nil).L).length:Int))) then (ad (G0 [a,b,(((((b.L.getD c.I.toNat []).getD 0 .nil).L).getD 0 []).getD 0 .nil),.i 3]) fun e=>(bif (decide ((bs #[33]).size+e.S.size<=4294967296)) then (some (.nrm [d,.s ((bs #[33])++e.S),((a.L.getD c.I.toNat []).getD 0 .nil),((a.L.getD c.I.toNat []).getD 1 .nil),((a.L.getD c.I.toNat []).getD 2 .nil),((a.L.getD c.I.toNat []).getD 3 .nil)])) else none)) else none) else none) else none) else (bif (((a.L.getD c.I.toNat []).getD 0 .nil).I==4) then (bif (decide (0<=c.I)) then (bif (decide (c.I<(b.L.length:Int))) then (bif (decide (0<((((b.L.getD c.I.toNat []).getD 0 .nil).L).length:Int))) then (ad (G0 [a,b,(((((b.L.getD c.I.toNat []).getD 0 .nil).L).getD 0 []).getD 0 .nil),.i 2]) fun f=>(bif (decide (f.S.size+(bs #[32,38,32]).size<=4294967296)) then (bif (decide (0<=c.I)) then (bif (decide (c.I<(b.L.length:Int))) then (bif (decide (1<((((b.L.getD c.I.toNat []).getD 0 .nil).L).length:Int))) then (ad (G0 [a,b,(((((b.L.getD c.I.toNat []).getD 0 .nil).L).getD 1 []).getD 0 .nil),.i 3]) fun g=>(bif (decide ((f.S++(bs #[32,38,32])).size+g.S.size<=4294967296)) then (some (.nrm [d,.s ((f.S++(bs #[32,38,32]))++g.S),((a.L.getD c.I.toNat []).getD 0 .nil),((a.L.getD c.I.toNat []).getD 1 .nil),((a.L.getD c.I.toNat []).getD 2 .nil),((a.L.getD c.I.toNat []).getD 3 .nil)])) else none)) else none) else none) else none) else none)) else none) else none) else none) else (bif (((a.L.getD c.I.toNat []).getD 0 .nil).I==5) then (bif (decide (0<=c.I)) then (bif (decide (c.I<(b.L.length:Int))) then (bif (decide (0<((((b.L.getD c.I.toNat []).getD 0 .nil).L).length:Int))) then (ad (G0 [a,b,(((((b.L.getD c.I.toNat []).getD 0 .nil).L).getD 0 []).getD 0 .nil),.i 1]) fun h=>(bif (decide (h.S.size+(bs #[32,124,32]).size<=4294967296)) then (bif (decide (0<=c.I)) then (bif (decide (c.I<(b.L.length:Int))) then (bif (decide (1<((((b.L.getD c.I.toNat []).getD 0 .nil).L).length:Int))) then (ad (G0 [a,b,(((((b.L.getD c.I.toNat []).getD 0 .nil).L).getD 1 []).getD 0 .nil),.i 2]) fun i=>(bif (decide ((h.S++(bs #[32,124,32])).size+i.S.size<=4294967296)) then (some (.nrm [d,.s ((h.S++(bs #[32,124,32]))++i.S),((a.L.getD c.I.toNat []).getD 0 .nil),((a.L.getD c.I.toNat []).getD 1 .nil),((a.L.getD c.I.toNat []).getD 2 .nil),((a.L.getD c.I.toNat []).getD 3 .nil)])) else none)) else none) else none) else none) else none)) else none) else none) else none) else (some (.nrm [d,.s (bs #[]),((a.L.getD c.I.toNat []).getD 0 .nil),((a.L.getD c.I.toNat []).getD 1 .nil),((a.L.getD c.I.toNat []).getD 2 .nil),((a.L.getD c.I.toNat []).getD 3 .nil)]))))))) (apn 6 (bA.d1 G0))) else none) else none)
def bA.step (G0:List C->Option (List C)):List C->Option (List C):=fun xs=>aU (apn 4 (bA.d2 G0) xs)
def eA (G:List C->Option (List C)):FS:=⟨4,⟨[(0,(.ag [(.d (.sl 170))])),(1,(.d (.sl 55))),(2,(.d (.int .i64))),(3,(.d (.int .i64)))],[]⟩,⟨[(0,(.d .str))],[]⟩,[],G⟩
theorem Ce {G0:List C->Option (List C)} (h0:FK 172 (eA G0)):FK 172 (eA (bA.step G0)):=okO Tryz.f172 (eA (bA.step G0)) (.seq .leaf (.seq .leaf (.seq .leaf (.seq (.join ⟨[(3,(.d (.int .i64))),(9,(.pt 9 0)),(10,(.d .str))],[(9,.var 170 [(.d (.int .i64)),(.d .str),(.d .str),(.d (.int .i64))])]⟩ .leaf) .leaf)))) [(172,some 40,(eA G0)),(172,some 52,(eA G0)),(172,some 62,(eA G0)),(172,some 74,(eA G0)),(172,some 84,(eA G0)),(184,some 88,rO)] (.cons h0 (.cons h0 (.cons h0 (.cons h0 (.cons h0 (.cons CK .nil)))))) (by kernel_rfl) (by kernel_rfl) (fun xs=>by kernel_rfl)
def bA.g:Nat->Nat->List C->Option (List C)
 |0,_=>fun _=>none
 |k+1,0=>bA.step (bA.g k 0)
 |_,_=>fun _=>none
theorem sF:∀k:Nat,FK 172 (eA (bA.g k 0))
 |0=>kX (fn:=Tryz.f172) (c:=Tryz.f172.body.getD .skip) (4) (⟨[(0,(.ag [(.d (.sl 170))])),(1,(.d (.sl 55))),(2,(.d (.int .i64))),(3,(.d (.int .i64)))],[]⟩) (⟨[(0,(.d .str))],[]⟩) [] (by kernel_rfl) (by kernel_rfl) (by kernel_rfl)
 |k+1=>Ce (sF k)
def bA:List C->Option (List C):=bA.g jd 0
theorem CE:FK 172 (eA bA):=sF jd
def hY.d1 (a:C):R:=(ad (fW [a]) fun b=>(bif (!b.B) then (some (.ret [.s (bs #[])])) else (call2 (ec [a]) fun c d=>(ad (bA [a,.l d.L,.i (w64 ((a.L.length:Int)-1)),.i 1]) fun e=>(bif (decide ((e.S.size:Int)>200)) then (some (.ret [.s (bs #[])])) else (some (.ret [e])))))))
def hY:List C->Option (List C):=fun xs=>aU (apn 1 hY.d1 xs)
def lZ:FS:=⟨1,⟨[(0,(.ag [(zl 170)]))],[]⟩,⟨[(0,zt)],[]⟩,[],hY⟩
theorem xt:FK 158 lZ:=okO Tryz.f158 lZ .leaf [(138,some 7,kq),(139,some 11,jT),(172,some 20,(eA bA))] (.cons pW (.cons nZ (.cons CE .nil))) (by kernel_rfl) (by kernel_rfl) (fun xs=>by kernel_rfl)
def eY.d1 (a b:C):R:=(call3 (ae [.i 2,a,b]) fun c d e=>(bif (c.I==0) then (some (.ret [.s (bs #[]),d,e])) else (call3 (ae [.i 3,d,e]) fun f g h=>(bif (f.I==0) then (call3 (ae [.i 6,g,h]) fun i j k=>(bif (decide (0<=i.I)) then (bif (decide (i.I<((rows [[.s (bs #[122,111,110,101,61,101,97,115,116])],[.s (bs #[33,111,108,100])],[.s (bs #[115,115,100])],[.s (bs #[122,111,110,101,61,101,97,115,116,32,124,32,122,111,110,101,61,119,101,115,116])],[.s (bs #[33,122,111,110,101,61,110,111,114,116,104])],[.s (bs #[99,111,108,111,114,61,114,101,100,32,124,32,103,112,117])]]).length:Int))) then (some (.ret [(((rows [[.s (bs #[122,111,110,101,61,101,97,115,116])],[.s (bs #[33,111,108,100])],[.s (bs #[115,115,100])],[.s (bs #[122,111,110,101,61,101,97,115,116,32,124,32,122,111,110,101,61,119,101,115,116])],[.s (bs #[33,122,111,110,101,61,110,111,114,116,104])],[.s (bs #[99,111,108,111,114,61,114,101,100,32,124,32,103,112,117])]]).getD i.I.toNat []).getD 0 .nil),j,k])) else none) else none)) else (call3 (ej [.i 2,g,h]) fun l m n=>(ad (hY [.l n.L]) fun o=>(some (.ret [o,l,m]))))))))
def eY:List C->Option (List C):=fun xs=>aU (apn 2 eY.d1 xs)
def iu:FS:=⟨1,⟨[(0,(.pt 2000 0))],[(2000,z4)]⟩,⟨[(0,zt)],[(2000,z4)]⟩,[2000],eY⟩
theorem nQ:FK 130 iu:=okO Tryz.f130 iu .leaf [(27,some 4,aa),(27,some 7,aa),(27,some 11,aa),(158,some 17,lZ),(159,some 15,(ff ej))] (.cons ab (.cons ab (.cons ab (.cons xt (.cons CX .nil))))) (by kernel_rfl) (by kernel_rfl) (fun xs=>by kernel_rfl)
def cg.d1 (a b c d e f g h i j k l m n o p q r s t u v w x y z a0 a1:C):R:=(bif (decide (b.I>0)) then (call3 (eY [c,d]) fun a2 a3 a4=>(call3 (ae [.i 19,a3,a4]) fun a5 a6 a7=>(bif (decide (a1.L.length+(rows [[a2,.i (w64 (a5.I-9))]]).length<=4294967296)) then (some (.again [a,.i (w64 (b.I-1)),a6,a7,e,f,g,h,i,j,k,l,m,n,o,p,q,r,s,t,u,v,w,x,y,z,.l a0.L,.l (a1.L++(rows [[a2,.i (w64 (a5.I-9))]]))])) else none))) else (some (.brk 0 [a,c,d,e,f,g,h,i,j,k,l,m,n,o,p,q,r,s,t,u,v,w,x,y,z,.l a0.L,.l a1.L])))
def cg.d2 (a b c d e f g h i j k l m n o p q r s t u v w x y z a0:C):R:=(call3 (ae [.i 8,b,c]) fun a1 a2 a3=>(bif (a1.I==0) then (some (.ret [o,p,q,r,s,t,u,.i 1,w,x,y,a2,a3,.l a0.L])) else (bif (a1.I==1) then (some (.ret [o,p,q,r,s,t,u,.i 2,w,x,y,a2,a3,.l a0.L])) else (bif (a1.I==2) then (call3 (ae [.i 4,a2,a3]) fun a4 a5 a6=>(bif (decide (0<=a4.I)) then (bif (decide (a4.I<((rows [[.s (bs #[119,101,98])],[.s (bs #[100,98])],[.s (bs #[103,111,110,101])],[a]]).length:Int))) then (some (.ret [o,p,q,r,s,t,u,v,(((rows [[.s (bs #[119,101,98])],[.s (bs #[100,98])],[.s (bs #[103,111,110,101])],[a]]).getD a4.I.toNat []).getD 0 .nil),x,y,a5,a6,.l a0.L])) else none) else none)) else (bif (a1.I==3) then (call3 (ae [.i 3,a2,a3]) fun a7 a8 a9=>(bif (a7.I==0) then (call3 (ae [.i 4,a8,a9]) fun b0 b1 b2=>(ad (dX [b0]) fun b3=>(bif (decide ((bs #[98]).size+b3.S.size<=4294967296)) then (some (.ret [o,p,q,r,s,t,u,v,w,.s ((bs #[98])++b3.S),y,b1,b2,.l a0.L])) else none))) else (some (.ret [o,p,q,r,s,t,u,v,w,x,y,a8,a9,.l a0.L])))) else (some (.ret [o,p,q,r,s,t,u,v,w,x,y,a2,a3,.l a0.L])))))))
def cg.d3 (a b c:C):R:=(call3 (ae [.i 4,b,c]) fun d e f=>(bif (decide (0<=d.I)) then (bif (decide (d.I<((rows [[.s (bs #[119,101,98])],[.s (bs #[100,98])],[.s (bs #[106,111,98])],[.s (bs #[99,97,99,104,101])]]).length:Int))) then (bif (decide (((((rows [[.s (bs #[119,101,98])],[.s (bs #[100,98])],[.s (bs #[106,111,98])],[.s (bs #[99,97,99,104,101])]]).getD d.I.toNat []).getD 0 .nil).S).size+(bs #[45]).size<=4294967296)) then (ad (dX [a]) fun g=>(bif (decide (((((rows [[.s (bs #[119,101,98])],[.s (bs #[100,98])],[.s (bs #[106,111,98])],[.s (bs #[99,97,99,104,101])]]).getD d.I.toNat []).getD 0 .nil).S++(bs #[45])).size+g.S.size<=4294967296)) then (call3 (ae [.i 6,e,f]) fun h i j=>(bif (decide (0<=h.I)) then (bif (decide (h.I<((rows [[.i 1],[.i 1],[.i 5],[.i 5],[.i 9],[.i 50]]).length:Int))) then (call3 (ae [.i 30,i,j]) fun k l m=>(call3 (ae [.i 7,l,m]) fun n o p=>(call3 (ae [.i 8,o,p]) fun q r s=>(call3 (eY [r,s]) fun t u v=>(call3 (ae [.i 5,u,v]) fun w x y=>(ah 0 (lim (apn 28 cg.d1) [(((rows [[.s (bs #[119,101,98])],[.s (bs #[100,98])],[.s (bs #[106,111,98])],[.s (bs #[99,97,99,104,101])]]).getD d.I.toNat []).getD 0 .nil),.i (w64 (w.I-2)),x,y,.s (bs #[]),.s (bs #[]),.i 0,.i 0,.i 0,.i 0,.s (bs #[]),.i 0,.s (bs #[]),.s (bs #[]),.s (bs #[]),.s (((((rows [[.s (bs #[119,101,98])],[.s (bs #[100,98])],[.s (bs #[106,111,98])],[.s (bs #[99,97,99,104,101])]]).getD d.I.toNat []).getD 0 .nil).S++(bs #[45]))++g.S),(((rows [[.s (bs #[119,101,98])],[.s (bs #[100,98])],[.s (bs #[106,111,98])],[.s (bs #[99,97,99,104,101])]]).getD d.I.toNat []).getD 0 .nil),(((rows [[.i 1],[.i 1],[.i 5],[.i 5],[.i 9],[.i 50]]).getD h.I.toNat []).getD 0 .nil),k,.i (w64 (1+n.I)),q,t,.i 0,.s (bs #[]),.s (bs #[]),.s (bs #[]),.l af,.l af]) (apn 27 cg.d2))))))) else none) else none)) else none)) else none) else none) else none))
def cg:List C->Option (List C):=fun xs=>aU (apn 3 cg.d3 xs)
def jt:FS:=⟨2,⟨[(0,(.pt 2000 0)),(1,zi)],[(2000,z4)]⟩,⟨[(0,(.ag [zt,zt,zi,zi,zi,zi,zt,(.ow 3001),zi,zt,zt,zt]))],[(2000,z4),(3001,.arr 100 1)]⟩,[2000],cg⟩
theorem qk:FK 92 jt:=okO Tryz.f92 jt (.seq .leaf (.seq .leaf (.seq .leaf (.seq (.seq .leaf (.block ⟨[(0,(.pt 2000 0)),(4,(.pt 4 0)),(5,zt),(6,(.pt 6 0))],[(2000,z4),(4,.var 38 [zt,zt,zi,zi,zi,zi,zt,(.ow 1049900),zi,zt,zt,zt]),(6,.var 38 [zt,zt,zi,zi,zi,zi,zt,(.ow 1049901),zi,zt,zt,zt]),(1049900,.arr 100 1),(1049901,.arr 100 1)]⟩ (.loop ⟨[(0,(.pt 2000 0)),(4,(.pt 4 0)),(5,zt),(6,(.pt 6 0)),(7,zi)],[(2000,z4),(4,.var 38 [zt,zt,zi,zi,zi,zi,zt,(.ow 1049900),zi,zt,zt,zt]),(6,.var 38 [zt,zt,zi,zi,zi,zi,zt,(.ow 1049901),zi,zt,zt,zt]),(1049900,.arr 100 1),(1049901,.arr 100 1)]⟩ .leaf))) .leaf)))) [(27,some 10,aa),(27,some 21,aa),(27,some 25,aa),(27,some 27,aa),(27,some 30,aa),(27,some 35,aa),(27,some 46,aa),(27,some 53,aa),(27,some 65,aa),(27,some 72,aa),(27,some 75,aa),(89,some 16,(fD dX)),(89,some 76,(fD dX)),(130,some 32,iu),(130,some 44,iu)] (.cons ab (.cons ab (.cons ab (.cons ab (.cons ab (.cons ab (.cons ab (.cons ab (.cons ab (.cons ab (.cons ab (.cons pz (.cons pz (.cons nQ (.cons nQ .nil))))))))))))))) (by kernel_rfl) (by kernel_rfl) (fun xs=>by kernel_rfl)
end
end Go.Ev
namespace Go.Ev
open Go.Proofs
noncomputable section
def aF.d1 (a b c d:C):R:=(bif (decide (c.I<(a.S.size:Int))) then (bif (decide (0<=c.I)) then (bif (decide (c.I<(a.S.size:Int))) then (ad (iy [.i ((a.S.data.getD c.I.toNat 0).toNat:Int)]) fun e=>(bif e.B then (some (.again [a,b,.i (w64 (c.I+1)),.l d.L])) else (some (.brk 2 [a,b,c,.l d.L])))) else none) else none) else (some (.brk 2 [a,b,c,.l d.L])))
def aF.d2 (a b c d e:C):R:=(bif d.B then (some (.ret [.b false,.l e.L])) else (bif (decide (0<=b.I)) then (bif (decide (b.I<=(w64 (c.I+1)))) then (bif (decide ((w64 (c.I+1))<=(a.S.size:Int))) then (bif (decide (e.L.length+(rows [[.s (a.S.extract b.I.toNat (w64 (c.I+1)).toNat)]]).length<=4294967296)) then (some (.brk 1 [a,.i (w64 (c.I+1)),.l (e.L++(rows [[.s (a.S.extract b.I.toNat (w64 (c.I+1)).toNat)]]))])) else none) else none) else none) else none))
def aF.d3 (a b c d:C):R:=(bif (c.I==b.I) then (aZ (bif (decide (0<=b.I)) then (bif (decide (b.I<(a.S.size:Int))) then (bif (((a.S.data.getD b.I.toNat 0).toNat:Int) !=124) then (bif (decide (0<=b.I)) then (bif (decide (b.I<(a.S.size:Int))) then (bif (((a.S.data.getD b.I.toNat 0).toNat:Int) !=38) then (bif (decide (0<=b.I)) then (bif (decide (b.I<(a.S.size:Int))) then (bif (((a.S.data.getD b.I.toNat 0).toNat:Int) !=33) then (bif (decide (0<=b.I)) then (bif (decide (b.I<(a.S.size:Int))) then (bif (((a.S.data.getD b.I.toNat 0).toNat:Int) !=40) then (bif (decide (0<=b.I)) then (bif (decide (b.I<(a.S.size:Int))) then (bif (((a.S.data.getD b.I.toNat 0).toNat:Int) !=41) then (bif (decide (0<=b.I)) then (bif (decide (b.I<(a.S.size:Int))) then (some (.nrm [a,b,c,.b (((a.S.data.getD b.I.toNat 0).toNat:Int) !=61),.l d.L])) else none) else none) else (some (.nrm [a,b,c,.b false,.l d.L]))) else none) else none) else (some (.nrm [a,b,c,.b false,.l d.L]))) else none) else none) else (some (.nrm [a,b,c,.b false,.l d.L]))) else none) else none) else (some (.nrm [a,b,c,.b false,.l d.L]))) else none) else none) else (some (.nrm [a,b,c,.b false,.l d.L]))) else none) else none) (apn 5 aF.d2)) else (bif (decide (0<=b.I)) then (bif (decide (b.I<=c.I)) then (bif (decide (c.I<=(a.S.size:Int))) then (bif (decide (d.L.length+(rows [[.s (a.S.extract b.I.toNat c.I.toNat)]]).length<=4294967296)) then (some (.brk 1 [a,c,.l (d.L++(rows [[.s (a.S.extract b.I.toNat c.I.toNat)]]))])) else none) else none) else none) else none))
def aF.d4 (a b c:C):R:=(some (.again [a,b,.l c.L]))
def aF.d5 (a b c:C):R:=(bif (decide (b.I<(a.S.size:Int))) then (ah 1 (bif (decide (0<=b.I)) then (bif (decide (b.I<(a.S.size:Int))) then (bif (((a.S.data.getD b.I.toNat 0).toNat:Int)==32) then (some (.brk 1 [a,.i (w64 (b.I+1)),.l c.L])) else (ah 2 (lim (apn 4 aF.d1) [a,b,b,.l c.L]) (apn 4 aF.d3))) else none) else none) (apn 3 aF.d4)) else (some (.brk 0 [.l c.L])))
def aF.d6 (a:C):R:=(some (.ret [.b true,.l a.L]))
def aF.d7 (a:C):R:=(ah 0 (lim (apn 3 aF.d5) [a,.i 0,.l af]) (apn 1 aF.d6))
def aF:List C->Option (List C):=fun xs=>aU (apn 1 aF.d7 xs)
def oG:FS:=⟨1,⟨[(0,zt)],[]⟩,⟨[(0,(.tu [(.ow 3000),zo]))],[(3000,.arr 9 1)]⟩,[],aF⟩
theorem An:FK 136 oG:=okO Tryz.f136 oG (.seq .leaf (.seq .leaf (.seq (.seq .leaf (.block ⟨[(4,(.ow 7))],[(7,.arr 9 1)]⟩ (.loop ⟨[(0,zt),(4,(.ow 7)),(5,zi)],[(7,.arr 9 1)]⟩ (.seq .leaf (.block ⟨[(0,zt),(4,(.ow 7)),(5,zi)],[(7,.arr 9 1)]⟩ (.seq .leaf (.seq .leaf (.seq (.block ⟨[(0,zt),(4,(.ow 7)),(5,zi),(6,zi)],[(7,.arr 9 1)]⟩ (.loop ⟨[(0,zt),(4,(.ow 7)),(5,zi),(6,zi)],[(7,.arr 9 1)]⟩ .leaf)) (.seq (.seq .leaf (.cond (.seq (.seq (.join ⟨[(0,zt),(4,(.ow 7)),(5,zi),(6,zi),(67,zo)],[(7,.arr 9 1)]⟩ .leaf) .leaf) .leaf) .leaf)) .leaf))))))))) .leaf))) [(101,some 27,lu)] (.cons sN .nil) (by kernel_rfl) (by kernel_rfl) (fun xs=>by kernel_rfl)
def ie.d1 (a b:C):R:=(bif a.isP then (bif a.isP then (bif (decide ((a.P.getD 1 .nil).I<(((a.P.getD 0 .nil).L).length:Int))) then (bif a.isP then (bif a.isP then (bif (decide (0<=(a.P.getD 1 .nil).I)) then (bif (decide ((a.P.getD 1 .nil).I<(((a.P.getD 0 .nil).L).length:Int))) then (some (.ret [.b ((((((a.P.getD 0 .nil).L).getD ((a.P.getD 1 .nil).I).toNat []).getD 0 .nil).S).toList==b.S.toList)])) else none) else none) else none) else none) else (some (.ret [.b false]))) else none) else none)
def ie:List C->Option (List C):=fun xs=>aU (apn 2 ie.d1 xs)
def kU:FS:=⟨2,⟨[(0,(.d (.pt 173))),(1,zt)],[]⟩,⟨[(0,zo)],[]⟩,[],ie⟩
theorem wC:FK 175 kU:=okO Tryz.f175 kU .leaf [] .nil (by kernel_rfl) (by kernel_rfl) (fun xs=>by kernel_rfl)
def bU.d1 (a b c d:C):R:=(ad (ie [.p [b,c,d],a]) fun e=>(bif e.B then (some (.ret [.b true,b,.i (w64 (c.I+1)),d])) else (some (.ret [.b false,b,c,d]))))
def bU:List C->Option (List C):=fun xs=>aU (apn 4 bU.d1 xs)
def dG:FS:=⟨2,⟨[(0,(.pt 2000 0)),(1,zt)],[(2000,.var 173 [(zl 9),zi,zo])]⟩,⟨[(0,zo)],[(2000,.var 173 [(zl 9),zi,zo])]⟩,[2000],bU⟩
theorem eO:FK 161 dG:=okO Tryz.f161 dG .leaf [(175,some 7,kU)] (.cons wC .nil) (by kernel_rfl) (by kernel_rfl) (fun xs=>by kernel_rfl)
def eI.d1 (a b c:C):R:=(bif (!(decide (b.I≥(a.L.length:Int)))) then (bif (decide (0<=b.I)) then (bif (decide (b.I<(a.L.length:Int))) then (ad (br [((a.L.getD b.I.toNat []).getD 0 .nil)]) fun d=>(bif (!d.B) then (some (.ret [.s (bs #[]),a,b,.b true])) else (bif (decide (0<=(w64 ((w64 (b.I+1))-1)))) then (bif (decide ((w64 ((w64 (b.I+1))-1))<(a.L.length:Int))) then (some (.ret [((a.L.getD (w64 ((w64 (b.I+1))-1)).toNat []).getD 0 .nil),a,.i (w64 (b.I+1)),c])) else none) else none))) else none) else none) else (some (.ret [.s (bs #[]),a,b,.b true])))
def eI:List C->Option (List C):=fun xs=>aU (apn 3 eI.d1 xs)
def gX:FS:=⟨1,⟨[(0,(.pt 2000 0))],[(2000,.var 173 [(zl 9),zi,zo])]⟩,⟨[(0,zt)],[(2000,.var 173 [(zl 9),zi,zo])]⟩,[2000],eI⟩
theorem ni:FK 186 gX:=okO Tryz.f186 gX .leaf [(69,some 24,cB)] (.cons dm .nil) (by kernel_rfl) (by kernel_rfl) (fun xs=>by kernel_rfl)
def ak.d1 (G0 G1 G2:List C->Option (List C)) (a b c d:C):R:=(bif (!d.B) then (call4 (bU [.s (bs #[124]),b,c,d]) fun e f g h=>(bif e.B then (call4 (G1 [f,g,h]) fun i j k l=>(call2 (bS [.i 5,.i 2,.l (rows [[a],[i]])]) fun m n=>(some (.again [.l n.L,j,k,l])))) else (some (.brk 0 [a,f,g,h])))) else (some (.brk 0 [a,b,c,d])))
def ak.d2 (G0 G1 G2:List C->Option (List C)) (a b c d:C):R:=(some (.ret [a,b,c,d]))
def ak.d3 (G0 G1 G2:List C->Option (List C)) (a b c:C):R:=(call4 (G1 [a,b,c]) fun d e f g=>(ah 0 (lim (apn 4 (ak.d1 G0 G1 G2)) [d,e,f,g]) (apn 4 (ak.d2 G0 G1 G2))))
def ak.step (G0 G1 G2:List C->Option (List C)):List C->Option (List C):=fun xs=>aU (apn 3 (ak.d3 G0 G1 G2) xs)
def dN (G:List C->Option (List C)):FS:=⟨1,⟨[(0,(.pt 2000 0))],[(2000,.var 173 [(.d (.sl 9)),(.d (.int .i64)),(.d .bool)])]⟩,⟨[(0,(.d (.sl 170)))],[(2000,.var 173 [(.d (.sl 9)),(.d (.int .i64)),(.d .bool)])]⟩,[2000],G⟩
def da.d1 (G0 G1 G2:List C->Option (List C)) (a b c d:C):R:=(bif (!d.B) then (call4 (bU [.s (bs #[38]),b,c,d]) fun e f g h=>(bif e.B then (call4 (G2 [f,g,h]) fun i j k l=>(call2 (bS [.i 4,.i 2,.l (rows [[a],[i]])]) fun m n=>(some (.again [.l n.L,j,k,l])))) else (some (.brk 0 [a,f,g,h])))) else (some (.brk 0 [a,b,c,d])))
def da.d2 (G0 G1 G2:List C->Option (List C)) (a b c d:C):R:=(some (.ret [a,b,c,d]))
def da.d3 (G0 G1 G2:List C->Option (List C)) (a b c:C):R:=(call4 (G2 [a,b,c]) fun d e f g=>(ah 0 (lim (apn 4 (da.d1 G0 G1 G2)) [d,e,f,g]) (apn 4 (da.d2 G0 G1 G2))))
def da.step (G0 G1 G2:List C->Option (List C)):List C->Option (List C):=fun xs=>aU (apn 3 (da.d3 G0 G1 G2) xs)
def dV (G:List C->Option (List C)):FS:=⟨1,⟨[(0,(.pt 2000 0))],[(2000,.var 173 [(.d (.sl 9)),(.d (.int .i64)),(.d .bool)])]⟩,⟨[(0,(.d (.sl 170)))],[(2000,.var 173 [(.d (.sl 9)),(.d (.int .i64)),(.d .bool)])]⟩,[2000],G⟩
def fb.d1 (G0 G1 G2:List C->Option (List C)) (a b c:C):R:=(bif c.B then (some (.ret [.l af,a,b,c])) else (call4 (bU [.s (bs #[33]),a,b,c]) fun d e f g=>(bif d.B then (call4 (G2 [e,f,g]) fun h i j k=>(call2 (bS [.i 3,.i 1,.l (rows [[h]])]) fun l m=>(some (.ret [.l m.L,i,j,k])))) else (call4 (bU [.s (bs #[40]),e,f,g]) fun n o p q=>(bif n.B then (call4 (G0 [o,p,q]) fun r s t u=>(call4 (bU [.s (bs #[41]),s,t,u]) fun v w x y=>(bif (!v.B) then (some (.ret [r,w,x,.b true])) else (some (.ret [r,w,x,y]))))) else (call4 (eI [o,p,q]) fun z a0 a1 a2=>(bif (!a2.B) then (call4 (bU [.s (bs #[61]),a0,a1,a2]) fun a3 a4 a5 a6=>(bif a3.B then (call4 (eI [a4,a5,a6]) fun a7 a8 a9 b0=>(some (.ret [.l (rows [[.i 2,z,a7,.i 0]]),a8,a9,b0]))) else (some (.ret [.l (rows [[.i 1,z,.s (bs #[]),.i 0]]),a4,a5,a6])))) else (some (.ret [.l (rows [[.i 1,z,.s (bs #[]),.i 0]]),a0,a1,a2])))))))))
def fb.step (G0 G1 G2:List C->Option (List C)):List C->Option (List C):=fun xs=>aU (apn 3 (fb.d1 G0 G1 G2) xs)
def dw (G:List C->Option (List C)):FS:=⟨1,⟨[(0,(.pt 2000 0))],[(2000,.var 173 [(.d (.sl 9)),(.d (.int .i64)),(.d .bool)])]⟩,⟨[(0,(.d (.sl 170)))],[(2000,.var 173 [(.d (.sl 9)),(.d (.int .i64)),(.d .bool)])]⟩,[2000],G⟩
theorem vJ {G0 G1 G2:List C->Option (List C)} (h0:FK 137 (dN G0)) (h1:FK 160 (dV G1)) (h2:FK 174 (dw G2)):FK 137 (dN (ak.step G0 G1 G2)):=okO Tryz.f137 (dN (ak.step G0 G1 G2)) (.seq .leaf (.seq .leaf (.seq (.block ⟨[(3,(.d (.sl 170)))],[(2000,.var 173 [(.d (.sl 9)),(.d (.int .i64)),(.d .bool)])]⟩ (.loop ⟨[(0,(.pt 2000 0)),(3,(.d (.sl 170)))],[(2000,.var 173 [(.d (.sl 9)),(.d (.int .i64)),(.d .bool)])]⟩ .leaf)) .leaf))) [(160,some 5,(dV G1)),(160,some 17,(dV G1)),(161,some 13,dG),(162,some 19,fE)] (.cons h1 (.cons h1 (.cons eO (.cons iG .nil)))) (by kernel_rfl) (by kernel_rfl) (fun xs=>by kernel_rfl)
theorem ue {G0 G1 G2:List C->Option (List C)} (h0:FK 137 (dN G0)) (h1:FK 160 (dV G1)) (h2:FK 174 (dw G2)):FK 160 (dV (da.step G0 G1 G2)):=okO Tryz.f160 (dV (da.step G0 G1 G2)) (.seq .leaf (.seq .leaf (.seq (.block ⟨[(3,(.d (.sl 170)))],[(2000,.var 173 [(.d (.sl 9)),(.d (.int .i64)),(.d .bool)])]⟩ (.loop ⟨[(0,(.pt 2000 0)),(3,(.d (.sl 170)))],[(2000,.var 173 [(.d (.sl 9)),(.d (.int .i64)),(.d .bool)])]⟩ .leaf)) .leaf))) [(161,some 13,dG),(162,some 19,fE),(174,some 5,(dw G2)),(174,some 17,(dw G2))] (.cons eO (.cons iG (.cons h2 (.cons h2 .nil)))) (by kernel_rfl) (by kernel_rfl) (fun xs=>by kernel_rfl)
theorem tH {G0 G1 G2:List C->Option (List C)} (h0:FK 137 (dN G0)) (h1:FK 160 (dV G1)) (h2:FK 174 (dw G2)):FK 174 (dw (fb.step G0 G1 G2)):=okO Tryz.f174 (dw (fb.step G0 G1 G2)) (.seq .leaf (.seq (.seq .leaf (.cond (.seq .leaf (.frz [9] .leaf)) .leaf)) (.seq (.seq .leaf (.cond (.seq .leaf (.frz [68537] .leaf)) .leaf)) (.seq .leaf (.seq .leaf (.seq .leaf (.seq .leaf (.frz [44] .leaf)))))))) [(137,some 19,(dN G0)),(161,some 11,dG),(161,some 17,dG),(161,some 21,dG),(161,some 37,dG),(162,some 15,fE),(174,some 13,(dw G2)),(186,some 28,gX),(186,some 41,gX)] (.cons h0 (.cons eO (.cons eO (.cons eO (.cons eO (.cons iG (.cons h2 (.cons ni (.cons ni .nil))))))))) (by kernel_rfl) (by kernel_rfl) (fun xs=>by kernel_rfl)
def ak.g:Nat->Nat->List C->Option (List C)
 |0,_=>fun _=>none
 |k+1,0=>ak.step (ak.g k 0) (ak.g k 1) (ak.g k 2)
 |k+1,1=>da.step (ak.g k 0) (ak.g k 1) (ak.g k 2)
 |k+1,2=>fb.step (ak.g k 0) (ak.g k 1) (ak.g k 2)
 |_,_=>fun _=>none
theorem cJ:∀k:Nat,FK 137 (dN (ak.g k 0))/\FK 160 (dV (ak.g k 1))/\FK 174 (dw (ak.g k 2))
 |0=>⟨kX (fn:=Tryz.f137) (c:=Tryz.f137.body.getD .skip) (1) (⟨[(0,(.pt 2000 0))],[(2000,.var 173 [(.d (.sl 9)),(.d (.int .i64)),(.d .bool)])]⟩) (⟨[(0,(.d (.sl 170)))],[(2000,.var 173 [(.d (.sl 9)),(.d (.int .i64)),(.d .bool)])]⟩) [2000] (by kernel_rfl) (by kernel_rfl) (by kernel_rfl),kX (fn:=Tryz.f160) (c:=Tryz.f160.body.getD .skip) (1) (⟨[(0,(.pt 2000 0))],[(2000,.var 173 [(.d (.sl 9)),(.d (.int .i64)),(.d .bool)])]⟩) (⟨[(0,(.d (.sl 170)))],[(2000,.var 173 [(.d (.sl 9)),(.d (.int .i64)),(.d .bool)])]⟩) [2000] (by kernel_rfl) (by kernel_rfl) (by kernel_rfl),kX (fn:=Tryz.f174) (c:=Tryz.f174.body.getD .skip) (1) (⟨[(0,(.pt 2000 0))],[(2000,.var 173 [(.d (.sl 9)),(.d (.int .i64)),(.d .bool)])]⟩) (⟨[(0,(.d (.sl 170)))],[(2000,.var 173 [(.d (.sl 9)),(.d (.int .i64)),(.d .bool)])]⟩) [2000] (by kernel_rfl) (by kernel_rfl) (by kernel_rfl)⟩
 |k+1=>⟨vJ (cJ k).1 (cJ k).2.1 (cJ k).2.2,ue (cJ k).1 (cJ k).2.1 (cJ k).2.2,tH (cJ k).1 (cJ k).2.1 (cJ k).2.2⟩
def ak:List C->Option (List C):=ak.g jd 0
theorem wv:FK 137 (dN ak):=(cJ jd).1
def da:List C->Option (List C):=ak.g jd 1
def fb:List C->Option (List C):=ak.g jd 2
def gh.d1 (a:C):R:=(bif (decide ((a.S.size:Int)>200)) then (some (.ret [.l af,.i 1])) else (call2 (aF [a]) fun b c=>(bif (!b.B) then (some (.ret [.l af,.i 2])) else (bif ((c.L.length:Int)==0) then (some (.ret [.l (rows [[.i 0,.s (bs #[]),.s (bs #[]),.i 0]]),.i 0])) else (call4 (ak [.l c.L,.i 0,.b false]) fun d e f g=>(bif (!g.B) then (bif (decide (f.I<(c.L.length:Int))) then (some (.ret [.l af,.i 2])) else (ad (fW [d]) fun h=>(bif (!h.B) then (some (.ret [.l af,.i 3])) else (some (.ret [d,.i 0]))))) else (some (.ret [.l af,.i 2]))))))))
def gh:List C->Option (List C):=fun xs=>aU (apn 1 gh.d1 xs)
def ju:FS:=⟨1,⟨[(0,zt)],[]⟩,⟨[(0,(.tu [(.ag [(zl 170)]),zi]))],[]⟩,[],gh⟩
theorem qm:FK 106 ju:=okO Tryz.f106 ju (.seq .leaf (.seq .leaf (.seq .leaf (.seq .leaf (.seq (.seq .leaf (.cond (.seq .leaf (.frz [24] .leaf)) .leaf)) (.seq .leaf (.seq (.frz [64440] .leaf) .leaf))))))) [(136,some 14,oG),(137,some 30,(dN ak)),(138,some 47,kq)] (.cons An (.cons wv (.cons pW .nil))) (by kernel_rfl) (by kernel_rfl) (fun xs=>by kernel_rfl)
def ga.d1 (a:C):R:=(call2 (gh [a]) fun b c=>(some (.ret [.b (c.I==0)])))
def ga:List C->Option (List C):=fun xs=>aU (apn 1 ga.d1 xs)
def jv:FS:=⟨1,⟨[(0,zt)],[]⟩,⟨[(0,zo)],[]⟩,[],ga⟩
theorem qo:FK 102 jv:=okO Tryz.f102 jv .leaf [(106,some 7,ju)] (.cons qm .nil) (by kernel_rfl) (by kernel_rfl) (fun xs=>by kernel_rfl)
def cf.d1 (a b c d e f g h i j k l m:C):R:=(bif (decide (a.I<(i.L.length:Int))) then (bif (decide (0<=a.I)) then (bif (decide (a.I<(i.L.length:Int))) then (ad (ga [((i.L.getD a.I.toNat []).getD 0 .nil)]) fun n=>(bif (!(!n.B)) then (bif (decide (0<=a.I)) then (bif (decide (a.I<(i.L.length:Int))) then (ad (hD [((i.L.getD a.I.toNat []).getD 1 .nil),.i (-9),.i 9]) fun o=>(bif (!o.B) then (some (.ret [.b false])) else (some (.again [.i (w64 (a.I+1)),b,c,d,e,f,g,h,i,j,k,l,m])))) else none) else none) else (some (.ret [.b false])))) else none) else none) else (some (.brk 0 [])))
def cf.d2:R:=(some (.ret [.b true]))
def cf.d3 (a b c d e f g h i j k l m:C):R:=(bif a.B then (some (.ret [.b false])) else (ah 0 (lim (apn 13 cf.d1) [.i 0,b,c,d,e,f,g,h,i,j,k,l,m]) (fun xs=>cf.d2)))
def cf.d4 (a b c d e f g h i j k l:C):R:=(ad (br [a]) fun m=>(bif (!(!m.B)) then (ad (br [b]) fun n=>(bif (!(!n.B)) then (ad (hD [c,.i 0,.i 100]) fun o=>(bif (!(!o.B)) then (ad (hD [d,.i 0,.i 1000000]) fun p=>(bif (!(!p.B)) then (ad (hD [e,.i 0,.i 1000]) fun q=>(bif (!(!q.B)) then (ad (hD [f,.i 0,.i 1000]) fun r=>(bif (!r.B) then (some (.ret [.b false])) else (aZ (ad (ga [g]) fun s=>(bif (!(!s.B)) then (bif (!(decide ((h.L.length:Int)>5))) then (ad (hD [i,.i 0,.i 2]) fun t=>(bif (!(!t.B)) then (bif (!(j.S.toList==(bs #[]).toList)) then (ad (br [j]) fun u=>(bif (!(!u.B)) then (bif (!(k.S.toList==(bs #[]).toList)) then (ad (br [k]) fun v=>(some (.nrm [.b (!v.B),a,b,c,d,e,f,g,h,i,j,k,l]))) else (some (.nrm [.b false,a,b,c,d,e,f,g,h,i,j,k,l]))) else (some (.nrm [.b true,a,b,c,d,e,f,g,h,i,j,k,l])))) else (bif (!(k.S.toList==(bs #[]).toList)) then (ad (br [k]) fun w=>(some (.nrm [.b (!w.B),a,b,c,d,e,f,g,h,i,j,k,l]))) else (some (.nrm [.b false,a,b,c,d,e,f,g,h,i,j,k,l])))) else (some (.nrm [.b true,a,b,c,d,e,f,g,h,i,j,k,l])))) else (some (.nrm [.b true,a,b,c,d,e,f,g,h,i,j,k,l]))) else (some (.nrm [.b true,a,b,c,d,e,f,g,h,i,j,k,l])))) (apn 13 cf.d3)))) else (some (.ret [.b false])))) else (some (.ret [.b false])))) else (some (.ret [.b false])))) else (some (.ret [.b false])))) else (some (.ret [.b false]))))
def cf:List C->Option (List C):=fun xs=>aU (apn 12 cf.d4 xs)
def ot:FS:=⟨1,⟨[(0,z5)],[]⟩,⟨[(0,zo)],[]⟩,[],cf⟩
theorem Ah:FK 71 ot:=okO Tryz.f71 ot (.seq .leaf (.seq .leaf (.seq (.seq (.join ⟨[(1,(.pt 1 0)),(75,zo)],[(1,z1)]⟩ .leaf) .leaf) (.seq (.seq .leaf (.block ⟨[],[]⟩ (.loop ⟨[(1,(.pt 1 0)),(3,zi)],[(1,z1)]⟩ .leaf))) .leaf)))) [(69,some 6,cB),(69,some 11,cB),(69,some 61,cB),(69,some 72,cB),(70,some 17,fi),(70,some 23,fi),(70,some 29,fi),(70,some 35,fi),(70,some 51,fi),(70,some 98,fi),(102,some 40,jv),(102,some 89,jv)] (.cons dm (.cons dm (.cons dm (.cons dm (.cons fS (.cons fS (.cons fS (.cons fS (.cons fS (.cons fS (.cons qo (.cons qo .nil)))))))))))) (by kernel_rfl) (by kernel_rfl) (fun xs=>by kernel_rfl)
def dp.d1 (a b c d e f:C):R:=(bif (decide (b.I<(e.L.length:Int))) then (bif (decide (0<=b.I)) then (bif (decide (b.I<(e.L.length:Int))) then (bif ((((e.L.getD b.I.toNat []).getD 0 .nil).S).toList==a.S.toList) then (some (.ret [b])) else (some (.again [a,.i (w64 (b.I+1)),c,d,e,f]))) else none) else none) else (some (.brk 0 [])))
def dp.d2:R:=(some (.ret [.i (-1)]))
def dp.d3 (a b c d e:C):R:=(ah 0 (lim (apn 6 dp.d1) [e,.i 0,a,b,c,d]) (fun xs=>dp.d2))
def dp:List C->Option (List C):=fun xs=>aU (apn 5 dp.d3 xs)
def nB:FS:=⟨2,⟨[(0,z2),(1,zt)],[]⟩,⟨[(0,zi)],[]⟩,[],dp⟩
theorem za:FK 72 nB:=okO Tryz.f72 nB (.seq .leaf (.seq (.seq .leaf (.block ⟨[],[]⟩ (.loop ⟨[(1,zt),(2,(.pt 2 0)),(5,zi)],[(2,z0)]⟩ .leaf))) .leaf)) [] .nil (by kernel_rfl) (by kernel_rfl) (fun xs=>by kernel_rfl)
def di.d1 (a b c d e f:C):R:=(bif (decide (b.I<(d.L.length:Int))) then (bif (decide (0<=b.I)) then (bif (decide (b.I<(d.L.length:Int))) then (bif ((((d.L.getD b.I.toNat []).getD 0 .nil).S).toList==a.S.toList) then (some (.ret [b])) else (some (.again [a,.i (w64 (b.I+1)),c,d,e,f]))) else none) else none) else (some (.brk 0 [])))
def di.d2:R:=(some (.ret [.i (-1)]))
def di.d3 (a b c d e:C):R:=(ah 0 (lim (apn 6 di.d1) [e,.i 0,a,b,c,d]) (fun xs=>di.d2))
def di:List C->Option (List C):=fun xs=>aU (apn 5 di.d3 xs)
def gl:FS:=⟨2,⟨[(0,z2),(1,zt)],[]⟩,⟨[(0,zi)],[]⟩,[],di⟩
theorem iT:FK 37 gl:=okO Tryz.f37 gl (.seq .leaf (.seq (.seq .leaf (.block ⟨[],[]⟩ (.loop ⟨[(1,zt),(2,(.pt 2 0)),(5,zi)],[(2,z0)]⟩ .leaf))) .leaf)) [] .nil (by kernel_rfl) (by kernel_rfl) (fun xs=>by kernel_rfl)
def bO.d1 (a b c d e f g h i:C):R:=(bif e.B then (bif (decide (0<=d.I)) then (bif (decide (d.I<(i.L.length:Int))) then (bif (decide (0<=d.I)) then (bif (decide (d.I<(i.L.length:Int))) then (some (.again [a,.i (w64 (b.I+((i.L.getD d.I.toNat []).getD 4 .nil).I)),.i (w64 (c.I+((i.L.getD d.I.toNat []).getD 5 .nil).I)),.i (w64 (d.I+1)),f,g,h,i])) else none) else none) else none) else none) else (some (.again [a,b,c,.i (w64 (d.I+1)),f,g,h,i])))
def bO.d2 (a b c d e f g h:C):R:=(bif (decide (d.I<(h.L.length:Int))) then (aZ (bif (!(a.S.toList==(bs #[]).toList)) then (bif (decide (0<=d.I)) then (bif (decide (d.I<(h.L.length:Int))) then (some (.nrm [a,b,c,d,.b ((((h.L.getD d.I.toNat []).getD 11 .nil).S).toList==a.S.toList),e,f,g,h])) else none) else none) else (some (.nrm [a,b,c,d,.b false,e,f,g,h]))) (apn 9 bO.d1)) else (some (.brk 0 [b,c])))
def bO.d3 (a b:C):R:=(some (.ret [a,b]))
def bO.d4 (a b c d e:C):R:=(ad (di [a,b,c,d,e]) fun f=>(bif (decide (f.I<0)) then (some (.ret [.i 0,.i 0])) else (ah 0 (lim (apn 8 bO.d2) [e,.i 0,.i 0,.i 0,a,b,c,d]) (apn 2 bO.d3))))
def bO:List C->Option (List C):=fun xs=>aU (apn 5 bO.d4 xs)
def nu:FS:=⟨2,⟨[(0,z2),(1,zt)],[]⟩,⟨[(0,(.tu [zi,zi]))],[]⟩,[],bO⟩
theorem xX:FK 73 nu:=okO Tryz.f73 nu (.seq .leaf (.seq .leaf (.seq .leaf (.seq .leaf (.seq (.seq .leaf (.block ⟨[(6,zi),(7,zi)],[]⟩ (.loop ⟨[(1,zt),(2,(.pt 2 0)),(6,zi),(7,zi),(8,zi)],[(2,z0)]⟩ (.seq .leaf (.seq (.skip (.seq (.join ⟨[(1,zt),(2,(.pt 2 0)),(6,zi),(7,zi),(8,zi),(31,zo)],[(2,z0)]⟩ .leaf) .leaf)) .leaf))))) .leaf))))) [(37,some 11,gl)] (.cons iT .nil) (by kernel_rfl) (by kernel_rfl) (fun xs=>by kernel_rfl)
def dZ.d1 (a b:C):R:=(bif (decide (b.I<(a.S.size:Int))) then (bif (decide (0<=b.I)) then (bif (decide (b.I<(a.S.size:Int))) then (bif (((a.S.data.getD b.I.toNat 0).toNat:Int)==61) then (bif (decide (0<=b.I)) then (bif (decide (b.I<=(a.S.size:Int))) then (bif (decide (0<=(w64 (b.I+1)))) then (bif (decide ((w64 (b.I+1))<=(a.S.size:Int))) then (bif (decide ((a.S.size:Int)<=(a.S.size:Int))) then (bif (decide (0<=b.I)) then (bif (decide (b.I<=(a.S.size:Int))) then (ad (br [.s (a.S.extract 0 b.I.toNat)]) fun c=>(bif c.B then (bif (decide (0<=(w64 (b.I+1)))) then (bif (decide ((w64 (b.I+1))<=(a.S.size:Int))) then (bif (decide ((a.S.size:Int)<=(a.S.size:Int))) then (ad (br [.s (a.S.extract (w64 (b.I+1)).toNat (a.S.size:Int).toNat)]) fun d=>(some (.ret [.s (a.S.extract 0 b.I.toNat),.s (a.S.extract (w64 (b.I+1)).toNat (a.S.size:Int).toNat),.b d.B]))) else none) else none) else none) else (some (.ret [.s (a.S.extract 0 b.I.toNat),.s (a.S.extract (w64 (b.I+1)).toNat (a.S.size:Int).toNat),.b false])))) else none) else none) else none) else none) else none) else none) else none) else (some (.again [a,.i (w64 (b.I+1))]))) else none) else none) else (some (.brk 0 [a])))
def dZ.d2 (a:C):R:=(ad (br [a]) fun b=>(some (.ret [a,.s (bs #[]),.b b.B])))
def dZ.d3 (a:C):R:=(ah 0 (lim (apn 2 dZ.d1) [a,.i 0]) (apn 1 dZ.d2))
def dZ:List C->Option (List C):=fun xs=>aU (apn 1 dZ.d3 xs)
def lK:FS:=⟨1,⟨[(0,zt)],[]⟩,⟨[(0,(.tu [zt,zt,zo]))],[]⟩,[],dZ⟩
theorem qE:FK 135 lK:=okO Tryz.f135 lK (.seq .leaf (.seq (.seq .leaf (.block ⟨[(0,zt)],[]⟩ (.loop ⟨[(0,zt),(5,zi)],[]⟩ .leaf))) .leaf)) [(69,some 26,cB),(69,some 32,cB),(69,some 36,cB)] (.cons dm (.cons dm (.cons dm .nil))) (by kernel_rfl) (by kernel_rfl) (fun xs=>by kernel_rfl)
def bu.d1 (a b c d:C):R:=(bif (decide (d.I<b.I)) then (bif (decide (0<=d.I)) then (bif (decide (d.I<(a.L.length:Int))) then (call3 (dZ [((a.L.getD d.I.toNat []).getD 0 .nil)]) fun e f g=>(bif (e.S.toList==c.S.toList) then (some (.ret [.b false])) else (some (.again [a,b,c,.i (w64 (d.I+1))])))) else none) else none) else (some (.brk 2 [a,b,c])))
def bu.d2 (a b c:C):R:=(some (.again [a,c,.i (w64 (b.I+1))]))
def bu.d3 (a b c:C):R:=(ah 2 (lim (apn 4 bu.d1) [a,b,c,.i 0]) (apn 3 bu.d2))
def bu.d4 (a b c:C):R:=(bif (decide (c.I<(a.L.length:Int))) then (bif (decide (0<=c.I)) then (bif (decide (c.I<(a.L.length:Int))) then (call3 (dZ [((a.L.getD c.I.toNat []).getD 0 .nil)]) fun d e f=>(aZ (bif (!(!f.B)) then (bif (decide (c.I>0)) then (bif (decide (0<=(w64 (c.I-1)))) then (bif (decide ((w64 (c.I-1))<(a.L.length:Int))) then (bif (decide (0<=c.I)) then (bif (decide (c.I<(a.L.length:Int))) then (bif (!(!(Op.bytesLess (((a.L.getD (w64 (c.I-1)).toNat []).getD 0 .nil).S).toList (((a.L.getD c.I.toNat []).getD 0 .nil).S).toList))) then (bif (d.S.toList==b.S.toList) then (some (.ret [.b false])) else (some (.nrm [a,c,d]))) else (some (.ret [.b false]))) else none) else none) else none) else none) else (some (.nrm [a,c,d]))) else (some (.ret [.b false]))) (apn 3 bu.d3))) else none) else none) else (some (.brk 0 [])))
def bu.d5:R:=(some (.ret [.b true]))
def bu.d6 (a:C):R:=(bif (decide ((a.L.length:Int)>10)) then (some (.ret [.b false])) else (ah 0 (lim (apn 3 bu.d4) [a,.s (bs #[]),.i 0]) (fun xs=>bu.d5)))
def bu:List C->Option (List C):=fun xs=>aU (apn 1 bu.d6 xs)
def mV:FS:=⟨1,⟨[(0,(zl 9))],[]⟩,⟨[(0,zo)],[]⟩,[],bu⟩
theorem y8:FK 103 mV:=okO Tryz.f103 mV (.seq .leaf (.seq .leaf (.seq .leaf (.seq (.seq .leaf (.block ⟨[],[]⟩ (.loop ⟨[(0,(zl 9)),(3,zt),(4,zi)],[]⟩ (.seq .leaf (.seq (.skip (.seq .leaf (.seq (.join ⟨[(0,(zl 9)),(4,zi),(5,zt)],[]⟩ .leaf) (.seq (.seq .leaf (.block ⟨[(0,(zl 9)),(4,zi),(5,zt)],[]⟩ (.loop ⟨[(0,(zl 9)),(4,zi),(5,zt),(8,zi)],[]⟩ .leaf))) .leaf)))) .leaf))))) .leaf)))) [(135,some 26,lK),(135,some 63,lK)] (.cons qE (.cons qE .nil)) (by kernel_rfl) (by kernel_rfl) (fun xs=>by kernel_rfl)
def iP.d1 (a b c d e f:C):R:=(ad (br [a]) fun g=>(bif g.B then (ad (br [b]) fun h=>(bif h.B then (ad (bu [c]) fun i=>(bif i.B then (ad (hD [d,.i 0,.i 1000]) fun j=>(bif j.B then (ad (hD [e,.i 0,.i 1000]) fun k=>(some (.ret [.b k.B]))) else (some (.ret [.b false])))) else (some (.ret [.b false])))) else (some (.ret [.b false])))) else (some (.ret [.b false]))))
def iP:List C->Option (List C):=fun xs=>aU (apn 6 iP.d1 xs)
def ny:FS:=⟨1,⟨[(0,z10)],[]⟩,⟨[(0,zo)],[]⟩,[],iP⟩
theorem yp:FK 74 ny:=okO Tryz.f74 ny .leaf [(69,some 5,cB),(69,some 9,cB),(70,some 19,fi),(70,some 24,fi),(103,some 14,mV)] (.cons dm (.cons dm (.cons fS (.cons fS (.cons y8 .nil))))) (by kernel_rfl) (by kernel_rfl) (fun xs=>by kernel_rfl)
def eF.d1 (a b c d e f g:C):R:=(bif (decide (c.I<(g.L.length:Int))) then (bif (decide (0<=c.I)) then (bif (decide (c.I<(g.L.length:Int))) then (bif ((((g.L.getD c.I.toNat []).getD 11 .nil).S).toList==a.S.toList) then (some (.again [a,.i (w64 (b.I+1)),.i (w64 (c.I+1)),d,e,f,g])) else (some (.again [a,b,.i (w64 (c.I+1)),d,e,f,g]))) else none) else none) else (some (.brk 0 [b])))
def eF.d2 (a:C):R:=(some (.ret [a]))
def eF.d3 (a b c d e:C):R:=(ah 0 (lim (apn 7 eF.d1) [e,.i 0,.i 0,a,b,c,d]) (apn 1 eF.d2))
def eF:List C->Option (List C):=fun xs=>aU (apn 5 eF.d3 xs)
def p7:FS:=⟨2,⟨[(0,z2),(1,zt)],[]⟩,⟨[(0,zi)],[]⟩,[],eF⟩
theorem B9:FK 75 p7:=okO Tryz.f75 p7 (.seq .leaf (.seq .leaf (.seq (.seq .leaf (.block ⟨[(5,zi)],[]⟩ (.loop ⟨[(1,zt),(2,(.pt 2 0)),(5,zi),(6,zi)],[(2,z0)]⟩ .leaf))) .leaf))) [] .nil (by kernel_rfl) (by kernel_rfl) (fun xs=>by kernel_rfl)
def ax.d1 (a b c d e:C):R:=(bif (decide (a.I<(d.L.length:Int))) then (bif (decide (0<=a.I)) then (bif (decide (a.I<(d.L.length:Int))) then (ad (br [((d.L.getD a.I.toNat []).getD 0 .nil)]) fun f=>(bif (!(!f.B)) then (bif (decide (a.I>0)) then (bif (decide (0<=(w64 (a.I-1)))) then (bif (decide ((w64 (a.I-1))<(d.L.length:Int))) then (bif (!(!(Op.bytesLess (((d.L.getD (w64 (a.I-1)).toNat []).getD 0 .nil).S).toList (((d.L.getD a.I.toNat []).getD 0 .nil).S).toList))) then (ad (hD [((d.L.getD a.I.toNat []).getD 1 .nil),.i 0,.i 60]) fun g=>(bif (!g.B) then (some (.ret [.b false])) else (some (.again [.i (w64 (a.I+1)),b,c,d,e])))) else (some (.ret [.b false]))) else none) else none) else (ad (hD [((d.L.getD a.I.toNat []).getD 1 .nil),.i 0,.i 60]) fun h=>(bif (!h.B) then (some (.ret [.b false])) else (some (.again [.i (w64 (a.I+1)),b,c,d,e]))))) else (some (.ret [.b false])))) else none) else none) else (some (.brk 0 [b,c,d,e])))
def ax.d2 (a b c d e f:C):R:=(bif b.B then (some (.ret [.b false])) else (some (.again [.i (w64 (a.I+1)),c,d,e,f])))
def ax.d3 (a b c d e:C):R:=(bif (decide (a.I<(e.L.length:Int))) then (bif (decide (0<=a.I)) then (bif (decide (a.I<(e.L.length:Int))) then (aZ (ad (cf [((e.L.getD a.I.toNat []).getD 0 .nil),((e.L.getD a.I.toNat []).getD 1 .nil),((e.L.getD a.I.toNat []).getD 2 .nil),((e.L.getD a.I.toNat []).getD 3 .nil),((e.L.getD a.I.toNat []).getD 4 .nil),((e.L.getD a.I.toNat []).getD 5 .nil),((e.L.getD a.I.toNat []).getD 6 .nil),((e.L.getD a.I.toNat []).getD 7 .nil),((e.L.getD a.I.toNat []).getD 8 .nil),((e.L.getD a.I.toNat []).getD 9 .nil),((e.L.getD a.I.toNat []).getD 10 .nil),((e.L.getD a.I.toNat []).getD 11 .nil)]) fun f=>(bif (!(!f.B)) then (bif (decide (a.I>0)) then (bif (decide (0<=(w64 (a.I-1)))) then (bif (decide ((w64 (a.I-1))<(e.L.length:Int))) then (bif (!(!(Op.bytesLess (((e.L.getD (w64 (a.I-1)).toNat []).getD 0 .nil).S).toList (((e.L.getD a.I.toNat []).getD 0 .nil).S).toList))) then (ad (dp [b,c,d,e,((e.L.getD a.I.toNat []).getD 1 .nil)]) fun g=>(bif (!(decide (g.I<0))) then (bif (!((((e.L.getD a.I.toNat []).getD 11 .nil).S).toList==(bs #[]).toList)) then (ad (di [b,c,d,e,((e.L.getD a.I.toNat []).getD 11 .nil)]) fun h=>(some (.nrm [a,.b (decide (h.I<0)),b,c,d,e]))) else (some (.nrm [a,.b false,b,c,d,e]))) else (some (.nrm [a,.b true,b,c,d,e])))) else (some (.nrm [a,.b true,b,c,d,e]))) else none) else none) else (ad (dp [b,c,d,e,((e.L.getD a.I.toNat []).getD 1 .nil)]) fun i=>(bif (!(decide (i.I<0))) then (bif (!((((e.L.getD a.I.toNat []).getD 11 .nil).S).toList==(bs #[]).toList)) then (ad (di [b,c,d,e,((e.L.getD a.I.toNat []).getD 11 .nil)]) fun j=>(some (.nrm [a,.b (decide (j.I<0)),b,c,d,e]))) else (some (.nrm [a,.b false,b,c,d,e]))) else (some (.nrm [a,.b true,b,c,d,e]))))) else (some (.nrm [a,.b true,b,c,d,e])))) (apn 6 ax.d2)) else none) else none) else (some (.brk 2 [b,c,d,e])))
def ax.d4 (a b c d e:C):R:=(bif (decide (a.I<(c.L.length:Int))) then (bif (decide (0<=a.I)) then (bif (decide (a.I<(c.L.length:Int))) then (call2 (bO [b,c,d,e,((c.L.getD a.I.toNat []).getD 0 .nil)]) fun f g=>(ad (iP [((c.L.getD a.I.toNat []).getD 0 .nil),((c.L.getD a.I.toNat []).getD 1 .nil),((c.L.getD a.I.toNat []).getD 2 .nil),((c.L.getD a.I.toNat []).getD 3 .nil),((c.L.getD a.I.toNat []).getD 4 .nil),((c.L.getD a.I.toNat []).getD 5 .nil)]) fun h=>(bif (!(!h.B)) then (bif (decide (a.I>0)) then (bif (decide (0<=(w64 (a.I-1)))) then (bif (decide ((w64 (a.I-1))<(c.L.length:Int))) then (bif (!(!(Op.bytesLess (((c.L.getD (w64 (a.I-1)).toNat []).getD 0 .nil).S).toList (((c.L.getD a.I.toNat []).getD 0 .nil).S).toList))) then (bif (!(decide (f.I>((c.L.getD a.I.toNat []).getD 3 .nil).I))) then (bif (!(decide (g.I>((c.L.getD a.I.toNat []).getD 4 .nil).I))) then (ad (eF [b,c,d,e,((c.L.getD a.I.toNat []).getD 0 .nil)]) fun i=>(bif (decide (i.I>10)) then (some (.ret [.b false])) else (some (.again [.i (w64 (a.I+1)),b,c,d,e])))) else (some (.ret [.b false]))) else (some (.ret [.b false]))) else (some (.ret [.b false]))) else none) else none) else (bif (!(decide (f.I>((c.L.getD a.I.toNat []).getD 3 .nil).I))) then (bif (!(decide (g.I>((c.L.getD a.I.toNat []).getD 4 .nil).I))) then (ad (eF [b,c,d,e,((c.L.getD a.I.toNat []).getD 0 .nil)]) fun j=>(bif (decide (j.I>10)) then (some (.ret [.b false])) else (some (.again [.i (w64 (a.I+1)),b,c,d,e])))) else (some (.ret [.b false]))) else (some (.ret [.b false])))) else (some (.ret [.b false]))))) else none) else none) else (some (.brk 4 [])))
def ax.d5:R:=(some (.ret [.b true]))
def ax.d6 (a b c d:C):R:=(ah 4 (lim (apn 5 ax.d4) [.i 0,a,b,c,d]) (fun xs=>ax.d5))
def ax.d7 (a b c d:C):R:=(ah 2 (lim (apn 5 ax.d3) [.i 0,a,b,c,d]) (apn 4 ax.d6))
def ax.d8 (a b c d:C):R:=(bif (!(decide ((b.L.length:Int)>12))) then (bif (!(decide ((c.L.length:Int)>30))) then (bif (decide ((d.L.length:Int)>60)) then (some (.ret [.b false])) else (ah 0 (lim (apn 5 ax.d1) [.i 0,a,b,c,d]) (apn 4 ax.d7))) else (some (.ret [.b false]))) else (some (.ret [.b false])))
def ax:List C->Option (List C):=fun xs=>aU (apn 4 ax.d8 xs)
def eh:FS:=⟨1,⟨[(0,z2)],[]⟩,⟨[(0,zo)],[]⟩,[],ax⟩
theorem fj:FK 38 eh:=okO Tryz.f38 eh (.seq .leaf (.seq .leaf (.seq (.seq .leaf (.block ⟨[(1,(.pt 1 0))],[(1,z0)]⟩ (.loop ⟨[(1,(.pt 1 0)),(3,zi)],[(1,z0)]⟩ .leaf))) (.seq (.seq .leaf (.block ⟨[(1,(.pt 1 0))],[(1,z0)]⟩ (.loop ⟨[(1,(.pt 1 0)),(5,zi)],[(1,z0)]⟩ (.seq .leaf (.seq (.skip (.seq .leaf (.seq (.join ⟨[(1,(.pt 1 0)),(5,zi),(114,zo)],[(1,z0)]⟩ .leaf) .leaf))) .leaf))))) (.seq (.seq .leaf (.block ⟨[],[]⟩ (.loop ⟨[(1,(.pt 1 0)),(7,zi)],[(1,z0)]⟩ .leaf))) .leaf))))) [(37,some 111,gl),(69,some 41,cB),(70,some 62,fi),(71,some 78,ot),(72,some 100,nB),(73,some 131,nu),(74,some 135,ny),(75,some 169,p7)] (.cons iT (.cons dm (.cons fS (.cons Ah (.cons za (.cons xX (.cons yp (.cons B9 .nil)))))))) (by kernel_rfl) (by kernel_rfl) (fun xs=>by kernel_rfl)
def gS.d1 (a b c d e f:C):R:=(bif (decide (af.length+c.L.length<=4294967296)) then (some (.ret [a,b,d,e,f,.l (af++c.L)])) else none)
def gS:List C->Option (List C):=fun xs=>aU (apn 6 gS.d1 xs)
def kx:FS:=⟨1,⟨[(0,z10)],[]⟩,⟨[(0,(.ag [zt,zt,(.ow 3000),zi,zi,zo]))],[(3000,.arr 9 1)]⟩,[],gS⟩
theorem qU:FK 104 kx:=okO Tryz.f104 kx .leaf [] .nil (by kernel_rfl) (by kernel_rfl) (fun xs=>by kernel_rfl)
def iJ.d1 (a b c d e f g h i j k l:C):R:=(bif (decide (af.length+h.L.length<=4294967296)) then (some (.ret [a,b,c,d,e,f,g,i,j,k,l,.l (af++h.L)])) else none)
def iJ:List C->Option (List C):=fun xs=>aU (apn 12 iJ.d1 xs)
def lx:FS:=⟨1,⟨[(0,z5)],[]⟩,⟨[(0,(.ag [zt,zt,zi,zi,zi,zi,zt,(.ow 3000),zi,zt,zt,zt]))],[(3000,.arr 100 1)]⟩,[],iJ⟩
theorem sH:FK 105 lx:=okO Tryz.f105 lx .leaf [] .nil (by kernel_rfl) (by kernel_rfl) (fun xs=>by kernel_rfl)
def bP.d1 (a b c d e f g h i j k l m:C):R:=(bif (decide (a.I<(b.L.length:Int))) then (bif (decide (0<=a.I)) then (bif (decide (a.I<(b.L.length:Int))) then (call6 (gS [((b.L.getD a.I.toNat []).getD 0 .nil),((b.L.getD a.I.toNat []).getD 1 .nil),((b.L.getD a.I.toNat []).getD 2 .nil),((b.L.getD a.I.toNat []).getD 3 .nil),((b.L.getD a.I.toNat []).getD 4 .nil),((b.L.getD a.I.toNat []).getD 5 .nil)]) fun n o p q r s=>(bif (decide (k.L.length+(rows [[n,o,.l s.L,p,q,r]]).length<=4294967296)) then (some (.again [.i (w64 (a.I+1)),.l b.L,.l c.L,.l d.L,e,f,g,.l h.L,.l i.L,.l j.L,.l (k.L++(rows [[n,o,.l s.L,p,q,r]])),.l l.L,.l m.L])) else none)) else none) else none) else (some (.brk 0 [.l b.L,.l c.L,.l d.L,e,f,g,.l h.L,.l i.L,.l j.L,.l k.L,.l l.L,.l m.L])))
def bP.d2 (a b c d e f g h i j k l m:C):R:=(bif (decide (a.I<(d.L.length:Int))) then (bif (decide (0<=a.I)) then (bif (decide (a.I<(d.L.length:Int))) then (call12 (iJ [((d.L.getD a.I.toNat []).getD 0 .nil),((d.L.getD a.I.toNat []).getD 1 .nil),((d.L.getD a.I.toNat []).getD 2 .nil),((d.L.getD a.I.toNat []).getD 3 .nil),((d.L.getD a.I.toNat []).getD 4 .nil),((d.L.getD a.I.toNat []).getD 5 .nil),((d.L.getD a.I.toNat []).getD 6 .nil),((d.L.getD a.I.toNat []).getD 7 .nil),((d.L.getD a.I.toNat []).getD 8 .nil),((d.L.getD a.I.toNat []).getD 9 .nil),((d.L.getD a.I.toNat []).getD 10 .nil),((d.L.getD a.I.toNat []).getD 11 .nil)]) fun n o p q r s t u v w x y=>(bif (decide (m.L.length+(rows [[n,o,p,q,r,s,t,.l y.L,u,v,w,x]]).length<=4294967296)) then (some (.again [.i (w64 (a.I+1)),.l b.L,.l c.L,.l d.L,e,f,g,.l h.L,.l i.L,.l j.L,.l k.L,.l l.L,.l (m.L++(rows [[n,o,p,q,r,s,t,.l y.L,u,v,w,x]]))])) else none)) else none) else none) else (some (.brk 2 [.l b.L,.l c.L,.l d.L,f,g,.l h.L,.l i.L,.l j.L,.l k.L,.l l.L,.l m.L])))
def bP.d3 (a b c d e f g h i j k:C):R:=(some (.ret [e,.l a.L,.l b.L,.l c.L,.l i.L,.l j.L,.l k.L]))
def bP.d4 (a b c d e f g h i j k l:C):R:=(ah 2 (lim (apn 13 bP.d2) [.i 0,.l a.L,.l b.L,.l c.L,d,e,f,.l g.L,.l h.L,.l i.L,.l j.L,.l k.L,.l l.L]) (apn 11 bP.d3))
def bP.d5 (a b c d:C):R:=(bif (decide (af.length+c.L.length<=4294967296)) then (ah 0 (lim (apn 13 bP.d1) [.i 0,.l b.L,.l c.L,.l d.L,a,.b false,.b a.B,.l af,.l af,.l af,.l af,.l (af++c.L),.l af]) (apn 12 bP.d4)) else none)
def bP:List C->Option (List C):=fun xs=>aU (apn 4 bP.d5 xs)
def nH:FS:=⟨1,⟨[(0,(.ag [zo,(.ow 2000),(.ow 2001),(.ow 2002)]))],[(2000,.arr 72),(2001,.arr 40 1),(2002,.arr 38)]⟩,⟨[(0,(.ag [zo,(.ow 3003),(.ow 3004),(.ow 3005)]))],[(2000,.arr 72),(2001,.arr 40 1),(2002,.arr 38),(3003,.arr 72 1),(3004,.arr 40 1),(3005,.arr 38 1)]⟩,[2000,2001,2002],bP⟩
theorem zn:FK 76 nH:=okP [28,46] false Tryz.f76 nH (.seq .leaf (.seq .leaf (.seq (.seq .leaf (.block ⟨[(1,(.pt 1 0)),(2,(.pt 2 0)),(3,(.pt 3 0))],[(2000,.arr 72),(2001,.arr 40 1),(2002,.arr 38),(1,.var 27 [zo,(.ow 2000),(.ow 2001),(.ow 2002)]),(2,z11),(3,z12),(1164200,.arr 72 1),(1164201,.arr 40 1),(1164202,.arr 38 1),(1164203,.arr 72 1),(8,.arr 40 1),(1164204,.arr 38 1)]⟩ (.loop ⟨[(1,(.pt 1 0)),(2,(.pt 2 0)),(3,(.pt 3 0)),(4,zi)],[(2000,.arr 72),(2001,.arr 40 1),(2002,.arr 38),(1,.var 27 [zo,(.ow 2000),(.ow 2001),(.ow 2002)]),(2,z11),(3,z12),(1164200,.arr 72 1),(1164201,.arr 40 1),(1164202,.arr 38 1),(1164203,.arr 72 1),(8,.arr 40 1),(1164204,.arr 38 1)]⟩ .leaf))) (.seq (.seq .leaf (.block ⟨[(2,(.pt 2 0)),(3,(.pt 3 0))],[(2000,.arr 72),(2001,.arr 40 1),(2002,.arr 38),(2,z11),(3,z12),(1164200,.arr 72 1),(1164201,.arr 40 1),(1164202,.arr 38 1),(1164203,.arr 72 1),(8,.arr 40 1),(1164204,.arr 38 1)]⟩ (.loop ⟨[(1,(.pt 1 0)),(2,(.pt 2 0)),(3,(.pt 3 0)),(5,zi)],[(2000,.arr 72),(2001,.arr 40 1),(2002,.arr 38),(1,.var 27 [zo,(.ow 2000),(.ow 2001),(.ow 2002)]),(2,z11),(3,z12),(1164200,.arr 72 1),(1164201,.arr 40 1),(1164202,.arr 38 1),(1164203,.arr 72 1),(8,.arr 40 1),(1164204,.arr 38 1)]⟩ .leaf))) .leaf)))) [(104,some 27,kx),(105,some 45,lx)] (.cons qU (.cons sH .nil)) (by kernel_rfl) (by kernel_rfl) (fun xs=>by kernel_rfl)
def kj.d1 (a b c d e f:C):R:=(bif (decide (af.length+f.L.length<=4294967296)) then (some (.ret [a,b,c,d,e,.l f.L,.l (af++f.L)])) else none)
def kj:List C->Option (List C):=fun xs=>aU (apn 6 kj.d1 xs)
def km:FS:=⟨1,⟨[(0,(.ag [zt,zt,(.ow 2000),zi,zi,zo]))],[(2000,.arr 9 1)]⟩,⟨[(0,(.ag [zt,zt,(.ow 3001),zi,zi,zo]))],[(2000,.arr 9 1),(3001,.arr 9 1)]⟩,[2000],kj⟩
theorem u6:FK 104 km:=okO Tryz.f104 km .leaf [] .nil (by kernel_rfl) (by kernel_rfl) (fun xs=>by kernel_rfl)
def gF.d1 (a b c d e f g h i j k l:C):R:=(bif (decide (af.length+l.L.length<=4294967296)) then (some (.ret [a,b,c,d,e,f,g,h,i,j,k,.l l.L,.l (af++l.L)])) else none)
def gF:List C->Option (List C):=fun xs=>aU (apn 12 gF.d1 xs)
def kT:FS:=⟨1,⟨[(0,(.ag [zt,zt,zi,zi,zi,zi,zt,(.ow 2000),zi,zt,zt,zt]))],[(2000,.arr 100 1)]⟩,⟨[(0,(.ag [zt,zt,zi,zi,zi,zi,zt,(.ow 3001),zi,zt,zt,zt]))],[(2000,.arr 100 1),(3001,.arr 100 1)]⟩,[2000],gF⟩
theorem wA:FK 105 kT:=okO Tryz.f105 kT .leaf [] .nil (by kernel_rfl) (by kernel_rfl) (fun xs=>by kernel_rfl)
def dx.d1 (a b c d e f:C):R:=(bif (decide (b.I<(f.L.length:Int))) then (bif (decide (0<=b.I)) then (bif (decide (b.I<(f.L.length:Int))) then (bif ((((f.L.getD b.I.toNat []).getD 0 .nil).S).toList==a.S.toList) then (some (.ret [b])) else (some (.again [a,.i (w64 (b.I+1)),c,d,e,f]))) else none) else none) else (some (.brk 0 [])))
def dx.d2:R:=(some (.ret [.i (-1)]))
def dx.d3 (a b c d e:C):R:=(ah 0 (lim (apn 6 dx.d1) [e,.i 0,a,b,c,d]) (fun xs=>dx.d2))
def dx:List C->Option (List C):=fun xs=>aU (apn 5 dx.d3 xs)
def eK:FS:=⟨2,⟨[(0,z2),(1,zt)],[]⟩,⟨[(0,zi)],[]⟩,[],dx⟩
theorem fC:FK 36 eK:=okO Tryz.f36 eK (.seq .leaf (.seq (.seq .leaf (.block ⟨[],[]⟩ (.loop ⟨[(1,zt),(2,(.pt 2 0)),(5,zi)],[(2,z0)]⟩ .leaf))) .leaf)) [] .nil (by kernel_rfl) (by kernel_rfl) (fun xs=>by kernel_rfl)
end
end Go.Ev
