/- Proved here: the law FnPilotSpareCard of the given program answers true at every input, and leaves the input as it was; no condition. This text: lemmas on the way (an evaluator of the program's code, sound once for all; the functions it prints; plain proofs on these). -/
import Derived.Test.YtephnkjnbnjicaaGreatDoorP1
import Derived.LoopN
import Derived.ScopeJumps
import Derived.ChangeArms
import Derived.WalkKit
import Derived.ProofKit
import Derived.OpenShut
import Derived.ShutString
import Derived.ChangeOld
import Derived.Below
import Derived.SizedLaws
import Derived.Test.YtephnkjnbnjicaaGreatDoorChecked
import Derived.Lib.Strings
import Derived.Lib.Slices
import Derived.Lib.Walk
import Derived.Lib.Bytealg
import Derived.Sort.Grow
import Derived.Sort.Row
import Derived.Shelf.SlSortCmp.InsertionK
import Derived.Deep.Draws
set_option linter.all false
set_option autoImplicit false
namespace Go.Ev
theorem kQ {ρ ρ':cj}:∀ {l:List Operand},(∀x,x∈l→bV ρ x=bV ρ' x)→iP ρ l=iP ρ' l
 |[],_=>rfl
 |x::r,h=>by
  show bV ρ x::iP ρ r=bV ρ' x::iP ρ' r
  rw[h x (List.mem_cons_self ..),kQ fun y hy=>h y (List.mem_cons_of_mem _ hy)]
theorem vf {T:Tys} {fs:List (Nat×TypeId)} {ρ ρ':cj}:∀ {ps:List (Nat×Operand)} {cs:List V},(∀x,x∈ps.map (·.2)→bV ρ x=bV ρ' x)→vh T fs ρ ps cs=vh T fs ρ' ps cs
 |[],cs,_=>rfl
 |(i,x)::r,cs,h=>by
  have e:=h x (by simp)
  simp only[vh,e]
  split
  ·split
   ·rw[vf fun y hy=>h y (by simp at hy⊢;exact .inr hy)]
   ·rfl
  ·rfl
theorem uZ {ρ ρ':cj}:∀ {ps:List (Nat×Operand)},(∀x,x∈ps.map (·.2)→bV ρ x=bV ρ' x)→uV ρ ps=uV ρ' ps
 |[],h=>rfl
 |(i,x)::r,h=>by
  simp only[uV]
  rw[h x (by simp),uZ fun y hy=>h y (by simp at hy⊢;exact .inr hy)]
theorem C8 (K:List KE) {ρ ρ':cj} {x:Operand} (h:bV ρ x=bV ρ' x):bV (sq K ρ) x=bV (sq K ρ') x:=by
 cases x with
 |tmp d=>
  show sq K ρ d=sq K ρ' d
  rw[qJ,qJ]
  exact congrArg _ h
 |const v=>rfl
 |func f=>rfl
 |global g=>rfl
theorem vz {cts:List CT} {ρ ρ':cj}:∀ {ps:List (Nat×Operand)} {es:List (List C)},(∀x,x∈ps.map (·.2)→bV ρ x=bV ρ' x)→rp cts ρ ps es=rp cts ρ' ps es
 |[],es,_=>rfl
 |(i,x)::r,es,h=>by
  have e:=h x (by simp)
  simp only[rp,e]
  split
  ·rw[vz fun y hy=>h y (by simp at hy⊢;exact .inr hy)]
  ·rfl
theorem AM (X:Cx) (dst:Option Tmp) {ρ ρ':cj} (op:Op) (h:∀x,x∈op.operands.toList→bV ρ x=bV ρ' x):evalOp X dst ρ op=evalOp X dst ρ' op:=by
 cases op with
 |pick c a b=>
  simp only[Op.operands] at h
  simp only[evalOp]
  rw[h c (by simp),h a (by simp),h b (by simp)]
 |build t ps=>
  simp only[Op.operands] at h
  simp only[evalOp,tY]
  congr 1;funext d
  split
  ·congr 1;funext _
   rw[vf fun x hx=>h x (by simpa using hx)]
  ·rfl
 |buildSlice t n ps=>
  simp only[Op.operands] at h
  simp only[evalOp,jc]
  congr 1;funext d
  congr 1;funext d
  rw[uZ fun x hx=>h x (by simpa using hx)]
  congr 1;funext q
  congr 1;funext K
  rw[vz fun x hx=>C8 K (h x (by simpa using hx))]
 |makeFunc fn first caps=>
  simp only[Op.operands] at h
  cases fn with
  |func f=>
   simp only[evalOp]
   rw[kQ fun x hx=>h x (by simp at hx⊢;exact .inr hx)]
  |_=>rfl
 |slice t x lo hi mx=>
  simp only[Op.operands] at h
  simp only[evalOp]
  have e1:=h x (by simp)
  have e2:xG ρ lo=xG ρ' lo:=by
   cases lo with
   |none=>rfl
   |some y=>show some _=some _;rw[h y (by simp)]
  have e3:xG ρ hi=xG ρ' hi:=by
   cases hi with
   |none=>rfl
   |some y=>show some _=some _;rw[h y (by simp)]
  rw[e1,e2,e3]
 |call c=>
  obtain ⟨callee,args,argTypes⟩:=c
  simp only[Op.operands,Call.operands] at h
  cases callee with
  |value f=>
   simp only[evalOp,kX]
   rw[h f (by simp),kQ (l:=args.toList) fun x hx=>h x (by simp at hx⊢;exact .inr hx)]
  |invoke _ _=>rfl
  |builtin b=>
   have ha:∀x,x∈args.toList→bV ρ x=bV ρ' x:=fun x hx=>h x (by simpa using hx)
   simp only[evalOp,kX]
   cases b with
   |len=>
    simp only
    rcases hx:args.toList with _|⟨x,_|⟨y,l⟩⟩
    ·rfl
    ·have e1:=ha x (by simp[hx])
     rcases argTypes.toList with _|⟨t,_|⟨t',l'⟩⟩
     ·rfl
     ·show C3 X.T t (bV ρ x)=C3 X.T t (bV ρ' x)
      rw[e1]
     ·rfl
    ·rfl
   |clear=>
    simp only
    rcases hx:args.toList with _|⟨x,_|⟨y,l⟩⟩
    ·rfl
    ·have e1:=ha x (by simp[hx])
     rcases argTypes.toList with _|⟨t,_|⟨t',l'⟩⟩
     ·rfl
     ·show uM X.T t (bV ρ x)=uM X.T t (bV ρ' x)
      rw[e1]
     ·rfl
    ·rfl
   |append=>
    simp only
    rcases hx:args.toList with _|⟨x,_|⟨y,_|⟨z,l⟩⟩⟩
    ·rfl
    ·rfl
    ·have e1:=ha x (by simp[hx])
     have e2:=ha y (by simp[hx])
     rcases argTypes.toList with _|⟨t,_|⟨t',_|⟨t'',l'⟩⟩⟩
     ·rfl
     ·rfl
     ·show (do ba (Nat.beq t t');CY X t (l7 dst) (bV ρ x) (bV ρ y):M Eff)=(do ba (Nat.beq t t');CY X t (l7 dst) (bV ρ' x) (bV ρ' y):M Eff)
      rw[e1,e2]
     ·rfl
    ·rfl
   |min=>simp only;rw[kQ ha]
   |max=>simp only;rw[kQ ha]
   |_=>rfl
 |unOp op t x=>
  simp only[Op.operands] at h
  simp only[evalOp]
  rw[h x (by simp)]
 |extract x i=>
  simp only[Op.operands] at h
  simp only[evalOp]
  rw[h x (by simp)]
 |alloc t=>rfl
 |box t x=>simp only[Op.operands] at h;simp only[evalOp];rw[h x (by simp)]
 |move x=>simp only[Op.operands] at h;simp only[evalOp];rw[h x (by simp)]
 |assign x=>simp only[Op.operands] at h;simp only[evalOp];rw[h x (by simp)]
 |load t x=>simp only[Op.operands] at h;simp only[evalOp];rw[h x (by simp)]
 |store t x y=>simp only[Op.operands] at h;simp only[evalOp];rw[h x (by simp),h y (by simp)]
 |nilCheck x=>simp only[Op.operands] at h;simp only[evalOp];rw[h x (by simp)]
 |binOp op t x y e=>simp only[Op.operands] at h;simp only[evalOp];rw[h x (by simp),h y (by simp)]
 |convert s d x=>simp only[Op.operands] at h;simp only[evalOp];rw[h x (by simp)]
 |makeSlice t x y=>simp only[Op.operands] at h;simp only[evalOp];rw[h x (by simp),h y (by simp)]
 |fieldAddr s x f=>simp only[Op.operands] at h;simp only[evalOp];rw[h x (by simp)]
 |field s x f=>simp only[Op.operands] at h;simp only[evalOp];rw[h x (by simp)]
 |indexAddr t x y=>simp only[Op.operands] at h;simp only[evalOp];rw[h x (by simp),h y (by simp)]
 |index t x y=>simp only[Op.operands] at h;simp only[evalOp];rw[h x (by simp),h y (by simp)]
 |makeMap t c=>cases c<;>rfl
 |lookup t x y ok=>simp only[Op.operands] at h;simp only[evalOp];rw[h x (by simp),h y (by simp)]
 |mapUpdate t x y z=>simp only[Op.operands] at h;simp only[evalOp];rw[h x (by simp),h y (by simp),h z (by simp)]
 |_=>rfl
theorem AR (X:Cx) (dst:Option Tmp) (ρ:cj) (c:Call):Loc (kX X dst ρ c):=by
 unfold kX
 split
 ·split
  ·exact Ik _ _ _
  ·exact Loc.fail
 ·split
  ·exact Loc.bind (Loc.ba _) fun _=>IJ _ _ _ _ _
  ·exact Loc.fail
 ·split
  ·unfold uM
   refine Loc.bind (Loc.opt _) fun _=>Loc.bind (Loc.opt _) fun _=>?_
   split
   ·refine Loc.bind (Loc.bP _) fun _=>?_
    split
    ·exact Loc.bind (Loc.ba _) fun _=>Loc.ret _
    ·exact Loc.fail
   ·exact Loc.fail
  ·exact Loc.fail
 ·split
  ·exact DH _ _ _
  ·exact Loc.fail
 ·split
  ·exact DH _ _ _
  ·exact Loc.fail
 ·split
  ·exact Loc.bind (Loc.opt _) fun _=>Ff _ _ _ _ _
  ·exact Loc.fail
 ·exact Loc.fail
theorem wU (X:Cx) (dst:Option Tmp) (ρ:cj) (op:Op):Loc (evalOp X dst ρ op):=by
 cases op with
 |pick c a b=>
  simp only[evalOp]
  split
  ·exact Gf _ _ _
  ·exact Loc.fail
 |build t ps=>exact Fv _ _ _ _
 |buildSlice t n ps=>exact yo _ _ _ _ _ _
 |load t x=>exact Loc.bind (zp _ _) fun _=>JD _ _ _
 |store t x y=>exact Iy _ _ _ _
 |nilCheck x=>exact Au _ _
 |binOp op t x y e=>
  simp only[evalOp]
  unfold FY
  split
  ·unfold Ib
   refine Loc.bind (Loc.ba _) fun _=>Loc.bind (Loc.opt _) fun _=>Loc.bind (Loc.opt _) fun _=>?_
   split
   ·exact Loc.rv _
   ·exact Loc.rv _
   ·exact Loc.fail
  ·exact HM _ _ _ _ _
 |unOp op t x=>simp only[evalOp];repeat (first|exact Loc.rv _|exact Loc.ret _|exact Loc.fail|exact Loc.opt _|exact Loc.chk _|exact Loc.ba _|exact Loc.bP _|exact Loc.dm _|exact Loc.pure _|refine Loc.bind ?_ (fun _=>?_)|split)
 |convert s d x=>exact G5 _ _ _ _
 |makeFunc fn first caps=>cases fn<;>first|exact Loc.fail|exact Loc.bind (Loc.ba _) fun _=>Loc.rv _
 |makeSlice t x y=>exact Gy _ _ _ _ _
 |slice t x lo hi mx=>exact Loc.bind (Loc.ba _) fun _=>FL _ _ _ _ _
 |fieldAddr s x f=>exact Loc.bind (zp _ _) fun _=>yI _ _ _ _
 |field s x f=>exact FD _ _ _ _
 |indexAddr t x y=>exact yJ _ _ _ _
 |index t x y=>exact FF _ _ _ _
 |makeMap t c=>
  cases c with
  |some c=>exact Loc.fail
  |none=>exact Loc.bind (Loc.opt _) fun _=>Loc.bind (Loc.opt _) fun _=>Loc.bind (Loc.opt _) fun _=>Loc.bind (Loc.dm _) fun _=>Loc.ret _
 |lookup t x y ok=>
  simp only[evalOp]
  unfold vT
  split
  ·refine Loc.bind (Loc.opt _) fun _=>Loc.bind (Loc.opt _) fun _=>Loc.bind (Loc.opt _) fun _=>Loc.bind (Loc.bP _) fun _=>?_
   split
   ·exact Loc.bind (Loc.ba _) fun _=>Loc.rv _
   ·exact Loc.fail
  ·exact Loc.fail
 |mapUpdate t x y z=>
  simp only[evalOp]
  unfold oT
  split
  ·refine Loc.bind (Loc.opt _) fun _=>Loc.bind (Loc.opt _) fun _=>Loc.bind (Loc.opt _) fun _=>Loc.bind (Loc.bP _) fun _=>?_
   split
   ·exact Loc.bind (Loc.ba _) fun _=>Loc.ret _
   ·exact Loc.fail
  ·exact Loc.fail
 |extract x i=>
  simp only[evalOp]
  split
  ·exact Loc.bind (Loc.opt _) fun _=>Loc.rv _
  ·exact Loc.fail
 |call c=>exact AR _ _ _ _
 |alloc t=>exact Loc.bind (Loc.opt _) fun _=>Loc.bind (Loc.dm _) fun _=>Loc.ret _
 |box t x=>exact Loc.bind (Loc.opt _) fun _=>Loc.bind (Loc.dm _) fun _=>Loc.bind (Loc.ba _) fun _=>Loc.bind (Loc.ba _) fun _=>Loc.ret _
 |move x=>exact Loc.rv _
 |assign x=>exact Loc.rv _
 |_=>exact Loc.fail
end Go.Ev
namespace Go.Ev
inductive nR (X:Cx) (ops:List Oper) (o:Oper) (σ:St) (v:V) (up:List (Nat×Box)) (lg:Lg):Prop
 |plain (e:Eff) (rd:List Nat) (hg:guardOf ops o=none) (h:∀k,evalOp X o.dst σ.sl o.op σ.bx k=k e rd) (hv:v=nY e.v) (hu:up=e.up) (hl:lg=⟨rd,bW e.up⟩)
 |yes (gd:Nat) (want:Bool) (e:Eff) (rd:List Nat) (hg:guardOf ops o=some (some gd,want)) (hs:σ.sl gd=.c .bool (.b want)) (h:∀k,evalOp X o.dst σ.sl o.op σ.bx k=k e rd) (hv:v=nY e.v) (hu:up=e.up) (hl:lg=⟨rd,bW e.up⟩)
 |no (gd:Nat) (want:Bool) (hg:guardOf ops o=some (some gd,want)) (hs:σ.sl gd=.c .bool (.b (!want))∨σ.sl gd=.ud) (hv:v=.ud) (hu:up=[]) (hl:lg=⟨[],[]⟩)
def St.step (σ:St) (o:Oper) (v:V) (up:List (Nat×Box)):St:=⟨sS σ.sl o.dst v,dH σ.bx up⟩
theorem xn {X:Cx} {dst:Option Tmp} {ρ:cj} {op:Op} {bx:Bxs} {k:Eff→List Nat→R} {r:Out} (h:evalOp X dst ρ op bx k=some r):
  ∃e rd,k e rd=some r∧∀k',evalOp X dst ρ op bx k'=k' e rd:=by
 obtain ⟨e,rd,h1,h2⟩:=wU X dst ρ op bx k r h
 exact ⟨e,rd,h1,fun k'=>h2 bx (fun _ _=>rfl) k'⟩
theorem nR.wr {X:Cx} {ops:List Oper} {o:Oper} {σ:St} {v:V} {up:List (Nat×Box)} {lg:Lg} (h:nR X ops o σ v up lg):lg.wr=bW up:=by
 cases h with
 |plain e rd hg h hv hu hl=>rw[hl,hu]
 |yes gd want e rd hg hs h hv hu hl=>rw[hl,hu]
 |no gd want hg hs hv hu hl=>rw[hl,hu];rfl
theorem Ba {l:List Operand} {t:Nat} (h:Operand.tmp t∈l):t∈pW l:=by
 induction l with
 |nil=>simp at h
 |cons x r ih=>
  cases h with
  |head=>exact List.mem_cons_self ..
  |tail _ h=>
   have:=ih h
   cases x<;>simp only[pW]<;>first|exact List.mem_cons_of_mem _ this|exact this
theorem nR.at {X:Cx} {ops:List Oper} {o:Oper} {σ σ2:St} {v:V} {up:List (Nat×Box)} {lg:Lg} (h:nR X ops o σ v up lg) (hs:∀d,d∈looks ops o→σ2.sl d=σ.sl d) (hb:∀b,b∈lg.rd→σ2.bx b=σ.bx b):
  nR X ops o σ2 v up lg:=by
 have hev:∀(e:Eff) (rd:List Nat),lg=⟨rd,bW e.up⟩→(∀k,evalOp X o.dst σ.sl o.op σ.bx k=k e rd)→∀k,evalOp X o.dst σ2.sl o.op σ2.bx k=k e rd:=by
  intro e rd hl h k
  have hc:evalOp X o.dst σ2.sl o.op=evalOp X o.dst σ.sl o.op:=AM X o.dst o.op fun x hx=>by
   cases x with
   |tmp t=>exact hs t (by unfold looks;rw[fI];exact List.mem_append_left _ (Ba hx))
   |_=>rfl
  rw[hc]
  have h1:=h fun e' rd'=>some (.ret [])
  obtain ⟨e2,rd2,g1,g2⟩:=wU X o.dst σ.sl o.op σ.bx _ _ h1
  have h3:∀k:Eff→List Nat→R,k e rd=k e2 rd2:=fun k=>by rw[←h k,g2 σ.bx (fun _ _=>rfl) k]
  have hbx:∀b,b∈rd2→σ2.bx b=σ.bx b:=by
   have key:rd=rd2:=by
    open Classical in
    have:=h3 fun _ l=>if l=rd2 then some (.ret []) else none
    simp only[if_true] at this
    by_cases hh:rd=rd2
    ·exact hh
    ·rw[if_neg hh] at this;simp at this
   intro b hb'
   rw[←key] at hb'
   exact hb b (by rw[hl];exact hb')
  rw[g2 σ2.bx hbx k,h3 k]
 have hgd:∀gd want,guardOf ops o=some (some gd,want)→σ2.sl gd=σ.sl gd:=fun gd want hg=>hs gd (by unfold looks;rw[hg,fI];exact List.mem_append_right _ (List.mem_cons_self ..))
 cases h with
 |plain e rd hg h hv hu hl=>exact .plain e rd hg (hev e rd hl h) hv hu hl
 |yes gd want e rd hg hs' h hv hu hl=>exact .yes gd want e rd hg (by rw[hgd gd want hg];exact hs') (hev e rd hl h) hv hu hl
 |no gd want hg hs' hv hu hl=>exact .no gd want hg (by rw[hgd gd want hg];exact hs') hv hu hl
theorem pV {a b:List Nat} (h:meets a b=false):∀x,x∈a→¬x∈b:=by
 induction a with
 |nil=>intro x hx;simp at hx
 |cons y r ih=>
  simp only[meets,km,Bool.or_eq_false_iff] at h
  intro x hx hb
  rcases List.mem_cons.1 hx with rfl|hx
  ·rw[(cM _ _).2 hb] at h;simp at h
  ·exact ih h.2 x hx hb
theorem AW {f:cj} {d:Option Tmp} {v:V} {k:Nat} (h:d≠some k):sS f d v k=f k:=by
 cases d with
 |none=>rfl
 |some d=>exact aW _ _ (fun e=>h (by rw[e]))
theorem EW {f:cj} {d d':Option Tmp} {v v':V} (h:∀k,d=some k→d'≠some k):sS (sS f d v) d' v'=sS (sS f d' v') d v:=by
 funext k
 cases d with
 |none=>rfl
 |some d=>cases d' with
  |none=>rfl
  |some d'=>
   have hne:d≠d':=fun e=>h d rfl (by rw[e])
   show upd (upd f d v) d' v' k=upd (upd f d' v') d v k
   simp only[qY]
   split
   ·rename_i e;subst e;rw[if_neg (Ne.symm hne)]
   ·rfl
theorem BT:∀ {l:List (Nat×Box)} {f f':Bxs} {b:Nat},f b=f' b→dH f l b=dH f' l b
 |[],f,f',b,h=>h
 |(c,x)::r,f,f',b,h=>by
  show dH (upd f c (some x)) r b=dH (upd f' c (some x)) r b
  refine BT ?_
  simp only[qY]
  split<;>first|rfl|exact h
theorem tL:∀ {l:List (Nat×Box)} {f f':Bxs} {b:Nat},b∈bW l→dH f l b=dH f' l b
 |[],f,f',b,h=>by simp[bW] at h
 |(c,x)::r,f,f',b,h=>by
  show dH (upd f c (some x)) r b=dH (upd f' c (some x)) r b
  by_cases hb:b∈bW r
  ·exact tL hb
  ·have:b=c:=by
    simp only[bW,List.mem_cons] at h
    exact h.resolve_right hb
   subst this
   exact BT (by simp only[aq])
theorem Fh {f:Bxs} {l m:List (Nat×Box)} (h:∀b,b∈bW l→¬b∈bW m):dH (dH f l) m=dH (dH f m) l:=by
 funext b
 by_cases h1:b∈bW l
 ·rw[gL (h b h1)]
  exact tL h1
 ·by_cases h2:b∈bW m
  ·rw[gL (l:=l) h1]
   exact tL h2
  ·rw[gL h2,gL h1,gL h1,gL h2]
theorem BM {ops:List Oper} {x y:Oper} (h:oY ops x y=true):(∀d,x.dst=some d→¬d∈looks ops y)∧(∀d,x.dst=some d→y.dst≠some d)∧∀d,y.dst=some d→¬d∈looks ops x:=by
 have nm:∀ {l:List Nat} {d:Nat},dT (cX l d)=true→¬d∈l:=fun h hm=>by rw[(cM _ _).2 hm] at h;simp[dT] at h
 unfold oY at h
 simp only[ao,Bool.and_eq_true] at h
 refine ⟨fun d hd=>?_,fun d hd=>?_,fun d hd=>?_⟩
 ·have h1:=h.1
  rw[hd] at h1
  simp only[Bool.and_eq_true] at h1
  exact nm h1.1
 ·have h1:=h.1
  rw[hd] at h1
  simp only[Bool.and_eq_true] at h1
  intro hy
  have h2:=h1.2
  rw[hy] at h2
  simp only[Nat.beq_refl,dT] at h2
  simp at h2
 ·have h1:=h.2
  rw[hd] at h1
  exact nm h1
theorem swap {X:Cx} {ops:List Oper} {q o:Oper} {σ:St} {vq vo:V} {uq uo:List (Nat×Box)} {h g:Lg} (h1:nR X ops q σ vq uq h) (h2:nR X ops o (σ.step q vq uq) vo uo g) (ha:oY ops q o=true) (hc:Lg.uS h g=false):
  nR X ops o σ vo uo g∧nR X ops q (σ.step o vo uo) vq uq h∧(σ.step o vo uo).step q vq uq=(σ.step q vq uq).step o vo uo:=by
 obtain ⟨a1,a2,a3⟩:=BM ha
 simp only[Lg.uS,km,Bool.or_eq_false_iff] at hc
 obtain ⟨c1,c2,c3⟩:=hc
 have c1:=pV c1
 have c2:=pV c2
 have c3:=pV c3
 rw[h1.wr] at c1 c2
 rw[h2.wr] at c2 c3
 refine ⟨h2.at (fun d hd=>?_) (fun b hb=>?_),h1.at (fun d hd=>?_) (fun b hb=>?_),?_⟩
 ·exact (AW (fun e=>a1 d e hd)).symm
 ·exact (gL (fun e=>c1 b e hb)).symm
 ·exact AW (fun e=>a3 d e hd)
 ·exact gL (fun e=>c3 b e hb)
 ·unfold St.step
  rw[EW a2,Fh c2]
inductive u0 (X:Cx) (ops:List Oper):St→List (Nat×Oper×Lg)→St→Prop
 |nil (σ:St):u0 X ops σ [] σ
 |cons {σ σ':St} {i:Nat} {o:Oper} {lg:Lg} {v:V} {up:List (Nat×Box)} {L:List (Nat×Oper×Lg)} (hd:y0 X.n o.dst=true) (h:nR X ops o σ v up lg) (hr:u0 X ops (σ.step o v up) L σ'):u0 X ops σ ((i,o,lg)::L) σ'
theorem G9 {X:Cx} {ops:List Oper} {i:Nat} {o:Oper} {g:Lg} {post:List (Nat×Oper×Lg)} {σ':St}:∀(pre:List (Nat×Oper×Lg)) (σ:St),u0 X ops σ (pre++(i,o,g)::post) σ'→
  (∀j q h,(j,q,h)∈pre→oY ops q o=true∧Lg.uS h g=false)→u0 X ops σ ((i,o,g)::(pre++post)) σ'
 |[],σ,hc,_=>hc
 |(j,q,h)::pre,σ,hc,ha=>by
  cases hc with
  |cons hd hs hr=>
   have hb:=G9 pre _ hr fun j q h hm=>ha j q h (List.mem_cons_of_mem _ hm)
   obtain ⟨x1,x2⟩:=ha j q h (List.mem_cons_self ..)
   cases hb with
   |cons hd2 hs2 hr2=>
    obtain ⟨s1,s2,s3⟩:=swap hs hs2 x1 x2
    refine .cons hd2 s1 (.cons hd s2 ?_)
    rw[s3]
    exact hr2
end Go.Ev
namespace Go.Ev
theorem yX {ops:List Oper} {an:List Nat} {o:Oper} {g:Lg}:∀ {l:List (Oper×Lg)} {j0:Nat},mK ops an o g l j0=true→∀(j:Nat) (q:Oper) (h:Lg),l[j]?=some (q,h)→cX an (j0+j)=true∨(oY ops q o=true∧Lg.uS h g=false)
 |[],j0,_,j,q,h,hj=>by simp at hj
 |(q',h')::r,j0,hl,j,q,h,hj=>by
  simp only[mK,ao,km,cV,Bool.and_eq_true,Bool.or_eq_true,Bool.not_eq_true'] at hl
  cases j with
  |zero=>simp at hj;obtain ⟨rfl,rfl⟩:=hj;exact hl.1
  |succ j=>
   have:=yX hl.2 j q h (by simpa using hj)
   rw[show j0+(j+1)=j0+1+j from by omega]
   exact this
def Am (n:Nat) (ops:List Oper) (σ:St):Prop:=∀j q d x,j<n→ops[j]?=some q→q.dst=some d→σ.sl d=.c .bool x→∃v,x=.b v
theorem AV {v:V} {x:C} (h:nY v=.c .bool x):∃b,x=.b b:=by
 cases v with
 |c t y=>cases t with
  |bool=>
   simp only[nY,V.c.injEq,true_and] at h
   exact ⟨_,h.symm⟩
  |_=>simp[nY] at h
 |_=>simp[nY] at h
theorem Am.step {n:Nat} {ops:List Oper} {σ:St} {o:Oper} {v:V} {up:List (Nat×Box)} (h:Am n ops σ) (ho:ops[n]?=some o) (hv:∀x,v=.c .bool x→∃b,x=.b b):Am (n+1) ops (σ.step o v up):=by
 intro j q d x hj hq hd hx
 by_cases he:o.dst=some d
 ·have:(σ.step o v up).sl d=v:=by show sS σ.sl o.dst v d=v;rw[he];exact aq _ _ _
  rw[this] at hx
  exact hv x hx
 ·have:(σ.step o v up).sl d=σ.sl d:=AW he
  rw[this] at hx
  have hjn:j≠n:=by
   rintro rfl
   rw[ho] at hq
   obtain rfl:=Option.some.inj hq
   exact he hd
  exact h j q d x (by omega) hq hd hx
theorem BL {f:cj} {d:Nat} {v:V} (h:f d=v):upd f d v=f:=by
 funext k
 rw[qY]
 split
 ·rename_i e;rw[e,h]
 ·rfl
structure Run (X:Cx) (draw:Bool) (ops:List Oper) (an:List (List Nat)) (κ:St→R) (r:Out) (rem:List Oper) (lg:List (Oper×Lg)) (σ:St):Prop where
 ex:∃(L:List (Nat×Oper×Lg)) (σ':St),u0 X ops σ L σ'∧κ σ'=some r∧L.map (fun p=>(p.1,p.2.1))=(rem.zipIdx lg.length).map (fun p=>(p.2,p.1))∧
  (draw=true→∀(p:Nat) (i:Nat) (o:Oper) (g:Lg),L[p]?=some (i,o,g)→∀(j:Nat) (q:Oper) (h:Lg),(lg++L.map (·.2))[j]?=some (q,h)→j<lg.length+p→cX (nth [] an i) j=true∨(oY ops q o=true∧Lg.uS h g=false))
theorem ss {X:Cx} {draw:Bool} {ops:List Oper} {an:List (List Nat)} {κ:St→R} {r:Out}:∀(rem:List Oper) (lg:List (Oper×Lg)) (σ:St),(∀(i:Nat) (o:Oper),rem[i]?=some o→ops[lg.length+i]?=some o)→Am lg.length ops σ→
  jU X draw ops an κ rem lg σ=some r→Run X draw ops an κ r rem lg σ
 |[],lg,σ,_,_,h=>⟨[],σ,.nil σ,h,rfl,fun _ p i o g hp=>by simp at hp⟩
 |o::rem,lg,σ,hrem,hpr,h=>by
  have ho:ops[lg.length]?=some o:=hrem 0 o rfl
  cases hd:az (y0 X.n o.dst) (Ao (len lg) o) with
  |false=>
   simp only[jU,hd,sif] at h
   simp at h
  |true=>
  have hd':=hd
  simp only[ao,Bool.and_eq_true,dw] at hd'
  have key:∀(v:V) (up:List (Nat×Box)) (g:Lg),nR X ops o σ v up g→(∀x,v=.c .bool x→∃b,x=.b b)→orS (dT draw) (mK ops (nth [] an (len lg)) o g lg 0)=true→
    jU X draw ops an κ rem (app lg [(o,g)]) (σ.step o v up)=some r→Run X draw ops an κ r (o::rem) lg σ:=by
   intro v up g hs hv hlog hrun
   rw[fI] at hrun
   have hlen:(lg++[(o,g)]).length=lg.length+1:=by simp
   obtain ⟨⟨L,σ',c1,c2,c3,c4⟩⟩:=ss rem (lg++[(o,g)]) (σ.step o v up) (fun i q hq=>by
    rw[hlen,show lg.length+1+i=lg.length+(i+1) from by omega]
    exact hrem (i+1) q (by simpa using hq)) (by rw[hlen];exact hpr.step ho hv) hrun
   refine ⟨(lg.length,o,g)::L,σ',.cons hd'.1 hs c1,c2,?_,fun hdr p i q' g' hp j q h hj hjl=>?_⟩
   ·rw[hlen] at c3
    simp[List.zipIdx_cons,c3]
   ·cases p with
    |zero=>
     simp only[List.getElem?_cons_zero,Option.some.injEq,Prod.mk.injEq] at hp
     obtain ⟨rfl,rfl,rfl⟩:=hp
     rw[hdr] at hlog
     simp only[km,cV,Bool.not_true,Bool.false_or,dw] at hlog
     rw[List.getElem?_append_left (by omega)] at hj
     have:=yX hlog j q h hj
     simpa using this
    |succ p=>
     have e:lg++((lg.length,o,g)::L).map (·.2)=lg++[(o,g)]++L.map (·.2):=by simp
     rw[e] at hj
     exact c4 hdr p i q' g' (by simpa using hp) j q h hj (by rw[hlen];omega)
  simp only[jU,hd,ai] at h
  have fin:∀(e:Eff) (rd:List Nat) (ρ:cj),ρ=σ.sl→(∀k,evalOp X o.dst σ.sl o.op σ.bx k=k e rd)→nR X ops o σ (nY e.v) e.up ⟨rd,bW e.up⟩→
    (sif (orS (dT draw) (mK ops (nth [] an (len lg)) o ⟨rd,bW e.up⟩ lg 0))
     (e.v.force fun v=>tU e.up fun up=>jU X draw ops an κ rem (app lg [(o,⟨rd,bW e.up⟩)]) (Ac ⟨ρ,σ.bx⟩ o.dst ⟨nY v,up⟩)) none)=some r→Run X draw ops an κ r (o::rem) lg σ:=by
   intro e rd ρ hρ hall hs h
   cases hl:orS (dT draw) (mK ops (nth [] an (len lg)) o ⟨rd,bW e.up⟩ lg 0) with
   |false=>simp[hl,sif] at h
   |true=>
    rw[hl,ai,force_eq,zx] at h
    subst hρ
    exact key _ _ _ hs (fun x hx=>AV hx) hl h
  split at h
  ·rename_i hg
   obtain ⟨e,rd,h1,h2⟩:=xn h
   exact fin e rd σ.sl rfl h2 (.plain e rd hg h2 rfl rfl rfl) h1
  ·rename_i gd want hg
   have hprop:∀x,σ.sl gd=.c .bool x→∃v,x=.b v:=by
    intro x hx
    unfold guardOf at hg
    split at hg
    ·simp at hg
    ·rename_i gi want' hgu
     simp only[Option.some.injEq,Prod.mk.injEq] at hg
     obtain ⟨hq,rfl⟩:=hg
     have hlt:gi<lg.length:=by
      have:=hd'.2
      simp only[Ao,hgu] at this
      simp[Nat.blt] at this
      omega
     rw[mM] at hq
     split at hq
     ·rename_i q hqq
      exact hpr gi q gd x hlt hqq hq hx
     ·simp at hq
   split at h
   ·rename_i x hx
    obtain ⟨v,rfl⟩:=hprop x hx
    have hcond:(sif want v (!v))=(v==want):=by cases want<;>cases v<;>rfl
    replace h:cond (sif want v (!v))
     (evalOp X o.dst (upd σ.sl gd (.c .bool (.b want))) o.op σ.bx fun e rd=>
      sif (orS (dT draw) (mK ops (nth [] an (len lg)) o ⟨rd,bW e.up⟩ lg 0))
       (e.v.force fun v=>tU e.up fun up=>jU X draw ops an κ rem (app lg [(o,⟨rd,bW e.up⟩)]) (Ac ⟨upd σ.sl gd (.c .bool (.b want)),σ.bx⟩ o.dst ⟨nY v,up⟩)) none)
     (sif (orS (dT draw) (mK ops (nth [] an (len lg)) o ⟨[],[]⟩ lg 0))
      (jU X draw ops an κ rem (app lg [(o,⟨[],[]⟩)]) ⟨sS (upd σ.sl gd (.c .bool (.b (dT want)))) o.dst .ud,σ.bx⟩) none)=some r:=h
    rw[hcond] at h
    by_cases hvw:v=want
    ·subst hvw
     rw[show (v==v)=true from beq_self_eq_true v] at h
     simp only[cond_true] at h
     rw[BL hx] at h
     obtain ⟨e,rd,h1,h2⟩:=xn h
     exact fin e rd σ.sl rfl h2 (.yes gd v e rd hg hx h2 rfl rfl rfl) h1
    ·rw[show (v==want)=false from by simpa using hvw] at h
     simp only[cond_false] at h
     have hv':v=!want:=by cases v<;>cases want<;>simp_all
     rw[cV want,←hv',BL hx] at h
     cases hl:orS (dT draw) (mK ops (nth [] an (len lg)) o ⟨[],[]⟩ lg 0) with
     |false=>simp[hl,sif] at h
     |true=>
      rw[hl,ai] at h
      exact key .ud [] ⟨[],[]⟩ (.no gd want hg (.inl (by rw[hx,hv'])) rfl rfl rfl) (fun x hx=>by simp at hx) hl h
   ·rename_i hx
    cases hl:orS (dT draw) (mK ops (nth [] an (len lg)) o ⟨[],[]⟩ lg 0) with
    |false=>simp[hl,sif] at h
    |true=>
     rw[hl,ai] at h
     exact key .ud [] ⟨[],[]⟩ (.no gd want hg (.inr hx) rfl rfl rfl) (fun x hx=>by simp at hx) hl h
   ·simp at h
  ·simp at h
section
variable {P:Program} {X:Cx} {fr:Fr}
theorem GF {T:Tys} {F:Nat→Prop} {w:World} {bx:Bxs} {θ:Nat→Value} {x:V} {v:Value} (h:aj T F w bx θ x v):aj T F w bx θ (nY x) v:=by
 cases x with
 |c t y=>cases t with
  |bool=>
   cases h with
   |c t y v hr=>cases hr with
    |bool b=>exact .c _ _ _ (.bool b)
  |_=>exact h
 |_=>exact h
theorem GP {a:Act} {dst:Option Tmp} {v:Value} {n:Nat} (hn:a.tmps.size=n) (hd:y0 n dst=true) (k:Nat):(a.put dst v).tmps.getD k undef=if dst=some k then v else a.tmps.getD k undef:=by
 cases dst with
 |none=>simp[Act.put]
 |some d=>
  have hlt:d<a.tmps.size:=by rw[hn];exact Nat.le_of_ble_eq_true hd
  simp only[Act.put,Array.getD_eq_getD_getElem?,Option.some.injEq]
  rw[Array.getElem?_setIfInBounds]
  split
  ·rename_i e;subst e;simp[hlt]
  ·rfl
theorem Hn (a:Act) (dst:Option Tmp) (v:Value):(a.put dst v).tmps.size=a.tmps.size:=by cases dst<;>simp[Act.put]
theorem put_defers (a:Act) (dst:Option Tmp) (v:Value):(a.put dst v).defers=a.defers:=by cases dst<;>rfl
theorem GK {f:cj} {d:Option Tmp} {v:V} (k:Nat):sS f d v k=if d=some k then v else f k:=by
 cases d with
 |none=>simp[sS]
 |some d=>
  show upd f d v k=_
  rw[qY]
  by_cases h:k=d
  ·subst h;simp
  ·rw[if_neg h,if_neg (fun e=>h (Option.some.inj e).symm)]
theorem Bm {T:Tys} {F:Nat→Prop} {w w':World} {θ:Nat→Value} {σ:St} {a:Act} {n:Nat} {o:Oper} {e:Eff} {v:Value} {x:V} (hs:SlR T F w σ.bx θ n σ.sl a) (hd:y0 n o.dst=true)
  (h:Aft T fr F w σ.bx θ e v w') (hx:∀F' θ',aj T F' w' (dH σ.bx e.up) θ' e.v v→aj T F' w' (dH σ.bx e.up) θ' x v):Sim T fr n (σ.step o x e.up) (a.put o.dst v) w':=by
 obtain ⟨F',θ',h1,h2,h3⟩:=h
 refine ⟨F',θ',h1,⟨fun k=>?_,by rw[Hn];exact hs.n,by rw[put_defers];exact hs.defers⟩⟩
 rw[GP hs.n hd]
 show aj T F' w' (dH σ.bx e.up) θ' (sS σ.sl o.dst x k) _
 rw[GK]
 split
 ·exact hx _ _ h3
 ·exact (hs.sl k).mv h2
theorem xp {ops:List Oper} {a:Act} {g:Nat} {gd:Nat} (hq:(match su ops g with|some q=>q.dst|none=>none)=some gd):yielded ops.toArray a.tmps g=match a.tmps[gd]? with|some (.bool b)=>some b|_=>none:=by
 unfold yielded
 rw[mM] at hq
 split at hq
 ·rename_i q hqq
  simp[hqq,hq]
  cases a.tmps[gd]? with
  |none=>rfl
  |some u=>cases u<;>rfl
 ·simp at hq
theorem EJ {a:Act} {gd:Nat} {v:Bool} (h:a.tmps.getD gd undef=.bool v):a.tmps[gd]?=some (.bool v):=by
 rw[Array.getD_eq_getD_getElem?] at h
 cases hh:a.tmps[gd]? with
 |none=>rw[hh] at h;simp[undef] at h
 |some u=>rw[hh] at h;simp at h;rw[h]
theorem Ey (hX:Env P X) {ops:List Oper} {i:Nat} {o:Oper} {σ:St} {v:V} {up:List (Nat×Box)} {lg:Lg} {a:Act} {w:World} (hi:ops[i]?=some o) (hd:y0 X.n o.dst=true) (h:nR X ops o σ v up lg) (hs:Sim X.T fr X.n σ a w)
  {K:Act→World→Prop} {Q:Exit→Act→World→Prop} (hK:∀a' w',Sim X.T fr X.n (σ.step o v up) a' w'→K a' w'):wpOp P ops.toArray Q i K a w:=by
 unfold wpOp
 have hi':ops.toArray[i]?=some o:=by simpa using hi
 rw[hi']
 simp only
 obtain ⟨F,θ,hw,hsl⟩:=hs
 have run:∀(e:Eff) (rd:List Nat),(∀k,evalOp X o.dst σ.sl o.op σ.bx k=k e rd)→v=nY e.v→up=e.up→o.wp P a w K Q:=by
  intro e rd hall hv hu
  have h1:=hall fun e rd=>some (.ret [])
  have ho:=D7 (ρ:=σ.sl) (a:=a) hsl.sl
  have open_:∀(p:Eff→List Nat→Prop),p e rd→True:=fun _ _=>trivial
  obtain ⟨e2,rd2,g1,g2⟩:=BU (k:=fun e' rd'=>open Classical in if e'=e∧rd'=rd then some (.ret []) else none) (r:=.ret []) hX hw ho (by rw[hall];simp)
  have he:e2=e:=by
   open Classical in
   by_cases hh:e2=e∧rd2=rd
   ·exact hh.1
   ·simp only[hh,if_false] at g1;simp at g1
  subst he
  refine g2 K Q fun u w' hA=>hK _ _ ?_
  rw[hv,hu]
  exact Bm hsl hd hA fun F' θ' hr=>GF hr
 cases h with
 |plain e rd hg hall hv hu hl=>
  have hwant:Region.wanted o (yielded ops.toArray a.tmps)=true:=by
   unfold guardOf at hg
   unfold Region.wanted
   split at hg
   ·rename_i hgu;rw[hgu]
   ·simp at hg
  rw[if_pos hwant]
  exact .inl (run e rd hall hv hu)
 |yes gd want e rd hg hsg hall hv hu hl=>
  have hwant:Region.wanted o (yielded ops.toArray a.tmps)=true:=by
   unfold guardOf at hg
   unfold Region.wanted
   split at hg
   ·simp at hg
   ·rename_i g want' hgu
    simp only[Option.some.injEq,Prod.mk.injEq] at hg
    obtain ⟨hq,rfl⟩:=hg
    rw[hgu]
    simp only
    rw[xp hq]
    have hr:=hsl.sl gd
    rw[hsg] at hr
    rw[EJ (lF hr)]
    simp[C.B]
  rw[if_pos hwant]
  exact .inl (run e rd hall hv hu)
 |no gd want hg hsg hv hu hl=>
  have hwant:¬Region.wanted o (yielded ops.toArray a.tmps)=true:=by
   unfold guardOf at hg
   unfold Region.wanted
   split at hg
   ·simp at hg
   ·rename_i g want' hgu
    simp only[Option.some.injEq,Prod.mk.injEq] at hg
    obtain ⟨hq,rfl⟩:=hg
    rw[hgu]
    simp only
    rw[xp hq]
    have hr:=hsl.sl gd
    rcases hsg with hsg|hsg
    ·rw[hsg] at hr
     rw[EJ (lF hr)]
     cases want'<;>simp[C.B]
    ·rw[hsg] at hr
     generalize hz:a.tmps.getD gd undef=z at hr
     cases hr
     rw[Array.getD_eq_getD_getElem?] at hz
     cases hh:a.tmps[gd]? with
     |none=>simp
     |some u=>rw[hh] at hz;simp at hz;subst hz;simp[undef]
  rw[if_neg hwant]
  refine hK _ _ ?_
  rw[hv,hu]
  exact Bm (e:=⟨.ud,[]⟩) hsl hd (Aft.same hw .ud) fun F' θ' hr=>hr
theorem BS (hX:Env P X) {ops:List Oper} {Q:Exit→Act→World→Prop} {σ':St}:∀(L:List (Nat×Oper×Lg)) (σ:St) (a:Act) (w:World),u0 X ops σ L σ'→(∀i o g,(i,o,g)∈L→ops[i]?=some o)→Sim X.T fr X.n σ a w→
  (∀a' w',Sim X.T fr X.n σ' a' w'→Q .normal a' w')→wpOps P ops.toArray Q (L.map (·.1)) a w
 |[],σ,a,w,hc,_,hs,hQ=>by
  cases hc
  exact hQ a w hs
 |(i,o,g)::L,σ,a,w,hc,hi,hs,hQ=>by
  cases hc with
  |cons hd h hr=>
   show wpOps P ops.toArray Q (i::L.map (·.1)) a w
   rw[wpOps_cons]
   exact Ey hX (hi i o g (List.mem_cons_self ..)) hd h hs fun a' w' hs'=>BS hX L _ a' w' hr (fun i o g hm=>hi i o g (List.mem_cons_of_mem _ hm)) hs' hQ
end
end Go.Ev
namespace Go.Ev
theorem wL {j:Nat}:∀ {l m:List Nat},j∈Fa l m→j∈l∨j∈m
 |[],m,h=>.inr h
 |a::r,m,h=>by
  replace h:j∈sif (cX m a) (Fa r m) (a::Fa r m):=h
  cases hm:cX m a with
  |true=>rw[hm,ai] at h;exact (wL h).imp (List.mem_cons_of_mem _) id
  |false=>
   rw[hm,aV] at h
   rcases List.mem_cons.1 h with rfl|h
   ·exact .inl (List.mem_cons_self ..)
   ·exact (wL h).imp (List.mem_cons_of_mem _) id
theorem HU {j:Nat} {l m:List Nat} (h:j∈uni l m):j∈l∨j∈m:=by
 unfold uni at h
 split at h
 ·exact .inl h
 ·exact wL h
theorem yS {acc:List (List Nat)} {j:Nat}:∀(l:List Edge) (s:List Nat),j∈l.foldl (fun s e=>sif (kg e) (sif (cX s e.on) s (e.on::uni (nth [] acc e.on) s)) s) s→j∈s∨∃e,e∈l∧kg e=true∧(j=e.on∨j∈nth [] acc e.on)
 |[],s,h=>.inl h
 |e::r,s,h=>by
  rcases yS r _ h with h|⟨e',h1,h2⟩
  ·replace h:j∈sif (kg e) (sif (cX s e.on) s (e.on::uni (nth [] acc e.on) s)) s:=h
   cases hb:kg e with
   |false=>rw[hb,aV] at h;exact .inl h
   |true=>
    rw[hb,ai] at h
    cases hm:cX s e.on with
    |true=>rw[hm,ai] at h;exact .inl h
    |false=>
     rw[hm,aV] at h
     rcases List.mem_cons.1 h with h|h
     ·exact .inr ⟨e,List.mem_cons_self ..,hb,.inl h⟩
     ·rcases HU h with h|h
      ·exact .inr ⟨e,List.mem_cons_self ..,hb,.inr h⟩
      ·exact .inl h
  ·exact .inr ⟨e',List.mem_cons_of_mem _ h1,h2⟩
theorem sU:∀(l:List Oper) (acc:List (List Nat)),(∀i,i<acc.length→(anc l acc)[i]?=acc[i]?)∧
  ∀(i:Nat) (o:Oper),l[i]?=some o→∀j,j∈nth [] (anc l acc) (acc.length+i)→∃e,e∈o.after.toList∧kg e=true∧(j=e.on∨j∈nth [] (anc l acc) e.on)
 |[],acc=>⟨fun i _=>rfl,fun i o h=>by simp at h⟩
 |o::r,acc=>by
  have e0:∃x,x=o.after.toList.foldl (fun s e=>sif (kg e) (sif (cX s e.on) s (e.on::uni (nth [] acc e.on) s)) s) []:=⟨_,rfl⟩
  obtain ⟨x,hx⟩:=e0
  have e1:anc (o::r) acc=anc r (acc++[x]):=by
   show anc r (app acc [_])=_
   rw[fI,←hx]
  obtain ⟨h1,h2⟩:=sU r (acc++[x])
  have hlen:(acc++[x]).length=acc.length+1:=by simp
  rw[e1]
  refine ⟨fun i hi=>?_,fun i q hq j hj=>?_⟩
  ·rw[h1 i (by omega),List.getElem?_append_left hi]
  ·cases i with
   |zero=>
    simp at hq;subst hq
    rw[Nat.add_zero,sh,List.getD_eq_getElem?_getD,h1 acc.length (by omega),List.getElem?_append_right (Nat.le_refl _)] at hj
    simp at hj
    rw[hx] at hj
    rcases yS _ _ hj with h|⟨e,a1,a2,a3⟩
    ·simp at h
    ·refine ⟨e,a1,a2,a3.imp id fun hm=>?_⟩
     rw[sh,List.getD_eq_getElem?_getD] at hm⊢
     by_cases hlt:e.on<acc.length
     ·rw[h1 e.on (by omega),List.getElem?_append_left hlt];exact hm
     ·rw[List.getElem?_eq_none (by omega)] at hm;simp at hm
   |succ i=>
    have:=h2 i q (by simpa using hq) j (by rw[hlen,show acc.length+1+i=acc.length+(i+1) from by omega];exact hj)
    exact this
theorem mN:∀ {l:List Oper} {n:Nat},oB l n=true→∀(i:Nat) (o:Oper),l[i]?=some o→∀e,e∈o.after.toList→kg e=true→e.on<n+i
 |[],n,_,i,o,h,_,_,_=>by simp at h
 |q::r,n,h,i,o,ho,e,he,hb=>by
  simp only[oB,ao,Bool.and_eq_true] at h
  cases i with
  |zero=>
   simp at ho;subst ho
   have key:∀ {l:List Edge},Ii (sL n) l=true→∀e,e∈l→sL n e=true:=by
    intro l
    induction l with
    |nil=>intro _ e he;simp at he
    |cons y r ih=>
     intro hl e he
     simp only[Ii,ao,Bool.and_eq_true] at hl
     rcases List.mem_cons.1 he with rfl|he
     ·exact hl.1
     ·exact ih hl.2 e he
   have:=key h.1 e he
   simp only[sL,km,cV,hb,Bool.not_true,Bool.false_or] at this
   exact Nat.le_of_ble_eq_true this
  |succ i=>
   have:=mN h.2 i o (by simpa using ho) e he hb
   omega
section
variable {P:Program} {X:Cx} {fr:Fr}
structure Inv (ops:List Oper) (listed:Array Bool) (L:List (Nat×Oper×Lg)):Prop where
 size:listed.size=ops.length
 mem:∀i o g,(i,o,g)∈L→ops[i]?=some o∧listed.getD i false=false
 all:∀i,i<ops.length→listed.getD i false=false→∃o g,(i,o,g)∈L
 sorted:L.Pairwise fun a b=>a.1<b.1
 ind:L.Pairwise fun a b=>cX (nth [] (anc ops []) b.1) a.1=true∨(oY ops a.2.1 b.2.1=true∧Lg.uS a.2.2 b.2.2=false)
 closed:∀i o,listed.getD i false=true→ops[i]?=some o→∀e,e∈o.after.toList→kg e=true→listed.getD e.on false=true
theorem uQ {ops:List Oper} {listed:Array Bool} (hsz:listed.size=ops.length) (i:Nat):i∈Region.ready .any ops.toArray listed↔∃o,ops[i]?=some o∧listed.getD i false=false∧∀e,e∈o.after.toList→kg e=true→listed.getD e.on false=true:=by
 unfold Region.ready
 simp only[List.mem_filter,List.mem_range,List.size_toArray,Bool.and_eq_true,Bool.not_eq_true']
 constructor
 ·rintro ⟨h1,h2,h3⟩
  have ho:ops[i]?=some ops[i]:=List.getElem?_eq_getElem h1
  refine ⟨_,ho,?_,fun e he hb=>?_⟩
  ·simp only[Array.getD_eq_getD_getElem?] at h2⊢
   rw[Array.getElem?_eq_getElem (by omega)] at h2⊢
   simpa using h2
  ·rw[show ops.toArray[i]?=some ops[i] from by simpa using ho] at h3
   simp only[Option.map_some,Option.getD_some] at h3
   rw[←Array.all_toList,List.all_eq_true] at h3
   have:=h3 e he
   unfold kg at hb
   rw[hb] at this
   simpa using this
 ·rintro ⟨o,ho,h2,h3⟩
  have h1:i<ops.length:=(List.getElem?_eq_some_iff.1 ho).1
  refine ⟨h1,?_,?_⟩
  ·simp only[Array.getD_eq_getD_getElem?] at h2⊢
   rw[Array.getElem?_eq_getElem (by omega)] at h2⊢
   simpa using h2
  ·rw[show ops.toArray[i]?=some o from by simpa using ho]
   simp only[Option.map_some,Option.getD_some]
   rw[←Array.all_toList,List.all_eq_true]
   intro e he
   cases hb:Region.binds .any e with
   |false=>rfl
   |true=>
    have:=h3 e he hb
    simpa using this
theorem C4 {ops:List Oper} {listed:Array Bool} (hB:oB ops 0=true) (hcl:∀i o,listed.getD i false=true→ops[i]?=some o→∀e,e∈o.after.toList→kg e=true→listed.getD e.on false=true):
  ∀(n m:Nat),m≤n→listed.getD m false=true→∀j,j∈nth [] (anc ops []) m→listed.getD j false=true:=by
 intro n
 induction n with
 |zero=>
  intro m hm hl j hj
  cases ho:ops[m]? with
  |none=>
   have:(anc ops [])[m]?=none:=by
    have key:∀(l:List Oper) (acc:List (List Nat)),(anc l acc).length=acc.length+l.length:=by
     intro l
     induction l with
     |nil=>intro acc;rfl
     |cons o r ih=>intro acc;show (anc r (app acc [_])).length=_;rw[ih,fI];simp;omega
    rw[List.getElem?_eq_none_iff,key]
    rw[List.getElem?_eq_none_iff] at ho
    simpa using ho
   rw[sh,List.getD_eq_getElem?_getD,this] at hj
   simp at hj
  |some o=>
   obtain ⟨e,h1,h2,h3⟩:=(sU ops []).2 m o ho j (by simpa using hj)
   have:=mN hB m o ho e h1 h2
   omega
 |succ n ih=>
  intro m hm hl j hj
  cases ho:ops[m]? with
  |none=>
   have:(anc ops [])[m]?=none:=by
    have key:∀(l:List Oper) (acc:List (List Nat)),(anc l acc).length=acc.length+l.length:=by
     intro l
     induction l with
     |nil=>intro acc;rfl
     |cons o r ih=>intro acc;show (anc r (app acc [_])).length=_;rw[ih,fI];simp;omega
    rw[List.getElem?_eq_none_iff,key]
    rw[List.getElem?_eq_none_iff] at ho
    simpa using ho
   rw[sh,List.getD_eq_getElem?_getD,this] at hj
   simp at hj
  |some o=>
   obtain ⟨e,h1,h2,h3⟩:=(sU ops []).2 m o ho j (by simpa using hj)
   have hlt:=mN hB m o ho e h1 h2
   have hle:=hcl m o hl ho e h1 h2
   rcases h3 with rfl|h3
   ·exact hle
   ·exact ih e.on (by omega) hle j h3
theorem Js (hX:Env P X) {ops:List Oper} {Q:Exit→Act→World→Prop} {σ':St} (hB:oB ops 0=true) (hQ:∀a' w',Sim X.T fr X.n σ' a' w'→Q .normal a' w'):
  ∀(fuel:Nat) (listed:Array Bool) (L:List (Nat×Oper×Lg)) (σ:St) (a:Act) (w:World),Inv ops listed L→L.length≤fuel→u0 X ops σ L σ'→Sim X.T fr X.n σ a w→wpAny P .any ops.toArray Q fuel listed a w:=by
 intro fuel
 induction fuel with
 |zero=>
  intro listed L σ a w hI hlen hc hs
  have:L=[]:=List.eq_nil_of_length_eq_zero (by omega)
  subst this
  cases hc
  refine ⟨?_,hQ a w hs⟩
  cases hr:Region.ready .any ops.toArray listed with
  |nil=>rfl
  |cons i t=>
   have:i∈Region.ready .any ops.toArray listed:=by rw[hr];exact List.mem_cons_self ..
   obtain ⟨o,h1,h2,_⟩:=(uQ hI.size i).1 this
   obtain ⟨o',g,hm⟩:=hI.all i (List.getElem?_eq_some_iff.1 h1).1 h2
   simp at hm
 |succ fuel ih=>
  intro listed L σ a w hI hlen hc hs
  refine ⟨fun hr=>?_,fun i hi=>?_⟩
  ·cases L with
   |nil=>cases hc;exact hQ a w hs
   |cons p L=>
    obtain ⟨i,o,g⟩:=p
    exfalso
    obtain ⟨h1,h2⟩:=hI.mem i o g (List.mem_cons_self ..)
    have:i∈Region.ready .any ops.toArray listed:=by
     refine (uQ hI.size i).2 ⟨o,h1,h2,fun e he hb=>?_⟩
     have hlt:=mN hB i o h1 e he hb
     cases hl:listed.getD e.on false with
     |true=>rfl
     |false=>
      obtain ⟨o',g',hm⟩:=hI.all e.on (by have:=(List.getElem?_eq_some_iff.1 h1).1;omega) hl
      rcases List.mem_cons.1 hm with heq|hm
      ·simp only[Prod.mk.injEq] at heq;omega
      ·have:=(List.pairwise_cons.1 hI.sorted).1 _ hm
       simp only at this
       omega
    rw[hr] at this
    simp at this
  ·obtain ⟨o,h1,h2,h3⟩:=(uQ hI.size i).1 hi
   obtain ⟨o',g,hm⟩:=hI.all i (List.getElem?_eq_some_iff.1 h1).1 h2
   have ho:=(hI.mem i o' g hm).1
   rw[h1] at ho;obtain rfl:=Option.some.inj ho
   obtain ⟨pre,post,rfl⟩:=List.append_of_mem hm
   have hpre:∀j q h,(j,q,h)∈pre→oY ops q o=true∧Lg.uS h g=false:=by
    intro j q h hj
    have hind:=(List.pairwise_append.1 hI.ind).2.2 (j,q,h) hj (i,o,g) (List.mem_cons_self ..)
    refine hind.resolve_left fun hmb=>?_
    have hjun:=(hI.mem j q h (List.mem_append_left _ hj)).2
    have:listed.getD j false=true:=by
     obtain ⟨e,e1,e2,e3⟩:=(sU ops []).2 i o h1 j (by simpa using (cM _ _).1 hmb)
     have hle:=h3 e e1 e2
     rcases e3 with rfl|e3
     ·exact hle
     ·exact C4 hB hI.closed e.on e.on (Nat.le_refl _) hle j e3
    rw[this] at hjun;simp at hjun
   have hb:=G9 pre σ hc hpre
   cases hb with
   |cons hd hstep hr=>
    refine Ey hX h1 hd hstep hs fun a' w' hs'=>?_
    refine ih _ (pre++post) _ a' w' ?_ (by simp at hlen⊢;omega) hr hs'
    have hil:i<listed.size:=by rw[hI.size];exact (List.getElem?_eq_some_iff.1 h1).1
    have hset:∀k,(listed.setIfInBounds i true).getD k false=if k=i then true else listed.getD k false:=by
     intro k
     simp only[Array.getD_eq_getD_getElem?,Array.getElem?_setIfInBounds]
     by_cases hk:k=i
     ·subst hk;simp[hil]
     ·rw[if_neg (Ne.symm hk),if_neg hk]
    have hsub:List.Sublist (pre++post) (pre++(i,o,g)::post):=List.Sublist.append_left (List.sublist_cons_self ..) _
    have hne:∀p,p∈pre++post→p.1≠i:=by
     intro p hp
     have hs:=List.pairwise_append.1 hI.sorted
     rcases List.mem_append.1 hp with hp|hp
     ·have:=hs.2.2 p hp (i,o,g) (List.mem_cons_self ..);simp only at this;omega
     ·have:=(List.pairwise_cons.1 hs.2.1).1 p hp;simp only at this;omega
    refine ⟨by simpa using hI.size,fun k q h hk=>?_,fun k hk hl=>?_,hI.sorted.sublist hsub,hI.ind.sublist hsub,fun k q hl hq e he hbe=>?_⟩
    ·have:=hI.mem k q h (hsub.subset hk)
     refine ⟨this.1,?_⟩
     rw[hset,if_neg (hne _ hk)]
     exact this.2
    ·rw[hset] at hl
     split at hl
     ·simp at hl
     ·rename_i hki
      obtain ⟨q,h,hm⟩:=hI.all k hk hl
      refine ⟨q,h,?_⟩
      rcases List.mem_append.1 hm with hm|hm
      ·exact List.mem_append_left _ hm
      ·rcases List.mem_cons.1 hm with he|hm
       ·simp only[Prod.mk.injEq] at he;exact absurd he.1 hki
       ·exact List.mem_append_right _ hm
    ·rw[hset]
     split
     ·rfl
     ·rw[hset] at hl
      split at hl
      ·rename_i hki
       subst hki
       rw[h1] at hq;obtain rfl:=Option.some.inj hq
       exact h3 e he hbe
      ·exact hI.closed k q hl hq e he hbe
end
end Go.Ev
namespace Go.Ev
section
variable {T:Tys} {fr:Fr} {F:Nat→Prop} {w:World} {bx:Bxs} {θ:Nat→Value} {bs:List Nat}
def wx (T:Tys) (bx:Bxs) (bs:List Nat):Bxs:=fun b=>match bx b with|some x=>some (sif (cX bs b) (.dead (x.ver+1)) (x.frz T bx bs))|none=>none
theorem nU (T:Tys) (bx:Bxs) (bs:List Nat):∀(l:List V) (i:Nat),(V.wv T bx bs l)[i]?=(l[i]?).map (V.frz T bx bs)
 |[],i=>by simp[V.wv]
 |v::r,0=>by simp[V.wv]
 |v::r,i+1=>by simp[V.wv,nU T bx bs r i]
theorem nQ (T:Tys) (bx:Bxs) (bs:List Nat) (l:List V):(V.wv T bx bs l).length=l.length:=by
 induction l with
 |nil=>rfl
 |cons v r ih=>simp[V.wv,ih]
theorem mf {b:Nat} {x:Box} (h:bx b=some x) (hb:cX bs b=false):wx T bx bs b=some (x.frz T bx bs):=by
 unfold wx;rw[h];simp only;rw[hb,aV]
theorem Hx {b:Nat} {x:Box} (h:bx b=some x) (hb:cX bs b=true):wx T bx bs b=some (.dead (x.ver+1)):=by
 unfold wx;rw[h];simp only;rw[hb,ai]
theorem im (x:Box):(x.frz T bx bs).ver=x.ver:=by cases x<;>rfl
theorem Gc {F':Nat→Prop} {b ver m:Nat} {lo hi:Int} {t:TypeId} {es:List (List C)} {v:Value} (hy:bx b=some (.arr ver t es m)) (hR:iR T F' w bx θ b (.arr ver t es 0)) (hx:aj T F w bx θ (.vw b ver lo hi) v) (hg:∀g,bI (θ b)=some g→F' g):
  cD T F' w (.sl t) (.l ((es.take hi.toNat).drop lo.toNat)) v:=by
 obtain ⟨_,d,A',c',hd',h0,hlh,hhi,rfl,hcc,hblk,_⟩:=rY hx hy (Nat.beq_refl _)
 have hsl:=yh h0 hlh hhi
 rcases Int.lt_or_eq_of_le hlh with hlt|rfl
 ·obtain ⟨g,og,e2,rfl⟩:=hblk hlt
  obtain ⟨A,cap,us,hth,hul,hrw,hA⟩:=nT hR hd'
  rw[←hsl]
  have hp:=hrw.part lo.toNat hi.toNat
  refine .sl t d _ g (og+lo.toNat*d.cts.length) c' (fun i j=>((us.take (hi.toNat*d.cts.length)).drop (lo.toNat*d.cts.length)).getD (i*d.cts.length+j) undef) hd' (hg g (by rw[e2];rfl)) (by omega) hp.len (fun i c j x a1 a2=>?_) (fun i c j x ct a1 a2 a3=>?_)
  ·rcases hA with ⟨rfl,rfl,rfl⟩|⟨g',o',cs,rfl,h1,h2,h3,rfl⟩
   ·simp at hhi;omega
   ·rw[hth] at e2
    simp only[Value.slice.injEq,Option.some.injEq,Addr.mk.injEq,true_and] at e2
    obtain ⟨⟨rfl,rfl,_⟩,_⟩:=e2
    have hi':i<(hi-lo).toNat:=by rw[←hsl];exact (List.getElem?_eq_some_iff.1 a1).1
    have hj:j<d.cts.length:=by rw[←hp.len i c a1];exact (List.getElem?_eq_some_iff.1 a2).1
    have q1:lo.toNat*d.cts.length+(i*d.cts.length+j)<hi.toNat*d.cts.length:=by
     have:=j6 (show lo.toNat+i<hi.toNat by omega) hj
     rw[Nat.add_mul] at this;omega
    have q2:hi.toNat*d.cts.length≤es.length*d.cts.length:=Nat.mul_le_mul_right _ (by omega)
    have q3:es.length*d.cts.length≤cap*d.cts.length:=Nat.mul_le_mul_right _ h3.1
    have q4:o'+(lo.toNat*d.cts.length+(i*d.cts.length+j))<cs.size:=by omega
    simp only[List.getD_eq_getElem?_getD,List.getElem?_drop,List.getElem?_take]
    rw[if_pos q1,if_pos (by omega),Nat.add_assoc]
    simp[World.cell?,h1,q4]
  ·clear hA
   have hi':i<(hi-lo).toNat:=by rw[←hsl];exact (List.getElem?_eq_some_iff.1 a1).1
   have hj:j<d.cts.length:=(List.getElem?_eq_some_iff.1 a3).1
   have q1:lo.toNat*d.cts.length+(i*d.cts.length+j)<hi.toNat*d.cts.length:=by
    have:=j6 (show lo.toNat+i<hi.toNat by omega) hj
    rw[Nat.add_mul] at this;omega
   have q2:hi.toNat*d.cts.length≤es.length*d.cts.length:=Nat.mul_le_mul_right _ (by omega)
   have hlen:i*d.cts.length+j<((us.take (hi.toNat*d.cts.length)).drop (lo.toNat*d.cts.length)).length:=by
    rw[List.length_drop,List.length_take,hul];omega
   refine hp.rel i c j x ct _ a1 a2 a3 ?_
   rw[List.getD_eq_getElem?_getD,List.getElem?_eq_getElem hlen];rfl
 ·have:((es.take lo.toNat).drop lo.toNat)=[]:=by simp
  rw[this]
  have:(lo-lo).toNat=0:=by omega
  rw[this]
  exact .sl0 _ _ _
theorem ub:∀ {f:List Nat},zG bs f=true→∀c,c∈f→cX bs c=true
 |b::r,h,c,hc=>by
  simp only[zG,ao,Bool.and_eq_true] at h
  rcases List.mem_cons.1 hc with rfl|hc
  ·exact h.1
  ·exact ub h.2 c hc
theorem Jz {m:Nat} (h:dT (Nat.beq m 3)=true):m≠3:=by
 rintro rfl
 simp[dT] at h
theorem HN (hw:WR T fr F w bx θ) {b v m:Nat} {t:TypeId} {es:List (List C)} (hm:cX bs b=true) (hb:bx b=some (.arr v t es m)) (hm3:m≠3):iR T (FzF T F w bx θ bs) w bx θ b (.arr v t es 0):=by
 by_cases h2:2≤m
 ·have h0:m≠0:=by omega
  exact iR.Gt (m':=0) (hw.box b _ hb) ((hw.lin b _ hb h0).1 hm3) (by decide) (fun _ k hk=>.inr ⟨b,_,(cM _ _).1 hm,hb,.inr ⟨h0,hk⟩⟩) rfl
 ·obtain ⟨d,A,cap,q1,q2,q3,q4⟩:=p8 hw hb h2
  refine ⟨d,A,cap,q1,q2,q3,q4.imp id ?_⟩
  rintro ⟨g,o,cs,g1,g2,g3,g4,g5⟩
  exact ⟨g,o,cs,g1,g2,g3,g4,fun i c j x ct v a1 a2 a3 a4=>CR.mv (m:=0) (g5 i c j x ct v a1 a2 a3 a4) (fun _ h=>.inl h) (fun _ _=>rfl) fun _ _ _=>rfl⟩
theorem DU (hw:WR T fr F w bx θ) {x:V} {v:Value} (h:aj T F w bx θ x v):aj T (FzF T F w bx θ bs) w (wx T bx bs) θ (x.frz T bx bs) v:=by
 have hin:∀ {b:Nat} {y:Box},cX bs b=true→bx b=some y→y.live=true→∀g,bI (θ b)=some g→FzF T F w bx θ bs g:=fun hb hy hl g hg=>.inr ⟨_,_,(cM _ _).1 hb,hy,.inl ⟨hl,hg⟩⟩
 induction h with
 |un v=>exact .un v
 |ud=>exact .ud
 |c t x v hr=>exact .c t x v (hr.mv (fun _ h=>.inl h) fun _ _=>rfl)
 |nl=>exact .nl
 |np=>exact .np
 |ow b ver v y hb hv hs hh=>
  show aj T _ w _ θ (sif (cX bs b) (match bx b with
   |some (.arr v t es m)=>sif (az (Nat.beq v ver) (dT (Nat.beq m 3))) (.c (.sl t) (.l es)) .un
   |_=>.un) (.ow b ver)) v
  cases hm:cX bs b with
  |true=>
   rw[ai,hb]
   cases y with
   |arr v' t es md=>
    simp only
    cases hc:az (Nat.beq v' ver) (dT (Nat.beq md 3)) with
    |false=>exact .un _
    |true=>
     rw[ai]
     rw[ao,Bool.and_eq_true] at hc
     obtain ⟨_,rfl⟩:=nu (T:=T) (F:=F) (w:=w) (.ow b ver v _ hb hv hs hh) hb hc.1
     exact .c _ _ _ (oU (HN hw hm hb (Jz hc.2)) (fun _ h=>h) (hin hm hb rfl))
   |_=>exact .un _
  |false=>
   rw[aV]
   refine .ow b ver v _ (mf hb hm) (by rw[im];exact hv) hs fun e=>?_
   rw[im] at e
   obtain ⟨t,es,md,rfl,hvv⟩:=hh e
   exact ⟨t,es,md,rfl,hvv⟩
 |vw b ver lo hi v y hb hv hs hh=>
  show aj T _ w _ θ (sif (cX bs b) (match bx b with
   |some (.arr v t es m)=>sif (az (Nat.beq v ver) (dT (Nat.beq m 3))) (.c (.sl t) (.l ((es.take hi.toNat).drop lo.toNat))) .un
   |_=>.un) (.vw b ver lo hi)) v
  cases hm:cX bs b with
  |true=>
   rw[ai,hb]
   cases y with
   |arr v' t es md=>
    simp only
    cases hc:az (Nat.beq v' ver) (dT (Nat.beq md 3)) with
    |false=>exact .un _
    |true=>
     rw[ai]
     rw[ao,Bool.and_eq_true] at hc
     have:=Nat.eq_of_beq_eq_true hc.1;subst this
     exact .c _ _ _ (Gc (F:=F) hb (HN hw hm hb (Jz hc.2)) (.vw b v' lo hi v _ hb hv hs hh) (hin hm hb rfl))
   |_=>exact .un _
  |false=>
   rw[aV]
   refine .vw b ver lo hi v _ (mf hb hm) (by rw[im];exact hv) hs fun e=>?_
   rw[im] at e
   obtain ⟨t,es,md,d,A,c,rfl,hrest⟩:=hh e
   exact ⟨t,es,md,d,A,c,rfl,hrest⟩
 |rf b ver ix off e v y hb hv hs hh=>
  show aj T _ w _ θ (sif (cX bs b) .un (.rf b ver ix off e)) v
  cases hm:cX bs b with
  |true=>rw[ai];exact .un _
  |false=>
   rw[aV]
   refine .rf b ver ix off e v _ (mf hb hm) (by rw[im];exact hv) hs fun e1 e2=>?_
   rw[im] at e1
   obtain ⟨t,es,d,g,o,cap,rfl,hrest⟩:=hh e1 (by cases y<;>first|exact e2|simp[Box.m,Box.frz] at e2)
   exact ⟨t,es,d,g,o,cap,rfl,hrest⟩
 |mp b ver v y hb hv hs hh=>
  show aj T _ w _ θ (sif (cX bs b) .un (.mp b ver)) v
  cases hm:cX bs b with
  |true=>rw[ai];exact .un _
  |false=>
   rw[aV]
   refine .mp b ver v _ (mf hb hm) (by rw[im];exact hv) hs fun e=>?_
   rw[im] at e
   obtain ⟨t,es,rfl,hvv⟩:=hh e
   exact ⟨t,es,rfl,hvv⟩
 |pt b ver off v y hb hv hs hh=>
  show aj T _ w _ θ (sif (cX bs b) (match bx b with
   |some (.var v t cells)=>sif (Nat.beq v ver) (match bh T t with
    |some d=>match jo bx d.cts cells with
     |some (cs,f)=>sif (zG bs f) (match (generalizing:=false) off with|0=>.c (.pt t) (.p cs)|off=>.fa d.cts cs off) .un
     |none=>.un
    |none=>.un) .un
   |_=>.un) (.pt b ver off)) v
  cases hm:cX bs b with
  |true=>
   rw[ai,hb]
   cases y with
   |var v' t cells=>
    simp only
    cases hc:Nat.beq v' ver with
    |false=>exact .un _
    |true=>
     rw[ai]
     have:=Nat.eq_of_beq_eq_true hc;subst this
     cases htd:bh T t with
     |none=>exact .un _
     |some td=>
      simp only
      cases hcs:jo bx td.cts cells with
      |none=>exact .un _
      |some q=>
       obtain ⟨cs,f⟩:=q
       simp only
       cases hmf:zG bs f with
       |false=>exact .un _
       |true=>
        rw[ai]
        obtain ⟨t2,cells2,g,e3,e4,rfl⟩:=hh rfl
        simp only[Box.var.injEq,true_and] at e3
        obtain ⟨rfl,rfl⟩:=e3
        obtain ⟨g',wcs,ee,d,k1,k2,k3,k4,k5,k6⟩:=hw.box b _ hb
        rw[e4] at k1
        simp only[Value.pointer.injEq,Option.some.injEq,Addr.mk.injEq,true_and] at k1
        obtain ⟨rfl,_⟩:=k1
        rw[htd] at k4
        obtain rfl:=Option.some.inj k4
        obtain ⟨l1,l2⟩:=vX (T:=T) (F:=F) (F':=FzF T F w bx θ bs) (w:=w) (θ:=θ) hcs
        have l3:=l2 (fun _ h=>.inl h) (fun c hc v t es md hbc h3=>oU (HN hw (ub hmf c hc) hbc h3) (fun _ h=>h) (hin (ub hmf c hc) hbc rfl))
        have c1:∀(j:Nat) (c:C),cs[j]?=some c→w.cell? ⟨g,0+j,none⟩=some (wcs.getD j undef):=fun j c hj=>by
         have hj':j<wcs.size:=by rw[k3,k5,←l1];exact (List.getElem?_eq_some_iff.1 hj).1
         simp[World.cell?,k2,hj']
        have c2:∀(j:Nat) (c:C) (ct:CT),cs[j]?=some c→td.cts[j]?=some ct→cD T (FzF T F w bx θ bs) w ct c (wcs.getD j undef):=fun j c ct hj hct=>by
         obtain ⟨x,a1,a2⟩:=l3 j c ct hj hct
         have hj':j<wcs.size:=by rw[k3];exact (List.getElem?_eq_some_iff.1 a1).1
         refine a2 _ (k6 j x _ a1 ?_)
         simp[hj']
        cases off with
        |zero=>exact .c _ _ _ (.pt t td cs g 0 _ htd (hin hm hb rfl g (by rw[e4];rfl)) l1 c1 c2)
        |succ off=>
         have:=aj.fa (T:=T) (F:=FzF T F w bx θ bs) (w:=w) (bx:=wx T bx bs) (θ:=θ) td.cts cs (off+1) g 0 (fun j=>wcs.getD j undef) (hin hm hb rfl g (by rw[e4];rfl)) l1 c1 c2
         rwa [Nat.zero_add] at this
   |_=>exact .un _
  |false=>
   rw[aV]
   refine .pt b ver off v _ (mf hb hm) (by rw[im];exact hv) hs fun e=>?_
   rw[im] at e
   obtain ⟨t,cells,g,rfl,h1,h2⟩:=hh e
   exact ⟨t,_,g,rfl,h1,h2⟩
 |pe b ver ix off nb v y hb hv hs hh=>
  show aj T _ w _ θ (sif (cX bs b) (match bx b with
   |some (.arr v t es m)=>sif (az (az (Nat.beq v ver) (dT (Nat.beq m 3))) (dT nb)) (match bh T t with|some d=>.fa d.cts (es.getD ix.toNat []) off|none=>.un) .un
   |_=>.un) (.pe b ver ix off nb)) v
  cases hm:cX bs b with
  |true=>
   rw[ai,hb]
   cases y with
   |arr v' t es md=>
    simp only
    cases hc:az (az (Nat.beq v' ver) (dT (Nat.beq md 3))) (dT nb) with
    |false=>exact .un _
    |true=>
     rw[ai]
     rw[ao,ao,Bool.and_eq_true,Bool.and_eq_true] at hc
     have hm3:=Jz hc.1.2
     simp only[cV,Bool.and_eq_true,Bool.not_eq_true'] at hc
     obtain ⟨rfl,d,hd,hp⟩:=rU (F:=F) (w:=w) (.pe b ver ix off nb v _ hb hv hs hh) hb hc.1.1
     rw[hd]
     simp only
     rcases hp with ⟨h1,_⟩|⟨h0,hlt,g,og,cap,h2,rfl⟩
     ·rw[hc.2] at h1;simp at h1
     ·obtain ⟨A,cap',us,hth,hul,hrw,hA⟩:=nT (HN (bs:=bs) hw hm hb hm3) hd
      have hn:ix.toNat<es.length:=by omega
      have hnn:es[ix.toNat]?=some es[ix.toNat]:=List.getElem?_eq_getElem hn
      have hgd:es.getD ix.toNat []=es[ix.toNat]:=by rw[List.getD_eq_getElem?_getD,hnn];rfl
      have hrl:=hrw.len _ _ hnn
      rw[hgd]
      rcases hA with ⟨rfl,rfl,rfl⟩|⟨g',o',cs,rfl,q1,q2,q3,rfl⟩
      ·simp at hn
      ·rw[hth] at h2
       simp only[Value.slice.injEq,Option.some.injEq,Addr.mk.injEq,true_and] at h2
       obtain ⟨⟨rfl,rfl,_⟩,_⟩:=h2
       have hlt':∀j,j<d.cts.length→ix.toNat*d.cts.length+j<es.length*d.cts.length:=fun j hj=>j6 hn hj
       have q4:o'+es.length*d.cts.length≤cs.size:=by rw[q2];exact Nat.add_le_add_left (Nat.mul_le_mul_right _ q3.1) o'
       rw[←Nat.add_assoc]
       refine .fa d.cts es[ix.toNat] off g' (o'+ix.toNat*d.cts.length) (fun j=>cs.getD (o'+(ix.toNat*d.cts.length+j)) undef) (hin hm hb rfl g' (by rw[hth];rfl)) hrl (fun j c hc=>?_) (fun j c t' hc ht=>?_)
       ·have hj:j<d.cts.length:=by rw[←hrl];exact (List.getElem?_eq_some_iff.1 hc).1
        have:=hlt' j hj
        simp[World.cell?,q1,Array.getD,Nat.add_assoc,show o'+(ix.toNat*d.cts.length+j)<cs.size by omega]
       ·have hj:j<d.cts.length:=(List.getElem?_eq_some_iff.1 ht).1
        have:=hlt' j hj
        refine hrw.rel _ _ j c t' _ hnn hc ht ?_
        rw[List.getElem?_take_of_lt this,List.getElem?_drop]
        simp[Array.getD,show o'+(ix.toNat*d.cts.length+j)<cs.size by omega]
   |_=>exact .un _
  |false=>
   rw[aV]
   refine .pe b ver ix off nb v _ (mf hb hm) (by rw[im];exact hv) hs fun e=>?_
   rw[im] at e
   obtain ⟨t,es,md,d,rfl,hrest⟩:=hh e
   exact ⟨t,es,md,d,rfl,hrest⟩
 |fa cts cs off g o cv hF hlen hc hr=>exact .fa cts cs off g o cv (.inl hF) hlen hc fun j c t h1 h2=>(hr j c t h1 h2).mv (fun _ h=>.inl h) fun _ _=>rfl
 |ag l o vs hl ho h ih=>
  refine .ag _ _ vs (by rw[nQ];exact hl) (fun x hx=>by
   obtain ⟨cs,e1,e2,e3⟩:=ho x hx
   refine ⟨cs,e1,by rw[nQ];exact e2,fun i v hv=>?_⟩
   rw[nU] at hv
   obtain ⟨z,hz,rfl⟩:=Option.map_eq_some_iff.1 hv
   obtain ⟨t,rfl⟩:=e3 i z hz
   exact ⟨t,rfl⟩) fun i x v h1 h2=>?_
  rw[nU] at h1
  obtain ⟨y,hy,rfl⟩:=Option.map_eq_some_iff.1 h1
  exact ih i y v hy h2
 |tu l vs hl h ih=>
  refine .tu _ vs (by rw[nQ];exact hl) fun i x v h1 h2=>?_
  rw[nU] at h1
  obtain ⟨y,hy,rfl⟩:=Option.map_eq_some_iff.1 h1
  exact ih i y v hy h2
 |fn f l vs hl h ih=>
  refine .fn f _ vs (by rw[nQ];exact hl) fun i x v h1 h2=>?_
  rw[nU] at h1
  obtain ⟨y,hy,rfl⟩:=Option.map_eq_some_iff.1 h1
  exact ih i y v hy h2
theorem Je {n:Nat} {σ:St} {a:Act} (bs:List Nat) (h:Sim T fr n σ a w):Sim T fr n (σ.frz T bs) a w:=by
 obtain ⟨F,θ,hw,hs⟩:=h
 have hb:(σ.frz T bs).bx=wx T σ.bx bs:=rfl
 have hget:∀b y,wx T σ.bx bs b=some y→∃x,σ.bx b=some x∧((cX bs b=true∧y=.dead (x.ver+1))∨(cX bs b=false∧y=x.frz T σ.bx bs)):=by
  intro b y hy
  unfold wx at hy
  cases hx:σ.bx b with
  |none=>rw[hx] at hy;simp at hy
  |some x=>
   rw[hx] at hy
   simp only[Option.some.injEq] at hy
   cases hm:cX bs b with
   |true=>rw[hm,ai] at hy;exact ⟨x,rfl,.inl ⟨rfl,hy.symm⟩⟩
   |false=>rw[hm,aV] at hy;exact ⟨x,rfl,.inr ⟨rfl,hy.symm⟩⟩
 have hlive:∀b y,wx T σ.bx bs b=some y→y.live=true→∃x,σ.bx b=some x∧x.live=true∧cX bs b=false:=by
  intro b y hy hl
  obtain ⟨x,hx,⟨hm,rfl⟩|⟨hm,rfl⟩⟩:=hget b y hy
  ·simp[Box.live] at hl
  ·exact ⟨x,hx,by cases x<;>simp_all [Box.live,Box.frz],hm⟩
 have hnst:∀b y k,wx T σ.bx bs b=some y→y.nst T w (θ b) k→∃x,σ.bx b=some x∧cX bs b=false∧x.nst T w (θ b) k∧y.m=x.m:=by
  intro b y k hy hk
  obtain ⟨x,hx,⟨hm,rfl⟩|⟨hm,rfl⟩⟩:=hget b y hy
  ·exact hk.elim
  ·refine ⟨x,hx,hm,?_⟩
   cases x with
   |arr v t es m=>exact ⟨hk,rfl⟩
   |_=>exact hk.elim
 refine ⟨FzF T F w σ.bx θ bs,θ,⟨?_,?_,?_,Dj hw,hw.keep,fun k hk=>.inl (hw.sub k hk),EC hw,?_,fun b y hy=>?_,fun b y k hy hk=>?_,fun b b' y y' k hy hy' hk hk'=>?_,fun k hk=>.inl (hw.nlF k hk)⟩,⟨fun k=>?_,hs.n,hs.defers⟩⟩
 ·intro b y hy
  obtain ⟨x,hx,⟨hm,rfl⟩|⟨hm,rfl⟩⟩:=hget b y hy
  ·trivial
  ·have hbx:=hw.box b x hx
   cases x with
   |var ver t cells=>
    obtain ⟨g,cs,e,d,q1,q2,q3,q4,q5,q6⟩:=hbx
    refine ⟨g,cs,e,d,q1,q2,by rw[nQ];exact q3,q4,by rw[nQ];exact q5,fun i z v h1 h2=>?_⟩
    rw[nU] at h1
    obtain ⟨u,hu,rfl⟩:=Option.map_eq_some_iff.1 h1
    exact DU hw (q6 i u v hu h2)
   |arr ver t es md=>
    obtain ⟨d,A,cap,q1,q2,q3,q4⟩:=hbx
    refine ⟨d,A,cap,q1,q2,q3,q4.imp id ?_⟩
    rintro ⟨g,o,cs,g1,g2,g3,g4,g5⟩
    exact ⟨g,o,cs,g1,g2,g3,g4,fun i c j x ct v a1 a2 a3 a4=>CR.mv (m:=md) (g5 i c j x ct v a1 a2 a3 a4) (fun _ h=>.inl h) (fun _ _=>rfl) fun _ _ _=>rfl⟩
   |mp ver t es=>exact hbx
   |dead v=>trivial
 ·intro b b' y y' g hy hy' hl hl' hg hg'
  obtain ⟨x,h1,h2,_⟩:=hlive b y hy hl
  obtain ⟨x',h1',h2',_⟩:=hlive b' y' hy' hl'
  exact hw.disj b b' x x' g h1 h1' h2 h2' hg hg'
 ·intro b y g hy hl hg
  obtain ⟨x,h1,h2,h3⟩:=hlive b y hy hl
  obtain ⟨q1,q2⟩:=hw.out b x g h1 h2 hg
  refine ⟨?_,q2⟩
  rintro (h|⟨c,z,c1,c2,⟨c3,c4⟩|c3⟩)
  ·exact q1 h
  ·have:=hw.disj b c x z g h1 c2 h2 c3 hg c4
   subst this
   rw[(cM _ _).2 c1] at h3
   simp at h3
  ·exact (hw.own c z g c2 c3).2.2.2.2 b x h1 h2 hg
 ·intro n hn
  obtain ⟨x,h1,h2⟩:=hw.stay n hn
  cases hm:cX bs n with
  |true=>exact ⟨_,Hx h1 hm,fun e=>by simp[Box.ver] at e⟩
  |false=>
   refine ⟨_,mf h1 hm,fun e=>?_⟩
   obtain ⟨p1,p2⟩:=h2 (by rw[im] at e;exact e)
   exact ⟨p1,fun hm2=>p2 (by cases x<;>first|exact hm2|simp[Box.m,Box.frz] at hm2)⟩
 ·obtain ⟨x,hx,⟨hm,rfl⟩|⟨hm,rfl⟩⟩:=hget b y hy
  ·trivial
  ·have:=hw.lin b x hx
   cases x<;>first|exact this|trivial
 ·obtain ⟨x,h1,h2,h3,h4⟩:=hnst b y k hy hk
  obtain ⟨o1,o2,o3,o4,o5⟩:=hw.own b x k h1 h3
  rw[h4]
  refine ⟨o1,fun hm=>?_,fun hm=>.inl (o3 hm),o4,fun b' y' hy' hl' hg'=>?_⟩
  ·rintro (h|⟨c,z,c1,c2,⟨c3,c4⟩|c3⟩)
   ·exact o2 hm h
   ·exact o5 c z c2 c3 c4
   ·have:=hw.odj b c x z k h1 c2 h3 c3
    subst this
    rw[(cM _ _).2 c1] at h2
    simp at h2
  ·obtain ⟨x',q1,q2,_⟩:=hlive b' y' hy' hl'
   exact o5 b' x' q1 q2 hg'
 ·obtain ⟨x,h1,_,h3,_⟩:=hnst b y k hy hk
  obtain ⟨x',h1',_,h3',_⟩:=hnst b' y' k hy' hk'
  exact hw.odj b b' x x' k h1 h1' h3 h3'
 ·exact DU hw (hs.sl k)
theorem Ce {n:Nat} {σ:St} {a:Act} {d b v md:Nat} {lo hi:Int} {t:TypeId} {es:List (List C)} (hsl:σ.sl d=.vw b v lo hi) (hbx:σ.bx b=some (.arr v t es md)) (hmd:¬2≤md) (hlo:lo=0∨lo<hi) (h:Sim T fr n σ a w):
  Sim T fr n ⟨upd σ.sl d (.ow b (v+1)),upd σ.bx b (some (.arr (v+1) t ((es.take hi.toNat).drop lo.toNat) (mT T t)))⟩ a w:=by
 obtain ⟨F,θ,hw,hs⟩:=h
 have hx:=hs.sl d
 rw[hsl] at hx
 obtain ⟨dd,_,_,hdd,_⟩:=hw.box b _ hbx
 have hmT:mT T t=mF dd:=by simp[mT,hdd]
 obtain ⟨hput,hva⟩:=zU (md:=mT T t) hx hbx hmd hdd (by rw[hmT];exact w6 dd) hlo hw
 refine ⟨F,_,hput.1,⟨fun k=>?_,hs.n,hs.defers⟩⟩
 by_cases hk:k=d
 ·subst hk
  show aj T F w (upd σ.bx b _) _ (upd σ.sl k _ k) _
  rw[aq]
  exact .ow b (v+1) _ _ (aq _ _ _) (Nat.le_refl _) hva fun _=>⟨t,_,_,rfl,(aq _ _ _).symm⟩
 ·show aj T F w (upd σ.bx b _) _ (upd σ.sl d _ k) _
  rw[aW _ _ hk]
  exact (hs.sl k).mv hput.2
theorem yZ {n:Nat} {σ:St} {a:Act} {m i b v vw md:Nat} {lo hi:Int} {t tw:TypeId} {es:List (List C)} {cells:List V} (hm:σ.bx m=some (.var vw tw cells)) (hci:cells[i]?=some (.vw b v lo hi)) (hbx:σ.bx b=some (.arr v t es md)) (hmd:¬2≤md) (hlo:lo=0∨lo<hi) (h:Sim T fr n σ a w):
  Sim T fr n ⟨σ.sl,upd (upd σ.bx b (some (.arr (v+1) t ((es.take hi.toNat).drop lo.toNat) (mT T t)))) m (some (.var vw tw (cells.set i (.ow b (v+1)))))⟩ a w:=by
 obtain ⟨F,θ,hw,hs⟩:=h
 have hmb:m≠b:=by rintro rfl;rw[hm] at hbx;simp at hbx
 obtain ⟨g,cs,e,dt,q1,q2,q3,q4,q5,q6⟩:=hw.box m _ hm
 have hil:i<cells.length:=(List.getElem?_eq_some_iff.1 hci).1
 have hcs:cs[i]?=some (cs[i]'(by omega)):=Array.getElem?_eq_getElem (by omega)
 have hx:=q6 i _ _ hci hcs
 obtain ⟨dd,_,_,hdd,_⟩:=hw.box b _ hbx
 have hmT:mT T t=mF dd:=by simp[mT,hdd]
 obtain ⟨hput,hva⟩:=zU (md:=mT T t) hx hbx hmd hdd (by rw[hmT];exact w6 dd) hlo hw
 have hm':(upd σ.bx b (some (.arr (v+1) t ((es.take hi.toNat).drop lo.toNat) (mT T t)))) m=some (.var vw tw cells):=by rw[aW _ _ hmb];exact hm
 have hthm:(upd θ b (cs[i]'(by omega))) m=θ m:=aW _ _ hmb
 have hput2:=hput.1.put m (.var vw tw (cells.set i (.ow b (v+1)))) (θ m) w (fun z hz=>by
   rw[hm'] at hz;obtain rfl:=Option.some.inj hz
   exact .inr ⟨rfl,by simp[Box.same],hthm.symm,fun h=>by simp[Box.m] at h⟩) (fun q hq=>.inl rfl) (Nat.le_refl _) rfl rfl ⟨rfl,Nat.le_refl _⟩
  (fun q hq=>.inr ⟨_,hm',rfl,by rw[hthm];exact hq⟩) (fun _ h=>h) trivial (fun mv=>by
   refine ⟨g,cs,e,dt,by rw[aq];exact q1,q2,by rw[List.length_set];exact q3,q4,by rw[List.length_set];exact q5,fun k x u hk hu=>?_⟩
   rw[List.getElem?_set] at hk
   split at hk
   ·rename_i e
    subst e
    obtain rfl:=Option.some.inj hk
    rw[hcs] at hu
    obtain rfl:=Option.some.inj hu
    exact (aj.ow b (v+1) _ _ (aq _ _ _) (Nat.le_refl _) hva fun _=>⟨t,_,_,rfl,(aq _ _ _).symm⟩).mv mv
   ·exact ((q6 k x u hk hu).mv hput.2).mv mv)
 exact ⟨F,_,hput2.1,⟨fun k=>((hs.sl k).mv hput.2).mv hput2.2,hs.n,hs.defers⟩⟩
theorem II {n:Nat} {σ:St} {a:Act} (m i:Nat) (hc:σ.xL m i=true) (h:Sim T fr n σ a w):Sim T fr n (σ.GQ T m i) a w:=by
 unfold St.GQ
 unfold St.xL at hc
 split
 ·rename_i vw tw cells hm
  rw[hm] at hc
  simp only at hc
  split
  ·rename_i b ver lo hi hci
   rw[hci] at hc
   simp only at hc
   rw[mM] at hci
   split
   ·rename_i v t es md hbx
    cases hv:az (Nat.beq v ver) (Nat.blt md 2) with
    |false=>exact h
    |true=>
     have hv':=hv
     rw[ao,Bool.and_eq_true] at hv'
     have hmd:=kB hv'.2
     have e:=Nat.eq_of_beq_eq_true hv'.1
     subst e
     rw[ai]
     split
     ·have:=yZ hm hci hbx hmd (.inl rfl) h
      simpa [vU] using this
     ·rename_i hne
      have:=yZ hm hci hbx hmd (by
       split at hc
       ·exact (hne rfl).elim
       ·exact .inr (by simpa using hc)) h
      simpa [vU] using this
   ·exact h
  ·exact h
 ·exact h
theorem Ju {n:Nat} {σ:St} {a:Act} (d:Nat) (hc:σ.Br d=true) (h:Sim T fr n σ a w):Sim T fr n (σ.cut T d) a w:=by
 unfold St.cut
 unfold St.Br at hc
 split
 ·rename_i b ver lo hi hsl
  rw[hsl] at hc
  simp only at hc
  split
  ·rename_i v t es md hbx
   cases hv:az (Nat.beq v ver) (Nat.blt md 2) with
   |false=>exact h
   |true=>
    have hv':=hv
    rw[ao,Bool.and_eq_true] at hv'
    have hmd:=kB hv'.2
    have e:=Nat.eq_of_beq_eq_true hv'.1
    subst e
    rw[ai]
    split
    ·have:=Ce hsl hbx hmd (.inl rfl) h
     simpa using this
    ·rename_i hne
     refine Ce hsl hbx hmd ?_ h
     split at hc
     ·exact (hne rfl).elim
     ·exact .inr (by simpa using hc)
  ·exact h
 ·exact h
end
end Go.Ev
namespace Go.Ev
section
variable {P:Program} {X:Cx} {fr:Fr}
theorem FW {T:Tys} {n:Nat} {σ:St} {a:Act} {w w':World} (h:Sim T fr n σ a w) (hh:w'.heap=w.heap) (hos:w'.os=w.os) (htp:w'.tape=w.tape) (hou:w'.output=w.output∧w.drawn≤w'.drawn):Sim T fr n σ a w':=by
 obtain ⟨F,θ,hw,hs⟩:=h
 have m:Mv F w σ.bx θ F w' σ.bx θ:=⟨fun _ h=>h,fun k _=>by rw[hh],fun b x hx=>⟨x,hx,Nat.le_refl _,fun _=>⟨x.ku,rfl,fun h=>⟨h,fun g o n cap e p A l c hc=>(fS (show w'.heap[g]?=w.heap[g]? by rw[hh]) p).trans hc⟩⟩⟩⟩
 have hb:∀(b:Nat) (x:Box) (k:Nat),x.nst T w' (θ b) k→x.nst T w (θ b) k:=fun b x k hk=>AG hk (fun g _=>by rw[hh]) fun k _=>by rw[hh]
 refine ⟨F,θ,⟨fun b x hx=>(hw.box b x hx).mv m rfl (fun g _=>by rw[hh]) fun k _=>by rw[hh],hw.disj,fun b x g h1 h2 h3=>by rw[hh];exact hw.out b x g h1 h2 h3,fun k hk=>by rw[hh];exact hw.lt k hk,
  hw.keep.next hos htp hou (by rw[hh];exact Nat.le_refl _) fun k _ _=>by rw[hh],hw.sub,hw.new,qK hw.stay m,fun b x hx=>zP (hw.lin b x hx) (fun g _=>by rw[hh]) fun k _=>by rw[hh],fun b x k hx hk=>by rw[hh];exact hw.own b x k hx (hb b x k hk),
  fun b b' x x' k hx hx' hk hk'=>hw.odj b b' x x' k hx hx' (hb b x k hk) (hb b' x' k hk'),hw.nlF⟩,⟨fun k=>(hs.sl k).mv m,hs.n,hs.defers⟩⟩
theorem E5 (hX:Env P X) {id:Nat} {ops:Array Oper} {draw:Bool} {κ:St→R} {σ:St} {r:Out} {a:Act} {w:World} {Q:Exit→Act→World→Prop}
  (h:sif (orS (dT draw) (oB ops.toList 0)) (jU X draw ops.toList (sif draw (anc ops.toList []) []) κ ops.toList [] σ) none=some r) (hs:Sim X.T fr X.n σ a w)
  (hκ:∀σ' a' w',κ σ'=some r→Sim X.T fr X.n σ' a' w'→Q .normal a' w'):(Code.region id ops draw).wp P Q a w:=by
 cases hB:orS (dT draw) (oB ops.toList 0) with
 |false=>rw[hB,aV] at h;simp at h
 |true=>
  rw[hB,ai] at h
  obtain ⟨⟨L,σ',c1,c2,c3,c4⟩⟩:=ss ops.toList [] σ (fun i o ho=>by simpa using ho) (fun j q d x hj=>by simp at hj) h
  simp only[List.length_nil] at c3
  have hget:∀(p i:Nat) (o:Oper) (g:Lg),L[p]?=some (i,o,g)→i=p∧ops.toList[p]?=some o:=by
   intro p i o g hp
   have h1:(L.map fun p=>(p.1,p.2.1))[p]?=some (i,o):=by simp[hp]
   rw[c3] at h1
   simp only[List.getElem?_map,Option.map_eq_some_iff] at h1
   obtain ⟨⟨o',i'⟩,h2,h3⟩:=h1
   simp only[Prod.mk.injEq] at h3
   obtain ⟨rfl,rfl⟩:=h3
   rw[List.getElem?_zipIdx] at h2
   obtain ⟨z,hz,he⟩:=Option.map_eq_some_iff.1 h2
   simp only[Prod.mk.injEq] at he
   obtain ⟨rfl,rfl⟩:=he
   exact ⟨by omega,hz⟩
  have hlen:L.length=ops.size:=by
   have:=congrArg List.length c3
   simpa using this
  have hmem:∀i o g,(i,o,g)∈L→ops.toList[i]?=some o:=by
   intro i o g hm
   obtain ⟨p,hp,he⟩:=List.mem_iff_getElem.1 hm
   obtain ⟨rfl,h2⟩:=hget p i o g (by rw[List.getElem?_eq_getElem hp,he])
   exact h2
  cases draw with
  |false=>
   refine wp_region ?_
   have:=BS hX (Q:=Q) L σ a w c1 hmem hs fun a' w' hs'=>hκ σ' a' w' c2 hs'
   have e:L.map (·.1)=List.range ops.size:=by
    refine List.ext_getElem? fun p=>?_
    rw[List.getElem?_map]
    rcases Nat.lt_or_ge p L.length with hp|hp
    ·have hp':=List.getElem?_eq_getElem hp
     obtain ⟨h1,h2⟩:=hget p _ _ _ hp'
     rw[hp',List.getElem?_range (by omega)]
     exact congrArg some h1
    ·rw[List.getElem?_eq_none hp,List.getElem?_eq_none (by simp;omega)];rfl
   rw[e] at this
   simpa using this
  |true=>
   refine wp_region_any hX.mixed ?_
   have hB':oB ops.toList 0=true:=by simpa [km,cV] using hB
   have hs':Sim X.T fr X.n σ a {w with drawn:=w.drawn+1}:=FW hs rfl rfl rfl ⟨rfl,Nat.le_succ _⟩
   have hI:Inv ops.toList (Array.replicate ops.size false) L:=by
    refine ⟨by simp,fun i o g hm=>⟨hmem i o g hm,?_⟩,fun i hi _=>?_,?_,?_,fun i o hl=>?_⟩
    ·have:=(List.getElem?_eq_some_iff.1 (hmem i o g hm)).1
     simp at this
     simp[Array.getD,this]
    ·have hi':i<L.length:=by rw[hlen];simpa using hi
     have hp':=List.getElem?_eq_getElem hi'
     obtain ⟨h1,h2⟩:=hget i _ _ _ hp'
     refine ⟨L[i].2.1,L[i].2.2,?_⟩
     have hm:=List.getElem_mem hi'
     have e:L[i]=(i,L[i].2.1,L[i].2.2):=Prod.ext h1 rfl
     rw[e] at hm
     exact hm
    ·refine List.pairwise_iff_getElem.2 fun p q hp hq hpq=>?_
     have h1:L[p].1=p:=(hget p _ _ _ (List.getElem?_eq_getElem hp)).1
     have h2:L[q].1=q:=(hget q _ _ _ (List.getElem?_eq_getElem hq)).1
     omega
    ·refine List.pairwise_iff_getElem.2 fun p q hp hq hpq=>?_
     have h1:L[p].1=p:=(hget p _ _ _ (List.getElem?_eq_getElem hp)).1
     have h2:=c4 rfl q L[q].1 L[q].2.1 L[q].2.2 (List.getElem?_eq_getElem hq) p L[p].2.1 L[p].2.2 (by simp[hp]) (by simpa using hpq)
     rw[h1]
     exact h2
    ·by_cases hi:i<ops.size
     ·simp[Array.getD,hi] at hl
     ·simp[Array.getD,hi] at hl
   have:=Js hX (Q:=Q) hB' (fun a' w' hs''=>hκ σ' a' w' c2 hs'') ops.size _ L σ a _ hI (by omega) c1 hs'
   simpa using this
def yB (id:Nat):Exit:=if id≤999999 then .exit id else .goto (id-1000000)
theorem CE {id:Nat} (h:id≤999999):yB id=.exit id:=if_pos h
theorem tF (l:Nat):yB (Nat.add 1000000 l)=.goto l:=by
 rw[Nat.add_eq]
 unfold yB
 rw[if_neg (by omega),Nat.add_sub_cancel_left]
theorem DX {K:Act→World→Prop} {Q:Exit→Act→World→Prop} {id:Nat} {a:Act} {w:World} (h:Q (yB id) a w):Exit.then K Q (yB id) a w:=by
 unfold yB at h⊢
 by_cases hl:id≤999999
 ·rw[if_pos hl] at h⊢;exact h
 ·rw[if_neg hl] at h⊢;exact h
def Snd (P:Program) (X:Cx) (fr:Fr) (J:Jn) (c:Code) (m:Ann→(St→R)→St→R):Prop:=
 ∀(n:Ann) (κ:St→R) (σ:St) (r:Out) (Q:Exit→Act→World→Prop) (a:Act) (w:World),m n κ σ=some r→Sim X.T fr X.n σ a w→
  (∀σ' a' w',κ σ'=some r→Sim X.T fr X.n σ' a' w'→Q .normal a' w')→
  (∀id t xs a' w',qC J id=some t→r=.brk id xs→Sim X.T fr X.n (t.inj xs) a' w'→Q (yB id) a' w')→
  (∀σ' a' w',qm X σ'=some r→Sim X.T fr X.n σ' a' w'→Q .ret a' w')→c.wp P Q a w
theorem Bq {β:Type} (xs:List C):∀(q:List (Nat×Sk)) (p:Nat) (f:cj) (k:cj→Nat→β),GX xs q p f k=k (cy nm0 xs q p f).1 (cy nm0 xs q p f).2
 |[],p,f,k=>rfl
 |(d,s)::r,p,f,k=>by
  show (s.inst nm0 xs p).1.force _=_
  rw[force_eq,Bq xs r]
  rfl
theorem si {β:Type} (xs:List C):∀(q:List (Nat×BSk)) (p:Nat) (f:Bxs) (k:Bxs→β),xh xs q p f k=k (cq nm0 xs q p f)
 |[],p,f,k=>rfl
 |(b,.var t cells)::r,p,f,k=>by
  show V.qF _ _=_
  rw[lM,si xs r]
  rfl
 |(b,.arr t m)::r,p,f,k=>by
  show xh xs r _ _ k=_
  rw[si xs r]
  rfl
 |(b,.mp t)::r,p,f,k=>by
  show xh xs r _ _ k=_
  rw[si xs r]
  rfl
theorem qO {β:Type} (t:Tm) (xs:List C) (k:St→β):t.qa xs k=k (t.inj xs):=by
 unfold Tm.qa
 rw[Bq,si]
 rfl
theorem kc {σ:St} {r:Out} (h:qm X σ=some r):∃ys,r=.ret ys:=by
 unfold qm at h
 split at h
 ·cases hc:az (DG σ.bx X.ip) (mh X.inT.bx X.ip) with
  |false=>rw[hc,aV] at h;simp at h
  |true=>
   rw[hc,ai] at h
   split at h
   ·rename_i e _
    cases hz:isNil e.fz with
    |false=>rw[hz,aV] at h;simp at h
    |true=>rw[hz,ai] at h;exact ⟨_,(Option.some.inj h).symm⟩
   ·simp at h
 ·simp at h
theorem iO {J:Jn} {c:Code} {f:Ann→(St→R)→St→R} (hst:fr.st=X.ip) (hf:Snd P X fr J c f):Snd P X fr J c (wrap X f):=by
 intro n
 induction n with
 |frz bs x ih=>
  intro κ σ r Q a w h hs h1 h2 h3
  exact ih κ (σ.frz X.T bs) r Q a w h (Je bs hs) h1 h2 h3
 |cut d x ih=>
  intro κ σ r Q a w h hs h1 h2 h3
  replace h:cond (σ.Br d) (wrap X f x κ (σ.cut X.T d)) none=some r:=h
  cases hc:σ.Br d with
  |false=>rw[hc] at h;simp at h
  |true=>rw[hc] at h;exact ih κ (σ.cut X.T d) r Q a w h (Ju d hc hs) h1 h2 h3
 |cutc m i x ih=>
  intro κ σ r Q a w h hs h1 h2 h3
  replace h:cond (σ.xL m i) (wrap X f x κ (σ.GQ X.T m i)) none=some r:=h
  cases hc:σ.xL m i with
  |false=>rw[hc] at h;simp at h
  |true=>rw[hc] at h;exact ih κ (σ.GQ X.T m i) r Q a w h (II m i hc hs) h1 h2 h3
 |join t x ih=>
  intro κ σ r Q a w h hs h1 h2 h3
  replace h:bf (wrap X f x (fun σ'=>pA X t σ' .nrm) σ) (fun xs=>t.qa xs κ)=some r:=h
  cases hr1:wrap X f x (fun σ'=>pA X t σ' .nrm) σ with
  |none=>rw[hr1] at h;simp[bf] at h
  |some r1=>
   rw[hr1] at h
   refine ih _ σ r1 Q a w hr1 hs (fun σ' a' w' hk hs'=>?_) (fun id t' xs a' w' hj he hs'=>?_) (fun σ' a' w' hk hs'=>?_)
   ·obtain ⟨xs,rfl,hs''⟩:=qQ hst hk hs'
    replace h:t.qa xs κ=some r:=h
    rw[qO] at h
    exact h1 _ a' w' h hs''
   ·subst he
    have e:r=.brk id xs:=(Option.some.inj h).symm
    exact h2 id t' xs a' w' hj e hs'
   ·obtain ⟨ys,rfl⟩:=kc hk
    have e:r=.ret ys:=(Option.some.inj h).symm
    rw[←e] at hk
    exact h3 σ' a' w' hk hs'
 |leaf=>exact hf .leaf
 |seq x y _ _=>exact hf (.seq x y)
 |cond x y _ _=>exact hf (.cond x y)
 |block t x _=>exact hf (.block t x)
 |loop t x _=>exact hf (.loop t x)
 |skip x _=>exact hf (.skip x)
 |scp l t x y _ _=>exact hf (.scp l t x y)
theorem BZ (id:Nat):∀(J:Jn),qC (uH id J) id=none∧∀k t,qC (uH id J) k=some t→qC J k=some t
 |[]=>⟨rfl,fun k t h=>h⟩
 |(m,u)::r=>by
  obtain ⟨h1,h2⟩:=BZ id r
  cases hb:Nat.beq m id with
  |true=>
   have e:uH id ((m,u)::r)=uH id r:=by show sif (Nat.beq m id) _ _=_;rw[hb];rfl
   rw[e]
   refine ⟨h1,fun k t hk=>?_⟩
   have hmk:Nat.beq m k=false:=by
    cases hmk:Nat.beq m k with
    |false=>rfl
    |true=>
     have a1:=Nat.eq_of_beq_eq_true hb
     have a2:=Nat.eq_of_beq_eq_true hmk
     subst a1;subst a2
     rw[h1] at hk;simp at hk
   show sif (Nat.beq m k) _ _=_
   rw[hmk]
   exact h2 k t hk
  |false=>
   have e:uH id ((m,u)::r)=(m,u)::uH id r:=by show sif (Nat.beq m id) _ _=_;rw[hb];rfl
   rw[e]
   refine ⟨?_,fun k t hk=>?_⟩
   ·show sif (Nat.beq m id) _ _=_
    rw[hb];exact h1
   ·replace hk:sif (Nat.beq m k) (some u) (qC (uH id r) k)=some t:=hk
    show sif (Nat.beq m k) (some u) (qC r k)=some t
    cases hmk:Nat.beq m k with
    |true=>rw[hmk] at hk;exact hk
    |false=>rw[hmk] at hk;exact h2 k t hk
theorem sX {body:List C→R} {xs:List C} {r:Out} (h:lim body xs=some r):∃k,iter body k xs=some r:=by
 unfold lim at h
 split at h
 ·exact ⟨_,h⟩
 ·simp at h
theorem Bb (hX:Env P X) (hst:fr.st=X.ip):∀(c:Code) (J:Jn),Snd P X fr J c (ev X c J):=by
 intro c
 induction c with
 |skip=>
  intro J
  refine iO hst ?_
  intro n κ σ r Q a w h hs h1 h2 h3
  exact wp_skip (h1 σ a w h hs)
 |region id ops draw=>
  intro J
  refine iO hst ?_
  intro n κ σ r Q a w h hs h1 h2 h3
  exact E5 hX h hs h1
 |seq x y ihx ihy=>
  intro J
  refine iO hst ?_
  intro n κ σ r Q a w h hs h1 h2 h3
  have key:∀n1 n2,ev X x J n1 (fun σ=>ev X y J n2 κ σ) σ=some r→(Code.seq x y).wp P Q a w:=by
   intro n1 n2 h
   refine wp_seq (ihx J n1 _ σ r _ a w h hs (fun σ' a' w' hk hs'=>?_) (fun id t xs a' w' h4 h5 h6=>DX (h2 id t xs a' w' h4 h5 h6)) h3)
   exact ihy J n2 κ σ' r Q a' w' hk hs' h1 h2 h3
  cases n with
  |seq n1 n2=>exact key n1 n2 h
  |_=>exact key _ _ h
 |cond q x y ihx ihy=>
  intro J
  refine iO hst ?_
  intro n κ σ r Q a w h hs h1 h2 h3
  have hv:aj X.T _ _ _ _ (bV σ.sl q) (a.eval q):=D7 hs.ex.choose_spec.choose_spec.2.sl q
  dsimp only at h
  generalize ho:bV σ.sl q=oq at h hv
  cases oq with
  |c t z=>cases t with
   |bool=>
    have hb:=lF hv
    have key:∀n1 n2,cond z.B (ev X x J n1 κ σ) (ev X y J n2 κ σ)=some r→(Code.cond q x y).wp P Q a w:=by
     intro n1 n2 h
     refine wp_cond_split hb (fun ht=>?_) (fun hf=>?_)
     ·rw[ht] at h;exact ihx J n1 κ σ r Q a w h hs h1 h2 h3
     ·rw[hf] at h;exact ihy J n2 κ σ r Q a w h hs h1 h2 h3
    cases n with
    |cond n1 n2=>exact key n1 n2 h
    |_=>exact key _ _ h
   |_=>exact absurd (show (none:R)=some r from h) (by simp)
  |_=>exact absurd (show (none:R)=some r from h) (by simp)
 |block id x ih=>
  intro J
  refine iO hst ?_
  intro n κ σ r Q a w h hs h1 h2 h3
  cases hlow:Nat.ble id 999999 with
  |false=>dsimp only at h;rw[hlow,aV] at h;simp at h
  |true=>
  dsimp only at h
  rw[hlow,ai] at h
  have hlow':=Nat.le_of_ble_eq_true hlow
  have hblk:∀(id':Nat) (a':Act) (w':World),id'≠id→Q (yB id') a' w'→Exit.inBlock id Q (yB id') a' w':=by
   intro id' a' w' hid hq
   unfold yB at hq⊢
   by_cases hl:id'≤999999
   ·rw[if_pos hl] at hq⊢
    show if id'=id then _ else _
    rw[if_neg hid];exact hq
   ·rw[if_neg hl] at hq⊢;exact hq
  have key:∀n1,ev X x (uH id J) n1 κ σ=some r→(Code.block id x).wp P Q a w:=by
   intro n1 h
   refine wp_block (ih (uH id J) n1 κ σ r _ a w h hs h1 (fun id' t xs a' w' hj he hs'=>?_) h3)
   obtain ⟨d1,d2⟩:=BZ id J
   by_cases hid:id'=id
   ·subst hid;rw[d1] at hj;simp at hj
   ·exact hblk id' a' w' hid (h2 id' t xs a' w' (d2 _ _ hj) he hs')
  cases n with
  |block t n1=>
   replace h:ah id (ev X x ((id,t)::J) n1 (fun σ'=>pA X t σ' (.brk id)) σ) (fun xs=>t.qa xs κ)=some r:=h
   cases hr1:ev X x ((id,t)::J) n1 (fun σ'=>pA X t σ' (.brk id)) σ with
   |none=>rw[hr1] at h;simp[ah] at h
   |some r1=>
    rw[hr1] at h
    have hbrk:∀xs a' w',r1=.brk id xs→Sim X.T fr X.n (t.inj xs) a' w'→Q .normal a' w':=by
     intro xs a' w' he hs'
     subst he
     replace h:sif (Nat.beq id id) (t.qa xs κ) (some (.brk id xs))=some r:=h
     rw[Nat.beq_refl,ai,qO] at h
     exact h1 _ a' w' h hs'
    refine wp_block (ih ((id,t)::J) n1 _ σ r1 _ a w hr1 hs (fun σ' a' w' hk hs'=>?_) (fun id' t' xs a' w' hj he hs'=>?_) (fun σ' a' w' hk hs'=>?_))
    ·obtain ⟨xs,he,hs''⟩:=qQ hst hk hs'
     exact hbrk xs a' w' he hs''
    ·by_cases hid:id'=id
     ·subst hid
      replace hj:sif (Nat.beq id' id') (some t) (qC J id')=some t':=hj
      rw[Nat.beq_refl,ai] at hj
      obtain rfl:=Option.some.inj hj
      rw[CE hlow']
      show if id'=id' then _ else _
      rw[if_pos rfl]
      exact hbrk xs a' w' he hs'
     ·refine hblk id' a' w' hid ?_
      have hb1:Nat.beq id id'=false:=by
       cases hb:Nat.beq id id' with
       |false=>rfl
       |true=>exact absurd (Nat.eq_of_beq_eq_true hb).symm hid
      have hb2:Nat.beq id' id=false:=by
       cases hb:Nat.beq id' id with
       |false=>rfl
       |true=>exact absurd (Nat.eq_of_beq_eq_true hb) hid
      replace hj:sif (Nat.beq id id') (some t) (qC J id')=some t':=hj
      rw[hb1,aV] at hj
      subst he
      replace h:sif (Nat.beq id' id) (t.qa xs κ) (some (.brk id' xs))=some r:=h
      rw[hb2,aV] at h
      exact h2 id' t' xs a' w' hj (Option.some.inj h).symm hs'
    ·obtain ⟨ys,rfl⟩:=kc hk
     have e:r=.ret ys:=(Option.some.inj h).symm
     rw[←e] at hk
     exact h3 σ' a' w' hk hs'
  |skip n1=>exact key n1 h
  |_=>exact key _ h
 |loop x ih=>
  intro J
  refine iO hst ?_
  intro n κ σ r Q a w h hs h1 h2 h3
  cases n with
  |loop t n1=>
   replace h:sif (uz X t σ) (match t.data X.T (xW X.ip) σ with
    |some xs=>lim (fun xs=>t.qa xs (ev X x J n1 fun σ'=>pA X t σ' .again)) xs
    |none=>none) none=some r:=h
   cases hj:uz X t σ with
   |false=>rw[hj,aV] at h;simp at h
   |true=>
    rw[hj,ai] at h
    split at h
    ·rename_i xs hxs
     have h0:pA X t σ .again=some (.again xs):=by unfold pA;rw[hj,ai,hxs]
     obtain ⟨xs',he,hs0⟩:=qQ hst h0 hs
     simp only[Out.again.injEq] at he
     subst he
     obtain ⟨k,hk⟩:=sX h
     refine wp_loop_rounds k ?_
     have rounds:∀(k:Nat) (xs:List C) (a:Act) (w:World),iter (fun xs=>t.qa xs (ev X x J n1 fun σ'=>pA X t σ' .again)) k xs=some r→Sim X.T fr X.n (t.inj xs) a w→Code.rounds P x Q k a w:=by
      intro k
      induction k with
      |zero=>intro xs a w hk _;simp[iter] at hk
      |succ k ihk=>
       intro xs a w hk hs
       show x.wp P (Exit.then (Code.rounds P x Q k) Q) a w
       simp only[iter] at hk
       rw[qO] at hk
       cases hr1:ev X x J n1 (fun σ'=>pA X t σ' .again) (t.inj xs) with
       |none=>rw[hr1] at hk;simp at hk
       |some r1=>
        rw[hr1] at hk
        refine ih J n1 _ _ r1 _ a w hr1 hs (fun σ' a' w' hk' hs'=>?_) (fun id' t' ys a' w' hj he hs'=>?_) (fun σ' a' w' hk' hs'=>?_)
        ·obtain ⟨ys,rfl,hs''⟩:=qQ hst hk' hs'
         exact ihk ys a' w' hk hs''
        ·subst he
         exact DX (h2 id' t' ys a' w' hj (Option.some.inj hk).symm hs')
        ·obtain ⟨ys,rfl⟩:=kc hk'
         have e:r=.ret ys:=(Option.some.inj hk).symm
         rw[←e] at hk'
         exact h3 σ' a' w' hk' hs'
     exact rounds k _ a w hk hs0
    ·simp at h
  |_=>exact absurd (show (none:R)=some r from h) (by simp)
 |exit id=>
  intro J
  refine iO hst ?_
  intro n κ σ r Q a w h hs h1 h2 h3
  replace h:sif (Nat.ble id 999999) (match qC J id with
   |some t=>pA X t σ (.brk id)
   |none=>none) none=some r:=h
  cases hlow:Nat.ble id 999999 with
  |false=>rw[hlow,aV] at h;simp at h
  |true=>
   rw[hlow,ai] at h
   split at h
   ·rename_i t hj
    obtain ⟨xs,he,hs'⟩:=qQ hst h hs
    have:=h2 id t xs a w hj he hs'
    rw[CE (Nat.le_of_ble_eq_true hlow)] at this
    exact wp_exit this
   ·simp at h
 |label l=>
  intro J
  refine iO hst ?_
  intro n κ σ r Q a w h hs h1 h2 h3
  exact wp_label (h1 σ a w h hs)
 |goto l=>
  intro J
  refine iO hst ?_
  intro n κ σ r Q a w h hs h1 h2 h3
  replace h:(match qC J (Nat.add 1000000 l) with
   |some t=>pA X t σ (.brk (Nat.add 1000000 l))
   |none=>none)=some r:=h
  split at h
  ·rename_i t hj
   obtain ⟨xs,he,hs'⟩:=qQ hst h hs
   have:=h2 _ t xs a w hj he hs'
   rw[tF] at this
   exact wp_goto this
  ·simp at h
 |ret=>
  intro J
  refine iO hst ?_
  intro n κ σ r Q a w h hs h1 h2 h3
  exact wp_ret (h3 σ a w h hs)
 |_=>
  intro J n κ σ r Q a w h
  exact absurd (show (none:R)=some r from h) (by simp)
theorem vD {c rest:Code} {Q:Exit→Act→World→Prop} {a:Act} {w:World} (l:Nat) (R:Nat→Act→World→Prop) (hf:findLabel c l=some rest)
  (first:c.wp P (Exit.jump l (fun a w=>∃k,R k a w) Q) a w)
  (pass:∀k a w,R k a w→rest.wp P (Exit.jump l (fun a' w'=>∃j,j<k∧R j a' w') Q) a w):(Code.scope c).wp P Q a w:=by
 intro b k cs
 have hg:gotoIn l (.inScope c::k)=some (.code rest::.inScope c::k):=by simp[gotoIn,hf]
 have key:∀n a w,R n a w→∃e a' w',Q e a' w'∧Arrives P (lone (b.at a (.code rest::.inScope c::k)) cs w) b k cs e a' w':=by
  intro n
  induction n using Nat.strongRecOn with
  |_ n ih=>
   intro a w hR
   obtain ⟨e,a₁,w₁,hq,harr⟩:=pass n a w hR b (.inScope c::k) cs
   cases e with
   |normal=>exact ⟨.normal,a₁,w₁,hq,Steps.trans harr (.one step_inScope)⟩
   |exit id=>exact ⟨.exit id,a₁,w₁,hq,fun k' hk=>harr k' (by simp[exitTo,hk])⟩
   |goto l'=>
    obtain ⟨rfl,j,hj,hR'⟩:=hq
    obtain ⟨e₂,a₂,w₂,hq₂,harr₂⟩:=ih j hj a₁ w₁ hR'
    exact ⟨e₂,a₂,w₂,hq₂,.of_steps (harr _ hg) harr₂⟩
   |ret=>exact ⟨_,a₁,w₁,hq,harr⟩
   |panic ch=>exact ⟨_,a₁,w₁,hq,harr⟩
   |outgrown=>exact ⟨_,a₁,w₁,hq,harr⟩
 obtain ⟨e,a₁,w₁,hq,harr⟩:=first b (.inScope c::k) cs
 cases e with
 |normal=>exact ⟨.normal,a₁,w₁,hq,.head step_scope (Steps.trans harr (.one step_inScope))⟩
 |exit id=>exact ⟨.exit id,a₁,w₁,hq,fun k' hk=>.head step_scope (harr k' (by simp[exitTo,hk]))⟩
 |goto l'=>
  obtain ⟨rfl,j,hR'⟩:=hq
  obtain ⟨e₂,a₂,w₂,hq₂,harr₂⟩:=key j a₁ w₁ hR'
  exact ⟨e₂,a₂,w₂,hq₂,.of_steps (.head step_scope (harr _ hg)) harr₂⟩
 |ret=>exact ⟨_,a₁,w₁,hq,.of_steps (.one step_scope) harr⟩
 |panic ch=>exact ⟨_,a₁,w₁,hq,.of_steps (.one step_scope) harr⟩
 |outgrown=>exact ⟨_,a₁,w₁,hq,.of_steps (.one step_scope) harr⟩
theorem Ip (hX:Env P X) (hst:fr.st=X.ip) {c:Code} {l:Nat} {t:Tm} {x y:Ann} {σ:St} {ys:List C} {Q:Exit→Act→World→Prop} {a:Act} {w:World} (h:evS X l t x y c σ=some (.ret ys)) (hs:Sim X.T fr X.n σ a w)
  (h1:∀σ' a' w',qm X σ'=some (.ret ys)→Sim X.T fr X.n σ' a' w'→Q .normal a' w') (h3:∀σ' a' w',qm X σ'=some (.ret ys)→Sim X.T fr X.n σ' a' w'→Q .ret a' w'):(Code.scope c).wp P Q a w:=by
 unfold evS at h
 split at h
 ·rename_i c' hc'
  have hjg:qC [(Nat.add 1000000 l,t)] (Nat.add 1000000 l)=some t:=by
   show sif (Nat.beq _ _) _ _=_
   rw[Nat.beq_refl];rfl
  have hjo:∀id t',qC [(Nat.add 1000000 l,t)] id=some t'→id=Nat.add 1000000 l∧t'=t:=by
   intro id t' h
   replace h:sif (Nat.beq (Nat.add 1000000 l) id) (some t) none=some t':=h
   cases hb:Nat.beq (Nat.add 1000000 l) id with
   |false=>rw[hb,aV] at h;simp at h
   |true=>rw[hb,ai] at h;exact ⟨(Nat.eq_of_beq_eq_true hb).symm,(Option.some.inj h).symm⟩
  let body:List C→R:=fun xs=>goA (Nat.add 1000000 l) (t.qa xs (ev X c' [(Nat.add 1000000 l,t)] y fun σ=>qm X σ))
  refine vD l (fun k a w=>∃xs,iter body k xs=some (.ret ys)∧Sim X.T fr X.n (t.inj xs) a w) hc' ?_ ?_
  ·cases hr1:ev X c [(Nat.add 1000000 l,t)] x (fun σ=>qm X σ) σ with
   |none=>rw[hr1] at h;simp[zN] at h
   |some r1=>
    rw[hr1] at h
    refine Bb hX hst c _ x _ _ r1 _ _ w hr1 hs (fun σ' a' w' hk hs'=>?_) (fun id t' xs a' w' hj he hs'=>?_) (fun σ' a' w' hk hs'=>?_)
    ·obtain ⟨zs,rfl⟩:=kc hk
     have e:zs=ys:=by simpa [zN] using h
     exact h1 σ' a' w' (e▸hk) hs'
    ·obtain ⟨rfl,rfl⟩:=hjo _ _ hj
     subst he
     replace h:sif (Nat.beq (Nat.add 1000000 l) (Nat.add 1000000 l)) (lim body xs) none=some (.ret ys):=h
     rw[Nat.beq_refl,ai] at h
     obtain ⟨k,hk⟩:=sX h
     rw[tF]
     exact ⟨rfl,k,xs,hk,hs'⟩
    ·obtain ⟨zs,rfl⟩:=kc hk
     have e:zs=ys:=by simpa [zN] using h
     exact h3 σ' a' w' (e▸hk) hs'
  ·rintro k a w ⟨xs,hk,hs⟩
   cases k with
   |zero=>simp[iter] at hk
   |succ k=>
    simp only[iter] at hk
    cases hr2:ev X c' [(Nat.add 1000000 l,t)] y (fun σ=>qm X σ) (t.inj xs) with
    |none=>
     have e:body xs=none:=by show goA _ (t.qa xs _)=none;rw[qO,hr2];rfl
     rw[e] at hk;simp at hk
    |some r1=>
     have e:body xs=goA (Nat.add 1000000 l) (some r1):=by show goA _ (t.qa xs _)=_;rw[qO,hr2]
     rw[e] at hk
     refine Bb hX hst c' _ y _ _ r1 _ _ w hr2 hs (fun σ' a' w' hk' hs'=>?_) (fun id t' zs a' w' hj he hs'=>?_) (fun σ' a' w' hk' hs'=>?_)
     ·obtain ⟨zs,rfl⟩:=kc hk'
      have e:zs=ys:=by simpa [goA] using hk
      exact h1 σ' a' w' (e▸hk') hs'
     ·obtain ⟨rfl,rfl⟩:=hjo _ _ hj
      subst he
      have e2:goA (Nat.add 1000000 l) (some (.brk (Nat.add 1000000 l) zs))=some (.again zs):=by
       show sif (Nat.beq _ _) _ _=_
       rw[Nat.beq_refl];rfl
      rw[e2] at hk
      rw[tF]
      exact ⟨rfl,k,Nat.lt_succ_self k,zs,hk,hs'⟩
     ·obtain ⟨zs,rfl⟩:=kc hk'
      have e:zs=ys:=by simpa [goA] using hk
      exact h3 σ' a' w' (e▸hk') hs'
 ·simp at h
theorem IE (hX:Env P X) (hst:fr.st=X.ip) {c:Code} {an:Ann} {σ:St} {ys:List C} {Q:Exit→Act→World→Prop} {a:Act} {w:World} (h:evT X an c σ=some (.ret ys)) (hs:Sim X.T fr X.n σ a w)
  (h1:∀σ' a' w',qm X σ'=some (.ret ys)→Sim X.T fr X.n σ' a' w'→Q .normal a' w') (h3:∀σ' a' w',qm X σ'=some (.ret ys)→Sim X.T fr X.n σ' a' w'→Q .ret a' w'):c.wp P Q a w:=by
 have flat:∀an,ev X c [] an (fun σ=>qm X σ) σ=some (.ret ys)→c.wp P Q a w:=fun an h=>
  Bb hX hst c [] an _ _ _ _ _ w h hs h1 (fun id t xs a' w' h=>by simp[qC] at h) h3
 unfold evT at h
 split at h
 ·rename_i x l t y z b c
  exact wp_seq (Bb hX hst b [] x _ _ _ _ _ w h hs (fun σ' a' w' hk hs'=>Ip hX hst hk hs' h1 h3) (fun id t xs a' w' h=>by simp[qC] at h) h3)
 ·exact flat _ h
end
end Go.Ev
namespace Go.Ev
section
variable {P:Program} {T:Tys} {X:Cx} {fr:Fr} {F:Nat→Prop} {w:World} {θ:Nat→Value}
def xc (tmps:Array Value):ResultVar→Sem Value
 |.tmp t=>pure (tmps.getD t undef)
 |.cell a t=>do loadVar t (←asAddr (tmps.getD a undef))
theorem Fs (hT:TOk P T) {σ:St} {n:Nat} {a:Act} (hw:WR T fr F w σ.bx θ) (hs:SlR T F w σ.bx θ n σ.sl a) {q:ResultVar} {v:V} (h:AQ T σ q=some v):
  ∃u,(xc a.tmps q).run P w=.ok u w∧aj T F w σ.bx θ v u:=by
 cases q with
 |tmp t=>
  simp only[AQ,Option.some.injEq] at h
  subst h
  exact ⟨_,by simp[xc],hs.sl t⟩
 |cell b t=>
  simp only[AQ] at h
  split at h
  ·rename_i d b' ver off hd hb
   have hv:=hs.sl b
   rw[hb] at hv
   split at h
   ·rename_i v' t' cells hbx
    cases hc:az (Nat.beq v' ver) (Nat.ble (off+len d.cts) (len cells)) with
    |false=>rw[hc,aV] at h;simp at h
    |true=>
     rw[hc,ai] at h
     simp only[ao,Bool.and_eq_true,dw] at hc
     obtain ⟨g,hth,hvv,rfl⟩:=xC hv hbx hc.1
     obtain ⟨g',cs,e,d',q1,q2,q3,q4,q5,q6⟩:=hw.box b' _ hbx
     rw[hth] at q1
     simp only[Value.pointer.injEq,Option.some.injEq,Addr.mk.injEq,and_true] at q1
     subst q1
     have hle:=Nat.le_of_ble_eq_true hc.2
     rw[pL,qh,dw] at h
     have ht:=cA hT hd
     have hl:((cs.toList.drop off).take d.cts.length).length=d.cts.length:=by
      rw[List.length_take,List.length_drop];simp;omega
     have hl2:((cells.drop off).take d.cts.length).length=d.cts.length:=by
      rw[List.length_take,List.length_drop];omega
     have hrun:=ht.mP (w:=w) (g:=g) (o:=off) hl (fun j u hj=>by
      rw[List.getElem?_take] at hj
      split at hj
      ·rw[List.getElem?_drop] at hj
       simp[World.cell?,q2];simpa using hj
      ·simp at hj)
     refine ⟨_,?_,CZ ht h (by rw[hl,hl2]) (fun i x u h1 h2=>?_)⟩
     ·simp[xc,hvv,asAddr,hrun]
     ·rw[List.getElem?_take] at h1 h2
      split at h1
      ·rename_i hi
       rw[if_pos hi] at h2
       rw[List.getElem?_drop] at h1 h2
       exact q6 _ x u h1 (by simpa using h2)
      ·simp at h1
   ·simp at h
  ·simp at h
theorem zn (hT:TOk P T) {σ:St} {n:Nat} {a:Act} (hw:WR T fr F w σ.bx θ) (hs:SlR T F w σ.bx θ n σ.sl a):∀(qs:List ResultVar) (vs:List V),tQ T σ qs=some vs→
  ∃us:List Value,(qs.mapM (xc a.tmps)).run P w=.ok us w∧us.length=vs.length∧∀(i:Nat) (x:V) (v:Value),vs[i]?=some x→us[i]?=some v→aj T F w σ.bx θ x v
 |[],vs,h=>by
  simp only[tQ,Option.some.injEq] at h
  subst h
  exact ⟨[],by simp,rfl,fun i x v h=>by simp at h⟩
 |q::r,vs,h=>by
  simp only[tQ] at h
  split at h
  ·rename_i v hv
   split at h
   ·rename_i vs' hvs
    simp only[Option.some.injEq] at h
    subst h
    obtain ⟨u,h1,h2⟩:=Fs (P:=P) hT hw hs hv
    obtain ⟨us,h3,h4,h5⟩:=zn hT hw hs r vs' hvs
    refine ⟨u::us,by simp[List.mapM_cons,h1,h3],by simp[h4],fun i x z a1 a2=>?_⟩
    cases i with
    |zero=>simp at a1 a2;subst a1;subst a2;exact h2
    |succ i=>exact h5 i x z (by simpa using a1) (by simpa using a2)
   ·simp at h
  ·simp at h
theorem HT (hT:TOk P T) {σ:St} {n:Nat} {a:Act} (hw:WR T fr F w σ.bx θ) (hs:SlR T F w σ.bx θ n σ.sl a) {fn:Func} {v:V} (h:Jc T σ fn.results.toList=some v):
  ∃u,(results fn a.tmps).run P w=.ok u w∧aj T F w σ.bx θ v u:=by
 unfold Jc at h
 have key:∀vs,tQ T σ fn.results.toList=some vs→∃us:List Value,(results fn a.tmps).run P w=.ok (if h:us.toArray.size=1 then us.toArray[0] else .tuple us.toArray) w∧us.length=vs.length∧∀(i:Nat) (x:V) (v:Value),vs[i]?=some x→us[i]?=some v→aj T F w σ.bx θ x v:=by
  intro vs hvs
  obtain ⟨us,h1,h2,h3⟩:=zn (P:=P) hT hw hs _ vs hvs
  refine ⟨us,?_,h2,h3⟩
  have e:results fn a.tmps=(do let vs←fn.results.mapM (xc a.tmps);pure (if h:vs.size=1 then vs[0] else .tuple vs)):=by
   unfold results
   congr 1
  rw[e]
  simp[Array.mapM_eq_mapM_toList,h1]
 split at h
 ·rename_i x hx
  simp only[Option.some.injEq] at h
  subst h
  obtain ⟨us,h1,h2,h3⟩:=key _ hx
  match us,h2 with
  |[u],_=>exact ⟨u,by simpa using h1,h3 0 _ u rfl rfl⟩
 ·rename_i vs hne hx
  simp only[Option.some.injEq] at h
  subst h
  obtain ⟨us,h1,h2,h3⟩:=key _ hx
  have hl:¬us.length=1:=by
   intro hl
   match vs,(h2.symm.trans hl) with
   |[x],_=>exact hne x rfl
  exact ⟨.tuple us.toArray,by simpa [hl] using h1,.tu _ us h2 h3⟩
 ·simp at h
theorem aD.JV (hX:Env P X) {f:FuncId} {fn:Func} {c:Code} {fs:FS} {an:Ann} (hf:P.funcs[f]?=some fn) (hb:fn.body=some c) (hname:(fn.name== "runtime.NumGoroutine")=false)
  (hn:fn.ntmps=X.n) (hres:fn.results.toList=X.res) (hin:X.inT=fs.inT) (hout:X.outT=fs.outT) (hip:X.ip=fs.ip) (hle:fs.n≤fn.ntmps) (hsl:∀xs k,fs.n≤k→(fs.inT.inj xs).sl k=.un)
  (hF:∀xs ys,fs.F xs=some ys→evF X c an xs=some ys):aD P X.T f fs:=by
 refine ⟨⟨fn,c,hf,hb,hname⟩,?_⟩
 intro w wr nl F0 θ xs ys args hw hsz hr hys
 refine calls_of_wp hf hb ?_
 have hev:=hF xs ys hys
 unfold evF at hev
 rw[hin,qO] at hev
 have hr1:evT X an c (fs.inT.inj xs)=some (.ret ys):=by
  unfold aY at hev
  split at hev
  ·rename_i ys' h;rw[h];simp only[Option.some.injEq] at hev;rw[hev]
  ·simp at hev
 have hs:Sim X.T ⟨w,wr,F0,θ,fs.ip,nl⟩ X.n (fs.inT.inj xs) {tmps:=args++Array.replicate (fn.ntmps-args.size) undef,defers:=[]} w:=by
  refine ⟨F0,θ,hw,⟨fun k=>?_,by simp;omega,rfl⟩⟩
  by_cases hk:k<fs.n
  ·have:=hr k hk
   have e:(args++Array.replicate (fn.ntmps-args.size) undef).getD k undef=args.getD k undef:=by
    simp only[Array.getD_eq_getD_getElem?]
    rw[Array.getElem?_append_left (by omega)]
   show aj _ _ _ _ _ _ ((args++Array.replicate (fn.ntmps-args.size) undef).getD k undef)
   rw[e]
   exact this
  ·rw[hsl xs k (by omega)];exact .un _
 have hfin:∀(σ':St) (a':Act) (w':World),qm X σ'=some (.ret ys)→Sim X.T ⟨w,wr,F0,θ,fs.ip,nl⟩ X.n σ' a' w'→a'.defers=[]∧∃v,(results fn a'.tmps).run P w'=.ok v w'∧∃v' F1 θ1,Ending.returned v=.returned v'∧WR X.T ⟨w,wr,F0,θ,[],nl⟩ F1 w' (fs.outT.inj ys).bx θ1∧aj X.T F1 w' (fs.outT.inj ys).bx θ1 ((fs.outT.inj ys).sl 0) v'∧
   ∀n x,n∈fs.ip→(fs.outT.inj ys).bx n=some x→θ1 n=θ n∧(x.m=2→Hdr w w' (θ n)):=by
  intro σ' a' w' hret hsim
  obtain ⟨F,θ',hw',hs'⟩:=hsim
  refine ⟨hs'.defers,?_⟩
  unfold qm at hret
  split at hret
  ·rename_i v hv
   cases hc:az (DG σ'.bx X.ip) (mh X.inT.bx X.ip) with
   |false=>rw[hc,aV] at hret;simp at hret
   |true=>
    rw[hc,ai] at hret
    simp only[ao,Bool.and_eq_true] at hc
    split at hret
    ·rename_i e he
     cases hz:isNil e.fz with
     |false=>rw[hz,aV] at hret;simp at hret
     |true=>
      rw[hz,ai] at hret
      simp only[Option.some.injEq,Out.ret.injEq] at hret
      obtain ⟨u,hu,hru⟩:=HT (P:=P) (fn:=fn) hX.T hw' hs' (by rw[hres];exact hv)
      have hval:∀d,aj X.T F w' σ'.bx θ' (upd (fun _=>V.un) 0 v d) (if d=0 then u else undef):=by
       intro d
       by_cases hd:d=0
       ·subst hd;rw[aq,if_pos rfl];exact hru
       ·rw[aW _ _ hd];exact .un _
      have hi:=tV hw' hval he
      have hle':=GM hw' hval he
      rw[hret] at hi
      rw[hout] at hi he
      refine ⟨u,hu,u,_,_,rfl,hi.wr hw' (st:=[]) (fun n hn=>by simp at hn),?_,fun n x' hn hx=>?_⟩
      ·have:=hi.sl 0;simpa using this
      ·rw[hip,hin] at hc
       have hf':=hle' n _ (r8 (l:=X.ip) (by rw[hip];exact hn))
       obtain ⟨x,q1,q2⟩:=hw'.stay n hn
       obtain ⟨y,q3,q4,q5⟩:=wV hc.1 n hn
       rw[q1] at q3;obtain rfl:=Option.some.inj q3
       have hth:ni θ' e.r n=θ n:=by simp only[ni,hf'];exact (q2 q4).1
       refine ⟨hth,fun hm=>?_⟩
       obtain ⟨x2,p1,p2⟩:=hi.has n (hi.hasnt n x' hx)
       have hx2:x2=x':=by
        rw[hx] at p1;exact (Option.some.inj p1).symm
       subst hx2
       have:=(q2 q4).2 ?_
       ·rw[(q2 q4).1] at this;exact this
       ·rcases p2.2 with ⟨b',y',r1,r2,r3,r4,_⟩|⟨r1,_⟩
        ·rw[hf'] at r1
         simp only[Option.some.injEq] at r1
         subst r1
         rw[q1] at r2;obtain rfl:=Option.some.inj r2
         exact wF r4 q5 hm
        ·rw[hf'] at r1;simp at r1
    ·simp at hret
  ·simp at hret
 refine IE hX (fr:=⟨w,wr,F0,θ,fs.ip,nl⟩) hip.symm hr1 hs (fun σ' a' w' h1 h2=>?_) (fun σ' a' w' h1 h2=>?_)
 ·exact hfin σ' a' w' h1 h2
 ·exact hfin σ' a' w' h1 h2
end
end Go.Ev
namespace Go.Ev
def isZero:CT→Value→Bool
 |.int k,.int k' n=>az (xX k k') (match n with|.ofNat 0=>true|_=>false)
 |.bool,.bool b=>dT b
 |.str,.string s=>match s with|⟨⟨[]⟩⟩=>true|_=>false
 |.sl _,.slice none 0 0=>true
 |.pt _,.pointer none=>true
 |.fn,.nilFunc=>true
 |_,_=>false
theorem zq {c:CT} {v:Value} (h:isZero c v=true):v=bZ c:=by
 unfold isZero at h
 split at h
 ·rename_i k k' n
  simp only[ao,Bool.and_eq_true] at h
  have:=mG h.1;subst this
  have h2:=h.2
  split at h2
  ·rfl
  ·simp at h2
 ·rename_i b;cases b<;>simp[dT] at h⊢;rfl
 ·split at h
  ·rfl
  ·simp at h
 ·rfl
 ·rfl
 ·rfl
 ·simp at h
def uP:List CT→List Value→Bool
 |[],[]=>true
 |c::cs,v::vs=>az (isZero c v) (uP cs vs)
 |_,_=>false
theorem y5:∀ {cs:List CT} {vs:List Value},uP cs vs=true→vs=cs.map bZ
 |[],[],_=>rfl
 |[],_::_,h=>by simp[uP] at h
 |_::_,[],h=>by simp[uP] at h
 |c::cs,v::vs,h=>by
  simp only[uP,ao,Bool.and_eq_true] at h
  rw[zq h.1,y5 h.2];rfl
def Hi (d:TD) (v:Value):Bool:=match d.agg with
 |true=>match v with|.agg cs=>uP d.cts cs.toList|_=>false
 |false=>match d.cts with|[t]=>isZero t v|_=>false
theorem Gw {d:TD} {v:Value} (h:Hi d v=true):v=zeroOf d:=by
 unfold Hi at h
 unfold zeroOf
 split at h
 ·rename_i ha
  rw[ha,if_pos rfl]
  split at h
  ·rw[←y5 h]
  ·simp at h
 ·rename_i ha
  rw[ha,if_neg (by simp)]
  split at h
  ·rename_i t ht
   rw[ht]
   exact zq h
  ·simp at h
def po:List CT→List CT→Bool
 |[],[]=>true
 |a::r,b::s=>az (iJ a b) (po r s)
 |_,_=>false
theorem xw:∀ {a b:List CT},po a b=true→a=b
 |[],[],_=>rfl
 |[],_::_,h=>by simp[po] at h
 |_::_,[],h=>by simp[po] at h
 |x::r,y::s,h=>by
  simp only[po,ao,Bool.and_eq_true] at h
  rw[gk h.1,xw h.2]
def FK:List (Nat×TypeId)→List (Nat×TypeId)→Bool
 |[],[]=>true
 |(a,b)::r,(c,d)::s=>az (Nat.beq a c) (az (Nat.beq b d) (FK r s))
 |_,_=>false
theorem En:∀ {a b:List (Nat×TypeId)},FK a b=true→a=b
 |[],[],_=>rfl
 |[],_::_,h=>by simp[FK] at h
 |_::_,[],h=>by simp[FK] at h
 |(x,x')::r,(y,y')::s,h=>by
  simp only[FK,ao,Bool.and_eq_true] at h
  rw[Nat.eq_of_beq_eq_true h.1,Nat.eq_of_beq_eq_true h.2.1,En h.2.2]
def JN:DV→DV→Bool
 |.bool,.bool=>true|.int k,.int k'=>xX k k'|.str,.str=>true|.sl e,.sl e'=>Nat.beq e e'|.pt e,.pt e'=>Nat.beq e e'|.st f,.st f'=>FK f f'|.fn,.fn=>true|_,_=>false
theorem ID {a b:DV} (h:JN a b=true):a=b:=by
 unfold JN at h
 split at h
 ·rfl
 ·rw[mG h]
 ·rfl
 ·rw[Nat.eq_of_beq_eq_true h]
 ·rw[Nat.eq_of_beq_eq_true h]
 ·rw[En h]
 ·rfl
 ·simp at h
def HK (T:Tys) (cts:List CT):List (Nat×TypeId)→Bool
 |[]=>true
 |(o,f)::r=>az (match bh T f with|some df=>po (tak (len df.cts) (drp o cts)) df.cts|none=>true) (HK T cts r)
theorem Eh {T:Tys} {cts:List CT}:∀ {fs:List (Nat×TypeId)},HK T cts fs=true→∀o f,(o,f)∈fs→∀df,bh T f=some df→(cts.drop o).take df.cts.length=df.cts
 |[],_,o,f,h,_,_=>by simp at h
 |(o',f')::r,h,o,f,hm,df,hd=>by
  simp only[HK,ao,Bool.and_eq_true] at h
  rcases List.mem_cons.1 hm with e|hm
  ·simp only[Prod.mk.injEq] at e
   obtain ⟨rfl,rfl⟩:=e
   have h1:=h.1
   rw[hd] at h1
   have:=xw h1
   rw[pL,qh,dw] at this
   exact this
  ·exact Eh h.2 o f hm df hd
def I8 (T:Tys) (d:TD):Bool:=match d.dv with
 |.bool=>po d.cts [.bool]|.int k=>po d.cts [.int k]|.str=>po d.cts [.str]|.sl e=>po d.cts [.sl e]|.pt e=>po d.cts [.pt e]|.fn=>po d.cts [.fn]
 |.st fs=>HK T d.cts fs
 |.other=>false
def tyB (P:Program) (T:Tys) (t:TypeId) (d:TD):Bool:=
 match P.info? t,P.underlying t with
 |some i,some u=>az (match i.zero with|some z=>Hi d z|none=>false) (az (Nat.beq i.size (len d.cts)) (az (Nat.beq i.bytes d.bytes) (az (JN (eg u) d.dv) (az (Nat.blt 0 (len d.cts)) (I8 T d)))))
 |_,_=>false
theorem JI {P:Program} {T:Tys} {t:TypeId} {d:TD} (h:tyB P T t d=true):lG P T t d:=by
 unfold tyB at h
 split at h
 ·rename_i i u hi hu
  simp only[ao,Bool.and_eq_true] at h
  obtain ⟨h1,h2,h3,h4,h5,h6⟩:=h
  have h2:=Nat.eq_of_beq_eq_true h2
  have h5:=Nat.le_of_ble_eq_true h5
  rw[dw] at h2 h5
  refine ⟨⟨i,hi,?_,h2,Nat.eq_of_beq_eq_true h3⟩,⟨u,hu,ID h4⟩,h5,?_⟩
  ·split at h1
   ·rename_i z hz;rw[hz,Gw h1]
   ·simp at h1
  ·unfold I8 at h6
   cases hd:d.dv with
   |st fs=>rw[hd] at h6;exact Eh h6
   |other=>rw[hd] at h6;simp at h6
   |_=>rw[hd] at h6;exact xw h6
 ·simp at h
def Ge (P:Program) (T:Tys):List (Nat×TD)→Bool
 |[]=>true
 |(t,d)::r=>az (az (tyB P T t d) (match d.dv with|.sl e=>(P.info? e).isSome|_=>true)) (Ge P T r)
theorem xK {t:Nat} {d:TD}:∀ {T:Tys},bh T t=some d→(t,d)∈T
 |[],h=>by simp[bh] at h
 |(n,d')::r,h=>by
  replace h:sif (Nat.beq n t) (some d') (bh r t)=some d:=h
  cases hb:Nat.beq n t with
  |true=>
   rw[hb,ai] at h
   rw[Option.some.inj h,Nat.eq_of_beq_eq_true hb]
   exact List.mem_cons_self ..
  |false=>rw[hb,aV] at h;exact List.mem_cons_of_mem _ (xK h)
theorem EL {P:Program} {T:Tys} (h:Ge P T T=true):TOk P T∧∀t e,ep T t=some e→(P.info? e).isSome=true:=by
 have key:∀ {l:List (Nat×TD)},Ge P T l=true→∀t d,(t,d)∈l→tyB P T t d=true∧(match d.dv with|.sl e=>(P.info? e).isSome|_=>true)=true:=by
  intro l
  induction l with
  |nil=>intro _ t d h;simp at h
  |cons p r ih=>
   obtain ⟨t',d'⟩:=p
   intro h t d hm
   simp only[Ge,ao,Bool.and_eq_true] at h
   rcases List.mem_cons.1 hm with e|hm
   ·simp only[Prod.mk.injEq] at e;obtain ⟨rfl,rfl⟩:=e;exact h.1
   ·exact ih h.2 t d hm
 refine ⟨fun t d hd=>JI (key h t d (xK hd)).1,fun t e he=>?_⟩
 unfold ep at he
 split at he
 ·rename_i e' cts b hd
  simp only[Option.some.injEq] at he
  subst he
  exact (key h t _ (xK hd)).2
 ·simp at he
def qS (P:Program) (f:TypeId):CT→Bool
 |.int k=>match P.underlying f with|some (.int k')=>xX k' k|_=>false
 |.bool=>match P.underlying f with|some .bool=>true|_=>false
 |.str=>match P.underlying f with|some .string=>true|_=>false
 |_=>false
theorem C6 {P:Program} {f:TypeId} {ct:CT} (h:qS P f ct=true):rS P f ct:=by
 cases ct with
 |int k=>
  simp only[qS] at h
  split at h
  ·rename_i k' hu;simp only[rS];rw[hu,mG h]
  ·simp at h
 |bool=>
  simp only[qS] at h
  split at h
  ·rename_i hu;exact hu
  ·simp at h
 |str=>
  simp only[qS] at h
  split at h
  ·rename_i hu;exact hu
  ·simp at h
 |_=>simp[qS] at h
def qU (P:Program):List Field→List CT→Nat→Bool
 |[],[],_=>true
 |f::fs,ct::cts,j=>az (dT (f.name== "_")) (az (Nat.beq f.offset j) (az (qS P f.type ct) (qU P fs cts (j+1))))
 |_,_,_=>false
theorem yl {P:Program}:∀ {fs:List Field} {cts:List CT} {j:Nat},qU P fs cts j=true→fs.length=cts.length∧∀(i:Nat) (f:Field) (ct:CT),fs[i]?=some f→cts[i]?=some ct→f.name≠ "_" ∧f.offset=j+i∧rS P f.type ct
 |[],[],j,_=>⟨rfl,fun i f ct h=>by simp at h⟩
 |[],_::_,j,h=>by simp[qU] at h
 |_::_,[],j,h=>by simp[qU] at h
 |f::fs,ct::cts,j,h=>by
  simp only[qU,ao,cV,Bool.and_eq_true] at h
  obtain ⟨h1,h2,h3,h4⟩:=h
  obtain ⟨a,b⟩:=yl h4
  refine ⟨by simp[a],fun i g c hg hc=>?_⟩
  cases i with
  |zero=>
   simp only[List.getElem?_cons_zero,Option.some.injEq] at hg hc
   subst hg;subst hc
   refine ⟨fun e=>?_,by simpa using Nat.eq_of_beq_eq_true h2,C6 h3⟩
   rw[e] at h1
   simp at h1
  |succ i=>
   obtain ⟨c1,c2,c3⟩:=b i g c (by simpa using hg) (by simpa using hc)
   exact ⟨c1,by omega,c3⟩
def eqB (P:Program) (T:Tys) (t:TypeId):Bool:=
 match P.underlying t,bh T t with
 |some (.struct fs),some d=>az (dT (P.stoodInHeld t)) (az (dT (P.eqGuardType P.depth t)) (qU P fs.toList d.cts 0))
 |_,_=>false
theorem Jw {P:Program} {T:Tys} {t:TypeId} (h:eqB P T t=true):FQ P T t:=by
 unfold eqB at h
 split at h
 ·rename_i fs d hu hd
  simp only[ao,cV,Bool.and_eq_true,Bool.not_eq_true'] at h
  have hf:P.fieldsOf t=fs:=by simp[Program.fieldsOf,hu]
  refine ⟨by rw[hf];exact hu,h.1,h.2.1,fun d' hd'=>?_⟩
  rw[hd] at hd'
  obtain rfl:=Option.some.inj hd'
  obtain ⟨a,b⟩:=yl h.2.2
  rw[hf]
  exact ⟨a,fun i f ct h1 h2=>by have:=b i f ct h1 h2;simpa using this⟩
 ·simp at h
def Ix (P:Program) (T:Tys):List Nat→Bool|[]=>true|t::r=>az (eqB P T t) (Ix P T r)
theorem DZ {P:Program} {T:Tys}:∀ {l:List Nat},Ix P T l=true→∀t,cX l t=true→FQ P T t
 |[],_,t,h=>by simp[cX] at h
 |a::r,h,t,hm=>by
  simp only[Ix,ao,Bool.and_eq_true] at h
  rw[cM] at hm
  rcases List.mem_cons.1 hm with rfl|hm
  ·exact Jw h.1
  ·exact DZ h.2 t ((cM _ _).2 hm)
end Go.Ev
namespace Go.Ev
abbrev bs (l:Array UInt8):ByteArray:=⟨l⟩
abbrev af:List (List C):=[]
abbrev rows (l:List (List C)):List (List C):=l
abbrev w64 (n:Int):Int:=IntKind.wrap .i64 n
def ad (o:Option (List C)) (K:C→R):R:=gW o fun ys=>K (ys.getD 0 .nil)
def call2 (o:Option (List C)) (K:C→C→R):R:=gW o fun ys=>K (ys.getD 0 .nil) (ys.getD 1 .nil)
def call3 (o:Option (List C)) (K:C→C→C→R):R:=gW o fun ys=>K (ys.getD 0 .nil) (ys.getD 1 .nil) (ys.getD 2 .nil)
def call4 (o:Option (List C)) (K:C→C→C→C→R):R:=gW o fun ys=>K (ys.getD 0 .nil) (ys.getD 1 .nil) (ys.getD 2 .nil) (ys.getD 3 .nil)
def call5 (o:Option (List C)) (K:C→C→C→C→C→R):R:=gW o fun ys=>K (ys.getD 0 .nil) (ys.getD 1 .nil) (ys.getD 2 .nil) (ys.getD 3 .nil) (ys.getD 4 .nil)
def call6 (o:Option (List C)) (K:C→C→C→C→C→C→R):R:=gW o fun ys=>K (ys.getD 0 .nil) (ys.getD 1 .nil) (ys.getD 2 .nil) (ys.getD 3 .nil) (ys.getD 4 .nil) (ys.getD 5 .nil)
def call7 (o:Option (List C)) (K:C→C→C→C→C→C→C→R):R:=gW o fun ys=>K (ys.getD 0 .nil) (ys.getD 1 .nil) (ys.getD 2 .nil) (ys.getD 3 .nil) (ys.getD 4 .nil) (ys.getD 5 .nil) (ys.getD 6 .nil)
def call8 (o:Option (List C)) (K:C→C→C→C→C→C→C→C→R):R:=gW o fun ys=>K (ys.getD 0 .nil) (ys.getD 1 .nil) (ys.getD 2 .nil) (ys.getD 3 .nil) (ys.getD 4 .nil) (ys.getD 5 .nil) (ys.getD 6 .nil) (ys.getD 7 .nil)
def call10 (o:Option (List C)) (K:C→C→C→C→C→C→C→C→C→C→R):R:=gW o fun ys=>K (ys.getD 0 .nil) (ys.getD 1 .nil) (ys.getD 2 .nil) (ys.getD 3 .nil) (ys.getD 4 .nil) (ys.getD 5 .nil) (ys.getD 6 .nil) (ys.getD 7 .nil) (ys.getD 8 .nil) (ys.getD 9 .nil)
def call12 (o:Option (List C)) (K:C→C→C→C→C→C→C→C→C→C→C→C→R):R:=gW o fun ys=>K (ys.getD 0 .nil) (ys.getD 1 .nil) (ys.getD 2 .nil) (ys.getD 3 .nil) (ys.getD 4 .nil) (ys.getD 5 .nil) (ys.getD 6 .nil) (ys.getD 7 .nil) (ys.getD 8 .nil) (ys.getD 9 .nil) (ys.getD 10 .nil) (ys.getD 11 .nil)
def call13 (o:Option (List C)) (K:C→C→C→C→C→C→C→C→C→C→C→C→C→R):R:=gW o fun ys=>K (ys.getD 0 .nil) (ys.getD 1 .nil) (ys.getD 2 .nil) (ys.getD 3 .nil) (ys.getD 4 .nil) (ys.getD 5 .nil) (ys.getD 6 .nil) (ys.getD 7 .nil) (ys.getD 8 .nil) (ys.getD 9 .nil) (ys.getD 10 .nil) (ys.getD 11 .nil) (ys.getD 12 .nil)
def call14 (o:Option (List C)) (K:C→C→C→C→C→C→C→C→C→C→C→C→C→C→R):R:=gW o fun ys=>K (ys.getD 0 .nil) (ys.getD 1 .nil) (ys.getD 2 .nil) (ys.getD 3 .nil) (ys.getD 4 .nil) (ys.getD 5 .nil) (ys.getD 6 .nil) (ys.getD 7 .nil) (ys.getD 8 .nil) (ys.getD 9 .nil) (ys.getD 10 .nil) (ys.getD 11 .nil) (ys.getD 12 .nil) (ys.getD 13 .nil)
abbrev Fun:Nat→Type|0=>R|n+1=>C→Fun n
def apk:(n k:Nat)→Fun n→List C→R
 |0,_,f,_=>f
 |n+1,k,f,xs=>apk n (k+1) (f (xs.getD k .nil)) xs
def apn (n:Nat) (f:Fun n) (xs:List C):R:=apk n 0 f xs
def phi:List (Nat×Option Nat×FS)→FuncId→Option Tmp→Option FS
 |[],_,_=>none
 |(g,d,fs)::r,f,o=>sif (az (Nat.beq g f) (onb d o)) (some fs) (phi r f o)
def rj (P:Program) (T:Tys):List (Nat×Option Nat×FS)→Prop
 |[]=>True
 |(g,_,fs)::r=>aD P T g fs∧rj P T r
theorem rj.nil {P:Program} {T:Tys}:rj P T []:=trivial
theorem rj.cons {P:Program} {T:Tys} {g:FuncId} {d:Option Nat} {fs:FS} {r:List (Nat×Option Nat×FS)} (h:aD P T g fs) (hr:rj P T r):rj P T ((g,d,fs)::r):=⟨h,hr⟩
theorem Hp {P:Program} {T:Tys}:∀ {l:List (Nat×Option Nat×FS)},rj P T l→∀f d fs,phi l f d=some fs→aD P T f fs
 |[],_,f,d,fs,h=>by simp[phi] at h
 |(g,d',fs')::r,hl,f,d,fs,h=>by
  replace h:sif (az (Nat.beq g f) (onb d' d)) (some fs') (phi r f d)=some fs:=h
  cases hc:az (Nat.beq g f) (onb d' d) with
  |true=>
   rw[hc,ai] at h
   simp only[ao,Bool.and_eq_true] at hc
   have e:=Nat.eq_of_beq_eq_true hc.1
   subst e
   obtain rfl:=Option.some.inj h
   exact hl.1
  |false=>rw[hc,aV] at h;exact Hp hl.2 f d fs h
def H0 (P:Program):List (Nat×Nat)→Bool
 |[]=>true
 |(t,e)::r=>(match P.underlying t with|some (.map k e')=>(match P.underlying k with|some .string=>e==e'|_=>false)|_=>false)&&H0 P r
theorem DT {P:Program}:∀ {l:List (Nat×Nat)},H0 P l=true→MOk P l
 |[],_,t,e,h=>by simp[xb] at h
 |(t',e')::r,hb,t,e,h=>by
  simp only[H0,Bool.and_eq_true] at hb
  replace h:sif (Nat.beq t' t) (some e') (xb r t)=some e:=h
  cases hc:Nat.beq t' t with
  |false=>rw[hc,aV] at h;exact DT hb.2 t e h
  |true=>
   rw[hc,ai] at h
   obtain rfl:=Option.some.inj h
   have:=Nat.eq_of_beq_eq_true hc;subst this
   have h1:=hb.1
   split at h1
   ·rename_i k e2 hu
    split at h1
    ·rename_i hk
     have:e'=e2:=by simpa using h1
     subst this
     exact ⟨k,hu,hk⟩
    ·simp at h1
   ·simp at h1
structure Dp (P:Program) (T:Tys) (eqT:List Nat) (mp:List (Nat×Nat)):Prop where
 tok:TOk P T
 E:∀t e,ep T t=some e→(P.info? e).isSome=true
 mixed:P.follows .mixedOrders=true
 Q:∀t,cX eqT t=true→FQ P T t
 M:MOk P mp
theorem Dp.of {P:Program} {T:Tys} {eqT:List Nat} {mp:List (Nat×Nat)} (h1:Ge P T T=true) (h2:P.follows .mixedOrders=true) (h3:Ix P T eqT=true) (h4:H0 P mp=true):Dp P T eqT mp:=
 ⟨(EL h1).1,(EL h1).2,h2,DZ h3,DT h4⟩
def slB (n:Nat):List (Nat×Sk)→Bool|[]=>true|(d,_)::r=>az (Nat.blt d n) (slB n r)
theorem xg {nm:Nm} {xs:List C} {n:Nat}:∀ {l:List (Nat×Sk)} {p:Nat} {f:cj},slB n l=true→(∀k,n≤k→f k=.un)→∀k,n≤k→(cy nm xs l p f).1 k=.un
 |[],p,f,_,hf,k,hk=>hf k hk
 |(d,q)::r,p,f,h,hf,k,hk=>by
  simp only[slB,ao,Bool.and_eq_true] at h
  refine xg h.2 (fun k hk=>?_) k hk
  have hd:d<n:=Nat.le_of_ble_eq_true h.1
  rw[aW _ _ (by omega)]
  exact hf k hk
def stat (fn:Func) (fs:FS):Bool:=az (dT (fn.name== "runtime.NumGoroutine")) (az (Nat.ble fs.n fn.ntmps) (slB fs.n fs.inT.sl))
theorem IU {P:Program} {T:Tys} {eqT:List Nat} {mp:List (Nat×Nat)} (B:Dp P T eqT mp) (mv:List Nat) (tr:Bool) (nt:List Nat) {f:FuncId} {fn:Func} {c:Code} (fs:FS) (an:Ann) (l:List (Nat×Option Nat×FS)) (hl:rj P T l)
  (hf:P.funcs[f]?=some fn) (hb:fn.body=some c) (hs:stat fn fs=true)
  (hF:∀xs,evF ⟨T,phi l,fn.ntmps,fn.results.toList,fs.inT,fs.outT,fs.ip,eqT,mp,mv,tr,nt⟩ c an xs=fs.F xs):aD P T f fs:=by
 simp only[stat,ao,cV,Bool.and_eq_true,Bool.not_eq_true'] at hs
 exact aD.JV (X:=⟨T,phi l,fn.ntmps,fn.results.toList,fs.inT,fs.outT,fs.ip,eqT,mp,mv,tr,nt⟩) ⟨B.tok,B.E,Hp hl,B.Q,B.M,B.mixed⟩ hf hb hs.1 rfl rfl rfl rfl rfl (Nat.le_of_ble_eq_true hs.2.1)
  (fun xs k hk=>xg hs.2.2 (fun _ _=>rfl) k hk) (fun xs ys h=>by rw[hF];exact h)
theorem ry {P:Program} {T:Tys} {eqT:List Nat} {mp:List (Nat×Nat)} (B:Dp P T eqT mp) (mv:List Nat) (tr:Bool) {f:FuncId} {fn:Func} {c:Code} (fs:FS) (an:Ann) (l:List (Nat×Option Nat×FS)) (hl:rj P T l)
  (hf:P.funcs[f]?=some fn) (hb:fn.body=some c) (hs:stat fn fs=true)
  (hF:∀xs,evF ⟨T,phi l,fn.ntmps,fn.results.toList,fs.inT,fs.outT,fs.ip,eqT,mp,mv,tr,[]⟩ c an xs=fs.F xs):aD P T f fs:=IU B mv tr [] fs an l hl hf hb hs hF
theorem br {P:Program} {T:Tys} {eqT:List Nat} {mp:List (Nat×Nat)} (B:Dp P T eqT mp) {f:FuncId} {fn:Func} {c:Code} (fs:FS) (an:Ann) (l:List (Nat×Option Nat×FS)) (hl:rj P T l)
  (hf:P.funcs[f]?=some fn) (hb:fn.body=some c) (hs:stat fn fs=true)
  (hF:∀xs,evF ⟨T,phi l,fn.ntmps,fn.results.toList,fs.inT,fs.outT,fs.ip,eqT,mp,[],false,[]⟩ c an xs=fs.F xs):aD P T f fs:=ry B [] false fs an l hl hf hb hs hF
theorem kr {P:Program} {T:Tys} {f:FuncId} {fn:Func} {c:Code} (n:Nat) (i o:Tm) (ip:List Nat) (hf:P.funcs[f]?=some fn) (hb:fn.body=some c) (hs:stat fn ⟨n,i,o,ip,fun _=>none⟩=true):aD P T f ⟨n,i,o,ip,fun _=>none⟩:=by
 simp only[stat,ao,cV,Bool.and_eq_true,Bool.not_eq_true'] at hs
 exact ⟨⟨fn,c,hf,hb,hs.1⟩,fun w wr nl F0 θ xs ys args h1 h2 h3 h4=>absurd h4 (by simp)⟩
noncomputable def iD:Nat:=Classical.choose (⟨1000000,Nat.le_refl _⟩:∃n,1000000≤n)
theorem lu:1000000≤iD:=Classical.choose_spec (⟨1000000,Nat.le_refl _⟩:∃n,1000000≤n)
end Go.Ev
namespace Go.Ev
@[simp] theorem C.I_i (n:Int):(C.i n).I=n:=rfl
@[simp] theorem C.B_b (x:Bool):(C.b x).B=x:=rfl
@[simp] theorem C.S_s (x:ByteArray):(C.s x).S=x:=rfl
@[simp] theorem C.L_l (x:List (List C)):(C.l x).L=x:=rfl
@[simp] theorem C.P_p (x:List C):(C.p x).P=x:=rfl
@[simp] theorem C.uU (x:List C):(C.p x).isP=true:=rfl
@[simp] theorem C.Kf:C.nil.isP=false:=rfl
@[simp] theorem C.KA:C.nil.L=[]:=rfl
@[simp] theorem J3 (ys:List C):aY (some (.ret ys))=some ys:=rfl
@[simp] theorem JB (ys:List C) (K:List C→R):gW (some ys) K=K ys:=rfl
@[simp] theorem I9 (xs:List C) (K:List C→R):bf (some (.nrm xs)) K=K xs:=rfl
@[simp] theorem u7 (xs:List C) (K:List C→R):bf (some (.ret xs)) K=some (.ret xs):=rfl
@[simp] theorem IT (i:Nat) (xs:List C) (K:List C→R):bf (some (.brk i xs)) K=some (.brk i xs):=rfl
@[simp] theorem Hr (xs:List C) (K:List C→R):bf (some (.again xs)) K=some (.again xs):=rfl
@[simp] theorem u6 (i:Nat) (xs:List C) (K:List C→R):ah i (some (.ret xs)) K=some (.ret xs):=rfl
@[simp] theorem Ht (i:Nat) (xs:List C) (K:List C→R):ah i (some (.again xs)) K=some (.again xs):=rfl
@[simp] theorem IS (i:Nat) (xs:List C) (K:List C→R):ah i (some (.nrm xs)) K=some (.nrm xs):=rfl
theorem B5 (i j:Nat) (xs:List C) (K:List C→R):ah i (some (.brk j xs)) K=if j=i then K xs else some (.brk j xs):=by
 show sif (Nat.beq j i) (K xs) (some (.brk j xs))=_
 by_cases h:j=i
 ·subst h;rw[Nat.beq_refl,ai,if_pos rfl]
 ·have:Nat.beq j i=false:=by
   cases hb:Nat.beq j i with
   |false=>rfl
   |true=>exact absurd (Nat.eq_of_beq_eq_true hb) h
  rw[this,aV,if_neg h]
@[simp] theorem au (i:Nat) (xs:List C) (K:List C→R):ah i (some (.brk i xs)) K=K xs:=by rw[B5,if_pos rfl]
attribute [simp] af
attribute [simp] rows
@[simp] theorem Hs (n:Nat):((n:Int)).toNat=n:=Int.toNat_natCast n
theorem jA {α:Type} {a:α} {us vs:List α}:a::us++vs=a::(us++vs):=rfl
theorem jB {α:Type} (us:List α):[]++us=us:=rfl
theorem jC {α:Type} {x:α} {xs:List α} {d:α}:(x::xs).getD 0 d=x:=List.getD_cons_zero
theorem jD {α:Type} {x:α} {xs:List α} {n:Nat} {d:α}:(x::xs).getD (n+1) d=xs.getD n d:=List.getD_cons_succ
theorem jI (ys:List C) (K:List C→R):gW (some ys) K=K ys:=rfl
theorem jJ (xs:List C) (K:List C→R):bf (some (.nrm xs)) K=K xs:=rfl
theorem jR {α:Type} (a b:α):(bif true then a else b)=a:=rfl
theorem jS {α:Type} (a b:α):(bif false then a else b)=b:=rfl
theorem jV (ys:List C):aY (some (.ret ys))=some ys:=rfl
theorem jW {α β:Type} {us:List α} (f:α→β):(List.map f us).length=us.length:=List.length_map f
theorem jX (n:Nat):0≤(n:Int):=Int.natCast_nonneg n
theorem jY (n:Nat):((n:Int)).toNat=n:=Int.toNat_natCast n
theorem jZ:(!true)=false:=rfl
theorem ja:(!false)=true:=rfl
def gC (l:List C) (i:Nat):C:=l.getD i .nil
theorem apL:(∀(f:Fun 1) l,apn 1 f l=f (gC l 0))∧
 (∀(f:Fun 2) l,apn 2 f l=f (gC l 0) (gC l 1))∧
 (∀(f:Fun 3) l,apn 3 f l=f (gC l 0) (gC l 1) (gC l 2))∧
 (∀(f:Fun 4) l,apn 4 f l=f (gC l 0) (gC l 1) (gC l 2) (gC l 3))∧
 (∀(f:Fun 5) l,apn 5 f l=f (gC l 0) (gC l 1) (gC l 2) (gC l 3) (gC l 4))∧
 (∀(f:Fun 6) l,apn 6 f l=f (gC l 0) (gC l 1) (gC l 2) (gC l 3) (gC l 4) (gC l 5))∧
 (∀(f:Fun 7) l,apn 7 f l=f (gC l 0) (gC l 1) (gC l 2) (gC l 3) (gC l 4) (gC l 5) (gC l 6))∧
 (∀(f:Fun 8) l,apn 8 f l=f (gC l 0) (gC l 1) (gC l 2) (gC l 3) (gC l 4) (gC l 5) (gC l 6) (gC l 7))∧
 (∀(f:Fun 9) l,apn 9 f l=f (gC l 0) (gC l 1) (gC l 2) (gC l 3) (gC l 4) (gC l 5) (gC l 6) (gC l 7) (gC l 8))∧
 (∀(f:Fun 10) l,apn 10 f l=f (gC l 0) (gC l 1) (gC l 2) (gC l 3) (gC l 4) (gC l 5) (gC l 6) (gC l 7) (gC l 8) (gC l 9))∧
 (∀(f:Fun 11) l,apn 11 f l=f (gC l 0) (gC l 1) (gC l 2) (gC l 3) (gC l 4) (gC l 5) (gC l 6) (gC l 7) (gC l 8) (gC l 9) (gC l 10))∧
 (∀(f:Fun 12) l,apn 12 f l=f (gC l 0) (gC l 1) (gC l 2) (gC l 3) (gC l 4) (gC l 5) (gC l 6) (gC l 7) (gC l 8) (gC l 9) (gC l 10) (gC l 11))∧
 (∀(f:Fun 13) l,apn 13 f l=f (gC l 0) (gC l 1) (gC l 2) (gC l 3) (gC l 4) (gC l 5) (gC l 6) (gC l 7) (gC l 8) (gC l 9) (gC l 10) (gC l 11) (gC l 12))∧
 (∀(f:Fun 14) l,apn 14 f l=f (gC l 0) (gC l 1) (gC l 2) (gC l 3) (gC l 4) (gC l 5) (gC l 6) (gC l 7) (gC l 8) (gC l 9) (gC l 10) (gC l 11) (gC l 12) (gC l 13))∧
 (∀(f:Fun 15) l,apn 15 f l=f (gC l 0) (gC l 1) (gC l 2) (gC l 3) (gC l 4) (gC l 5) (gC l 6) (gC l 7) (gC l 8) (gC l 9) (gC l 10) (gC l 11) (gC l 12) (gC l 13) (gC l 14))∧
 (∀(f:Fun 16) l,apn 16 f l=f (gC l 0) (gC l 1) (gC l 2) (gC l 3) (gC l 4) (gC l 5) (gC l 6) (gC l 7) (gC l 8) (gC l 9) (gC l 10) (gC l 11) (gC l 12) (gC l 13) (gC l 14) (gC l 15))∧
 (∀(f:Fun 17) l,apn 17 f l=f (gC l 0) (gC l 1) (gC l 2) (gC l 3) (gC l 4) (gC l 5) (gC l 6) (gC l 7) (gC l 8) (gC l 9) (gC l 10) (gC l 11) (gC l 12) (gC l 13) (gC l 14) (gC l 15) (gC l 16))∧
 (∀(f:Fun 18) l,apn 18 f l=f (gC l 0) (gC l 1) (gC l 2) (gC l 3) (gC l 4) (gC l 5) (gC l 6) (gC l 7) (gC l 8) (gC l 9) (gC l 10) (gC l 11) (gC l 12) (gC l 13) (gC l 14) (gC l 15) (gC l 16) (gC l 17))∧
 (∀(f:Fun 19) l,apn 19 f l=f (gC l 0) (gC l 1) (gC l 2) (gC l 3) (gC l 4) (gC l 5) (gC l 6) (gC l 7) (gC l 8) (gC l 9) (gC l 10) (gC l 11) (gC l 12) (gC l 13) (gC l 14) (gC l 15) (gC l 16) (gC l 17) (gC l 18))∧
 (∀(f:Fun 20) l,apn 20 f l=f (gC l 0) (gC l 1) (gC l 2) (gC l 3) (gC l 4) (gC l 5) (gC l 6) (gC l 7) (gC l 8) (gC l 9) (gC l 10) (gC l 11) (gC l 12) (gC l 13) (gC l 14) (gC l 15) (gC l 16) (gC l 17) (gC l 18) (gC l 19))∧
 (∀(f:Fun 21) l,apn 21 f l=f (gC l 0) (gC l 1) (gC l 2) (gC l 3) (gC l 4) (gC l 5) (gC l 6) (gC l 7) (gC l 8) (gC l 9) (gC l 10) (gC l 11) (gC l 12) (gC l 13) (gC l 14) (gC l 15) (gC l 16) (gC l 17) (gC l 18) (gC l 19) (gC l 20))∧
 (∀(f:Fun 22) l,apn 22 f l=f (gC l 0) (gC l 1) (gC l 2) (gC l 3) (gC l 4) (gC l 5) (gC l 6) (gC l 7) (gC l 8) (gC l 9) (gC l 10) (gC l 11) (gC l 12) (gC l 13) (gC l 14) (gC l 15) (gC l 16) (gC l 17) (gC l 18) (gC l 19) (gC l 20) (gC l 21))∧
 (∀(f:Fun 23) l,apn 23 f l=f (gC l 0) (gC l 1) (gC l 2) (gC l 3) (gC l 4) (gC l 5) (gC l 6) (gC l 7) (gC l 8) (gC l 9) (gC l 10) (gC l 11) (gC l 12) (gC l 13) (gC l 14) (gC l 15) (gC l 16) (gC l 17) (gC l 18) (gC l 19) (gC l 20) (gC l 21) (gC l 22))∧
 (∀(f:Fun 24) l,apn 24 f l=f (gC l 0) (gC l 1) (gC l 2) (gC l 3) (gC l 4) (gC l 5) (gC l 6) (gC l 7) (gC l 8) (gC l 9) (gC l 10) (gC l 11) (gC l 12) (gC l 13) (gC l 14) (gC l 15) (gC l 16) (gC l 17) (gC l 18) (gC l 19) (gC l 20) (gC l 21) (gC l 22) (gC l 23))∧
 (∀(f:Fun 25) l,apn 25 f l=f (gC l 0) (gC l 1) (gC l 2) (gC l 3) (gC l 4) (gC l 5) (gC l 6) (gC l 7) (gC l 8) (gC l 9) (gC l 10) (gC l 11) (gC l 12) (gC l 13) (gC l 14) (gC l 15) (gC l 16) (gC l 17) (gC l 18) (gC l 19) (gC l 20) (gC l 21) (gC l 22) (gC l 23) (gC l 24))∧
 (∀(f:Fun 26) l,apn 26 f l=f (gC l 0) (gC l 1) (gC l 2) (gC l 3) (gC l 4) (gC l 5) (gC l 6) (gC l 7) (gC l 8) (gC l 9) (gC l 10) (gC l 11) (gC l 12) (gC l 13) (gC l 14) (gC l 15) (gC l 16) (gC l 17) (gC l 18) (gC l 19) (gC l 20) (gC l 21) (gC l 22) (gC l 23) (gC l 24) (gC l 25))∧
 (∀(f:Fun 27) l,apn 27 f l=f (gC l 0) (gC l 1) (gC l 2) (gC l 3) (gC l 4) (gC l 5) (gC l 6) (gC l 7) (gC l 8) (gC l 9) (gC l 10) (gC l 11) (gC l 12) (gC l 13) (gC l 14) (gC l 15) (gC l 16) (gC l 17) (gC l 18) (gC l 19) (gC l 20) (gC l 21) (gC l 22) (gC l 23) (gC l 24) (gC l 25) (gC l 26))∧
 (∀(f:Fun 28) l,apn 28 f l=f (gC l 0) (gC l 1) (gC l 2) (gC l 3) (gC l 4) (gC l 5) (gC l 6) (gC l 7) (gC l 8) (gC l 9) (gC l 10) (gC l 11) (gC l 12) (gC l 13) (gC l 14) (gC l 15) (gC l 16) (gC l 17) (gC l 18) (gC l 19) (gC l 20) (gC l 21) (gC l 22) (gC l 23) (gC l 24) (gC l 25) (gC l 26) (gC l 27))∧
 (∀(f:Fun 29) l,apn 29 f l=f (gC l 0) (gC l 1) (gC l 2) (gC l 3) (gC l 4) (gC l 5) (gC l 6) (gC l 7) (gC l 8) (gC l 9) (gC l 10) (gC l 11) (gC l 12) (gC l 13) (gC l 14) (gC l 15) (gC l 16) (gC l 17) (gC l 18) (gC l 19) (gC l 20) (gC l 21) (gC l 22) (gC l 23) (gC l 24) (gC l 25) (gC l 26) (gC l 27) (gC l 28))∧
 (∀(f:Fun 30) l,apn 30 f l=f (gC l 0) (gC l 1) (gC l 2) (gC l 3) (gC l 4) (gC l 5) (gC l 6) (gC l 7) (gC l 8) (gC l 9) (gC l 10) (gC l 11) (gC l 12) (gC l 13) (gC l 14) (gC l 15) (gC l 16) (gC l 17) (gC l 18) (gC l 19) (gC l 20) (gC l 21) (gC l 22) (gC l 23) (gC l 24) (gC l 25) (gC l 26) (gC l 27) (gC l 28) (gC l 29))∧
 (∀(f:Fun 31) l,apn 31 f l=f (gC l 0) (gC l 1) (gC l 2) (gC l 3) (gC l 4) (gC l 5) (gC l 6) (gC l 7) (gC l 8) (gC l 9) (gC l 10) (gC l 11) (gC l 12) (gC l 13) (gC l 14) (gC l 15) (gC l 16) (gC l 17) (gC l 18) (gC l 19) (gC l 20) (gC l 21) (gC l 22) (gC l 23) (gC l 24) (gC l 25) (gC l 26) (gC l 27) (gC l 28) (gC l 29) (gC l 30))∧
 (∀(f:Fun 32) l,apn 32 f l=f (gC l 0) (gC l 1) (gC l 2) (gC l 3) (gC l 4) (gC l 5) (gC l 6) (gC l 7) (gC l 8) (gC l 9) (gC l 10) (gC l 11) (gC l 12) (gC l 13) (gC l 14) (gC l 15) (gC l 16) (gC l 17) (gC l 18) (gC l 19) (gC l 20) (gC l 21) (gC l 22) (gC l 23) (gC l 24) (gC l 25) (gC l 26) (gC l 27) (gC l 28) (gC l 29) (gC l 30) (gC l 31))∧
 (∀(f:Fun 33) l,apn 33 f l=f (gC l 0) (gC l 1) (gC l 2) (gC l 3) (gC l 4) (gC l 5) (gC l 6) (gC l 7) (gC l 8) (gC l 9) (gC l 10) (gC l 11) (gC l 12) (gC l 13) (gC l 14) (gC l 15) (gC l 16) (gC l 17) (gC l 18) (gC l 19) (gC l 20) (gC l 21) (gC l 22) (gC l 23) (gC l 24) (gC l 25) (gC l 26) (gC l 27) (gC l 28) (gC l 29) (gC l 30) (gC l 31) (gC l 32))∧
 (∀(f:Fun 34) l,apn 34 f l=f (gC l 0) (gC l 1) (gC l 2) (gC l 3) (gC l 4) (gC l 5) (gC l 6) (gC l 7) (gC l 8) (gC l 9) (gC l 10) (gC l 11) (gC l 12) (gC l 13) (gC l 14) (gC l 15) (gC l 16) (gC l 17) (gC l 18) (gC l 19) (gC l 20) (gC l 21) (gC l 22) (gC l 23) (gC l 24) (gC l 25) (gC l 26) (gC l 27) (gC l 28) (gC l 29) (gC l 30) (gC l 31) (gC l 32) (gC l 33))∧
 (∀(f:Fun 35) l,apn 35 f l=f (gC l 0) (gC l 1) (gC l 2) (gC l 3) (gC l 4) (gC l 5) (gC l 6) (gC l 7) (gC l 8) (gC l 9) (gC l 10) (gC l 11) (gC l 12) (gC l 13) (gC l 14) (gC l 15) (gC l 16) (gC l 17) (gC l 18) (gC l 19) (gC l 20) (gC l 21) (gC l 22) (gC l 23) (gC l 24) (gC l 25) (gC l 26) (gC l 27) (gC l 28) (gC l 29) (gC l 30) (gC l 31) (gC l 32) (gC l 33) (gC l 34))∧
 (∀(f:Fun 36) l,apn 36 f l=f (gC l 0) (gC l 1) (gC l 2) (gC l 3) (gC l 4) (gC l 5) (gC l 6) (gC l 7) (gC l 8) (gC l 9) (gC l 10) (gC l 11) (gC l 12) (gC l 13) (gC l 14) (gC l 15) (gC l 16) (gC l 17) (gC l 18) (gC l 19) (gC l 20) (gC l 21) (gC l 22) (gC l 23) (gC l 24) (gC l 25) (gC l 26) (gC l 27) (gC l 28) (gC l 29) (gC l 30) (gC l 31) (gC l 32) (gC l 33) (gC l 34) (gC l 35))∧
 (∀(f:Fun 37) l,apn 37 f l=f (gC l 0) (gC l 1) (gC l 2) (gC l 3) (gC l 4) (gC l 5) (gC l 6) (gC l 7) (gC l 8) (gC l 9) (gC l 10) (gC l 11) (gC l 12) (gC l 13) (gC l 14) (gC l 15) (gC l 16) (gC l 17) (gC l 18) (gC l 19) (gC l 20) (gC l 21) (gC l 22) (gC l 23) (gC l 24) (gC l 25) (gC l 26) (gC l 27) (gC l 28) (gC l 29) (gC l 30) (gC l 31) (gC l 32) (gC l 33) (gC l 34) (gC l 35) (gC l 36))∧
 (∀(f:Fun 38) l,apn 38 f l=f (gC l 0) (gC l 1) (gC l 2) (gC l 3) (gC l 4) (gC l 5) (gC l 6) (gC l 7) (gC l 8) (gC l 9) (gC l 10) (gC l 11) (gC l 12) (gC l 13) (gC l 14) (gC l 15) (gC l 16) (gC l 17) (gC l 18) (gC l 19) (gC l 20) (gC l 21) (gC l 22) (gC l 23) (gC l 24) (gC l 25) (gC l 26) (gC l 27) (gC l 28) (gC l 29) (gC l 30) (gC l 31) (gC l 32) (gC l 33) (gC l 34) (gC l 35) (gC l 36) (gC l 37))∧
 (∀(f:Fun 39) l,apn 39 f l=f (gC l 0) (gC l 1) (gC l 2) (gC l 3) (gC l 4) (gC l 5) (gC l 6) (gC l 7) (gC l 8) (gC l 9) (gC l 10) (gC l 11) (gC l 12) (gC l 13) (gC l 14) (gC l 15) (gC l 16) (gC l 17) (gC l 18) (gC l 19) (gC l 20) (gC l 21) (gC l 22) (gC l 23) (gC l 24) (gC l 25) (gC l 26) (gC l 27) (gC l 28) (gC l 29) (gC l 30) (gC l 31) (gC l 32) (gC l 33) (gC l 34) (gC l 35) (gC l 36) (gC l 37) (gC l 38))∧
 (∀(f:Fun 40) l,apn 40 f l=f (gC l 0) (gC l 1) (gC l 2) (gC l 3) (gC l 4) (gC l 5) (gC l 6) (gC l 7) (gC l 8) (gC l 9) (gC l 10) (gC l 11) (gC l 12) (gC l 13) (gC l 14) (gC l 15) (gC l 16) (gC l 17) (gC l 18) (gC l 19) (gC l 20) (gC l 21) (gC l 22) (gC l 23) (gC l 24) (gC l 25) (gC l 26) (gC l 27) (gC l 28) (gC l 29) (gC l 30) (gC l 31) (gC l 32) (gC l 33) (gC l 34) (gC l 35) (gC l 36) (gC l 37) (gC l 38) (gC l 39))∧
 (∀x l,gC (x::l) 0=x)∧
 ∀x l n,gC (x::l) (n+1)=gC l n:=
 ⟨fun _ _=>rfl,fun _ _=>rfl,fun _ _=>rfl,fun _ _=>rfl,fun _ _=>rfl,fun _ _=>rfl,fun _ _=>rfl,fun _ _=>rfl,fun _ _=>rfl,fun _ _=>rfl,fun _ _=>rfl,fun _ _=>rfl,fun _ _=>rfl,fun _ _=>rfl,fun _ _=>rfl,fun _ _=>rfl,fun _ _=>rfl,fun _ _=>rfl,fun _ _=>rfl,fun _ _=>rfl,fun _ _=>rfl,fun _ _=>rfl,fun _ _=>rfl,fun _ _=>rfl,fun _ _=>rfl,fun _ _=>rfl,fun _ _=>rfl,fun _ _=>rfl,fun _ _=>rfl,fun _ _=>rfl,fun _ _=>rfl,fun _ _=>rfl,fun _ _=>rfl,fun _ _=>rfl,fun _ _=>rfl,fun _ _=>rfl,fun _ _=>rfl,fun _ _=>rfl,fun _ _=>rfl,fun _ _=>rfl,fun _ _=>rfl,fun _ _ _=>rfl⟩
attribute [simp] apL
theorem uJ {body:List C→R}:∀ {k m:Nat} {xs:List C} {o:Out},k≤m→iter body k xs=some o→iter body m xs=some o
 |0,_,xs,o,_,h=>by simp[iter] at h
 |k+1,0,xs,o,hk,h=>by omega
 |k+1,m+1,xs,o,hk,h=>by
  simp only[iter] at h⊢
  split
  ·rename_i ys hb
   rw[hb] at h
   exact uJ (by omega) h
  ·rename_i hb
   split at h
   ·rename_i ys hb';exact absurd hb' (hb ys)
   ·exact h
theorem kU {body:List C→R} {k:Nat} {xs:List C} {o:Out} (h:iter body k xs=some o):lim body xs=some o:=by
 have hex:∃k,(iter body k xs).isSome:=⟨k,by rw[h];rfl⟩
 unfold lim
 rw[dif_pos hex]
 have hs:=Classical.choose_spec hex
 obtain ⟨o',ho'⟩:=Option.isSome_iff_exists.1 hs
 rw[ho']
 rcases Nat.le_total k (Classical.choose hex) with hle|hle
 ·rw[uJ hle h] at ho';exact ho'.symm
 ·rw[uJ hle ho'] at h;exact h
theorem aI {body:List C→R} {xs ys:List C} (h:body xs=some (.again ys)):lim body xs=lim body ys:=by
 have key:∀k,iter body (k+1) xs=iter body k ys:=fun k=>by simp only[iter,h]
 cases hr:lim body ys with
 |some o=>
  obtain ⟨k,hk⟩:=sX hr
  exact kU (k:=k+1) (by rw[key];exact hk)
 |none=>
  cases hl:lim body xs with
  |none=>rfl
  |some o=>
   obtain ⟨k,hk⟩:=sX hl
   cases k with
   |zero=>simp[iter] at hk
   |succ k=>rw[key] at hk;rw[kU hk] at hr;simp at hr
theorem lH {body:List C→R} {xs ys:List C} (h:body xs=some (.ret ys)):lim body xs=some (.ret ys):=kU (k:=1) (by simp only[iter,h])
theorem aU {body:List C→R} {xs ys:List C} {i:Nat} (h:body xs=some (.brk i ys)):lim body xs=some (.brk i ys):=kU (k:=1) (by simp only[iter,h])
theorem aQ {n:Int} (h1:-9223372036854775808≤n) (h2:n≤9223372036854775807):w64 n=n:=by
 show (if (true&&decide (n%18446744073709551616≥9223372036854775808))=true then n%18446744073709551616-18446744073709551616 else n%18446744073709551616)=n
 split
 ·rename_i h;simp only[Bool.true_and,decide_eq_true_eq] at h;omega
 ·rename_i h;simp only[Bool.true_and,decide_eq_true_eq] at h;omega
theorem BE {α β:Type} (f:α→β) {l:List α} {i:Nat} (h:i<l.length) (d:β):(l.map f).getD i d=f l[i]:=by
 rw[List.getD_eq_getElem?_getD,List.getElem?_map,List.getElem?_eq_getElem h];rfl
def zm {α σ:Type} (f:Nat→α→σ→σ ⊕ Out) (fin:σ→Out):List α→Nat→σ→Out
 |[],_,a=>fin a
 |x::r,i,a=>match f i x a with
  |.inl b=>zm f fin r (i+1) b
  |.inr o=>o
def Out.stops:Out→Prop|.again _=>False|_=>True
theorem wI {body:List C→R} {xs:List C} {o:Out} (h:body xs=some o) (ho:o.stops):lim body xs=some o:=by
 cases o with
 |ret ys=>exact lH h
 |brk i ys=>exact aU h
 |nrm ys=>exact kU (k:=1) (by simp only[iter,h])
 |again ys=>exact ho.elim
def Jt {σ:Type} (body:List C→R) (S:Nat→σ→List C) (Inv:Nat→σ→Prop) (i:Nat) (a:σ):σ ⊕ Out→Prop
 |.inl b=>body (S i a)=some (.again (S (i+1) b))∧Inv (i+1) b
 |.inr o=>body (S i a)=some o∧o.stops
theorem xT {α σ:Type} {l:List α} {body:List C→R} {S:Nat→σ→List C} (Inv:Nat→σ→Prop) (f:Nat→α→σ→σ ⊕ Out) (fin:σ→Out)
  (hstep:∀(i:Nat) (a:σ) (h:i<l.length),Inv i a→Jt body S Inv i a (f i l[i] a))
  (hend:∀a,Inv l.length a→body (S l.length a)=some (fin a)∧(fin a).stops):
  ∀(n i:Nat) (a:σ),n+i=l.length→Inv i a→lim body (S i a)=some (zm f fin (l.drop i) i a)
 |0,i,a,hn,ha=>by
  have:i=l.length:=by omega
  subst this
  obtain ⟨h1,h2⟩:=hend a ha
  rw[wI h1 h2,List.drop_length];rfl
 |n+1,i,a,hn,ha=>by
  have hi:i<l.length:=by omega
  have hs:=hstep i a hi ha
  rw[List.drop_eq_getElem_cons hi]
  show _=some (match f i l[i] a with
   |.inl b=>zm f fin (l.drop (i+1)) (i+1) b
   |.inr o=>o)
  cases hf:f i l[i] a with
  |inl b=>
   rw[hf] at hs
   rw[aI hs.1]
   exact xT Inv f fin hstep hend n (i+1) b (by omega) hs.2
  |inr o=>
   rw[hf] at hs
   exact wI hs.1 hs.2
end Go.Ev
namespace Go.Ev
open Go.RowKit
inductive DB (T:Tys):CT→C→Prop
 |i (k:IntKind) (n:Int) (h:(Lit.int k n).wf=true):DB T (.int k) (.i n)
 |b (x:Bool):DB T .bool (.b x)
 |s (x:ByteArray) (h:x.size≤maxLen):DB T .str (.s x)
 |l (e:TypeId) (es:List (List C)) (h:es.length≤maxLen) (h1:∀(r:List C) (d:TD),r∈es→bh T e=some d→r.length=d.cts.length)
   (h2:∀(r:List C) (d:TD) (j:Nat) (c:C) (ct:CT),r∈es→bh T e=some d→r[j]?=some c→d.cts[j]?=some ct→DB T ct c):DB T (.sl e) (.l es)
theorem FM {w:World} {a:Addr} {v:Value} (h:w.cell? a=some v):a.block<w.heap.size∧a.spot=none:=by
 simp only[World.cell?] at h
 split at h
 ·rename_i c _ _ hb
  refine ⟨?_,?_⟩
  ·exact (Array.getElem?_eq_some_iff.1 hb).1
  ·split at h
   ·simp at h
   ·rename_i hs;simpa using hs
 ·simp at h
structure Rd (T:Tys) (w:World) (cts:List CT) (cs:List Value) (xs:List C):Prop where
 n:xs.length=cts.length
 m:cs.length=cts.length
 rel:∀(j:Nat) (c:C) (ct:CT) (v:Value),xs[j]?=some c→cts[j]?=some ct→cs[j]?=some v→cD T (fun k=>k<w.heap.size) w ct c v
 db:∀(j:Nat) (c:C) (ct:CT),xs[j]?=some c→cts[j]?=some ct→DB T ct c
theorem Rd.one {T:Tys} {w:World} {ct:CT} {c:C} {v:Value} (h:cD T (fun k=>k<w.heap.size) w ct c v) (hd:DB T ct c):Rd T w [ct] [v] [c]:=
 ⟨rfl,rfl,fun j c' ct' v' h1 h2 h3=>by
  cases j with
  |zero=>
   simp only[List.getElem?_cons_zero,Option.some.injEq] at h1 h2 h3
   subst h1;subst h2;subst h3;exact h
  |succ j=>simp at h1,fun j c' ct' h1 h2=>by
  cases j with
  |zero=>
   simp only[List.getElem?_cons_zero,Option.some.injEq] at h1 h2
   subst h1;subst h2;exact hd
  |succ j=>simp at h1⟩
def Ho (f:TypeId→Bool) (T:Tys):List (Nat×TypeId)→Nat→Nat→Bool
 |[],o,m=>Nat.beq o m
 |(o',t)::r,o,m=>az (Nat.beq o' o) (az (f t) (match bh T t with|some d=>Ho f T r (o+d.cts.length) m|none=>false))
def okA:Nat→Tys→TypeId→Bool
 |0,_,_=>false
 |n+1,T,t=>match bh T t with
  |some d=>match d.dv with
   |.int _=>true|.bool=>true|.str=>true
   |.sl e=>okA n T e
   |.st fs=>Ho (okA n T) T fs 0 d.cts.length
   |_=>false
  |none=>false
theorem EP {β:Type} {p:Nat→β→Prop}:∀(n:Nat),(∀i,i<n→∃y,p i y)→∃l:List β,l.length=n∧∀i y,l[i]?=some y→p i y
 |0,_=>⟨[],rfl,fun i y h=>by simp at h⟩
 |n+1,h=>by
  obtain ⟨l,h1,h2⟩:=EP n fun i hi=>h i (by omega)
  obtain ⟨y,hy⟩:=h n (by omega)
  refine ⟨l++[y],by simp[h1],fun i z hz=>?_⟩
  by_cases hi:i<n
  ·rw[List.getElem?_append_left (by omega)] at hz;exact h2 i z hz
  ·have hlt:=(List.getElem?_eq_some_iff.1 hz).1
   simp[h1] at hlt
   have:i=n:=by omega
   subst this
   rw[List.getElem?_append_right (by omega),h1,Nat.sub_self] at hz
   simp at hz;subst hz;exact hy
section
variable {H:Type} {enc:TypeId×Value→H} {P:Program} {w:World} {base:Nat} {sp:Nat→Bool} {held:Bool} {T:Tys}
theorem rI (hT:TOk P T) {t:TypeId} {d:TD} (h:bh T t=some d):P.cellsOf t=d.cts.length:=by
 obtain ⟨i,z,hi,hz,hs,hb,hzc⟩:=(hT t d h).facts
 simp[Program.cellsOf,hi,hs]
theorem rd (hT:TOk P T):∀(n:Nat) (t:TypeId) (d:TD) (fuel:Nat) (cs:List Value) (x:DataW H×List MemPlace),okA n T t=true→bh T t=some d→
  DataW.trod enc P w base sp held fuel t cs=some x→∃xs,Rd T w d.cts cs xs
 |0,t,d,fuel,cs,x,h,_,_=>by simp[okA] at h
 |n+1,t,d,fuel,cs,x,h,hd,hx=>by
  have ht:=hT t d hd
  obtain ⟨u,hu,hv⟩:=ht.desc
  have hleaf:=ht.leaf
  simp only[okA,hd] at h
  cases u with
  |bool=>
   obtain ⟨b,rfl,_⟩:=DataW.trod_bool hu hx
   rw[←hv] at hleaf;simp only[eg] at hleaf;rw[hleaf]
   exact ⟨_,.one (.bool b) (.b b)⟩
  |int k=>
   obtain ⟨b,rfl,_,hb⟩:=DataW.trod_int hu hx
   rw[←hv] at hleaf;simp only[eg] at hleaf;rw[hleaf]
   exact ⟨_,.one (.int k b) (.i k b hb)⟩
  |string=>
   obtain ⟨b,rfl,_,hb⟩:=DataW.trod_string hu hx
   rw[←hv] at hleaf;simp only[eg] at hleaf;rw[hleaf]
   exact ⟨_,.one (.str b) (.s b hb)⟩
  |slice e=>
   rw[←hv] at hleaf h;simp only[eg] at hleaf h;rw[hleaf]
   rcases DataW.trod_slice hu hx with ⟨rfl,_⟩|⟨a,len,cap,elems,rest,m,_,rfl,_,hb,hl,hm,hlen,hel,_,_⟩
   ·exact ⟨[.l []],.one (.sl0 e none 0) (.l e [] (by simp) (fun r d hr=>by simp at hr) fun r d j c ct hr=>by simp at hr)⟩
   ·obtain ⟨de,hde⟩:∃de,bh T e=some de:=by
     cases n with
     |zero=>simp[okA] at h
     |succ n=>
      simp only[okA] at h
      cases hq:bh T e with
      |none=>simp[hq] at h
      |some de=>exact ⟨de,rfl⟩
    have hpos:=(hT e de hde).pos
    have hc:=rI hT hde
    obtain ⟨es,h1,h2⟩:=EP (p:=fun i ys=>∃cs',w.cells? base (a.add (i*P.cellsOf e)) (P.cellsOf e)=some cs'∧Rd T w de.cts cs' ys) len fun i hi=>by
     have:=hel i hi
     rw[List.getElem?_eq_getElem (by omega)] at this
     obtain ⟨cs',q1,q2⟩:=Option.bind_eq_some_iff.1 this
     obtain ⟨ys,q3⟩:=rd hT n e de m cs' _ h hde q2
     exact ⟨ys,cs',q1,q3⟩
    rw[hc] at h2
    have hdb:DB T (.sl e) (.l es):=.l e es (by omega) (fun r d hr hd=>by
     obtain ⟨i,hi⟩:=List.getElem?_of_mem hr
     obtain ⟨cs',_,q⟩:=h2 i r hi
     rw[hde] at hd;obtain rfl:=Option.some.inj hd
     exact q.n) fun r d j c ct hr hd hc hct=>by
     obtain ⟨i,hi⟩:=List.getElem?_of_mem hr
     obtain ⟨cs',_,q⟩:=h2 i r hi
     rw[hde] at hd;obtain rfl:=Option.some.inj hd
     exact q.db j c ct hc hct
    rcases Nat.eq_zero_or_pos len with h0|h0
    ·have:es=[]:=List.eq_nil_of_length_eq_zero (by omega)
     subst this
     subst h0
     exact ⟨[.l []],.one (.sl0 e (some a) cap) hdb⟩
    ·obtain ⟨cs0,q1,q2⟩:=h2 0 es[0] (List.getElem?_eq_getElem (by omega))
     obtain ⟨_,q3,q4⟩:=World.cells?_some q1
     have q5:=q4 0 hpos
     rw[List.getElem?_eq_getElem (by omega)] at q5
     have q6:=FM q5
     obtain ⟨g,o,spt⟩:=a
     have hspot:spt=none:=by
      by_cases he:spt=none
      ·exact he
      ·simp[Addr.add] at q6;exact q6.2
     subst hspot
     simp only[Addr.add_lit] at q6
     have hg:g<w.heap.size:=q6.1
     have key:=cD.sl (T:=T) (F:=fun k=>k<w.heap.size) (w:=w) e de es g o cap (fun i j=>(w.cell? ⟨g,o+(i*de.cts.length+j),none⟩).getD undef) hde hg (by omega)
      (fun i ys hi=>by
       obtain ⟨cs',_,q⟩:=h2 i ys hi
       exact q.n)
      (fun i ys j c hi hj=>by
       obtain ⟨cs',p1,q⟩:=h2 i ys hi
       obtain ⟨_,p2,p3⟩:=World.cells?_some p1
       have hjl:j<de.cts.length:=by rw[←q.n];exact (List.getElem?_eq_some_iff.1 hj).1
       have p4:=p3 j hjl
       rw[List.getElem?_eq_getElem (by omega)] at p4
       simp only[Addr.add_lit] at p4
       rw[←Nat.add_assoc,p4];rfl)
      (fun i ys j c ct hi hj hct=>by
       obtain ⟨cs',p1,q⟩:=h2 i ys hi
       obtain ⟨_,p2,p3⟩:=World.cells?_some p1
       have hjl:j<de.cts.length:=by rw[←q.n];exact (List.getElem?_eq_some_iff.1 hj).1
       have p4:=p3 j hjl
       rw[List.getElem?_eq_getElem (by omega)] at p4
       simp only[Addr.add_lit] at p4
       rw[←Nat.add_assoc,p4]
       exact q.rel j c ct _ hj hct (List.getElem?_eq_getElem (by omega)))
     rw[h1] at key
     exact ⟨[.l es],.one key hdb⟩
  |struct fs=>
   obtain ⟨zs,m,_,_,hl,hz,hf⟩:=DataW.trod_struct hu hx
   rw[←hv] at hleaf h;simp only[eg] at hleaf h
   rw[rI hT hd] at hl
   have key:∀(l:List Field) (o:Nat),Ho (okA n T) T (dM l) o d.cts.length=true→(∀q,q∈dM l→q∈dM fs.toList)→(∀f,f∈l→∃z,DataW.trod enc P w base sp held m f.type ((cs.drop f.offset).take (P.cellsOf f.type))=some z)→
     ∃xs:List C,xs.length+o=d.cts.length∧(∀(j:Nat) (c:C) (ct:CT) (v:Value),xs[j]?=some c→d.cts[o+j]?=some ct→cs[o+j]?=some v→cD T (fun k=>k<w.heap.size) w ct c v)∧∀(j:Nat) (c:C) (ct:CT),xs[j]?=some c→d.cts[o+j]?=some ct→DB T ct c:=by
    intro l
    induction l with
    |nil=>
     intro o h _ _
     simp only[dM,List.map_nil,Ho] at h
     exact ⟨[],by simpa using Nat.eq_of_beq_eq_true h,fun j c ct v h=>by simp at h,fun j c ct h=>by simp at h⟩
    |cons f l ih=>
     intro o h hin hall
     simp only[dM,List.map_cons,Ho,ao,Bool.and_eq_true] at h
     obtain ⟨ho,hok,h⟩:=h
     have ho:=Nat.eq_of_beq_eq_true ho
     cases hdf:bh T f.type with
     |none=>simp[hdf] at h
     |some df=>
      simp only[hdf] at h
      obtain ⟨z,hz⟩:=hall f (by simp)
      obtain ⟨ys,hys⟩:=rd hT n f.type df m _ z hok hdf hz
      obtain ⟨xs,h1,h2,h3⟩:=ih (o+df.cts.length) h (fun q hq=>hin q (by simp only[dM,List.map_cons,List.mem_cons];exact .inr hq)) (fun f' hf'=>hall f' (by simp[hf']))
      have hsub:=hleaf f.offset f.type (hin _ (by simp[dM])) df hdf
      rw[rI hT hdf] at hys
      rw[ho] at hsub hys
      refine ⟨ys++xs,by rw[List.length_append,hys.n];omega,fun j c ct v a1 a2 a3=>?_,fun j c ct a1 a2=>?_⟩
      ·by_cases hj:j<ys.length
       ·rw[List.getElem?_append_left hj] at a1
        have hjl:j<df.cts.length:=by rw[←hys.n];exact hj
        refine hys.rel j c ct v a1 ?_ ?_
        ·rw[←hsub,List.getElem?_take_of_lt hjl,List.getElem?_drop];exact a2
        ·rw[List.getElem?_take_of_lt hjl,List.getElem?_drop];exact a3
       ·rw[List.getElem?_append_right (by omega)] at a1
        have e:o+df.cts.length+(j-ys.length)=o+j:=by rw[hys.n] at hj⊢;omega
        exact h2 (j-ys.length) c ct v a1 (by rw[e];exact a2) (by rw[e];exact a3)
      ·by_cases hj:j<ys.length
       ·rw[List.getElem?_append_left hj] at a1
        have hjl:j<df.cts.length:=by rw[←hys.n];exact hj
        refine hys.db j c ct a1 ?_
        rw[←hsub,List.getElem?_take_of_lt hjl,List.getElem?_drop];exact a2
       ·rw[List.getElem?_append_right (by omega)] at a1
        have e:o+df.cts.length+(j-ys.length)=o+j:=by rw[hys.n] at hj⊢;omega
        exact h3 (j-ys.length) c ct a1 (by rw[e];exact a2)
   obtain ⟨xs,h1,h2,h3⟩:=key fs.toList 0 h (fun _ h=>h) (fun f hf'=>by
    obtain ⟨i,hi⟩:=List.getElem?_of_mem hf'
    have hi':fs[i]?=some f:=by simpa using hi
    have:=hf i f hi'
    have hil:i<zs.length:=by rw[hz];exact (Array.getElem?_eq_some_iff.1 hi').1
    rw[List.getElem?_eq_getElem hil] at this
    exact ⟨_,this⟩)
   exact ⟨xs,by simpa using h1,hl,fun j c ct v a1 a2 a3=>h2 j c ct v a1 (by simpa using a2) (by simpa using a3),fun j c ct a1 a2=>h3 j c ct a1 (by simpa using a2)⟩
  |_=>rw[←hv] at h;simp[eg] at h
end
theorem Ki {P:Program} {T:Tys} {f n:Nat} {sl:List (Nat×Sk)} {Fn:List C→Option (List C)} (hf:aD P T f ⟨n,⟨sl,[]⟩,⟨[(0,.d .bool)],[]⟩,[],Fn⟩)
  (xs:List C) (args:Array Value) (W:World) (hs:args.size=n) (ha:∀k,k<n→aj T (fun k=>k<W.heap.size) W (fun _=>none) (fun _=>.bool false) (((⟨sl,[]⟩:Tm).inj xs).sl k) (args.getD k undef)) (hF:Fn xs=some [.b true]):
  Calls P f args W fun e W'=>e=.returned (.bool true)∧Below W.heap.size W W':=by
 refine (hf.calls W (fun _=>False) (fun _=>False) (fun k=>k<W.heap.size) (fun _=>.bool false) xs [.b true] args ?_ hs ha hF).mono ?_
 ·exact ⟨fun b x h=>(by cases h),fun b b' x x' g h=>(by cases h),fun b x g h=>(by cases h),fun k h=>h,⟨rfl,rfl,⟨rfl,Nat.le_refl _⟩,Nat.le_refl _,fun _ _ _=>rfl⟩,fun k h=>h,fun k h=>.inl h,fun n hn=>(by cases hn),fun b x h=>(by cases h),fun b x k h=>(by cases h),fun b b' x x' k h=>(by cases h),fun k h=>h.elim⟩
 ·rintro e W' ⟨v,F1,θ1,rfl,hw,hv,_⟩
  have hv':aj T F1 W' _ θ1 (.c .bool (.b true)) v:=hv
  cases hv' with
  |c _ _ _ h=>
   cases h
   exact ⟨rfl,⟨hw.keep.os,hw.keep.tape,hw.keep.output.1,hw.keep.size,fun k hk=>hw.keep.old k hk (fun h=>h)⟩⟩
end Go.Ev
set_option maxRecDepth 100000
namespace Go.Ev
open Go.Proofs
def zi:Sk:=.d (.int .i64)
def zt:Sk:=.d .str
def zo:Sk:=.d .bool
def zl (n:Nat):Sk:=.d (.sl n)
def z0:BSk:=.var 27 [zo,(zl 72),(zl 40),(zl 38)]
def z1:BSk:=.var 38 [zt,zt,zi,zi,zi,zi,zt,(zl 100),zi,zt,zt,zt]
def z2:Sk:=(.ag [zo,(zl 72),(zl 40),(zl 38)])
def z3:BSk:=.var 90 [(zl 5),zi]
def z4:BSk:=.var 72 [zt,zt,(zl 9),zi,zi,zo]
def z5:Sk:=(.ag [zt,zt,zi,zi,zi,zi,zt,(zl 100),zi,zt,zt,zt])
def z6:BSk:=.var 120 [zi,zt,zt,(.ow 2003),zi,zi,zo,zt,zt,zi,zi,zi,zi,zt,(.ow 2004),zi,zt,zt,zt,zt,zt]
def z7:Sk:=(.ag [zt,zt,(zl 9),zi,zi,zo])
def z8:BSk:=.var 27 [zo,(.ow 1034300),(.ow 1034301),(.ow 1034302)]
def z9:BSk:=.var 27 [zo,(.ow 1034303),(.ow 1034304),(.ow 1034305)]
def z10:BSk:=.var 27 [zo,(.ow 1025100),(.ow 1025101),(.ow 1025102)]
def z11:BSk:=.var 27 [zo,(.ow 1161700),(.ow 1161701),(.ow 1161702)]
def z12:BSk:=.var 27 [zo,(.ow 1161703),(.ow 8),(.ow 1161704)]
def z13:BSk:=.var 165 [zi,zi,zi,zi]
def z14:BSk:=.var 27 [zo,(.ow 248760),(.ow 248761),(.ow 248762)]
def z15:BSk:=.var 27 [zo,(.ow 109496),(.ow 109497),(.ow 109498)]
def z16:Sk:=(.ag [zo,(.ow 3000),(.ow 3001),(.ow 3002)])
def z17:BSk:=.var 27 [zo,(.ow 1017700),(.ow 1017701),(.ow 1017702)]
def z18:BSk:=.var 27 [zo,(.ow 1383700),(.ow 1383701),(.ow 1383702)]
def z19:Sk:=(.ag [zi,zt,zt,(.ow 2003),zi,zi,zo,zt,zt,zi,zi,zi,zi,zt,(.ow 2004),zi,zt,zt,zt,zt,zt])
def T0:Tys:=[(1,⟨.fn,[.fn],8⟩),
 (2,⟨(.int .i64),[(.int .i64)],8⟩),
 (3,⟨(.int .i64),[(.int .i64)],8⟩),
 (4,⟨.bool,[.bool],1⟩),
 (5,⟨(.int .u8),[(.int .u8)],1⟩),
 (6,⟨(.int .u8),[(.int .u8)],1⟩),
 (7,⟨(.st [(0,2),(1,3),(2,4),(3,6)]),[(.int .i64),(.int .i64),.bool,(.int .u8)],24⟩),
 (8,⟨(.st [(0,2),(1,3),(2,4),(3,6)]),[(.int .i64),(.int .i64),.bool,(.int .u8)],24⟩),
 (9,⟨.str,[.str],16⟩),
 (10,⟨.str,[.str],16⟩),
 (11,⟨.str,[.str],16⟩),
 (12,⟨(.int .u64),[(.int .u64)],8⟩),
 (13,⟨(.st [(0,9),(1,12)]),[.str,(.int .u64)],24⟩),
 (14,⟨(.st [(0,9),(1,12)]),[.str,(.int .u64)],24⟩),
 (15,⟨(.pt 217),[(.pt 217)],8⟩),
 (16,⟨(.pt 220),[(.pt 220)],8⟩),
 (17,⟨(.pt 228),[(.pt 228)],8⟩),
 (18,⟨(.st [(0,17)]),[(.pt 228)],8⟩),
 (19,⟨(.st [(0,17)]),[(.pt 228)],8⟩),
 (21,⟨(.int .i32),[(.int .i32)],4⟩),
 (22,⟨(.sl 5),[(.sl 5)],24⟩),
 (23,⟨(.sl 72),[(.sl 72)],24⟩),
 (24,⟨(.sl 40),[(.sl 40)],24⟩),
 (25,⟨(.sl 38),[(.sl 38)],24⟩),
 (26,⟨(.st [(0,4),(1,23),(2,24),(3,25)]),[.bool,(.sl 72),(.sl 40),(.sl 38)],80⟩),
 (27,⟨(.st [(0,4),(1,23),(2,24),(3,25)]),[.bool,(.sl 72),(.sl 40),(.sl 38)],80⟩),
 (28,⟨(.sl 9),[(.sl 9)],24⟩),
 (29,⟨(.st [(0,9),(1,9),(2,28)]),[.str,.str,(.sl 9)],56⟩),
 (30,⟨(.st [(0,9),(1,9),(2,28)]),[.str,.str,(.sl 9)],56⟩),
 (32,⟨.fn,[.fn],8⟩),
 (34,⟨.fn,[.fn],8⟩),
 (35,⟨.fn,[.fn],8⟩),
 (36,⟨(.sl 100),[(.sl 100)],24⟩),
 (37,⟨(.st [(0,9),(1,9),(2,3),(3,3),(4,3),(5,3),(6,9),(7,36),(8,3),(9,9),(10,9),(11,9)]),[.str,.str,(.int .i64),(.int .i64),(.int .i64),(.int .i64),.str,(.sl 100),(.int .i64),.str,.str,.str],160⟩),
 (38,⟨(.st [(0,9),(1,9),(2,3),(3,3),(4,3),(5,3),(6,9),(7,36),(8,3),(9,9),(10,9),(11,9)]),[.str,.str,(.int .i64),(.int .i64),(.int .i64),(.int .i64),.str,(.sl 100),(.int .i64),.str,.str,.str],160⟩),
 (39,⟨(.st [(0,9),(1,3)]),[.str,(.int .i64)],24⟩),
 (40,⟨(.st [(0,9),(1,3)]),[.str,(.int .i64)],24⟩),
 (41,⟨.fn,[.fn],8⟩),
 (42,⟨.fn,[.fn],8⟩),
 (43,⟨.fn,[.fn],8⟩),
 (45,⟨.fn,[.fn],8⟩),
 (47,⟨.fn,[.fn],8⟩),
 (48,⟨.fn,[.fn],8⟩),
 (50,⟨.fn,[.fn],8⟩),
 (51,⟨.fn,[.fn],8⟩),
 (53,⟨.fn,[.fn],8⟩),
 (54,⟨.fn,[.fn],8⟩),
 (55,⟨(.sl 3),[(.sl 3)],24⟩),
 (56,⟨.fn,[.fn],8⟩),
 (58,⟨.fn,[.fn],8⟩),
 (59,⟨.fn,[.fn],8⟩),
 (60,⟨(.pt 90),[(.pt 90)],8⟩),
 (61,⟨.fn,[.fn],8⟩),
 (62,⟨.fn,[.fn],8⟩),
 (64,⟨.fn,[.fn],8⟩),
 (65,⟨.fn,[.fn],8⟩),
 (66,⟨.fn,[.fn],8⟩),
 (67,⟨.fn,[.fn],8⟩),
 (68,⟨.fn,[.fn],8⟩),
 (69,⟨.fn,[.fn],8⟩),
 (70,⟨.fn,[.fn],8⟩),
 (71,⟨(.st [(0,9),(1,9),(2,28),(3,3),(4,3),(5,4)]),[.str,.str,(.sl 9),(.int .i64),(.int .i64),.bool],80⟩),
 (72,⟨(.st [(0,9),(1,9),(2,28),(3,3),(4,3),(5,4)]),[.str,.str,(.sl 9),(.int .i64),(.int .i64),.bool],80⟩),
 (73,⟨.fn,[.fn],8⟩),
 (74,⟨.fn,[.fn],8⟩),
 (75,⟨.fn,[.fn],8⟩),
 (77,⟨.fn,[.fn],8⟩),
 (78,⟨.fn,[.fn],8⟩),
 (80,⟨.fn,[.fn],8⟩),
 (82,⟨.fn,[.fn],8⟩),
 (83,⟨.fn,[.fn],8⟩),
 (85,⟨.fn,[.fn],8⟩),
 (86,⟨.fn,[.fn],8⟩),
 (87,⟨.fn,[.fn],8⟩),
 (88,⟨.fn,[.fn],8⟩),
 (89,⟨(.st [(0,22),(1,3)]),[(.sl 5),(.int .i64)],32⟩),
 (90,⟨(.st [(0,22),(1,3)]),[(.sl 5),(.int .i64)],32⟩),
 (91,⟨.fn,[.fn],8⟩),
 (92,⟨.fn,[.fn],8⟩),
 (93,⟨.fn,[.fn],8⟩),
 (94,⟨.fn,[.fn],8⟩),
 (95,⟨.fn,[.fn],8⟩),
 (96,⟨.fn,[.fn],8⟩),
 (97,⟨.fn,[.fn],8⟩),
 (98,⟨.fn,[.fn],8⟩),
 (99,⟨(.st [(0,9),(1,3)]),[.str,(.int .i64)],24⟩),
 (100,⟨(.st [(0,9),(1,3)]),[.str,(.int .i64)],24⟩),
 (102,⟨.fn,[.fn],8⟩),
 (103,⟨.fn,[.fn],8⟩),
 (104,⟨(.pt 139),[(.pt 139)],8⟩),
 (106,⟨.fn,[.fn],8⟩),
 (107,⟨.fn,[.fn],8⟩),
 (108,⟨.fn,[.fn],8⟩),
 (109,⟨.fn,[.fn],8⟩),
 (110,⟨.fn,[.fn],8⟩),
 (111,⟨(.int .u64),[(.int .u64)],8⟩),
 (112,⟨.fn,[.fn],8⟩),
 (113,⟨(.sl 30),[(.sl 30)],24⟩),
 (115,⟨.fn,[.fn],8⟩),
 (116,⟨.fn,[.fn],8⟩),
 (118,⟨.fn,[.fn],8⟩),
 (119,⟨(.st [(0,3),(1,72),(7,38),(19,9),(20,9)]),[(.int .i64),.str,.str,(.sl 9),(.int .i64),(.int .i64),.bool,.str,.str,(.int .i64),(.int .i64),(.int .i64),(.int .i64),.str,(.sl 100),(.int .i64),.str,.str,.str,.str,.str],280⟩),
 (120,⟨(.st [(0,3),(1,72),(7,38),(19,9),(20,9)]),[(.int .i64),.str,.str,(.sl 9),(.int .i64),(.int .i64),.bool,.str,.str,(.int .i64),(.int .i64),(.int .i64),(.int .i64),.str,(.sl 100),(.int .i64),.str,.str,.str,.str,.str],280⟩),
 (121,⟨.fn,[.fn],8⟩),
 (122,⟨(.sl 28),[(.sl 28)],24⟩),
 (123,⟨.fn,[.fn],8⟩),
 (124,⟨.fn,[.fn],8⟩),
 (125,⟨.fn,[.fn],8⟩),
 (126,⟨.fn,[.fn],8⟩),
 (127,⟨.fn,[.fn],8⟩),
 (128,⟨(.sl 170),[(.sl 170)],24⟩),
 (129,⟨(.st [(0,128)]),[(.sl 170)],24⟩),
 (130,⟨(.st [(0,128)]),[(.sl 170)],24⟩),
 (132,⟨.fn,[.fn],8⟩),
 (133,⟨.fn,[.fn],8⟩),
 (134,⟨.fn,[.fn],8⟩),
 (135,⟨.fn,[.fn],8⟩),
 (136,⟨.fn,[.fn],8⟩),
 (137,⟨(.sl 104),[(.sl 104)],24⟩),
 (138,⟨(.st [(0,3),(1,9),(2,9),(3,137)]),[(.int .i64),.str,.str,(.sl 104)],64⟩),
 (139,⟨(.st [(0,3),(1,9),(2,9),(3,137)]),[(.int .i64),.str,.str,(.sl 104)],64⟩),
 (140,⟨(.pt 142),[(.pt 142)],8⟩),
 (141,⟨(.st [(0,9),(1,3),(2,4)]),[.str,(.int .i64),.bool],32⟩),
 (142,⟨(.st [(0,9),(1,3),(2,4)]),[.str,(.int .i64),.bool],32⟩),
 (143,⟨.fn,[.fn],8⟩),
 (144,⟨.fn,[.fn],8⟩),
 (145,⟨.fn,[.fn],8⟩),
 (146,⟨.fn,[.fn],8⟩),
 (147,⟨.fn,[.fn],8⟩),
 (148,⟨(.int .i64),[(.int .i64)],8⟩),
 (150,⟨.fn,[.fn],8⟩),
 (151,⟨.fn,[.fn],8⟩),
 (152,⟨.fn,[.fn],8⟩),
 (153,⟨.fn,[.fn],8⟩),
 (155,⟨.fn,[.fn],8⟩),
 (156,⟨.fn,[.fn],8⟩),
 (157,⟨(.int .u32),[(.int .u32)],4⟩),
 (158,⟨.fn,[.fn],8⟩),
 (159,⟨(.int .u64),[(.int .u64)],8⟩),
 (160,⟨.fn,[.fn],8⟩),
 (161,⟨.fn,[.fn],8⟩),
 (162,⟨.fn,[.fn],8⟩),
 (163,⟨.fn,[.fn],8⟩),
 (164,⟨(.st [(0,3),(1,3),(2,3),(3,3)]),[(.int .i64),(.int .i64),(.int .i64),(.int .i64)],32⟩),
 (165,⟨(.st [(0,3),(1,3),(2,3),(3,3)]),[(.int .i64),(.int .i64),(.int .i64),(.int .i64)],32⟩),
 (166,⟨.fn,[.fn],8⟩),
 (167,⟨.fn,[.fn],8⟩),
 (168,⟨.fn,[.fn],8⟩),
 (169,⟨(.st [(0,3),(1,9),(2,9),(3,3)]),[(.int .i64),.str,.str,(.int .i64)],48⟩),
 (170,⟨(.st [(0,3),(1,9),(2,9),(3,3)]),[(.int .i64),.str,.str,(.int .i64)],48⟩),
 (171,⟨(.pt 173),[(.pt 173)],8⟩),
 (172,⟨(.st [(0,28),(1,3),(2,4)]),[(.sl 9),(.int .i64),.bool],40⟩),
 (173,⟨(.st [(0,28),(1,3),(2,4)]),[(.sl 9),(.int .i64),.bool],40⟩),
 (174,⟨.fn,[.fn],8⟩),
 (175,⟨.fn,[.fn],8⟩),
 (176,⟨(.sl 55),[(.sl 55)],24⟩),
 (178,⟨.fn,[.fn],8⟩),
 (179,⟨.fn,[.fn],8⟩),
 (180,⟨.fn,[.fn],8⟩),
 (184,⟨.fn,[.fn],8⟩),
 (185,⟨.fn,[.fn],8⟩),
 (186,⟨(.pt 182),[(.pt 182)],8⟩),
 (187,⟨(.int .u64),[(.int .u64)],8⟩),
 (188,⟨.fn,[.fn],8⟩),
 (189,⟨.fn,[.fn],8⟩),
 (190,⟨.fn,[.fn],8⟩),
 (191,⟨(.pt 3),[(.pt 3)],8⟩),
 (192,⟨.fn,[.fn],8⟩),
 (193,⟨.fn,[.fn],8⟩),
 (194,⟨.fn,[.fn],8⟩),
 (195,⟨.fn,[.fn],8⟩),
 (196,⟨.fn,[.fn],8⟩),
 (197,⟨.fn,[.fn],8⟩),
 (199,⟨.fn,[.fn],8⟩),
 (200,⟨.fn,[.fn],8⟩),
 (201,⟨(.pt 187),[(.pt 187)],8⟩),
 (202,⟨.fn,[.fn],8⟩),
 (203,⟨.fn,[.fn],8⟩),
 (204,⟨.fn,[.fn],8⟩),
 (205,⟨(.sl 128),[(.sl 128)],24⟩),
 (206,⟨.fn,[.fn],8⟩),
 (207,⟨.fn,[.fn],8⟩),
 (208,⟨.fn,[.fn],8⟩),
 (210,⟨.fn,[.fn],8⟩),
 (212,⟨(.st [(0,5),(1,5)]),[(.int .u8),(.int .u8)],2⟩),
 (213,⟨(.st [(0,5),(1,5)]),[(.int .u8),(.int .u8)],2⟩),
 (215,⟨.fn,[.fn],8⟩),
 (216,⟨(.st [(0,17),(1,17),(2,17),(3,9)]),[(.pt 228),(.pt 228),(.pt 228),.str],40⟩),
 (217,⟨(.st [(0,17),(1,17),(2,17),(3,9)]),[(.pt 228),(.pt 228),(.pt 228),.str],40⟩),
 (221,⟨(.int .u8),[(.int .u8)],1⟩),
 (222,⟨(.int .u8),[(.int .u8)],1⟩),
 (223,⟨.fn,[.fn],8⟩),
 (224,⟨(.pt 5),[(.pt 5)],8⟩),
 (225,⟨(.int .i32),[(.int .i32)],4⟩),
 (226,⟨(.int .i32),[(.int .i32)],4⟩),
 (227,⟨(.st [(0,12),(1,12),(2,157),(3,221),(4,5),(5,5),(6,222),(7,223),(8,224),(9,225),(10,226)]),[(.int .u64),(.int .u64),(.int .u32),(.int .u8),(.int .u8),(.int .u8),(.int .u8),.fn,(.pt 5),(.int .i32),(.int .i32)],48⟩),
 (228,⟨(.st [(0,12),(1,12),(2,157),(3,221),(4,5),(5,5),(6,222),(7,223),(8,224),(9,225),(10,226)]),[(.int .u64),(.int .u64),(.int .u32),(.int .u8),(.int .u8),(.int .u8),(.int .u8),.fn,(.pt 5),(.int .i32),(.int .i32)],48⟩)]
def Ky:List Nat:=[40,100]
def Kv:List (Nat×Nat):=[(76,4),(79,3)]
theorem aC:Dp Tryz.checked.prog T0 Ky Kv:=Dp.of (by kernel_rfl) (by kernel_rfl) (by kernel_rfl) (by kernel_rfl)
end Go.Ev
namespace Go.Proofs
set_option maxHeartbeats 1000000 in
set_option maxRecDepth 100000 in
theorem stringslite_IndexByte (s:ByteArray) (c:Int) (w:World):
  Calls Tryz.prog 176 #[.string s,.int .u8 c] w fun e w'=>e=.returned (.int .i64 (Lib.indexByte s.data.toList c.toNat.toUInt8))∧w'=w:=by
 go_enter Tryz.func176,Tryz.ntmps176
 go_wp2
 rw[run_callFunc_extern Tryz.func187 (by kernel_rfl) (by kernel_rfl) (by kernel_rfl) (e:=Extern.BytealgIndexByte.indexByte) (by kernel_rfl),Lib.run_indexByteString]
 simp only[Result.andThen]
 rw[Oper.upon_value]
 go_wp2
 go_ret
 exact ⟨rfl,rfl⟩
end Go.Proofs
namespace Go.Ev
open Go.Proofs
def ibF:List C→Option (List C):=fun xs=>some [.i (Lib.indexByte (xs.getD 0 .nil).S.data.toList (xs.getD 1 .nil).I.toNat.toUInt8)]
theorem Kb:aD Tryz.checked.prog T0 176 ⟨2,⟨[(0,.d .str),(1,.d (.int .u8))],[]⟩,⟨[(0,.d (.int .i64))],[]⟩,[],ibF⟩:=by
 refine ⟨⟨Tryz.f176,_,Tryz.func176,rfl,by kernel_rfl⟩,?_⟩
 intro W wr nl F0 θ xs ys args hW hsz hargs hF
 obtain ⟨a0,a1,rfl⟩:∃a0 a1,args= #[a0,a1]:=by
  obtain ⟨l⟩:=args
  simp only[List.size_toArray] at hsz
  match l,hsz with
  |[a,b],_=>exact ⟨a,b,rfl⟩
 have r0:aj T0 F0 W (fun _=>none) θ (.c .str (xs.getD 0 .nil)) a0:=hargs 0 (by decide)
 have r1:aj T0 F0 W (fun _=>none) θ (.c (.int .u8) (xs.getD 1 .nil)) a1:=hargs 1 (by decide)
 simp only[ibF,Option.some.injEq] at hF
 subst hF
 generalize hx0:xs.getD 0 .nil=x0 at*
 generalize hx1:xs.getD 1 .nil=x1 at*
 cases r0 with
 |c _ _ _ hc=>
 cases hc with
 |str s=>
 cases r1 with
 |c _ _ _ hc=>
 cases hc with
 |int _ m=>
 refine (stringslite_IndexByte s m W).mono ?_
 rintro e w' ⟨rfl,rfl⟩
 exact ⟨_,F0,θ,rfl,hW,.c _ _ _ (.int _ _),fun n _ hn=>by simp at hn⟩
end Go.Ev
namespace Go.Ev
open Go.Sort
section
variable {T:Tys} {w w':World} {wr nl F0:Nat→Prop} {θ:Nat→Value} {bx bx':Bxs} {t:TypeId} {d:TD} {es es':List (List C)} {m:Nat} {ip:List Nat}
end
end Go.Ev
namespace Go.Ev
open Go.Sort
def iE (n:Int):List C:=[.i n]
end Go.Ev
namespace Go.Ev
open Go.Sort Go.Proofs
end Go.Ev
namespace Go.Ev
open Go.Sort Go.Proofs
section
variable {P:Program} {T:Tys} {g:FuncId} {cts:List CT} {CF:List C→Option (List C)} {Q:List C→Bool}
end
end Go.Ev
namespace Go.Ev
theorem Hd:∀(a b:List UInt8),Op.bytesLess a b=false→Op.bytesLess b a=true∨b=a
 |[],[],_=>.inr rfl
 |[],_::_,h=>by simp[Op.bytesLess] at h
 |_::_,[],_=>.inl (by simp[Op.bytesLess])
 |x::a,y::b,h=>by
  simp only[Op.bytesLess,Bool.or_eq_false_iff,Bool.and_eq_false_iff,decide_eq_false_iff_not,beq_eq_false_iff_ne] at h
  obtain ⟨h1,h2⟩:=h
  have lt (p q:UInt8):p<q↔p.toNat<q.toNat:=Iff.rfl
  rw[lt] at h1
  rcases Nat.lt_or_ge y.toNat x.toNat with h3|h3
  ·exact .inl (by simp only[Op.bytesLess,Bool.or_eq_true,decide_eq_true_eq,lt];exact .inl h3)
  ·have e:x=y:=UInt8.toNat_inj.1 (by omega)
   subst e
   rcases Hd a b (h2.resolve_left (fun h=>h rfl)) with h4|rfl
   ·exact .inl (by simp[Op.bytesLess,h4])
   ·exact .inr rfl
theorem Gz:∀(a:List UInt8),Op.bytesLess a a=false
 |[]=>rfl
 |x::r=>by
  have ih:=Gz r
  simp only[Op.bytesLess,ih]
  simp
theorem Cz:∀(a b c:List UInt8),Op.bytesLess a b=true→Op.bytesLess b c=true→Op.bytesLess a c=true
 |_,_,[],_,h2=>by cases ‹List UInt8›<;>simp[Op.bytesLess] at h2
 |_,[],_::_,h1,_=>by simp[Op.bytesLess] at h1
 |[],_::_,_::_,_,_=>by simp[Op.bytesLess]
 |x::a,y::b,z::c,h1,h2=>by
  simp only[Op.bytesLess,Bool.or_eq_true,Bool.and_eq_true,decide_eq_true_eq,beq_iff_eq] at h1 h2⊢
  have lt (p q:UInt8):p<q↔p.toNat<q.toNat:=Iff.rfl
  simp only[lt] at h1 h2⊢
  rcases h1 with h1|⟨rfl,h1⟩
  ·rcases h2 with h2|⟨rfl,h2⟩
   ·left;omega
   ·left;exact h1
  ·rcases h2 with h2|⟨rfl,h2⟩
   ·left;exact h2
   ·right;exact ⟨rfl,Cz a b c h1 h2⟩
def Ks (rk bn:Int) (n:ByteArray) (rk' bn':Int) (n':ByteArray):Int:=bif rk !=rk' then w64 (rk'-rk) else bif bn !=bn' then w64 (bn-bn') else Lib.compareBytes n.data.toList n'.data.toList
def ltE (rk bn:Int) (n:ByteArray) (rk' bn':Int) (n':ByteArray):Bool:=decide (rk'<rk)||(rk==rk'&&(decide (bn<bn')||(bn==bn'&&Op.bytesLess n.data.toList n'.data.toList)))
theorem IK (rk bn:Int) (n:ByteArray):ltE rk bn n rk bn n=false:=by simp[ltE,Gz]
theorem zI {a b c:Int} {a' b' c':Int} {x y z:ByteArray} (h1:ltE a a' x b b' y=true) (h2:ltE b b' y c c' z=true):ltE a a' x c c' z=true:=by
 simp only[ltE,Bool.or_eq_true,Bool.and_eq_true,decide_eq_true_eq,beq_iff_eq] at*
 rcases h1 with h1|⟨rfl,h1|⟨rfl,h1⟩⟩<;>rcases h2 with h2|⟨rfl,h2|⟨rfl,h2⟩⟩
 all_goals first|(left;omega)|(right;refine ⟨rfl,?_⟩;first|(left;omega)|(right;exact ⟨rfl,Cz _ _ _ h1 h2⟩))
theorem Hz {a b:Int} {a' b':Int} {x y:ByteArray} (h:ltE a a' x b b' y=false):ltE b b' y a a' x=true∨(b=a∧b'=a'∧y.data.toList=x.data.toList):=by
 simp only[ltE,Bool.or_eq_false_iff,Bool.and_eq_false_iff,decide_eq_false_iff_not,beq_eq_false_iff_ne,Bool.or_eq_true,Bool.and_eq_true,decide_eq_true_eq,beq_iff_eq] at*
 obtain ⟨h1,h2⟩:=h
 by_cases e1:a=b
 ·subst e1
  obtain ⟨h3,h4⟩:=h2.resolve_left (fun h=>h rfl)
  by_cases e2:a'=b'
  ·subst e2
   rcases Hd _ _ (h4.resolve_left (fun h=>h rfl)) with h5|h5
   ·exact .inl (.inr ⟨rfl,.inr ⟨rfl,h5⟩⟩)
   ·exact .inr ⟨rfl,rfl,h5⟩
  ·exact .inl (.inr ⟨rfl,.inl (by omega)⟩)
 ·exact .inl (.inl (by omega))
theorem Df {a b c:Int} {a' b' c':Int} {x y z:ByteArray} (h1:ltE a a' x b b' y=false) (h2:ltE b b' y c c' z=false):ltE a a' x c c' z=false:=by
 cases h:ltE a a' x c c' z with
 |false=>rfl
 |true=>
  rcases Hz h1 with q1|⟨rfl,rfl,q1⟩
  ·have:=zI q1 h
   rw[h2] at this;cases this
  ·have:ltE b b' y c c' z=ltE b b' x c c' z:=by unfold ltE;rw[q1]
   rw[this,h] at h2;cases h2
section
variable {CF:List C→Option (List C)} (hCF:∀(a0 a1 a6 a9 a10 a11:ByteArray) (a2 a3 a4 a5 a8:Int) (a7:List (List C)) (b0 b1 b6 b9 b10 b11:ByteArray) (b2 b3 b4 b5 b8:Int) (b7:List (List C)),
 CF [.s a0,.s a1,.i a2,.i a3,.i a4,.i a5,.s a6,.l a7,.i a8,.s a9,.s a10,.s a11,.s b0,.s b1,.i b2,.i b3,.i b4,.i b5,.s b6,.l b7,.i b8,.s b9,.s b10,.s b11]=some [.i (Ks a2 a3 a0 b2 b3 b0)])
include hCF
end
end Go.Ev
namespace Go.Ev
open Go.Proofs
noncomputable section
def mw.d1 (a:C):R:=(bif (decide ((a.L.length:Int)>2000)) then (bif (decide (2000≤(a.L.length:Int))) then (some (.ret [.l ((a.L.take 2000).drop 0),.i 0])) else none) else (some (.ret [a,.i 0])))
def mw:List C→Option (List C):=fun xs=>aY (apn 1 mw.d1 xs)
def pS:FS:=⟨1,⟨[(0,(zl 5))],[]⟩,⟨[(0,(.pt 3000 0))],[(3000,z3)]⟩,[],mw⟩
theorem BW:aD Tryz.checked.prog T0 24 pS:=br aC (fn:=Tryz.f24) (c:=Tryz.f24.body.getD .skip) pS .leaf [] .nil (by kernel_rfl) (by kernel_rfl) (by kernel_rfl) (fun xs=>by kernel_rfl)
def ae.d1 (a b c:C):R:=(bif (!(decide (a.I<1))) then (bif ((b.L.length:Int)==0) then (some (.ret [.i 0,b,.i (w64 (c.I+1))])) else (bif (decide ((w64 ((w64 (c.I+1))-1))<(b.L.length:Int))) then (bif (decide (0≤(w64 ((w64 (c.I+1))-1)))) then (bif (decide ((w64 ((w64 (c.I+1))-1))<(b.L.length:Int))) then (bif (a.I !=0) then (some (.ret [.i ((w64 (((b.L.getD (w64 ((w64 (c.I+1))-1)).toNat []).getD 0 .nil).I)).tmod a.I),b,.i (w64 (c.I+1))])) else none) else none) else none) else (bif ((b.L.length:Int) !=0) then (bif (decide (0≤((w64 ((w64 (c.I+1))-1)).tmod (b.L.length:Int)))) then (bif (decide (((w64 ((w64 (c.I+1))-1)).tmod (b.L.length:Int))<(b.L.length:Int))) then (bif ((b.L.length:Int) !=0) then (bif (decide (0≤((w64 ((w64 ((w64 ((w64 (c.I+1))-1))*7))+3)).tmod (b.L.length:Int)))) then (bif (decide (((w64 ((w64 ((w64 ((w64 (c.I+1))-1))*7))+3)).tmod (b.L.length:Int))<(b.L.length:Int))) then (bif ((b.L.length:Int) !=0) then (bif (a.I !=0) then (some (.ret [.i ((w64 ((BitVec.ofInt (IntKind.bits .i64) (w64 ((w64 ((w64 ((w64 ((w64 (((b.L.getD ((w64 ((w64 (c.I+1))-1)).tmod (b.L.length:Int)).toNat []).getD 0 .nil).I))*131))+(w64 ((w64 (((b.L.getD ((w64 ((w64 ((w64 ((w64 (c.I+1))-1))*7))+3)).tmod (b.L.length:Int)).toNat []).getD 0 .nil).I))*1117))))+(w64 ((w64 ((w64 (c.I+1))-1))*29))))+(w64 ((w64 ((w64 ((w64 (c.I+1))-1)).tdiv (b.L.length:Int)))*53))))^^^BitVec.ofInt (IntKind.bits .i64) (w64 ((w64 ((w64 ((w64 ((w64 ((w64 (((b.L.getD ((w64 ((w64 (c.I+1))-1)).tmod (b.L.length:Int)).toNat []).getD 0 .nil).I))*131))+(w64 ((w64 (((b.L.getD ((w64 ((w64 ((w64 ((w64 (c.I+1))-1))*7))+3)).tmod (b.L.length:Int)).toNat []).getD 0 .nil).I))*1117))))+(w64 ((w64 ((w64 (c.I+1))-1))*29))))+(w64 ((w64 ((w64 ((w64 (c.I+1))-1)).tdiv (b.L.length:Int)))*53)))).tdiv 64))).toNat:Int)).tmod a.I),b,.i (w64 (c.I+1))])) else none) else none) else none) else none) else none) else none) else none) else none))) else (some (.ret [.i 0,b,.i (w64 (c.I+1))])))
def ae:List C→Option (List C):=fun xs=>aY (apn 3 ae.d1 xs)
def aa:FS:=⟨2,⟨[(0,(.pt 2000 0)),(1,zi)],[(2000,z3)]⟩,⟨[(0,zi)],[(2000,z3)]⟩,[2000],ae⟩
theorem ab:aD Tryz.checked.prog T0 27 aa:=br aC (fn:=Tryz.f27) (c:=Tryz.f27.body.getD .skip) aa .leaf [] .nil (by kernel_rfl) (by kernel_rfl) (by kernel_rfl) (fun xs=>by kernel_rfl)
def dS.d1 (G0:List C→Option (List C)) (a:C):R:=(bif (decide (a.I<0)) then (ad (G0 [.i (w64 (0-a.I))]) fun b=>(bif (decide ((bs #[45]).size+b.S.size≤4294967296)) then (some (.ret [.s ((bs #[45])++b.S)])) else none)) else (bif (decide (a.I<10)) then (some (.ret [.s (kV (rows [[.i (IntKind.wrap .u8 (w64 (48+a.I)))]]))])) else (ad (G0 [.i (w64 (a.I.tdiv 10))]) fun c=>(bif (decide (c.S.size+(kV (rows [[.i (IntKind.wrap .u8 (w64 (48+(a.I.tmod 10))))]])).size≤4294967296)) then (some (.ret [.s (c.S++(kV (rows [[.i (IntKind.wrap .u8 (w64 (48+(a.I.tmod 10))))]])))])) else none))))
def dS.step (G0:List C→Option (List C)):List C→Option (List C):=fun xs=>aY (apn 1 (dS.d1 G0) xs)
def fm (G:List C→Option (List C)):FS:=⟨1,⟨[(0,(.d (.int .i64)))],[]⟩,⟨[(0,(.d .str))],[]⟩,[],G⟩
theorem DP {G0:List C→Option (List C)} (h0:aD Tryz.checked.prog T0 89 (fm G0)):aD Tryz.checked.prog T0 89 (fm (dS.step G0)):=br aC (fn:=Tryz.f89) (c:=Tryz.f89.body.getD .skip) (fm (dS.step G0)) .leaf [(89,some 7,(fm G0)),(89,some 18,(fm G0))] (.cons h0 (.cons h0 .nil)) (by kernel_rfl) (by kernel_rfl) (by kernel_rfl) (fun xs=>by kernel_rfl)
def dS.g:Nat→Nat→List C→Option (List C)
 |0,_=>fun _=>none
 |k+1,0=>dS.step (dS.g k 0)
 |_,_=>fun _=>none
theorem uT:∀k:Nat,aD Tryz.checked.prog T0 89 (fm (dS.g k 0))
 |0=>kr (fn:=Tryz.f89) (c:=Tryz.f89.body.getD .skip) (1) (⟨[(0,(.d (.int .i64)))],[]⟩) (⟨[(0,(.d .str))],[]⟩) [] (by kernel_rfl) (by kernel_rfl) (by kernel_rfl)
 |k+1=>DP (uT k)
def dS:List C→Option (List C):=dS.g iD 0
theorem pb:aD Tryz.checked.prog T0 89 (fm dS):=uT iD
def cN.d1 (a b c d e f g h i j k:C):R:=(bif (decide (a.I<2)) then (ad (dS [a]) fun l=>(bif (decide ((bs #[98]).size+l.S.size≤4294967296)) then (bif (decide (i.L.length+(rows [[.s ((bs #[98])++l.S),.s (bs #[101,97,115,116]),.l af,.i 30,.i 30,.b false]]).length≤4294967296)) then (some (.again [.i (w64 (a.I+1)),b,c,d,e,.l f.L,.l g.L,.l h.L,.l (i.L++(rows [[.s ((bs #[98])++l.S),.s (bs #[101,97,115,116]),.l af,.i 30,.i 30,.b false]])),.l j.L,.l k.L])) else none) else none)) else (some (.brk 0 [b,c,d,e,.l f.L,.l g.L,.l h.L,.l i.L,.l j.L,.l k.L])))
def cN.d2 (a b c d e f g h i j k l:C):R:=(bif (decide (b.I<(w64 (a.I+2)))) then (bif (decide ((bs #[99]).size+(kV (rows [[.i (IntKind.wrap .u8 (w64 (97+b.I)))]])).size≤4294967296)) then (call3 (ae [.i 3,c,d]) fun m n o=>(call3 (ae [.i 2,n,o]) fun p q r=>(bif (decide (b.I<a.I)) then (bif (decide (l.L.length+(rows [[.s ((bs #[99])++(kV (rows [[.i (IntKind.wrap .u8 (w64 (97+b.I)))]]))),.s (bs #[119,101,98]),m,.i 0,.i 1,p,.s (bs #[]),.l af,.i 0,.s (bs #[]),.s (bs #[]),.s (bs #[98,48])]]).length≤4294967296)) then (some (.again [a,.i (w64 (b.I+1)),q,r,e,f,.l g.L,.l h.L,.l i.L,.l j.L,.l k.L,.l (l.L++(rows [[.s ((bs #[99])++(kV (rows [[.i (IntKind.wrap .u8 (w64 (97+b.I)))]]))),.s (bs #[119,101,98]),m,.i 0,.i 1,p,.s (bs #[]),.l af,.i 0,.s (bs #[]),.s (bs #[]),.s (bs #[98,48])]]))])) else none) else (call3 (ae [.i 3,q,r]) fun s t u=>(bif (decide (s.I>0)) then (call3 (ae [.i 4,t,u]) fun v w x=>(bif (decide (l.L.length+(rows [[.s ((bs #[99])++(kV (rows [[.i (IntKind.wrap .u8 (w64 (97+b.I)))]]))),.s (bs #[119,101,98]),.i (w64 (1+v.I)),.i 0,.i 1,p,.s (bs #[]),.l af,.i 0,.s (bs #[]),.s (bs #[98,48]),.s (bs #[])]]).length≤4294967296)) then (some (.again [a,.i (w64 (b.I+1)),w,x,e,f,.l g.L,.l h.L,.l i.L,.l j.L,.l k.L,.l (l.L++(rows [[.s ((bs #[99])++(kV (rows [[.i (IntKind.wrap .u8 (w64 (97+b.I)))]]))),.s (bs #[119,101,98]),.i (w64 (1+v.I)),.i 0,.i 1,p,.s (bs #[]),.l af,.i 0,.s (bs #[]),.s (bs #[98,48]),.s (bs #[])]]))])) else none)) else (bif (decide (l.L.length+(rows [[.s ((bs #[99])++(kV (rows [[.i (IntKind.wrap .u8 (w64 (97+b.I)))]]))),.s (bs #[119,101,98]),m,.i 0,.i 1,p,.s (bs #[]),.l af,.i 0,.s (bs #[]),.s (bs #[]),.s (bs #[])]]).length≤4294967296)) then (some (.again [a,.i (w64 (b.I+1)),t,u,e,f,.l g.L,.l h.L,.l i.L,.l j.L,.l k.L,.l (l.L++(rows [[.s ((bs #[99])++(kV (rows [[.i (IntKind.wrap .u8 (w64 (97+b.I)))]]))),.s (bs #[119,101,98]),m,.i 0,.i 1,p,.s (bs #[]),.l af,.i 0,.s (bs #[]),.s (bs #[]),.s (bs #[])]]))])) else none)))))) else none) else (some (.brk 2 [c,d,e,f,.l g.L,.l h.L,.l i.L,.l j.L,.l k.L,.l l.L])))
def cN.d3 (a b c d e f g h i j:C):R:=(some (.ret [d,a,b,.l h.L,.l i.L,.l j.L]))
def cN.d4 (a b c d e f g h i j:C):R:=(call3 (ae [.i 2,a,b]) fun k l m=>(ah 2 (lim (apn 12 cN.d2) [.i (w64 (10-k.I)),.i 0,l,m,c,d,.l e.L,.l f.L,.l g.L,.l h.L,.l i.L,.l j.L]) (apn 10 cN.d3)))
def cN.d5 (a b:C):R:=(call3 (ae [.i 2,a,b]) fun c d e=>(call3 (ae [.i 9,d,e]) fun f g h=>(ah 0 (lim (apn 11 cN.d1) [.i 0,g,h,.b false,.b (c.I==0),.l af,.l af,.l af,.l af,.l (rows [[.s (bs #[119,101,98]),f]]),.l af]) (apn 10 cN.d4))))
def cN:List C→Option (List C):=fun xs=>aY (apn 2 cN.d5 xs)
def qv:FS:=⟨1,⟨[(0,(.pt 2000 0))],[(2000,z3)]⟩,⟨[(0,(.ag [zo,(.ow 3001),(.ow 3002),(.ow 3003)]))],[(2000,z3),(3001,.arr 72 1),(3002,.arr 40 1),(3003,.arr 38 1)]⟩,[2000],cN⟩
theorem B6:aD Tryz.checked.prog T0 56 qv:=ry aC [26,64] false (fn:=Tryz.f56) (c:=Tryz.f56.body.getD .skip) qv (.seq .leaf (.seq .leaf (.seq (.seq .leaf (.block ⟨[(0,(.pt 2000 0)),(2,(.pt 2 0)),(3,(.pt 3 0))],[(2000,z3),(2,z17),(3,.var 27 [zo,(.ow 1017703),(.ow 14),(.ow 1017704)]),(1017700,.arr 72 1),(1017701,.arr 40 1),(1017702,.arr 38 1),(1017703,.arr 72 1),(14,.arr 40 1),(1017704,.arr 38 1)]⟩ (.loop ⟨[(0,(.pt 2000 0)),(2,(.pt 2 0)),(3,(.pt 3 0)),(4,zi)],[(2000,z3),(2,z17),(3,.var 27 [zo,(.ow 1017703),(.ow 14),(.ow 1017704)]),(1017700,.arr 72 1),(1017701,.arr 40 1),(1017702,.arr 38 1),(1017703,.arr 72 1),(14,.arr 40 1),(1017704,.arr 38 1)]⟩ .leaf))) (.seq .leaf (.seq (.seq .leaf (.block ⟨[(2,(.pt 2 0)),(3,(.pt 3 0))],[(2000,z3),(2,z17),(3,.var 27 [zo,(.ow 1017703),(.ow 14),(.ow 1017704)]),(1017700,.arr 72 1),(1017701,.arr 40 1),(1017702,.arr 38 1),(1017703,.arr 72 1),(14,.arr 40 1),(1017704,.arr 38 1)]⟩ (.loop ⟨[(0,(.pt 2000 0)),(2,(.pt 2 0)),(3,(.pt 3 0)),(5,zi),(6,zi)],[(2000,z3),(2,z17),(3,.var 27 [zo,(.ow 1017703),(.ow 14),(.ow 1017704)]),(1017700,.arr 72 1),(1017701,.arr 40 1),(1017702,.arr 38 1),(1017703,.arr 72 1),(14,.arr 40 1),(1017704,.arr 38 1)]⟩ .leaf))) .leaf))))) [(27,some 9,aa),(27,some 12,aa),(27,some 30,aa),(27,some 45,aa),(27,some 47,aa),(27,some 54,aa),(27,some 58,aa),(89,some 23,(fm dS))] (.cons ab (.cons ab (.cons ab (.cons ab (.cons ab (.cons ab (.cons ab (.cons pb .nil)))))))) (by kernel_rfl) (by kernel_rfl) (by kernel_rfl) (fun xs=>by kernel_rfl)
def cP.d1 (a b c:C):R:=(call3 (ae [.i 2,a,b]) fun d e f=>(bif (d.I==0) then (call3 (ae [.i 2,e,f]) fun g h i=>(bif (decide (0≤g.I)) then (bif (decide (g.I<((rows [[.s (bs #[115,115,100])],[.s (bs #[115,115,100,61,97])]]).length:Int))) then (bif (decide (c.L.length+(rows [[(((rows [[.s (bs #[115,115,100])],[.s (bs #[115,115,100,61,97])]]).getD g.I.toNat []).getD 0 .nil)]]).length≤4294967296)) then (some (.ret [h,i,.l (c.L++(rows [[(((rows [[.s (bs #[115,115,100])],[.s (bs #[115,115,100,61,97])]]).getD g.I.toNat []).getD 0 .nil)]]))])) else none) else none) else none)) else (some (.ret [e,f,.l c.L]))))
def cP.d2 (a b c:C):R:=(bf (call3 (ae [.i 3,a,b]) fun d e f=>(bif (d.I==0) then (bif (decide (c.L.length+(rows [[.s (bs #[111,108,100])]]).length≤4294967296)) then (some (.nrm [e,f,.l (c.L++(rows [[.s (bs #[111,108,100])]]))])) else none) else (some (.nrm [e,f,.l c.L])))) (apn 3 cP.d1))
def cP.d3 (a b c:C):R:=(bf (call3 (ae [.i 3,a,b]) fun d e f=>(bif (d.I==0) then (bif (decide (c.L.length+(rows [[.s (bs #[103,112,117])]]).length≤4294967296)) then (some (.nrm [e,f,.l (c.L++(rows [[.s (bs #[103,112,117])]]))])) else none) else (some (.nrm [e,f,.l c.L])))) (apn 3 cP.d2))
def cP.d4 (a b:C):R:=(bf (call3 (ae [.i 2,a,b]) fun c d e=>(bif (c.I==0) then (call3 (ae [.i 2,d,e]) fun f g h=>(bif (decide (0≤f.I)) then (bif (decide (f.I<((rows [[.s (bs #[114,101,100])],[.s (bs #[97])]]).length:Int))) then (bif (decide ((bs #[99,111,108,111,114,61]).size+((((rows [[.s (bs #[114,101,100])],[.s (bs #[97])]]).getD f.I.toNat []).getD 0 .nil).S).size≤4294967296)) then (bif (decide (af.length+(rows [[.s ((bs #[99,111,108,111,114,61])++(((rows [[.s (bs #[114,101,100])],[.s (bs #[97])]]).getD f.I.toNat []).getD 0 .nil).S)]]).length≤4294967296)) then (some (.nrm [g,h,.l (af++(rows [[.s ((bs #[99,111,108,111,114,61])++(((rows [[.s (bs #[114,101,100])],[.s (bs #[97])]]).getD f.I.toNat []).getD 0 .nil).S)]]))])) else none) else none) else none) else none)) else (some (.nrm [d,e,.l af])))) (apn 3 cP.d3))
def cP:List C→Option (List C):=fun xs=>aY (apn 2 cP.d4 xs)
def om:FS:=⟨1,⟨[(0,(.pt 2000 0))],[(2000,z3)]⟩,⟨[(0,(.ow 3001))],[(2000,z3),(3001,.arr 9 1)]⟩,[2000],cP⟩
theorem A9:aD Tryz.checked.prog T0 157 om:=br aC (fn:=Tryz.f157) (c:=Tryz.f157.body.getD .skip) om (.seq .leaf (.seq .leaf (.seq (.join ⟨[(0,(.pt 2000 0)),(3,(.ow 4))],[(2000,z3),(4,.arr 9 1)]⟩ .leaf) (.seq (.join ⟨[(0,(.pt 2000 0)),(3,(.ow 4))],[(2000,z3),(4,.arr 9 1)]⟩ .leaf) (.seq (.join ⟨[(0,(.pt 2000 0)),(3,(.ow 4))],[(2000,z3),(4,.arr 9 1)]⟩ .leaf) .leaf))))) [(27,some 6,aa),(27,some 11,aa),(27,some 18,aa),(27,some 24,aa),(27,some 30,aa),(27,some 35,aa)] (.cons ab (.cons ab (.cons ab (.cons ab (.cons ab (.cons ab .nil)))))) (by kernel_rfl) (by kernel_rfl) (by kernel_rfl) (fun xs=>by kernel_rfl)
def gg.d1 (a b c:C):R:=(call3 (ae [.i 3,b,c]) fun d e f=>(bif (decide (0≤d.I)) then (bif (decide (d.I<((rows [[.s (bs #[101,97,115,116])],[.s (bs #[119,101,115,116])],[.s (bs #[110,111,114,116,104])]]).length:Int))) then (call3 (cP [e,f]) fun g h i=>(call3 (ae [.i 20,g,h]) fun j k l=>(call3 (ae [.i 20,k,l]) fun m n o=>(call3 (ae [.i 10,n,o]) fun p q r=>(some (.ret [a,(((rows [[.s (bs #[101,97,115,116])],[.s (bs #[119,101,115,116])],[.s (bs #[110,111,114,116,104])]]).getD d.I.toNat []).getD 0 .nil),.i (w64 (4+j.I)),.i (w64 (4+m.I)),.b (p.I==0),q,r,.l i.L])))))) else none) else none))
def gg:List C→Option (List C):=fun xs=>aY (apn 3 gg.d1 xs)
def j8:FS:=⟨2,⟨[(0,(.pt 2000 0)),(1,zt)],[(2000,z3)]⟩,⟨[(0,(.ag [zt,zt,(.ow 3001),zi,zi,zo]))],[(2000,z3),(3001,.arr 9 1)]⟩,[2000],gg⟩
theorem uD:aD Tryz.checked.prog T0 129 j8:=br aC (fn:=Tryz.f129) (c:=Tryz.f129.body.getD .skip) j8 .leaf [(27,some 8,aa),(27,some 14,aa),(27,some 17,aa),(27,some 20,aa),(157,some 12,om)] (.cons ab (.cons ab (.cons ab (.cons ab (.cons A9 .nil))))) (by kernel_rfl) (by kernel_rfl) (by kernel_rfl) (fun xs=>by kernel_rfl)
def l6.d1 (a b:C):R:=(call3 (ae [.i 8,a,b]) fun c d e=>(bif (decide (0≤c.I)) then (bif (decide (c.I<((rows [[.s (bs #[115,115,100])],[.s (bs #[111,108,100])],[.s (bs #[103,112,117])],[.s (bs #[122,111,110,101])],[.s (bs #[99,111,108,111,114])],[.s (bs #[97])],[.s (bs #[98,45,49])],[.s (bs #[120,95,50])]]).length:Int))) then (some (.ret [(((rows [[.s (bs #[115,115,100])],[.s (bs #[111,108,100])],[.s (bs #[103,112,117])],[.s (bs #[122,111,110,101])],[.s (bs #[99,111,108,111,114])],[.s (bs #[97])],[.s (bs #[98,45,49])],[.s (bs #[120,95,50])]]).getD c.I.toNat []).getD 0 .nil),d,e])) else none) else none))
def l6:List C→Option (List C):=fun xs=>aY (apn 2 l6.d1 xs)
def qc:FS:=⟨1,⟨[(0,(.pt 2000 0))],[(2000,z3)]⟩,⟨[(0,zt)],[(2000,z3)]⟩,[2000],l6⟩
theorem B2:aD Tryz.checked.prog T0 185 qc:=br aC (fn:=Tryz.f185) (c:=Tryz.f185.body.getD .skip) qc .leaf [(27,some 5,aa)] (.cons ab .nil) (by kernel_rfl) (by kernel_rfl) (by kernel_rfl) (fun xs=>by kernel_rfl)
def jM.d1 (a b:C):R:=(call3 (ae [.i 2,a,b]) fun c d e=>(bif (c.I==0) then (call3 (l6 [d,e]) fun f g h=>(some (.ret [g,h,.l (rows [[.i 1,f,.s (bs #[]),.i 0]])]))) else (call3 (ae [.i 3,d,e]) fun i j k=>(bif (decide (0≤i.I)) then (bif (decide (i.I<((rows [[.s (bs #[122,111,110,101])],[.s (bs #[99,111,108,111,114])],[.s (bs #[115,115,100])]]).length:Int))) then (call3 (ae [.i 4,j,k]) fun l m n=>(bif (decide (0≤l.I)) then (bif (decide (l.I<((rows [[.s (bs #[101,97,115,116])],[.s (bs #[119,101,115,116])],[.s (bs #[114,101,100])],[.s (bs #[97])]]).length:Int))) then (some (.ret [m,n,.l (rows [[.i 2,(((rows [[.s (bs #[122,111,110,101])],[.s (bs #[99,111,108,111,114])],[.s (bs #[115,115,100])]]).getD i.I.toNat []).getD 0 .nil),(((rows [[.s (bs #[101,97,115,116])],[.s (bs #[119,101,115,116])],[.s (bs #[114,101,100])],[.s (bs #[97])]]).getD l.I.toNat []).getD 0 .nil),.i 0]])])) else none) else none)) else none) else none))))
def jM:List C→Option (List C):=fun xs=>aY (apn 2 jM.d1 xs)
def pM:FS:=⟨1,⟨[(0,(.pt 2000 0))],[(2000,z3)]⟩,⟨[(0,(.ow 3001))],[(2000,z3),(3001,.arr 170 1)]⟩,[2000],jM⟩
theorem BX:aD Tryz.checked.prog T0 173 pM:=br aC (fn:=Tryz.f173) (c:=Tryz.f173.body.getD .skip) pM .leaf [(27,some 4,aa),(27,some 12,aa),(27,some 17,aa),(185,some 7,qc)] (.cons ab (.cons ab (.cons ab (.cons B2 .nil)))) (by kernel_rfl) (by kernel_rfl) (by kernel_rfl) (fun xs=>by kernel_rfl)
def bN.d1 (a b c d e:C):R:=(bif (decide (c.I<(d.L.length:Int))) then (bif (decide (0≤c.I)) then (bif (decide (c.I<(d.L.length:Int))) then (bif (decide (e.L.length+(((d.L.getD c.I.toNat []).getD 0 .nil).L).length≤4294967296)) then (some (.again [a,b,.i (w64 (c.I+1)),.l d.L,.l (e.L++(((d.L.getD c.I.toNat []).getD 0 .nil).L))])) else none) else none) else none) else (some (.brk 0 [a,b,.l d.L,.l e.L])))
def bN.d2 (a b c d:C):R:=(bif (decide (d.L.length+(rows [[a,.s (bs #[]),.s (bs #[]),b]]).length≤4294967296)) then (some (.ret [.l c.L,.l (d.L++(rows [[a,.s (bs #[]),.s (bs #[]),b]]))])) else none)
def bN.d3 (a b c:C):R:=(ah 0 (lim (apn 5 bN.d1) [a,b,.i 0,.l c.L,.l af]) (apn 4 bN.d2))
def bN:List C→Option (List C):=fun xs=>aY (apn 3 bN.d3 xs)
def qj:FS:=⟨3,⟨[(0,zi),(1,zi),(2,(.ow 2000))],[(2000,.arr 128 1)]⟩,⟨[(0,(.ow 3001))],[(2000,.arr 128 1),(3001,.arr 170 1)]⟩,[2000],bN⟩
theorem BP:aD Tryz.checked.prog T0 162 qj:=br aC (fn:=Tryz.f162) (c:=Tryz.f162.body.getD .skip) qj (.seq .leaf (.seq .leaf (.seq (.seq .leaf (.block ⟨[(0,zi),(1,zi),(7,(.ow 9))],[(2000,.arr 128 1),(9,.arr 170 1)]⟩ (.loop ⟨[(0,zi),(1,zi),(2,(.ow 2000)),(7,(.ow 9)),(8,zi)],[(2000,.arr 128 1),(9,.arr 170 1)]⟩ .leaf))) .leaf))) [] .nil (by kernel_rfl) (by kernel_rfl) (by kernel_rfl) (fun xs=>by kernel_rfl)
def fD:FS:=⟨3,⟨[(0,zi),(1,zi),(2,(.ow 2000))],[(2000,.arr 128)]⟩,⟨[(0,(.ow 3001))],[(2000,.arr 128),(3001,.arr 170 1)]⟩,[2000],bN⟩
theorem ij:aD Tryz.checked.prog T0 162 fD:=br aC (fn:=Tryz.f162) (c:=Tryz.f162.body.getD .skip) fD (.seq .leaf (.seq .leaf (.seq (.seq .leaf (.block ⟨[(0,zi),(1,zi),(7,(.ow 9))],[(2000,.arr 128),(9,.arr 170 1)]⟩ (.loop ⟨[(0,zi),(1,zi),(2,(.ow 2000)),(7,(.ow 9)),(8,zi)],[(2000,.arr 128),(9,.arr 170 1)]⟩ .leaf))) .leaf))) [] .nil (by kernel_rfl) (by kernel_rfl) (by kernel_rfl) (fun xs=>by kernel_rfl)
def ei.d1 (G0:List C→Option (List C)) (a b c:C):R:=(bif (!(decide (a.I≤0))) then (call3 (ae [.i 3,b,c]) fun d e f=>(bif (d.I==0) then (call3 (jM [e,f]) fun g h i=>(some (.ret [g,h,.l i.L]))) else (call3 (ae [.i 3,e,f]) fun j k l=>(bif (j.I==0) then (call3 (G0 [.i (w64 (a.I-1)),k,l]) fun m n o=>(call2 (bN [.i 3,.i 1,.l (rows [[.l o.L]])]) fun p q=>(some (.ret [m,n,.l q.L])))) else (bif (j.I==1) then (call3 (G0 [.i (w64 (a.I-1)),k,l]) fun r s t=>(call3 (G0 [.i (w64 (a.I-1)),r,s]) fun u v w=>(call2 (bN [.i 4,.i 2,.l (rows [[.l t.L],[.l w.L]])]) fun x y=>(some (.ret [u,v,.l y.L]))))) else (call3 (G0 [.i (w64 (a.I-1)),k,l]) fun z a0 a1=>(call3 (G0 [.i (w64 (a.I-1)),z,a0]) fun a2 a3 a4=>(call2 (bN [.i 5,.i 2,.l (rows [[.l a1.L],[.l a4.L]])]) fun a5 a6=>(some (.ret [a2,a3,.l a6.L])))))))))) else (call3 (jM [b,c]) fun a7 a8 a9=>(some (.ret [a7,a8,.l a9.L]))))
def ei.step (G0:List C→Option (List C)):List C→Option (List C):=fun xs=>aY (apn 3 (ei.d1 G0) xs)
def eP (G:List C→Option (List C)):FS:=⟨2,⟨[(0,(.pt 2000 0)),(1,(.d (.int .i64)))],[(2000,.var 90 [(.d (.sl 5)),(.d (.int .i64))])]⟩,⟨[(0,(.ow 3001))],[(2000,.var 90 [(.d (.sl 5)),(.d (.int .i64))]),(3001,.arr 170 1)]⟩,[2000],G⟩
theorem Co {G0:List C→Option (List C)} (h0:aD Tryz.checked.prog T0 159 (eP G0)):aD Tryz.checked.prog T0 159 (eP (ei.step G0)):=br aC (fn:=Tryz.f159) (c:=Tryz.f159.body.getD .skip) (eP (ei.step G0)) .leaf [(27,some 11,aa),(27,some 17,aa),(159,some 23,(eP G0)),(159,some 31,(eP G0)),(159,some 36,(eP G0)),(159,some 42,(eP G0)),(159,some 47,(eP G0)),(162,some 25,qj),(162,some 38,fD),(162,some 49,fD),(173,some 15,pM)] (.cons ab (.cons ab (.cons h0 (.cons h0 (.cons h0 (.cons h0 (.cons h0 (.cons BP (.cons ij (.cons ij (.cons BX .nil))))))))))) (by kernel_rfl) (by kernel_rfl) (by kernel_rfl) (fun xs=>by kernel_rfl)
def ei.g:Nat→Nat→List C→Option (List C)
 |0,_=>fun _=>none
 |k+1,0=>ei.step (ei.g k 0)
 |_,_=>fun _=>none
theorem sr:∀k:Nat,aD Tryz.checked.prog T0 159 (eP (ei.g k 0))
 |0=>kr (fn:=Tryz.f159) (c:=Tryz.f159.body.getD .skip) (2) (⟨[(0,(.pt 2000 0)),(1,(.d (.int .i64)))],[(2000,.var 90 [(.d (.sl 5)),(.d (.int .i64))])]⟩) (⟨[(0,(.ow 3001))],[(2000,.var 90 [(.d (.sl 5)),(.d (.int .i64))]),(3001,.arr 170 1)]⟩) [2000] (by kernel_rfl) (by kernel_rfl) (by kernel_rfl)
 |k+1=>Co (sr k)
def ei:List C→Option (List C):=ei.g iD 0
theorem B8:aD Tryz.checked.prog T0 159 (eP ei):=sr iD
def dV.d1 (a b c d:C):R:=(bif (decide (a.I<(b.L.length:Int))) then (bif (decide (0≤a.I)) then (bif (decide (a.I<(b.L.length:Int))) then (bif (!(decide (((b.L.getD a.I.toNat []).getD 3 .nil).I<0))) then (bif (decide (((b.L.getD a.I.toNat []).getD 3 .nil).I>(d.L.length:Int))) then (some (.ret [.b false,.l c.L])) else (bif (decide (0≤(w64 ((d.L.length:Int)-((b.L.getD a.I.toNat []).getD 3 .nil).I)))) then (bif (decide ((w64 ((d.L.length:Int)-((b.L.getD a.I.toNat []).getD 3 .nil).I))≤(d.L.length:Int))) then (bif (decide ((d.L.length:Int)≤(d.L.length:Int))) then (bif (decide (af.length+((d.L.take (d.L.length:Int).toNat).drop (w64 ((d.L.length:Int)-((b.L.getD a.I.toNat []).getD 3 .nil).I)).toNat).length≤4294967296)) then (bif (decide (c.L.length+(rows [[.l (af++((d.L.take (d.L.length:Int).toNat).drop (w64 ((d.L.length:Int)-((b.L.getD a.I.toNat []).getD 3 .nil).I)).toNat))]]).length≤4294967296)) then (bif (decide (0≤(w64 ((d.L.length:Int)-((b.L.getD a.I.toNat []).getD 3 .nil).I)))) then (bif (decide ((w64 ((d.L.length:Int)-((b.L.getD a.I.toNat []).getD 3 .nil).I))≤(d.L.length:Int))) then (bif (decide (((d.L.take (w64 ((d.L.length:Int)-((b.L.getD a.I.toNat []).getD 3 .nil).I)).toNat).drop 0).length+(rows [[a]]).length≤4294967296)) then (some (.again [.i (w64 (a.I+1)),b,.l (c.L++(rows [[.l (af++((d.L.take (d.L.length:Int).toNat).drop (w64 ((d.L.length:Int)-((b.L.getD a.I.toNat []).getD 3 .nil).I)).toNat))]])),.l (((d.L.take (w64 ((d.L.length:Int)-((b.L.getD a.I.toNat []).getD 3 .nil).I)).toNat).drop 0)++(rows [[a]]))])) else none) else none) else none) else none) else none) else none) else none) else none)) else (some (.ret [.b false,.l c.L]))) else none) else none) else (some (.brk 0 [.l c.L,.l d.L])))
def dV.d2 (a b:C):R:=(some (.ret [.b ((b.L.length:Int)==1),.l a.L]))
def dV.d3 (a:C):R:=(ah 0 (lim (apn 4 dV.d1) [.i 0,a,.l af,.l af]) (apn 2 dV.d2))
def dV:List C→Option (List C):=fun xs=>aY (apn 1 dV.d3 xs)
def jf:FS:=⟨1,⟨[(0,(.ag [(zl 170)]))],[]⟩,⟨[(0,(.tu [(.ow 3000),zo]))],[(3000,.arr 55 1)]⟩,[],dV⟩
theorem mR:aD Tryz.checked.prog T0 139 jf:=ry aC [41] false (fn:=Tryz.f139) (c:=Tryz.f139.body.getD .skip) jf (.seq .leaf (.seq .leaf (.seq .leaf (.seq (.seq .leaf (.block ⟨[(4,(.ow 8)),(5,(.ow 9))],[(8,.arr 55 1),(9,.arr 3 1)]⟩ (.loop ⟨[(1,(.pt 1 0)),(4,(.ow 8)),(5,(.ow 9)),(6,zi)],[(1,.var 130 [(zl 170)]),(8,.arr 55 1),(9,.arr 3 1)]⟩ .leaf))) .leaf)))) [] .nil (by kernel_rfl) (by kernel_rfl) (by kernel_rfl) (fun xs=>by kernel_rfl)
def gG.d1 (a b c:C):R:=(bif (decide (a.I≥b.I)) then (some (.ret [.b (decide (a.I≤c.I))])) else (some (.ret [.b false])))
def gG:List C→Option (List C):=fun xs=>aY (apn 3 gG.d1 xs)
def eV:FS:=⟨3,⟨[(0,zi),(1,zi),(2,zi)],[]⟩,⟨[(0,zo)],[]⟩,[],gG⟩
theorem fK:aD Tryz.checked.prog T0 70 eV:=br aC (fn:=Tryz.f70) (c:=Tryz.f70.body.getD .skip) eV .leaf [] .nil (by kernel_rfl) (by kernel_rfl) (by kernel_rfl) (fun xs=>by kernel_rfl)
def hU.d1 (a:C):R:=(bif (decide (a.I≥97)) then (bif (!(decide (a.I≤122))) then (bif (decide (a.I≥48)) then (bif (!(decide (a.I≤57))) then (bif (!(a.I==45)) then (some (.ret [.b (a.I==95)])) else (some (.ret [.b true]))) else (some (.ret [.b true]))) else (bif (!(a.I==45)) then (some (.ret [.b (a.I==95)])) else (some (.ret [.b true])))) else (some (.ret [.b true]))) else (bif (decide (a.I≥48)) then (bif (!(decide (a.I≤57))) then (bif (!(a.I==45)) then (some (.ret [.b (a.I==95)])) else (some (.ret [.b true]))) else (some (.ret [.b true]))) else (bif (!(a.I==45)) then (some (.ret [.b (a.I==95)])) else (some (.ret [.b true])))))
def hU:List C→Option (List C):=fun xs=>aY (apn 1 hU.d1 xs)
def kE:FS:=⟨1,⟨[(0,(.d (.int .u8)))],[]⟩,⟨[(0,zo)],[]⟩,[],hU⟩
theorem rD:aD Tryz.checked.prog T0 101 kE:=br aC (fn:=Tryz.f101) (c:=Tryz.f101.body.getD .skip) kE .leaf [] .nil (by kernel_rfl) (by kernel_rfl) (by kernel_rfl) (fun xs=>by kernel_rfl)
def bm.d1 (a b:C):R:=(bif (decide (b.I<(a.S.size:Int))) then (bif (decide (0≤b.I)) then (bif (decide (b.I<(a.S.size:Int))) then (ad (hU [.i ((a.S.data.getD b.I.toNat 0).toNat:Int)]) fun c=>(bif (!c.B) then (some (.ret [.b false])) else (some (.again [a,.i (w64 (b.I+1))])))) else none) else none) else (some (.brk 0 [])))
def bm.d2:R:=(some (.ret [.b true]))
def bm.d3 (a:C):R:=(ad (gG [.i (a.S.size:Int),.i 1,.i 20]) fun b=>(bif (!b.B) then (some (.ret [.b false])) else (ah 0 (lim (apn 2 bm.d1) [a,.i 0]) (fun xs=>bm.d2))))
def bm:List C→Option (List C):=fun xs=>aY (apn 1 bm.d3 xs)
def cx:FS:=⟨1,⟨[(0,zt)],[]⟩,⟨[(0,zo)],[]⟩,[],bm⟩
theorem dh:aD Tryz.checked.prog T0 69 cx:=br aC (fn:=Tryz.f69) (c:=Tryz.f69.body.getD .skip) cx (.seq .leaf (.seq .leaf (.seq (.seq .leaf (.block ⟨[],[]⟩ (.loop ⟨[(0,zt),(3,zi)],[]⟩ .leaf))) .leaf))) [(70,some 6,eV),(101,some 17,kE)] (.cons fK (.cons rD .nil)) (by kernel_rfl) (by kernel_rfl) (by kernel_rfl) (fun xs=>by kernel_rfl)
def aO.d1 (a b c:C):R:=(bif b.B then (some (.ret [.b false])) else (some (.again [.i (w64 (a.I+1)),c])))
def aO.d2 (a b c d e f g:C):R:=(bf (bif b.B then (ad (bm [e]) fun h=>(bif (!(!h.B)) then (bif (!b.B) then (bif (!(!(e.S.toList==(bs #[]).toList))) then (bif (d.I==2) then (ad (bm [f]) fun i=>(bif (!(!i.B)) then (bif (d.I !=2) then (some (.nrm [a,.b (!(f.S.toList==(bs #[]).toList)),c])) else (some (.nrm [a,.b false,c]))) else (some (.nrm [a,.b true,c])))) else (bif (d.I !=2) then (some (.nrm [a,.b (!(f.S.toList==(bs #[]).toList)),c])) else (some (.nrm [a,.b false,c])))) else (some (.nrm [a,.b true,c]))) else (bif (d.I==2) then (ad (bm [f]) fun j=>(bif (!(!j.B)) then (bif (d.I !=2) then (some (.nrm [a,.b (!(f.S.toList==(bs #[]).toList)),c])) else (some (.nrm [a,.b false,c]))) else (some (.nrm [a,.b true,c])))) else (bif (d.I !=2) then (some (.nrm [a,.b (!(f.S.toList==(bs #[]).toList)),c])) else (some (.nrm [a,.b false,c]))))) else (some (.nrm [a,.b true,c])))) else (bif (!b.B) then (bif (!(!(e.S.toList==(bs #[]).toList))) then (bif (d.I==2) then (ad (bm [f]) fun k=>(bif (!(!k.B)) then (bif (d.I !=2) then (some (.nrm [a,.b (!(f.S.toList==(bs #[]).toList)),c])) else (some (.nrm [a,.b false,c]))) else (some (.nrm [a,.b true,c])))) else (bif (d.I !=2) then (some (.nrm [a,.b (!(f.S.toList==(bs #[]).toList)),c])) else (some (.nrm [a,.b false,c])))) else (some (.nrm [a,.b true,c]))) else (bif (d.I==2) then (ad (bm [f]) fun l=>(bif (!(!l.B)) then (bif (d.I !=2) then (some (.nrm [a,.b (!(f.S.toList==(bs #[]).toList)),c])) else (some (.nrm [a,.b false,c]))) else (some (.nrm [a,.b true,c])))) else (bif (d.I !=2) then (some (.nrm [a,.b (!(f.S.toList==(bs #[]).toList)),c])) else (some (.nrm [a,.b false,c])))))) (apn 3 aO.d1))
def aO.d3 (a b c d e f:C):R:=(bf (bif (!(c.I==1)) then (some (.nrm [a,.b (c.I==2),b,c,d,e,f])) else (some (.nrm [a,.b true,b,c,d,e,f]))) (apn 7 aO.d2))
def aO.d4 (a b:C):R:=(bif (decide (a.I<(b.L.length:Int))) then (bif (decide (0≤a.I)) then (bif (decide (a.I<(b.L.length:Int))) then (bf (ad (gG [((b.L.getD a.I.toNat []).getD 0 .nil),.i 0,.i 5]) fun c=>(bif (!(!c.B)) then (bif (decide (0≤((b.L.getD a.I.toNat []).getD 0 .nil).I)) then (bif (decide (((b.L.getD a.I.toNat []).getD 0 .nil).I<((rows [[.i 0],[.i 0],[.i 0],[.i 1],[.i 2],[.i 2]]).length:Int))) then (bif (!(((b.L.getD a.I.toNat []).getD 3 .nil).I !=(((rows [[.i 0],[.i 0],[.i 0],[.i 1],[.i 2],[.i 2]]).getD (((b.L.getD a.I.toNat []).getD 0 .nil).I).toNat []).getD 0 .nil).I)) then (bif (((b.L.getD a.I.toNat []).getD 0 .nil).I==0) then (bif (decide ((b.L.length:Int)>1)) then (some (.ret [.b false])) else (some (.nrm [a,b,((b.L.getD a.I.toNat []).getD 0 .nil),((b.L.getD a.I.toNat []).getD 1 .nil),((b.L.getD a.I.toNat []).getD 2 .nil),((b.L.getD a.I.toNat []).getD 3 .nil)]))) else (some (.nrm [a,b,((b.L.getD a.I.toNat []).getD 0 .nil),((b.L.getD a.I.toNat []).getD 1 .nil),((b.L.getD a.I.toNat []).getD 2 .nil),((b.L.getD a.I.toNat []).getD 3 .nil)]))) else (some (.ret [.b false]))) else none) else none) else (some (.ret [.b false])))) (apn 6 aO.d3)) else none) else none) else (some (.brk 0 [])))
def aO.d5:R:=(some (.ret [.b true]))
def aO.d6 (a:C):R:=(bif (decide ((a.L.length:Int)>400)) then (some (.ret [.b false])) else (call2 (dV [a]) fun b c=>(bif (!b.B) then (some (.ret [.b false])) else (ah 0 (lim (apn 2 aO.d4) [.i 0,a]) (fun xs=>aO.d5)))))
def aO:List C→Option (List C):=fun xs=>aY (apn 1 aO.d6 xs)
def qB:FS:=⟨1,⟨[(0,(.ag [(zl 170)]))],[]⟩,⟨[(0,zo)],[]⟩,[],aO⟩
theorem CB:aD Tryz.checked.prog T0 163 qB:=br aC (fn:=Tryz.f163) (c:=Tryz.f163.body.getD .skip) qB (.seq .leaf (.seq .leaf (.seq .leaf (.seq .leaf (.seq (.seq .leaf (.block ⟨[],[]⟩ (.loop ⟨[(1,(.pt 1 0)),(5,zi)],[(1,.var 130 [(zl 170)])]⟩ (.seq .leaf (.seq (.skip (.seq .leaf (.seq (.join ⟨[(1,(.pt 1 0)),(5,zi),(6,(.pt 6 0))],[(1,.var 130 [(zl 170)]),(6,.var 170 [zi,zt,zt,zi])]⟩ .leaf) (.seq (.join ⟨[(1,(.pt 1 0)),(5,zi),(6,(.pt 6 0)),(7,zo)],[(1,.var 130 [(zl 170)]),(6,.var 170 [zi,zt,zt,zi])]⟩ .leaf) (.seq (.join ⟨[(1,(.pt 1 0)),(5,zi),(100,zo)],[(1,.var 130 [(zl 170)])]⟩ .leaf) .leaf))))) .leaf))))) .leaf))))) [(69,some 68,cx),(69,some 87,cx),(70,some 33,eV),(139,some 14,jf)] (.cons dh (.cons dh (.cons fK (.cons mR .nil)))) (by kernel_rfl) (by kernel_rfl) (by kernel_rfl) (fun xs=>by kernel_rfl)
def bC.d1 (G0:List C→Option (List C)) (a b c d:C):R:=(bif (decide (0≤b.I)) then (bif (decide (b.I<(a.L.length:Int))) then (bif (decide (d.I<((((a.L.getD b.I.toNat []).getD 0 .nil).L).length:Int))) then (bif (decide (0≤b.I)) then (bif (decide (b.I<(a.L.length:Int))) then (bif (decide (0≤d.I)) then (bif (decide (d.I<((((a.L.getD b.I.toNat []).getD 0 .nil).L).length:Int))) then (ad (G0 [a,(((((a.L.getD b.I.toNat []).getD 0 .nil).L).getD d.I.toNat []).getD 0 .nil)]) fun e=>(bif (decide ((w64 (e.I+1))>c.I)) then (some (.again [a,b,.i (w64 (e.I+1)),.i (w64 (d.I+1))])) else (some (.again [a,b,c,.i (w64 (d.I+1))])))) else none) else none) else none) else none) else (some (.brk 0 [c]))) else none) else none)
def bC.d2 (G0:List C→Option (List C)) (a:C):R:=(some (.ret [a]))
def bC.d3 (G0:List C→Option (List C)) (a b:C):R:=(ah 0 (lim (apn 4 (bC.d1 G0)) [a,b,.i 0,.i 0]) (apn 1 (bC.d2 G0)))
def bC.step (G0:List C→Option (List C)):List C→Option (List C):=fun xs=>aY (apn 2 (bC.d3 G0) xs)
def hY (G:List C→Option (List C)):FS:=⟨2,⟨[(0,(.d (.sl 55))),(1,(.d (.int .i64)))],[]⟩,⟨[(0,(.d (.int .i64)))],[]⟩,[],G⟩
theorem BK {G0:List C→Option (List C)} (h0:aD Tryz.checked.prog T0 164 (hY G0)):aD Tryz.checked.prog T0 164 (hY (bC.step G0)):=br aC (fn:=Tryz.f164) (c:=Tryz.f164.body.getD .skip) (hY (bC.step G0)) (.seq .leaf (.seq .leaf (.seq (.seq .leaf (.block ⟨[(5,(.d (.int .i64)))],[]⟩ (.loop ⟨[(0,(.d (.sl 55))),(1,(.d (.int .i64))),(5,(.d (.int .i64))),(6,(.d (.int .i64)))],[]⟩ .leaf))) .leaf))) [(164,some 25,(hY G0))] (.cons h0 .nil) (by kernel_rfl) (by kernel_rfl) (by kernel_rfl) (fun xs=>by kernel_rfl)
def bC.g:Nat→Nat→List C→Option (List C)
 |0,_=>fun _=>none
 |k+1,0=>bC.step (bC.g k 0)
 |_,_=>fun _=>none
theorem sV:∀k:Nat,aD Tryz.checked.prog T0 164 (hY (bC.g k 0))
 |0=>kr (fn:=Tryz.f164) (c:=Tryz.f164.body.getD .skip) (2) (⟨[(0,(.d (.sl 55))),(1,(.d (.int .i64)))],[]⟩) (⟨[(0,(.d (.int .i64)))],[]⟩) [] (by kernel_rfl) (by kernel_rfl) (by kernel_rfl)
 |k+1=>BK (sV k)
def bC:List C→Option (List C):=bC.g iD 0
theorem Bd:aD Tryz.checked.prog T0 164 (hY bC):=sV iD
def fL.d1 (a:C):R:=(ad (aO [a]) fun b=>(bif (!b.B) then (some (.ret [.b false])) else (call2 (dV [a]) fun c d=>(ad (bC [.l d.L,.i (w64 ((a.L.length:Int)-1))]) fun e=>(some (.ret [.b (decide (e.I≤20))]))))))
def fL:List C→Option (List C):=fun xs=>aY (apn 1 fL.d1 xs)
def jy:FS:=⟨1,⟨[(0,(.ag [(zl 170)]))],[]⟩,⟨[(0,zo)],[]⟩,[],fL⟩
theorem oJ:aD Tryz.checked.prog T0 138 jy:=br aC (fn:=Tryz.f138) (c:=Tryz.f138.body.getD .skip) jy .leaf [(139,some 10,jf),(163,some 6,qB),(164,some 18,(hY bC))] (.cons mR (.cons CB (.cons Bd .nil))) (by kernel_rfl) (by kernel_rfl) (by kernel_rfl) (fun xs=>by kernel_rfl)
def mn.d1 (a:C):R:=(bif (a.I==5) then (some (.ret [.i 1])) else (bif (a.I==4) then (some (.ret [.i 2])) else (some (.ret [.i 3]))))
def mn:List C→Option (List C):=fun xs=>aY (apn 1 mn.d1 xs)
def qi:FS:=⟨1,⟨[(0,zi)],[]⟩,⟨[(0,zi)],[]⟩,[],mn⟩
theorem Cj:aD Tryz.checked.prog T0 184 qi:=br aC (fn:=Tryz.f184) (c:=Tryz.f184.body.getD .skip) qi .leaf [] .nil (by kernel_rfl) (by kernel_rfl) (by kernel_rfl) (fun xs=>by kernel_rfl)
def bu.d1 (G0:List C→Option (List C)) (a b c d e f:C):R:=(ad (mn [c]) fun g=>(bif (decide (g.I<a.I)) then (bif (decide ((bs #[40]).size+b.S.size≤4294967296)) then (bif (decide (((bs #[40])++b.S).size+(bs #[41]).size≤4294967296)) then (some (.ret [.s (((bs #[40])++b.S)++(bs #[41]))])) else none) else none) else (some (.ret [b]))))
def bu.d2 (G0:List C→Option (List C)) (a b c d:C):R:=(bif (decide (0≤c.I)) then (bif (decide (c.I<(a.L.length:Int))) then (bf (bif (((a.L.getD c.I.toNat []).getD 0 .nil).I==1) then (some (.nrm [d,((a.L.getD c.I.toNat []).getD 1 .nil),((a.L.getD c.I.toNat []).getD 0 .nil),((a.L.getD c.I.toNat []).getD 1 .nil),((a.L.getD c.I.toNat []).getD 2 .nil),((a.L.getD c.I.toNat []).getD 3 .nil)])) else (bif (((a.L.getD c.I.toNat []).getD 0 .nil).I==2) then (bif (decide ((((a.L.getD c.I.toNat []).getD 1 .nil).S).size+(bs #[61]).size≤4294967296)) then (bif (decide ((((a.L.getD c.I.toNat []).getD 1 .nil).S++(bs #[61])).size+(((a.L.getD c.I.toNat []).getD 2 .nil).S).size≤4294967296)) then (some (.nrm [d,.s ((((a.L.getD c.I.toNat []).getD 1 .nil).S++(bs #[61]))++((a.L.getD c.I.toNat []).getD 2 .nil).S),((a.L.getD c.I.toNat []).getD 0 .nil),((a.L.getD c.I.toNat []).getD 1 .nil),((a.L.getD c.I.toNat []).getD 2 .nil),((a.L.getD c.I.toNat []).getD 3 .nil)])) else none) else none) else (bif (((a.L.getD c.I.toNat []).getD 0 .nil).I==3) then (bif (decide (0≤c.I)) then (bif (decide (c.I<(b.L.length:Int))) then (bif (decide (0<((((b.L.getD c.I.toNat []).getD 0 .nil).L).length:Int))) then (ad (G0 [a,b,(((((b.L.getD c.I.toNat []).getD 0 .nil).L).getD 0 []).getD 0 .nil),.i 3]) fun e=>(bif (decide ((bs #[33]).size+e.S.size≤4294967296)) then (some (.nrm [d,.s ((bs #[33])++e.S),((a.L.getD c.I.toNat []).getD 0 .nil),((a.L.getD c.I.toNat []).getD 1 .nil),((a.L.getD c.I.toNat []).getD 2 .nil),((a.L.getD c.I.toNat []).getD 3 .nil)])) else none)) else none) else none) else none) else (bif (((a.L.getD c.I.toNat []).getD 0 .nil).I==4) then (bif (decide (0≤c.I)) then (bif (decide (c.I<(b.L.length:Int))) then (bif (decide (0<((((b.L.getD c.I.toNat []).getD 0 .nil).L).length:Int))) then (ad (G0 [a,b,(((((b.L.getD c.I.toNat []).getD 0 .nil).L).getD 0 []).getD 0 .nil),.i 2]) fun f=>(bif (decide (f.S.size+(bs #[32,38,32]).size≤4294967296)) then (bif (decide (0≤c.I)) then (bif (decide (c.I<(b.L.length:Int))) then (bif (decide (1<((((b.L.getD c.I.toNat []).getD 0 .nil).L).length:Int))) then (ad (G0 [a,b,(((((b.L.getD c.I.toNat []).getD 0 .nil).L).getD 1 []).getD 0 .nil),.i 3]) fun g=>(bif (decide ((f.S++(bs #[32,38,32])).size+g.S.size≤4294967296)) then (some (.nrm [d,.s ((f.S++(bs #[32,38,32]))++g.S),((a.L.getD c.I.toNat []).getD 0 .nil),((a.L.getD c.I.toNat []).getD 1 .nil),((a.L.getD c.I.toNat []).getD 2 .nil),((a.L.getD c.I.toNat []).getD 3 .nil)])) else none)) else none) else none) else none) else none)) else none) else none) else none) else (bif (((a.L.getD c.I.toNat []).getD 0 .nil).I==5) then (bif (decide (0≤c.I)) then (bif (decide (c.I<(b.L.length:Int))) then (bif (decide (0<((((b.L.getD c.I.toNat []).getD 0 .nil).L).length:Int))) then (ad (G0 [a,b,(((((b.L.getD c.I.toNat []).getD 0 .nil).L).getD 0 []).getD 0 .nil),.i 1]) fun h=>(bif (decide (h.S.size+(bs #[32,124,32]).size≤4294967296)) then (bif (decide (0≤c.I)) then (bif (decide (c.I<(b.L.length:Int))) then (bif (decide (1<((((b.L.getD c.I.toNat []).getD 0 .nil).L).length:Int))) then (ad (G0 [a,b,(((((b.L.getD c.I.toNat []).getD 0 .nil).L).getD 1 []).getD 0 .nil),.i 2]) fun i=>(bif (decide ((h.S++(bs #[32,124,32])).size+i.S.size≤4294967296)) then (some (.nrm [d,.s ((h.S++(bs #[32,124,32]))++i.S),((a.L.getD c.I.toNat []).getD 0 .nil),((a.L.getD c.I.toNat []).getD 1 .nil),((a.L.getD c.I.toNat []).getD 2 .nil),((a.L.getD c.I.toNat []).getD 3 .nil)])) else none)) else none) else none) else none) else none)) else none) else none) else none) else (some (.nrm [d,.s (bs #[]),((a.L.getD c.I.toNat []).getD 0 .nil),((a.L.getD c.I.toNat []).getD 1 .nil),((a.L.getD c.I.toNat []).getD 2 .nil),((a.L.getD c.I.toNat []).getD 3 .nil)]))))))) (apn 6 (bu.d1 G0))) else none) else none)
def bu.step (G0:List C→Option (List C)):List C→Option (List C):=fun xs=>aY (apn 4 (bu.d2 G0) xs)
def ek (G:List C→Option (List C)):FS:=⟨4,⟨[(0,(.ag [(.d (.sl 170))])),(1,(.d (.sl 55))),(2,(.d (.int .i64))),(3,(.d (.int .i64)))],[]⟩,⟨[(0,(.d .str))],[]⟩,[],G⟩
theorem Aa {G0:List C→Option (List C)} (h0:aD Tryz.checked.prog T0 172 (ek G0)):aD Tryz.checked.prog T0 172 (ek (bu.step G0)):=br aC (fn:=Tryz.f172) (c:=Tryz.f172.body.getD .skip) (ek (bu.step G0)) (.seq .leaf (.seq .leaf (.seq .leaf (.seq (.join ⟨[(3,(.d (.int .i64))),(9,(.pt 9 0)),(10,(.d .str))],[(9,.var 170 [(.d (.int .i64)),(.d .str),(.d .str),(.d (.int .i64))])]⟩ .leaf) .leaf)))) [(172,some 40,(ek G0)),(172,some 52,(ek G0)),(172,some 62,(ek G0)),(172,some 74,(ek G0)),(172,some 84,(ek G0)),(184,some 88,qi)] (.cons h0 (.cons h0 (.cons h0 (.cons h0 (.cons h0 (.cons Cj .nil)))))) (by kernel_rfl) (by kernel_rfl) (by kernel_rfl) (fun xs=>by kernel_rfl)
def bu.g:Nat→Nat→List C→Option (List C)
 |0,_=>fun _=>none
 |k+1,0=>bu.step (bu.g k 0)
 |_,_=>fun _=>none
theorem rE:∀k:Nat,aD Tryz.checked.prog T0 172 (ek (bu.g k 0))
 |0=>kr (fn:=Tryz.f172) (c:=Tryz.f172.body.getD .skip) (4) (⟨[(0,(.ag [(.d (.sl 170))])),(1,(.d (.sl 55))),(2,(.d (.int .i64))),(3,(.d (.int .i64)))],[]⟩) (⟨[(0,(.d .str))],[]⟩) [] (by kernel_rfl) (by kernel_rfl) (by kernel_rfl)
 |k+1=>Aa (rE k)
def bu:List C→Option (List C):=bu.g iD 0
theorem zO:aD Tryz.checked.prog T0 172 (ek bu):=rE iD
def gD.d1 (a:C):R:=(ad (fL [a]) fun b=>(bif (!b.B) then (some (.ret [.s (bs #[])])) else (call2 (dV [a]) fun c d=>(ad (bu [a,.l d.L,.i (w64 ((a.L.length:Int)-1)),.i 1]) fun e=>(bif (decide ((e.S.size:Int)>200)) then (some (.ret [.s (bs #[])])) else (some (.ret [e])))))))
def gD:List C→Option (List C):=fun xs=>aY (apn 1 gD.d1 xs)
def la:FS:=⟨1,⟨[(0,(.ag [(zl 170)]))],[]⟩,⟨[(0,zt)],[]⟩,[],gD⟩
theorem vG:aD Tryz.checked.prog T0 158 la:=br aC (fn:=Tryz.f158) (c:=Tryz.f158.body.getD .skip) la .leaf [(138,some 7,jy),(139,some 11,jf),(172,some 20,(ek bu))] (.cons oJ (.cons mR (.cons zO .nil))) (by kernel_rfl) (by kernel_rfl) (by kernel_rfl) (fun xs=>by kernel_rfl)
def eQ.d1 (a b:C):R:=(call3 (ae [.i 2,a,b]) fun c d e=>(bif (c.I==0) then (some (.ret [.s (bs #[]),d,e])) else (call3 (ae [.i 3,d,e]) fun f g h=>(bif (f.I==0) then (call3 (ae [.i 6,g,h]) fun i j k=>(bif (decide (0≤i.I)) then (bif (decide (i.I<((rows [[.s (bs #[122,111,110,101,61,101,97,115,116])],[.s (bs #[33,111,108,100])],[.s (bs #[115,115,100])],[.s (bs #[122,111,110,101,61,101,97,115,116,32,124,32,122,111,110,101,61,119,101,115,116])],[.s (bs #[33,122,111,110,101,61,110,111,114,116,104])],[.s (bs #[99,111,108,111,114,61,114,101,100,32,124,32,103,112,117])]]).length:Int))) then (some (.ret [(((rows [[.s (bs #[122,111,110,101,61,101,97,115,116])],[.s (bs #[33,111,108,100])],[.s (bs #[115,115,100])],[.s (bs #[122,111,110,101,61,101,97,115,116,32,124,32,122,111,110,101,61,119,101,115,116])],[.s (bs #[33,122,111,110,101,61,110,111,114,116,104])],[.s (bs #[99,111,108,111,114,61,114,101,100,32,124,32,103,112,117])]]).getD i.I.toNat []).getD 0 .nil),j,k])) else none) else none)) else (call3 (ei [.i 2,g,h]) fun l m n=>(ad (gD [.l n.L]) fun o=>(some (.ret [o,l,m]))))))))
def eQ:List C→Option (List C):=fun xs=>aY (apn 2 eQ.d1 xs)
def gU:FS:=⟨1,⟨[(0,(.pt 2000 0))],[(2000,z3)]⟩,⟨[(0,zt)],[(2000,z3)]⟩,[2000],eQ⟩
theorem mH:aD Tryz.checked.prog T0 130 gU:=br aC (fn:=Tryz.f130) (c:=Tryz.f130.body.getD .skip) gU .leaf [(27,some 4,aa),(27,some 7,aa),(27,some 11,aa),(158,some 17,la),(159,some 15,(eP ei))] (.cons ab (.cons ab (.cons ab (.cons vG (.cons B8 .nil))))) (by kernel_rfl) (by kernel_rfl) (by kernel_rfl) (fun xs=>by kernel_rfl)
def cf.d1 (a b c d e f g h i j k l m n o p q r s t u v w x y z a0 a1:C):R:=(bif (decide (b.I>0)) then (call3 (eQ [c,d]) fun a2 a3 a4=>(call3 (ae [.i 19,a3,a4]) fun a5 a6 a7=>(bif (decide (a1.L.length+(rows [[a2,.i (w64 (a5.I-9))]]).length≤4294967296)) then (some (.again [a,.i (w64 (b.I-1)),a6,a7,e,f,g,h,i,j,k,l,m,n,o,p,q,r,s,t,u,v,w,x,y,z,.l a0.L,.l (a1.L++(rows [[a2,.i (w64 (a5.I-9))]]))])) else none))) else (some (.brk 0 [a,c,d,e,f,g,h,i,j,k,l,m,n,o,p,q,r,s,t,u,v,w,x,y,z,.l a0.L,.l a1.L])))
def cf.d2 (a b c d e f g h i j k l m n o p q r s t u v w x y z a0:C):R:=(call3 (ae [.i 8,b,c]) fun a1 a2 a3=>(bif (a1.I==0) then (some (.ret [o,p,q,r,s,t,u,.i 1,w,x,y,a2,a3,.l a0.L])) else (bif (a1.I==1) then (some (.ret [o,p,q,r,s,t,u,.i 2,w,x,y,a2,a3,.l a0.L])) else (bif (a1.I==2) then (call3 (ae [.i 4,a2,a3]) fun a4 a5 a6=>(bif (decide (0≤a4.I)) then (bif (decide (a4.I<((rows [[.s (bs #[119,101,98])],[.s (bs #[100,98])],[.s (bs #[103,111,110,101])],[a]]).length:Int))) then (some (.ret [o,p,q,r,s,t,u,v,(((rows [[.s (bs #[119,101,98])],[.s (bs #[100,98])],[.s (bs #[103,111,110,101])],[a]]).getD a4.I.toNat []).getD 0 .nil),x,y,a5,a6,.l a0.L])) else none) else none)) else (bif (a1.I==3) then (call3 (ae [.i 3,a2,a3]) fun a7 a8 a9=>(bif (a7.I==0) then (call3 (ae [.i 4,a8,a9]) fun b0 b1 b2=>(ad (dS [b0]) fun b3=>(bif (decide ((bs #[98]).size+b3.S.size≤4294967296)) then (some (.ret [o,p,q,r,s,t,u,v,w,.s ((bs #[98])++b3.S),y,b1,b2,.l a0.L])) else none))) else (some (.ret [o,p,q,r,s,t,u,v,w,x,y,a8,a9,.l a0.L])))) else (some (.ret [o,p,q,r,s,t,u,v,w,x,y,a2,a3,.l a0.L])))))))
def cf.d3 (a b c:C):R:=(call3 (ae [.i 4,b,c]) fun d e f=>(bif (decide (0≤d.I)) then (bif (decide (d.I<((rows [[.s (bs #[119,101,98])],[.s (bs #[100,98])],[.s (bs #[106,111,98])],[.s (bs #[99,97,99,104,101])]]).length:Int))) then (bif (decide (((((rows [[.s (bs #[119,101,98])],[.s (bs #[100,98])],[.s (bs #[106,111,98])],[.s (bs #[99,97,99,104,101])]]).getD d.I.toNat []).getD 0 .nil).S).size+(bs #[45]).size≤4294967296)) then (ad (dS [a]) fun g=>(bif (decide (((((rows [[.s (bs #[119,101,98])],[.s (bs #[100,98])],[.s (bs #[106,111,98])],[.s (bs #[99,97,99,104,101])]]).getD d.I.toNat []).getD 0 .nil).S++(bs #[45])).size+g.S.size≤4294967296)) then (call3 (ae [.i 6,e,f]) fun h i j=>(bif (decide (0≤h.I)) then (bif (decide (h.I<((rows [[.i 1],[.i 1],[.i 5],[.i 5],[.i 9],[.i 50]]).length:Int))) then (call3 (ae [.i 30,i,j]) fun k l m=>(call3 (ae [.i 7,l,m]) fun n o p=>(call3 (ae [.i 8,o,p]) fun q r s=>(call3 (eQ [r,s]) fun t u v=>(call3 (ae [.i 5,u,v]) fun w x y=>(ah 0 (lim (apn 28 cf.d1) [(((rows [[.s (bs #[119,101,98])],[.s (bs #[100,98])],[.s (bs #[106,111,98])],[.s (bs #[99,97,99,104,101])]]).getD d.I.toNat []).getD 0 .nil),.i (w64 (w.I-2)),x,y,.s (bs #[]),.s (bs #[]),.i 0,.i 0,.i 0,.i 0,.s (bs #[]),.i 0,.s (bs #[]),.s (bs #[]),.s (bs #[]),.s (((((rows [[.s (bs #[119,101,98])],[.s (bs #[100,98])],[.s (bs #[106,111,98])],[.s (bs #[99,97,99,104,101])]]).getD d.I.toNat []).getD 0 .nil).S++(bs #[45]))++g.S),(((rows [[.s (bs #[119,101,98])],[.s (bs #[100,98])],[.s (bs #[106,111,98])],[.s (bs #[99,97,99,104,101])]]).getD d.I.toNat []).getD 0 .nil),(((rows [[.i 1],[.i 1],[.i 5],[.i 5],[.i 9],[.i 50]]).getD h.I.toNat []).getD 0 .nil),k,.i (w64 (1+n.I)),q,t,.i 0,.s (bs #[]),.s (bs #[]),.s (bs #[]),.l af,.l af]) (apn 27 cf.d2))))))) else none) else none)) else none)) else none) else none) else none))
def cf:List C→Option (List C):=fun xs=>aY (apn 3 cf.d3 xs)
def iW:FS:=⟨2,⟨[(0,(.pt 2000 0)),(1,zi)],[(2000,z3)]⟩,⟨[(0,(.ag [zt,zt,zi,zi,zi,zi,zt,(.ow 3001),zi,zt,zt,zt]))],[(2000,z3),(3001,.arr 100 1)]⟩,[2000],cf⟩
theorem pg:aD Tryz.checked.prog T0 92 iW:=br aC (fn:=Tryz.f92) (c:=Tryz.f92.body.getD .skip) iW (.seq .leaf (.seq .leaf (.seq .leaf (.seq (.seq .leaf (.block ⟨[(0,(.pt 2000 0)),(4,(.pt 4 0)),(5,zt),(6,(.pt 6 0))],[(2000,z3),(4,.var 38 [zt,zt,zi,zi,zi,zi,zt,(.ow 1047400),zi,zt,zt,zt]),(6,.var 38 [zt,zt,zi,zi,zi,zi,zt,(.ow 1047401),zi,zt,zt,zt]),(1047400,.arr 100 1),(1047401,.arr 100 1)]⟩ (.loop ⟨[(0,(.pt 2000 0)),(4,(.pt 4 0)),(5,zt),(6,(.pt 6 0)),(7,zi)],[(2000,z3),(4,.var 38 [zt,zt,zi,zi,zi,zi,zt,(.ow 1047400),zi,zt,zt,zt]),(6,.var 38 [zt,zt,zi,zi,zi,zi,zt,(.ow 1047401),zi,zt,zt,zt]),(1047400,.arr 100 1),(1047401,.arr 100 1)]⟩ .leaf))) .leaf)))) [(27,some 10,aa),(27,some 21,aa),(27,some 25,aa),(27,some 27,aa),(27,some 30,aa),(27,some 35,aa),(27,some 46,aa),(27,some 53,aa),(27,some 65,aa),(27,some 72,aa),(27,some 75,aa),(89,some 16,(fm dS)),(89,some 76,(fm dS)),(130,some 32,gU),(130,some 44,gU)] (.cons ab (.cons ab (.cons ab (.cons ab (.cons ab (.cons ab (.cons ab (.cons ab (.cons ab (.cons ab (.cons ab (.cons pb (.cons pb (.cons mH (.cons mH .nil))))))))))))))) (by kernel_rfl) (by kernel_rfl) (by kernel_rfl) (fun xs=>by kernel_rfl)
end
end Go.Ev
namespace Go.Ev
open Go.Proofs
noncomputable section
def aF.d1 (a b c d:C):R:=(bif (decide (c.I<(a.S.size:Int))) then (bif (decide (0≤c.I)) then (bif (decide (c.I<(a.S.size:Int))) then (ad (hU [.i ((a.S.data.getD c.I.toNat 0).toNat:Int)]) fun e=>(bif e.B then (some (.again [a,b,.i (w64 (c.I+1)),.l d.L])) else (some (.brk 2 [a,b,c,.l d.L])))) else none) else none) else (some (.brk 2 [a,b,c,.l d.L])))
def aF.d2 (a b c d e:C):R:=(bif d.B then (some (.ret [.b false,.l e.L])) else (bif (decide (0≤b.I)) then (bif (decide (b.I≤(w64 (c.I+1)))) then (bif (decide ((w64 (c.I+1))≤(a.S.size:Int))) then (bif (decide (e.L.length+(rows [[.s (a.S.extract b.I.toNat (w64 (c.I+1)).toNat)]]).length≤4294967296)) then (some (.brk 1 [a,.i (w64 (c.I+1)),.l (e.L++(rows [[.s (a.S.extract b.I.toNat (w64 (c.I+1)).toNat)]]))])) else none) else none) else none) else none))
def aF.d3 (a b c d:C):R:=(bif (c.I==b.I) then (bf (bif (decide (0≤b.I)) then (bif (decide (b.I<(a.S.size:Int))) then (bif (((a.S.data.getD b.I.toNat 0).toNat:Int) !=124) then (bif (decide (0≤b.I)) then (bif (decide (b.I<(a.S.size:Int))) then (bif (((a.S.data.getD b.I.toNat 0).toNat:Int) !=38) then (bif (decide (0≤b.I)) then (bif (decide (b.I<(a.S.size:Int))) then (bif (((a.S.data.getD b.I.toNat 0).toNat:Int) !=33) then (bif (decide (0≤b.I)) then (bif (decide (b.I<(a.S.size:Int))) then (bif (((a.S.data.getD b.I.toNat 0).toNat:Int) !=40) then (bif (decide (0≤b.I)) then (bif (decide (b.I<(a.S.size:Int))) then (bif (((a.S.data.getD b.I.toNat 0).toNat:Int) !=41) then (bif (decide (0≤b.I)) then (bif (decide (b.I<(a.S.size:Int))) then (some (.nrm [a,b,c,.b (((a.S.data.getD b.I.toNat 0).toNat:Int) !=61),.l d.L])) else none) else none) else (some (.nrm [a,b,c,.b false,.l d.L]))) else none) else none) else (some (.nrm [a,b,c,.b false,.l d.L]))) else none) else none) else (some (.nrm [a,b,c,.b false,.l d.L]))) else none) else none) else (some (.nrm [a,b,c,.b false,.l d.L]))) else none) else none) else (some (.nrm [a,b,c,.b false,.l d.L]))) else none) else none) (apn 5 aF.d2)) else (bif (decide (0≤b.I)) then (bif (decide (b.I≤c.I)) then (bif (decide (c.I≤(a.S.size:Int))) then (bif (decide (d.L.length+(rows [[.s (a.S.extract b.I.toNat c.I.toNat)]]).length≤4294967296)) then (some (.brk 1 [a,c,.l (d.L++(rows [[.s (a.S.extract b.I.toNat c.I.toNat)]]))])) else none) else none) else none) else none))
def aF.d4 (a b c:C):R:=(some (.again [a,b,.l c.L]))
def aF.d5 (a b c:C):R:=(bif (decide (b.I<(a.S.size:Int))) then (ah 1 (bif (decide (0≤b.I)) then (bif (decide (b.I<(a.S.size:Int))) then (bif (((a.S.data.getD b.I.toNat 0).toNat:Int)==32) then (some (.brk 1 [a,.i (w64 (b.I+1)),.l c.L])) else (ah 2 (lim (apn 4 aF.d1) [a,b,b,.l c.L]) (apn 4 aF.d3))) else none) else none) (apn 3 aF.d4)) else (some (.brk 0 [.l c.L])))
def aF.d6 (a:C):R:=(some (.ret [.b true,.l a.L]))
def aF.d7 (a:C):R:=(ah 0 (lim (apn 3 aF.d5) [a,.i 0,.l af]) (apn 1 aF.d6))
def aF:List C→Option (List C):=fun xs=>aY (apn 1 aF.d7 xs)
def nf:FS:=⟨1,⟨[(0,zt)],[]⟩,⟨[(0,(.tu [(.ow 3000),zo]))],[(3000,.arr 9 1)]⟩,[],aF⟩
theorem yL:aD Tryz.checked.prog T0 136 nf:=br aC (fn:=Tryz.f136) (c:=Tryz.f136.body.getD .skip) nf (.seq .leaf (.seq .leaf (.seq (.seq .leaf (.block ⟨[(4,(.ow 7))],[(7,.arr 9 1)]⟩ (.loop ⟨[(0,zt),(4,(.ow 7)),(5,zi)],[(7,.arr 9 1)]⟩ (.seq .leaf (.block ⟨[(0,zt),(4,(.ow 7)),(5,zi)],[(7,.arr 9 1)]⟩ (.seq .leaf (.seq .leaf (.seq (.block ⟨[(0,zt),(4,(.ow 7)),(5,zi),(6,zi)],[(7,.arr 9 1)]⟩ (.loop ⟨[(0,zt),(4,(.ow 7)),(5,zi),(6,zi)],[(7,.arr 9 1)]⟩ .leaf)) (.seq (.seq .leaf (.cond (.seq (.seq (.join ⟨[(0,zt),(4,(.ow 7)),(5,zi),(6,zi),(67,zo)],[(7,.arr 9 1)]⟩ .leaf) .leaf) .leaf) .leaf)) .leaf))))))))) .leaf))) [(101,some 27,kE)] (.cons rD .nil) (by kernel_rfl) (by kernel_rfl) (by kernel_rfl) (fun xs=>by kernel_rfl)
def gR.d1 (a b:C):R:=(bif a.isP then (bif a.isP then (bif (decide ((a.P.getD 1 .nil).I<(((a.P.getD 0 .nil).L).length:Int))) then (bif a.isP then (bif a.isP then (bif (decide (0≤(a.P.getD 1 .nil).I)) then (bif (decide ((a.P.getD 1 .nil).I<(((a.P.getD 0 .nil).L).length:Int))) then (some (.ret [.b ((((((a.P.getD 0 .nil).L).getD ((a.P.getD 1 .nil).I).toNat []).getD 0 .nil).S).toList==b.S.toList)])) else none) else none) else none) else none) else (some (.ret [.b false]))) else none) else none)
def gR:List C→Option (List C):=fun xs=>aY (apn 2 gR.d1 xs)
def ko:FS:=⟨2,⟨[(0,(.d (.pt 173))),(1,zt)],[]⟩,⟨[(0,zo)],[]⟩,[],gR⟩
theorem uE:aD Tryz.checked.prog T0 175 ko:=br aC (fn:=Tryz.f175) (c:=Tryz.f175.body.getD .skip) ko .leaf [] .nil (by kernel_rfl) (by kernel_rfl) (by kernel_rfl) (fun xs=>by kernel_rfl)
def bT.d1 (a b c d:C):R:=(ad (gR [.p [b,c,d],a]) fun e=>(bif e.B then (some (.ret [.b true,b,.i (w64 (c.I+1)),d])) else (some (.ret [.b false,b,c,d]))))
def bT:List C→Option (List C):=fun xs=>aY (apn 4 bT.d1 xs)
def dC:FS:=⟨2,⟨[(0,(.pt 2000 0)),(1,zt)],[(2000,.var 173 [(zl 9),zi,zo])]⟩,⟨[(0,zo)],[(2000,.var 173 [(zl 9),zi,zo])]⟩,[2000],bT⟩
theorem eC:aD Tryz.checked.prog T0 161 dC:=br aC (fn:=Tryz.f161) (c:=Tryz.f161.body.getD .skip) dC .leaf [(175,some 7,ko)] (.cons uE .nil) (by kernel_rfl) (by kernel_rfl) (by kernel_rfl) (fun xs=>by kernel_rfl)
def ey.d1 (a b c:C):R:=(bif (!(decide (b.I≥(a.L.length:Int)))) then (bif (decide (0≤b.I)) then (bif (decide (b.I<(a.L.length:Int))) then (ad (bm [((a.L.getD b.I.toNat []).getD 0 .nil)]) fun d=>(bif (!d.B) then (some (.ret [.s (bs #[]),a,b,.b true])) else (bif (decide (0≤(w64 ((w64 (b.I+1))-1)))) then (bif (decide ((w64 ((w64 (b.I+1))-1))<(a.L.length:Int))) then (some (.ret [((a.L.getD (w64 ((w64 (b.I+1))-1)).toNat []).getD 0 .nil),a,.i (w64 (b.I+1)),c])) else none) else none))) else none) else none) else (some (.ret [.s (bs #[]),a,b,.b true])))
def ey:List C→Option (List C):=fun xs=>aY (apn 3 ey.d1 xs)
def gI:FS:=⟨1,⟨[(0,(.pt 2000 0))],[(2000,.var 173 [(zl 9),zi,zo])]⟩,⟨[(0,zt)],[(2000,.var 173 [(zl 9),zi,zo])]⟩,[2000],ey⟩
theorem lX:aD Tryz.checked.prog T0 186 gI:=br aC (fn:=Tryz.f186) (c:=Tryz.f186.body.getD .skip) gI .leaf [(69,some 24,cx)] (.cons dh .nil) (by kernel_rfl) (by kernel_rfl) (by kernel_rfl) (fun xs=>by kernel_rfl)
def ak.d1 (G0 G1 G2:List C→Option (List C)) (a b c d:C):R:=(bif (!d.B) then (call4 (bT [.s (bs #[124]),b,c,d]) fun e f g h=>(bif e.B then (call4 (G1 [f,g,h]) fun i j k l=>(call2 (bN [.i 5,.i 2,.l (rows [[a],[i]])]) fun m n=>(some (.again [.l n.L,j,k,l])))) else (some (.brk 0 [a,f,g,h])))) else (some (.brk 0 [a,b,c,d])))
def ak.d2 (G0 G1 G2:List C→Option (List C)) (a b c d:C):R:=(some (.ret [a,b,c,d]))
def ak.d3 (G0 G1 G2:List C→Option (List C)) (a b c:C):R:=(call4 (G1 [a,b,c]) fun d e f g=>(ah 0 (lim (apn 4 (ak.d1 G0 G1 G2)) [d,e,f,g]) (apn 4 (ak.d2 G0 G1 G2))))
def ak.step (G0 G1 G2:List C→Option (List C)):List C→Option (List C):=fun xs=>aY (apn 3 (ak.d3 G0 G1 G2) xs)
def dK (G:List C→Option (List C)):FS:=⟨1,⟨[(0,(.pt 2000 0))],[(2000,.var 173 [(.d (.sl 9)),(.d (.int .i64)),(.d .bool)])]⟩,⟨[(0,(.d (.sl 170)))],[(2000,.var 173 [(.d (.sl 9)),(.d (.int .i64)),(.d .bool)])]⟩,[2000],G⟩
def cW.d1 (G0 G1 G2:List C→Option (List C)) (a b c d:C):R:=(bif (!d.B) then (call4 (bT [.s (bs #[38]),b,c,d]) fun e f g h=>(bif e.B then (call4 (G2 [f,g,h]) fun i j k l=>(call2 (bN [.i 4,.i 2,.l (rows [[a],[i]])]) fun m n=>(some (.again [.l n.L,j,k,l])))) else (some (.brk 0 [a,f,g,h])))) else (some (.brk 0 [a,b,c,d])))
def cW.d2 (G0 G1 G2:List C→Option (List C)) (a b c d:C):R:=(some (.ret [a,b,c,d]))
def cW.d3 (G0 G1 G2:List C→Option (List C)) (a b c:C):R:=(call4 (G2 [a,b,c]) fun d e f g=>(ah 0 (lim (apn 4 (cW.d1 G0 G1 G2)) [d,e,f,g]) (apn 4 (cW.d2 G0 G1 G2))))
def cW.step (G0 G1 G2:List C→Option (List C)):List C→Option (List C):=fun xs=>aY (apn 3 (cW.d3 G0 G1 G2) xs)
def dP (G:List C→Option (List C)):FS:=⟨1,⟨[(0,(.pt 2000 0))],[(2000,.var 173 [(.d (.sl 9)),(.d (.int .i64)),(.d .bool)])]⟩,⟨[(0,(.d (.sl 170)))],[(2000,.var 173 [(.d (.sl 9)),(.d (.int .i64)),(.d .bool)])]⟩,[2000],G⟩
def eS.d1 (G0 G1 G2:List C→Option (List C)) (a b c:C):R:=(bif c.B then (some (.ret [.l af,a,b,c])) else (call4 (bT [.s (bs #[33]),a,b,c]) fun d e f g=>(bif d.B then (call4 (G2 [e,f,g]) fun h i j k=>(call2 (bN [.i 3,.i 1,.l (rows [[h]])]) fun l m=>(some (.ret [.l m.L,i,j,k])))) else (call4 (bT [.s (bs #[40]),e,f,g]) fun n o p q=>(bif n.B then (call4 (G0 [o,p,q]) fun r s t u=>(call4 (bT [.s (bs #[41]),s,t,u]) fun v w x y=>(bif (!v.B) then (some (.ret [r,w,x,.b true])) else (some (.ret [r,w,x,y]))))) else (call4 (ey [o,p,q]) fun z a0 a1 a2=>(bif (!a2.B) then (call4 (bT [.s (bs #[61]),a0,a1,a2]) fun a3 a4 a5 a6=>(bif a3.B then (call4 (ey [a4,a5,a6]) fun a7 a8 a9 b0=>(some (.ret [.l (rows [[.i 2,z,a7,.i 0]]),a8,a9,b0]))) else (some (.ret [.l (rows [[.i 1,z,.s (bs #[]),.i 0]]),a4,a5,a6])))) else (some (.ret [.l (rows [[.i 1,z,.s (bs #[]),.i 0]]),a0,a1,a2])))))))))
def eS.step (G0 G1 G2:List C→Option (List C)):List C→Option (List C):=fun xs=>aY (apn 3 (eS.d1 G0 G1 G2) xs)
def du (G:List C→Option (List C)):FS:=⟨1,⟨[(0,(.pt 2000 0))],[(2000,.var 173 [(.d (.sl 9)),(.d (.int .i64)),(.d .bool)])]⟩,⟨[(0,(.d (.sl 170)))],[(2000,.var 173 [(.d (.sl 9)),(.d (.int .i64)),(.d .bool)])]⟩,[2000],G⟩
theorem tW {G0 G1 G2:List C→Option (List C)} (h0:aD Tryz.checked.prog T0 137 (dK G0)) (h1:aD Tryz.checked.prog T0 160 (dP G1)) (h2:aD Tryz.checked.prog T0 174 (du G2)):aD Tryz.checked.prog T0 137 (dK (ak.step G0 G1 G2)):=br aC (fn:=Tryz.f137) (c:=Tryz.f137.body.getD .skip) (dK (ak.step G0 G1 G2)) (.seq .leaf (.seq .leaf (.seq (.block ⟨[(3,(.d (.sl 170)))],[(2000,.var 173 [(.d (.sl 9)),(.d (.int .i64)),(.d .bool)])]⟩ (.loop ⟨[(0,(.pt 2000 0)),(3,(.d (.sl 170)))],[(2000,.var 173 [(.d (.sl 9)),(.d (.int .i64)),(.d .bool)])]⟩ .leaf)) .leaf))) [(160,some 5,(dP G1)),(160,some 17,(dP G1)),(161,some 13,dC),(162,some 19,fD)] (.cons h1 (.cons h1 (.cons eC (.cons ij .nil)))) (by kernel_rfl) (by kernel_rfl) (by kernel_rfl) (fun xs=>by kernel_rfl)
theorem tA {G0 G1 G2:List C→Option (List C)} (h0:aD Tryz.checked.prog T0 137 (dK G0)) (h1:aD Tryz.checked.prog T0 160 (dP G1)) (h2:aD Tryz.checked.prog T0 174 (du G2)):aD Tryz.checked.prog T0 160 (dP (cW.step G0 G1 G2)):=br aC (fn:=Tryz.f160) (c:=Tryz.f160.body.getD .skip) (dP (cW.step G0 G1 G2)) (.seq .leaf (.seq .leaf (.seq (.block ⟨[(3,(.d (.sl 170)))],[(2000,.var 173 [(.d (.sl 9)),(.d (.int .i64)),(.d .bool)])]⟩ (.loop ⟨[(0,(.pt 2000 0)),(3,(.d (.sl 170)))],[(2000,.var 173 [(.d (.sl 9)),(.d (.int .i64)),(.d .bool)])]⟩ .leaf)) .leaf))) [(161,some 13,dC),(162,some 19,fD),(174,some 5,(du G2)),(174,some 17,(du G2))] (.cons eC (.cons ij (.cons h2 (.cons h2 .nil)))) (by kernel_rfl) (by kernel_rfl) (by kernel_rfl) (fun xs=>by kernel_rfl)
theorem so {G0 G1 G2:List C→Option (List C)} (h0:aD Tryz.checked.prog T0 137 (dK G0)) (h1:aD Tryz.checked.prog T0 160 (dP G1)) (h2:aD Tryz.checked.prog T0 174 (du G2)):aD Tryz.checked.prog T0 174 (du (eS.step G0 G1 G2)):=br aC (fn:=Tryz.f174) (c:=Tryz.f174.body.getD .skip) (du (eS.step G0 G1 G2)) (.seq .leaf (.seq (.seq .leaf (.cond (.seq .leaf (.frz [9] .leaf)) .leaf)) (.seq (.seq .leaf (.cond (.seq .leaf (.frz [68537] .leaf)) .leaf)) (.seq .leaf (.seq .leaf (.seq .leaf (.seq .leaf (.frz [44] .leaf)))))))) [(137,some 19,(dK G0)),(161,some 11,dC),(161,some 17,dC),(161,some 21,dC),(161,some 37,dC),(162,some 15,fD),(174,some 13,(du G2)),(186,some 28,gI),(186,some 41,gI)] (.cons h0 (.cons eC (.cons eC (.cons eC (.cons eC (.cons ij (.cons h2 (.cons lX (.cons lX .nil))))))))) (by kernel_rfl) (by kernel_rfl) (by kernel_rfl) (fun xs=>by kernel_rfl)
def ak.g:Nat→Nat→List C→Option (List C)
 |0,_=>fun _=>none
 |k+1,0=>ak.step (ak.g k 0) (ak.g k 1) (ak.g k 2)
 |k+1,1=>cW.step (ak.g k 0) (ak.g k 1) (ak.g k 2)
 |k+1,2=>eS.step (ak.g k 0) (ak.g k 1) (ak.g k 2)
 |_,_=>fun _=>none
theorem cI:∀k:Nat,aD Tryz.checked.prog T0 137 (dK (ak.g k 0))∧aD Tryz.checked.prog T0 160 (dP (ak.g k 1))∧aD Tryz.checked.prog T0 174 (du (ak.g k 2))
 |0=>⟨kr (fn:=Tryz.f137) (c:=Tryz.f137.body.getD .skip) (1) (⟨[(0,(.pt 2000 0))],[(2000,.var 173 [(.d (.sl 9)),(.d (.int .i64)),(.d .bool)])]⟩) (⟨[(0,(.d (.sl 170)))],[(2000,.var 173 [(.d (.sl 9)),(.d (.int .i64)),(.d .bool)])]⟩) [2000] (by kernel_rfl) (by kernel_rfl) (by kernel_rfl),kr (fn:=Tryz.f160) (c:=Tryz.f160.body.getD .skip) (1) (⟨[(0,(.pt 2000 0))],[(2000,.var 173 [(.d (.sl 9)),(.d (.int .i64)),(.d .bool)])]⟩) (⟨[(0,(.d (.sl 170)))],[(2000,.var 173 [(.d (.sl 9)),(.d (.int .i64)),(.d .bool)])]⟩) [2000] (by kernel_rfl) (by kernel_rfl) (by kernel_rfl),kr (fn:=Tryz.f174) (c:=Tryz.f174.body.getD .skip) (1) (⟨[(0,(.pt 2000 0))],[(2000,.var 173 [(.d (.sl 9)),(.d (.int .i64)),(.d .bool)])]⟩) (⟨[(0,(.d (.sl 170)))],[(2000,.var 173 [(.d (.sl 9)),(.d (.int .i64)),(.d .bool)])]⟩) [2000] (by kernel_rfl) (by kernel_rfl) (by kernel_rfl)⟩
 |k+1=>⟨tW (cI k).1 (cI k).2.1 (cI k).2.2,tA (cI k).1 (cI k).2.1 (cI k).2.2,so (cI k).1 (cI k).2.1 (cI k).2.2⟩
def ak:List C→Option (List C):=ak.g iD 0
theorem uK:aD Tryz.checked.prog T0 137 (dK ak):=(cI iD).1
def cW:List C→Option (List C):=ak.g iD 1
def eS:List C→Option (List C):=ak.g iD 2
def fP.d1 (a:C):R:=(bif (decide ((a.S.size:Int)>200)) then (some (.ret [.l af,.i 1])) else (call2 (aF [a]) fun b c=>(bif (!b.B) then (some (.ret [.l af,.i 2])) else (bif ((c.L.length:Int)==0) then (some (.ret [.l (rows [[.i 0,.s (bs #[]),.s (bs #[]),.i 0]]),.i 0])) else (call4 (ak [.l c.L,.i 0,.b false]) fun d e f g=>(bif (!g.B) then (bif (decide (f.I<(c.L.length:Int))) then (some (.ret [.l af,.i 2])) else (ad (fL [d]) fun h=>(bif (!h.B) then (some (.ret [.l af,.i 3])) else (some (.ret [d,.i 0]))))) else (some (.ret [.l af,.i 2]))))))))
def fP:List C→Option (List C):=fun xs=>aY (apn 1 fP.d1 xs)
def iU:FS:=⟨1,⟨[(0,zt)],[]⟩,⟨[(0,(.tu [(.ag [(zl 170)]),zi]))],[]⟩,[],fP⟩
theorem pv:aD Tryz.checked.prog T0 106 iU:=br aC (fn:=Tryz.f106) (c:=Tryz.f106.body.getD .skip) iU (.seq .leaf (.seq .leaf (.seq .leaf (.seq .leaf (.seq (.seq .leaf (.cond (.seq .leaf (.frz [24] .leaf)) .leaf)) (.seq .leaf (.seq (.frz [64440] .leaf) .leaf))))))) [(136,some 14,nf),(137,some 30,(dK ak)),(138,some 47,jy)] (.cons yL (.cons uK (.cons oJ .nil))) (by kernel_rfl) (by kernel_rfl) (by kernel_rfl) (fun xs=>by kernel_rfl)
def fV.d1 (a:C):R:=(call2 (fP [a]) fun b c=>(some (.ret [.b (c.I==0)])))
def fV:List C→Option (List C):=fun xs=>aY (apn 1 fV.d1 xs)
def iY:FS:=⟨1,⟨[(0,zt)],[]⟩,⟨[(0,zo)],[]⟩,[],fV⟩
theorem ph:aD Tryz.checked.prog T0 102 iY:=br aC (fn:=Tryz.f102) (c:=Tryz.f102.body.getD .skip) iY .leaf [(106,some 7,iU)] (.cons pv .nil) (by kernel_rfl) (by kernel_rfl) (by kernel_rfl) (fun xs=>by kernel_rfl)
def cd.d1 (a b c d e f g h i j k l m:C):R:=(bif (decide (a.I<(i.L.length:Int))) then (bif (decide (0≤a.I)) then (bif (decide (a.I<(i.L.length:Int))) then (ad (fV [((i.L.getD a.I.toNat []).getD 0 .nil)]) fun n=>(bif (!(!n.B)) then (bif (decide (0≤a.I)) then (bif (decide (a.I<(i.L.length:Int))) then (ad (gG [((i.L.getD a.I.toNat []).getD 1 .nil),.i (-9),.i 9]) fun o=>(bif (!o.B) then (some (.ret [.b false])) else (some (.again [.i (w64 (a.I+1)),b,c,d,e,f,g,h,i,j,k,l,m])))) else none) else none) else (some (.ret [.b false])))) else none) else none) else (some (.brk 0 [])))
def cd.d2:R:=(some (.ret [.b true]))
def cd.d3 (a b c d e f g h i j k l m:C):R:=(bif a.B then (some (.ret [.b false])) else (ah 0 (lim (apn 13 cd.d1) [.i 0,b,c,d,e,f,g,h,i,j,k,l,m]) (fun xs=>cd.d2)))
def cd.d4 (a b c d e f g h i j k l:C):R:=(ad (bm [a]) fun m=>(bif (!(!m.B)) then (ad (bm [b]) fun n=>(bif (!(!n.B)) then (ad (gG [c,.i 0,.i 100]) fun o=>(bif (!(!o.B)) then (ad (gG [d,.i 0,.i 1000000]) fun p=>(bif (!(!p.B)) then (ad (gG [e,.i 0,.i 1000]) fun q=>(bif (!(!q.B)) then (ad (gG [f,.i 0,.i 1000]) fun r=>(bif (!r.B) then (some (.ret [.b false])) else (bf (ad (fV [g]) fun s=>(bif (!(!s.B)) then (bif (!(decide ((h.L.length:Int)>5))) then (ad (gG [i,.i 0,.i 2]) fun t=>(bif (!(!t.B)) then (bif (!(j.S.toList==(bs #[]).toList)) then (ad (bm [j]) fun u=>(bif (!(!u.B)) then (bif (!(k.S.toList==(bs #[]).toList)) then (ad (bm [k]) fun v=>(some (.nrm [.b (!v.B),a,b,c,d,e,f,g,h,i,j,k,l]))) else (some (.nrm [.b false,a,b,c,d,e,f,g,h,i,j,k,l]))) else (some (.nrm [.b true,a,b,c,d,e,f,g,h,i,j,k,l])))) else (bif (!(k.S.toList==(bs #[]).toList)) then (ad (bm [k]) fun w=>(some (.nrm [.b (!w.B),a,b,c,d,e,f,g,h,i,j,k,l]))) else (some (.nrm [.b false,a,b,c,d,e,f,g,h,i,j,k,l])))) else (some (.nrm [.b true,a,b,c,d,e,f,g,h,i,j,k,l])))) else (some (.nrm [.b true,a,b,c,d,e,f,g,h,i,j,k,l]))) else (some (.nrm [.b true,a,b,c,d,e,f,g,h,i,j,k,l])))) (apn 13 cd.d3)))) else (some (.ret [.b false])))) else (some (.ret [.b false])))) else (some (.ret [.b false])))) else (some (.ret [.b false])))) else (some (.ret [.b false]))))
def cd:List C→Option (List C):=fun xs=>aY (apn 12 cd.d4 xs)
def nv:FS:=⟨1,⟨[(0,z5)],[]⟩,⟨[(0,zo)],[]⟩,[],cd⟩
theorem yN:aD Tryz.checked.prog T0 71 nv:=br aC (fn:=Tryz.f71) (c:=Tryz.f71.body.getD .skip) nv (.seq .leaf (.seq .leaf (.seq (.seq (.join ⟨[(1,(.pt 1 0)),(75,zo)],[(1,z1)]⟩ .leaf) .leaf) (.seq (.seq .leaf (.block ⟨[],[]⟩ (.loop ⟨[(1,(.pt 1 0)),(3,zi)],[(1,z1)]⟩ .leaf))) .leaf)))) [(69,some 6,cx),(69,some 11,cx),(69,some 61,cx),(69,some 72,cx),(70,some 17,eV),(70,some 23,eV),(70,some 29,eV),(70,some 35,eV),(70,some 51,eV),(70,some 98,eV),(102,some 40,iY),(102,some 89,iY)] (.cons dh (.cons dh (.cons dh (.cons dh (.cons fK (.cons fK (.cons fK (.cons fK (.cons fK (.cons fK (.cons ph (.cons ph .nil)))))))))))) (by kernel_rfl) (by kernel_rfl) (by kernel_rfl) (fun xs=>by kernel_rfl)
def di.d1 (a b c d e f:C):R:=(bif (decide (b.I<(e.L.length:Int))) then (bif (decide (0≤b.I)) then (bif (decide (b.I<(e.L.length:Int))) then (bif ((((e.L.getD b.I.toNat []).getD 0 .nil).S).toList==a.S.toList) then (some (.ret [b])) else (some (.again [a,.i (w64 (b.I+1)),c,d,e,f]))) else none) else none) else (some (.brk 0 [])))
def di.d2:R:=(some (.ret [.i (-1)]))
def di.d3 (a b c d e:C):R:=(ah 0 (lim (apn 6 di.d1) [e,.i 0,a,b,c,d]) (fun xs=>di.d2))
def di:List C→Option (List C):=fun xs=>aY (apn 5 di.d3 xs)
def mo:FS:=⟨2,⟨[(0,z2),(1,zt)],[]⟩,⟨[(0,zi)],[]⟩,[],di⟩
theorem xf:aD Tryz.checked.prog T0 72 mo:=br aC (fn:=Tryz.f72) (c:=Tryz.f72.body.getD .skip) mo (.seq .leaf (.seq (.seq .leaf (.block ⟨[],[]⟩ (.loop ⟨[(1,zt),(2,(.pt 2 0)),(5,zi)],[(2,z0)]⟩ .leaf))) .leaf)) [] .nil (by kernel_rfl) (by kernel_rfl) (by kernel_rfl) (fun xs=>by kernel_rfl)
def cQ.d1 (a b c d e f:C):R:=(bif (decide (b.I<(d.L.length:Int))) then (bif (decide (0≤b.I)) then (bif (decide (b.I<(d.L.length:Int))) then (bif ((((d.L.getD b.I.toNat []).getD 0 .nil).S).toList==a.S.toList) then (some (.ret [b])) else (some (.again [a,.i (w64 (b.I+1)),c,d,e,f]))) else none) else none) else (some (.brk 0 [])))
def cQ.d2:R:=(some (.ret [.i (-1)]))
def cQ.d3 (a b c d e:C):R:=(ah 0 (lim (apn 6 cQ.d1) [e,.i 0,a,b,c,d]) (fun xs=>cQ.d2))
def cQ:List C→Option (List C):=fun xs=>aY (apn 5 cQ.d3 xs)
def fh:FS:=⟨2,⟨[(0,z2),(1,zt)],[]⟩,⟨[(0,zi)],[]⟩,[],cQ⟩
theorem gH:aD Tryz.checked.prog T0 37 fh:=br aC (fn:=Tryz.f37) (c:=Tryz.f37.body.getD .skip) fh (.seq .leaf (.seq (.seq .leaf (.block ⟨[],[]⟩ (.loop ⟨[(1,zt),(2,(.pt 2 0)),(5,zi)],[(2,z0)]⟩ .leaf))) .leaf)) [] .nil (by kernel_rfl) (by kernel_rfl) (by kernel_rfl) (fun xs=>by kernel_rfl)
def bR.d1 (a b c d e f g h i:C):R:=(bif e.B then (bif (decide (0≤d.I)) then (bif (decide (d.I<(i.L.length:Int))) then (bif (decide (0≤d.I)) then (bif (decide (d.I<(i.L.length:Int))) then (some (.again [a,.i (w64 (b.I+((i.L.getD d.I.toNat []).getD 4 .nil).I)),.i (w64 (c.I+((i.L.getD d.I.toNat []).getD 5 .nil).I)),.i (w64 (d.I+1)),f,g,h,i])) else none) else none) else none) else none) else (some (.again [a,b,c,.i (w64 (d.I+1)),f,g,h,i])))
def bR.d2 (a b c d e f g h:C):R:=(bif (decide (d.I<(h.L.length:Int))) then (bf (bif (!(a.S.toList==(bs #[]).toList)) then (bif (decide (0≤d.I)) then (bif (decide (d.I<(h.L.length:Int))) then (some (.nrm [a,b,c,d,.b ((((h.L.getD d.I.toNat []).getD 11 .nil).S).toList==a.S.toList),e,f,g,h])) else none) else none) else (some (.nrm [a,b,c,d,.b false,e,f,g,h]))) (apn 9 bR.d1)) else (some (.brk 0 [b,c])))
def bR.d3 (a b:C):R:=(some (.ret [a,b]))
def bR.d4 (a b c d e:C):R:=(ad (cQ [a,b,c,d,e]) fun f=>(bif (decide (f.I<0)) then (some (.ret [.i 0,.i 0])) else (ah 0 (lim (apn 8 bR.d2) [e,.i 0,.i 0,.i 0,a,b,c,d]) (apn 2 bR.d3))))
def bR:List C→Option (List C):=fun xs=>aY (apn 5 bR.d4 xs)
def lO:FS:=⟨2,⟨[(0,z2),(1,zt)],[]⟩,⟨[(0,(.tu [zi,zi]))],[]⟩,[],bR⟩
theorem xR:aD Tryz.checked.prog T0 73 lO:=br aC (fn:=Tryz.f73) (c:=Tryz.f73.body.getD .skip) lO (.seq .leaf (.seq .leaf (.seq .leaf (.seq .leaf (.seq (.seq .leaf (.block ⟨[(6,zi),(7,zi)],[]⟩ (.loop ⟨[(1,zt),(2,(.pt 2 0)),(6,zi),(7,zi),(8,zi)],[(2,z0)]⟩ (.seq .leaf (.seq (.skip (.seq (.join ⟨[(1,zt),(2,(.pt 2 0)),(6,zi),(7,zi),(8,zi),(31,zo)],[(2,z0)]⟩ .leaf) .leaf)) .leaf))))) .leaf))))) [(37,some 11,fh)] (.cons gH .nil) (by kernel_rfl) (by kernel_rfl) (by kernel_rfl) (fun xs=>by kernel_rfl)
def dU.d1 (a b:C):R:=(bif (decide (b.I<(a.S.size:Int))) then (bif (decide (0≤b.I)) then (bif (decide (b.I<(a.S.size:Int))) then (bif (((a.S.data.getD b.I.toNat 0).toNat:Int)==61) then (bif (decide (0≤b.I)) then (bif (decide (b.I≤(a.S.size:Int))) then (bif (decide (0≤(w64 (b.I+1)))) then (bif (decide ((w64 (b.I+1))≤(a.S.size:Int))) then (bif (decide ((a.S.size:Int)≤(a.S.size:Int))) then (bif (decide (0≤b.I)) then (bif (decide (b.I≤(a.S.size:Int))) then (ad (bm [.s (a.S.extract 0 b.I.toNat)]) fun c=>(bif c.B then (bif (decide (0≤(w64 (b.I+1)))) then (bif (decide ((w64 (b.I+1))≤(a.S.size:Int))) then (bif (decide ((a.S.size:Int)≤(a.S.size:Int))) then (ad (bm [.s (a.S.extract (w64 (b.I+1)).toNat (a.S.size:Int).toNat)]) fun d=>(some (.ret [.s (a.S.extract 0 b.I.toNat),.s (a.S.extract (w64 (b.I+1)).toNat (a.S.size:Int).toNat),.b d.B]))) else none) else none) else none) else (some (.ret [.s (a.S.extract 0 b.I.toNat),.s (a.S.extract (w64 (b.I+1)).toNat (a.S.size:Int).toNat),.b false])))) else none) else none) else none) else none) else none) else none) else none) else (some (.again [a,.i (w64 (b.I+1))]))) else none) else none) else (some (.brk 0 [a])))
def dU.d2 (a:C):R:=(ad (bm [a]) fun b=>(some (.ret [a,.s (bs #[]),.b b.B])))
def dU.d3 (a:C):R:=(ah 0 (lim (apn 2 dU.d1) [a,.i 0]) (apn 1 dU.d2))
def dU:List C→Option (List C):=fun xs=>aY (apn 1 dU.d3 xs)
def kW:FS:=⟨1,⟨[(0,zt)],[]⟩,⟨[(0,(.tu [zt,zt,zo]))],[]⟩,[],dU⟩
theorem qf:aD Tryz.checked.prog T0 135 kW:=br aC (fn:=Tryz.f135) (c:=Tryz.f135.body.getD .skip) kW (.seq .leaf (.seq (.seq .leaf (.block ⟨[(0,zt)],[]⟩ (.loop ⟨[(0,zt),(5,zi)],[]⟩ .leaf))) .leaf)) [(69,some 26,cx),(69,some 32,cx),(69,some 36,cx)] (.cons dh (.cons dh (.cons dh .nil))) (by kernel_rfl) (by kernel_rfl) (by kernel_rfl) (fun xs=>by kernel_rfl)
def bp.d1 (a b c d:C):R:=(bif (decide (d.I<b.I)) then (bif (decide (0≤d.I)) then (bif (decide (d.I<(a.L.length:Int))) then (call3 (dU [((a.L.getD d.I.toNat []).getD 0 .nil)]) fun e f g=>(bif (e.S.toList==c.S.toList) then (some (.ret [.b false])) else (some (.again [a,b,c,.i (w64 (d.I+1))])))) else none) else none) else (some (.brk 2 [a,b,c])))
def bp.d2 (a b c:C):R:=(some (.again [a,c,.i (w64 (b.I+1))]))
def bp.d3 (a b c:C):R:=(ah 2 (lim (apn 4 bp.d1) [a,b,c,.i 0]) (apn 3 bp.d2))
def bp.d4 (a b c:C):R:=(bif (decide (c.I<(a.L.length:Int))) then (bif (decide (0≤c.I)) then (bif (decide (c.I<(a.L.length:Int))) then (call3 (dU [((a.L.getD c.I.toNat []).getD 0 .nil)]) fun d e f=>(bf (bif (!(!f.B)) then (bif (decide (c.I>0)) then (bif (decide (0≤(w64 (c.I-1)))) then (bif (decide ((w64 (c.I-1))<(a.L.length:Int))) then (bif (decide (0≤c.I)) then (bif (decide (c.I<(a.L.length:Int))) then (bif (!(!(Op.bytesLess (((a.L.getD (w64 (c.I-1)).toNat []).getD 0 .nil).S).toList (((a.L.getD c.I.toNat []).getD 0 .nil).S).toList))) then (bif (d.S.toList==b.S.toList) then (some (.ret [.b false])) else (some (.nrm [a,c,d]))) else (some (.ret [.b false]))) else none) else none) else none) else none) else (some (.nrm [a,c,d]))) else (some (.ret [.b false]))) (apn 3 bp.d3))) else none) else none) else (some (.brk 0 [])))
def bp.d5:R:=(some (.ret [.b true]))
def bp.d6 (a:C):R:=(bif (decide ((a.L.length:Int)>10)) then (some (.ret [.b false])) else (ah 0 (lim (apn 3 bp.d4) [a,.s (bs #[]),.i 0]) (fun xs=>bp.d5)))
def bp:List C→Option (List C):=fun xs=>aY (apn 1 bp.d6 xs)
def ma:FS:=⟨1,⟨[(0,(zl 9))],[]⟩,⟨[(0,zo)],[]⟩,[],bp⟩
theorem xj:aD Tryz.checked.prog T0 103 ma:=br aC (fn:=Tryz.f103) (c:=Tryz.f103.body.getD .skip) ma (.seq .leaf (.seq .leaf (.seq .leaf (.seq (.seq .leaf (.block ⟨[],[]⟩ (.loop ⟨[(0,(zl 9)),(3,zt),(4,zi)],[]⟩ (.seq .leaf (.seq (.skip (.seq .leaf (.seq (.join ⟨[(0,(zl 9)),(4,zi),(5,zt)],[]⟩ .leaf) (.seq (.seq .leaf (.block ⟨[(0,(zl 9)),(4,zi),(5,zt)],[]⟩ (.loop ⟨[(0,(zl 9)),(4,zi),(5,zt),(8,zi)],[]⟩ .leaf))) .leaf)))) .leaf))))) .leaf)))) [(135,some 26,kW),(135,some 63,kW)] (.cons qf (.cons qf .nil)) (by kernel_rfl) (by kernel_rfl) (by kernel_rfl) (fun xs=>by kernel_rfl)
def hD.d1 (a b c d e f:C):R:=(ad (bm [a]) fun g=>(bif g.B then (ad (bm [b]) fun h=>(bif h.B then (ad (bp [c]) fun i=>(bif i.B then (ad (gG [d,.i 0,.i 1000]) fun j=>(bif j.B then (ad (gG [e,.i 0,.i 1000]) fun k=>(some (.ret [.b k.B]))) else (some (.ret [.b false])))) else (some (.ret [.b false])))) else (some (.ret [.b false])))) else (some (.ret [.b false]))))
def hD:List C→Option (List C):=fun xs=>aY (apn 6 hD.d1 xs)
def lN:FS:=⟨1,⟨[(0,z7)],[]⟩,⟨[(0,zo)],[]⟩,[],hD⟩
theorem xx:aD Tryz.checked.prog T0 74 lN:=br aC (fn:=Tryz.f74) (c:=Tryz.f74.body.getD .skip) lN .leaf [(69,some 5,cx),(69,some 9,cx),(70,some 19,eV),(70,some 24,eV),(103,some 14,ma)] (.cons dh (.cons dh (.cons fK (.cons fK (.cons xj .nil))))) (by kernel_rfl) (by kernel_rfl) (by kernel_rfl) (fun xs=>by kernel_rfl)
def eu.d1 (a b c d e f g:C):R:=(bif (decide (c.I<(g.L.length:Int))) then (bif (decide (0≤c.I)) then (bif (decide (c.I<(g.L.length:Int))) then (bif ((((g.L.getD c.I.toNat []).getD 11 .nil).S).toList==a.S.toList) then (some (.again [a,.i (w64 (b.I+1)),.i (w64 (c.I+1)),d,e,f,g])) else (some (.again [a,b,.i (w64 (c.I+1)),d,e,f,g]))) else none) else none) else (some (.brk 0 [b])))
def eu.d2 (a:C):R:=(some (.ret [a]))
def eu.d3 (a b c d e:C):R:=(ah 0 (lim (apn 7 eu.d1) [e,.i 0,.i 0,a,b,c,d]) (apn 1 eu.d2))
def eu:List C→Option (List C):=fun xs=>aY (apn 5 eu.d3 xs)
def oE:FS:=⟨2,⟨[(0,z2),(1,zt)],[]⟩,⟨[(0,zi)],[]⟩,[],eu⟩
theorem Av:aD Tryz.checked.prog T0 75 oE:=br aC (fn:=Tryz.f75) (c:=Tryz.f75.body.getD .skip) oE (.seq .leaf (.seq .leaf (.seq (.seq .leaf (.block ⟨[(5,zi)],[]⟩ (.loop ⟨[(1,zt),(2,(.pt 2 0)),(5,zi),(6,zi)],[(2,z0)]⟩ .leaf))) .leaf))) [] .nil (by kernel_rfl) (by kernel_rfl) (by kernel_rfl) (fun xs=>by kernel_rfl)
def ay.d1 (a b c d e:C):R:=(bif (decide (a.I<(d.L.length:Int))) then (bif (decide (0≤a.I)) then (bif (decide (a.I<(d.L.length:Int))) then (ad (bm [((d.L.getD a.I.toNat []).getD 0 .nil)]) fun f=>(bif (!(!f.B)) then (bif (decide (a.I>0)) then (bif (decide (0≤(w64 (a.I-1)))) then (bif (decide ((w64 (a.I-1))<(d.L.length:Int))) then (bif (!(!(Op.bytesLess (((d.L.getD (w64 (a.I-1)).toNat []).getD 0 .nil).S).toList (((d.L.getD a.I.toNat []).getD 0 .nil).S).toList))) then (ad (gG [((d.L.getD a.I.toNat []).getD 1 .nil),.i 0,.i 60]) fun g=>(bif (!g.B) then (some (.ret [.b false])) else (some (.again [.i (w64 (a.I+1)),b,c,d,e])))) else (some (.ret [.b false]))) else none) else none) else (ad (gG [((d.L.getD a.I.toNat []).getD 1 .nil),.i 0,.i 60]) fun h=>(bif (!h.B) then (some (.ret [.b false])) else (some (.again [.i (w64 (a.I+1)),b,c,d,e]))))) else (some (.ret [.b false])))) else none) else none) else (some (.brk 0 [b,c,d,e])))
def ay.d2 (a b c d e f:C):R:=(bif b.B then (some (.ret [.b false])) else (some (.again [.i (w64 (a.I+1)),c,d,e,f])))
def ay.d3 (a b c d e:C):R:=(bif (decide (a.I<(e.L.length:Int))) then (bif (decide (0≤a.I)) then (bif (decide (a.I<(e.L.length:Int))) then (bf (ad (cd [((e.L.getD a.I.toNat []).getD 0 .nil),((e.L.getD a.I.toNat []).getD 1 .nil),((e.L.getD a.I.toNat []).getD 2 .nil),((e.L.getD a.I.toNat []).getD 3 .nil),((e.L.getD a.I.toNat []).getD 4 .nil),((e.L.getD a.I.toNat []).getD 5 .nil),((e.L.getD a.I.toNat []).getD 6 .nil),((e.L.getD a.I.toNat []).getD 7 .nil),((e.L.getD a.I.toNat []).getD 8 .nil),((e.L.getD a.I.toNat []).getD 9 .nil),((e.L.getD a.I.toNat []).getD 10 .nil),((e.L.getD a.I.toNat []).getD 11 .nil)]) fun f=>(bif (!(!f.B)) then (bif (decide (a.I>0)) then (bif (decide (0≤(w64 (a.I-1)))) then (bif (decide ((w64 (a.I-1))<(e.L.length:Int))) then (bif (!(!(Op.bytesLess (((e.L.getD (w64 (a.I-1)).toNat []).getD 0 .nil).S).toList (((e.L.getD a.I.toNat []).getD 0 .nil).S).toList))) then (ad (di [b,c,d,e,((e.L.getD a.I.toNat []).getD 1 .nil)]) fun g=>(bif (!(decide (g.I<0))) then (bif (!((((e.L.getD a.I.toNat []).getD 11 .nil).S).toList==(bs #[]).toList)) then (ad (cQ [b,c,d,e,((e.L.getD a.I.toNat []).getD 11 .nil)]) fun h=>(some (.nrm [a,.b (decide (h.I<0)),b,c,d,e]))) else (some (.nrm [a,.b false,b,c,d,e]))) else (some (.nrm [a,.b true,b,c,d,e])))) else (some (.nrm [a,.b true,b,c,d,e]))) else none) else none) else (ad (di [b,c,d,e,((e.L.getD a.I.toNat []).getD 1 .nil)]) fun i=>(bif (!(decide (i.I<0))) then (bif (!((((e.L.getD a.I.toNat []).getD 11 .nil).S).toList==(bs #[]).toList)) then (ad (cQ [b,c,d,e,((e.L.getD a.I.toNat []).getD 11 .nil)]) fun j=>(some (.nrm [a,.b (decide (j.I<0)),b,c,d,e]))) else (some (.nrm [a,.b false,b,c,d,e]))) else (some (.nrm [a,.b true,b,c,d,e]))))) else (some (.nrm [a,.b true,b,c,d,e])))) (apn 6 ay.d2)) else none) else none) else (some (.brk 2 [b,c,d,e])))
def ay.d4 (a b c d e:C):R:=(bif (decide (a.I<(c.L.length:Int))) then (bif (decide (0≤a.I)) then (bif (decide (a.I<(c.L.length:Int))) then (call2 (bR [b,c,d,e,((c.L.getD a.I.toNat []).getD 0 .nil)]) fun f g=>(ad (hD [((c.L.getD a.I.toNat []).getD 0 .nil),((c.L.getD a.I.toNat []).getD 1 .nil),((c.L.getD a.I.toNat []).getD 2 .nil),((c.L.getD a.I.toNat []).getD 3 .nil),((c.L.getD a.I.toNat []).getD 4 .nil),((c.L.getD a.I.toNat []).getD 5 .nil)]) fun h=>(bif (!(!h.B)) then (bif (decide (a.I>0)) then (bif (decide (0≤(w64 (a.I-1)))) then (bif (decide ((w64 (a.I-1))<(c.L.length:Int))) then (bif (!(!(Op.bytesLess (((c.L.getD (w64 (a.I-1)).toNat []).getD 0 .nil).S).toList (((c.L.getD a.I.toNat []).getD 0 .nil).S).toList))) then (bif (!(decide (f.I>((c.L.getD a.I.toNat []).getD 3 .nil).I))) then (bif (!(decide (g.I>((c.L.getD a.I.toNat []).getD 4 .nil).I))) then (ad (eu [b,c,d,e,((c.L.getD a.I.toNat []).getD 0 .nil)]) fun i=>(bif (decide (i.I>10)) then (some (.ret [.b false])) else (some (.again [.i (w64 (a.I+1)),b,c,d,e])))) else (some (.ret [.b false]))) else (some (.ret [.b false]))) else (some (.ret [.b false]))) else none) else none) else (bif (!(decide (f.I>((c.L.getD a.I.toNat []).getD 3 .nil).I))) then (bif (!(decide (g.I>((c.L.getD a.I.toNat []).getD 4 .nil).I))) then (ad (eu [b,c,d,e,((c.L.getD a.I.toNat []).getD 0 .nil)]) fun j=>(bif (decide (j.I>10)) then (some (.ret [.b false])) else (some (.again [.i (w64 (a.I+1)),b,c,d,e])))) else (some (.ret [.b false]))) else (some (.ret [.b false])))) else (some (.ret [.b false]))))) else none) else none) else (some (.brk 4 [])))
def ay.d5:R:=(some (.ret [.b true]))
def ay.d6 (a b c d:C):R:=(ah 4 (lim (apn 5 ay.d4) [.i 0,a,b,c,d]) (fun xs=>ay.d5))
def ay.d7 (a b c d:C):R:=(ah 2 (lim (apn 5 ay.d3) [.i 0,a,b,c,d]) (apn 4 ay.d6))
def ay.d8 (a b c d:C):R:=(bif (!(decide ((b.L.length:Int)>12))) then (bif (!(decide ((c.L.length:Int)>30))) then (bif (decide ((d.L.length:Int)>60)) then (some (.ret [.b false])) else (ah 0 (lim (apn 5 ay.d1) [.i 0,a,b,c,d]) (apn 4 ay.d7))) else (some (.ret [.b false]))) else (some (.ret [.b false])))
def ay:List C→Option (List C):=fun xs=>aY (apn 4 ay.d8 xs)
def eW:FS:=⟨1,⟨[(0,z2)],[]⟩,⟨[(0,zo)],[]⟩,[],ay⟩
theorem gO:aD Tryz.checked.prog T0 38 eW:=br aC (fn:=Tryz.f38) (c:=Tryz.f38.body.getD .skip) eW (.seq .leaf (.seq .leaf (.seq (.seq .leaf (.block ⟨[(1,(.pt 1 0))],[(1,z0)]⟩ (.loop ⟨[(1,(.pt 1 0)),(3,zi)],[(1,z0)]⟩ .leaf))) (.seq (.seq .leaf (.block ⟨[(1,(.pt 1 0))],[(1,z0)]⟩ (.loop ⟨[(1,(.pt 1 0)),(5,zi)],[(1,z0)]⟩ (.seq .leaf (.seq (.skip (.seq .leaf (.seq (.join ⟨[(1,(.pt 1 0)),(5,zi),(114,zo)],[(1,z0)]⟩ .leaf) .leaf))) .leaf))))) (.seq (.seq .leaf (.block ⟨[],[]⟩ (.loop ⟨[(1,(.pt 1 0)),(7,zi)],[(1,z0)]⟩ .leaf))) .leaf))))) [(37,some 111,fh),(69,some 41,cx),(70,some 62,eV),(71,some 78,nv),(72,some 100,mo),(73,some 131,lO),(74,some 135,lN),(75,some 169,oE)] (.cons gH (.cons dh (.cons fK (.cons yN (.cons xf (.cons xR (.cons xx (.cons Av .nil)))))))) (by kernel_rfl) (by kernel_rfl) (by kernel_rfl) (fun xs=>by kernel_rfl)
def gw.d1 (a b c d e f:C):R:=(bif (decide (af.length+c.L.length≤4294967296)) then (some (.ret [a,b,d,e,f,.l (af++c.L)])) else none)
def gw:List C→Option (List C):=fun xs=>aY (apn 6 gw.d1 xs)
def js:FS:=⟨1,⟨[(0,z7)],[]⟩,⟨[(0,(.ag [zt,zt,(.ow 3000),zi,zi,zo]))],[(3000,.arr 9 1)]⟩,[],gw⟩
theorem pH:aD Tryz.checked.prog T0 104 js:=br aC (fn:=Tryz.f104) (c:=Tryz.f104.body.getD .skip) js .leaf [] .nil (by kernel_rfl) (by kernel_rfl) (by kernel_rfl) (fun xs=>by kernel_rfl)
def ic.d1 (a b c d e f g h i j k l:C):R:=(bif (decide (af.length+h.L.length≤4294967296)) then (some (.ret [a,b,c,d,e,f,g,i,j,k,l,.l (af++h.L)])) else none)
def ic:List C→Option (List C):=fun xs=>aY (apn 12 ic.d1 xs)
def ky:FS:=⟨1,⟨[(0,z5)],[]⟩,⟨[(0,(.ag [zt,zt,zi,zi,zi,zi,zt,(.ow 3000),zi,zt,zt,zt]))],[(3000,.arr 100 1)]⟩,[],ic⟩
theorem rn:aD Tryz.checked.prog T0 105 ky:=br aC (fn:=Tryz.f105) (c:=Tryz.f105.body.getD .skip) ky .leaf [] .nil (by kernel_rfl) (by kernel_rfl) (by kernel_rfl) (fun xs=>by kernel_rfl)
def bQ.d1 (a b c d e f g h i j k l m:C):R:=(bif (decide (a.I<(b.L.length:Int))) then (bif (decide (0≤a.I)) then (bif (decide (a.I<(b.L.length:Int))) then (call6 (gw [((b.L.getD a.I.toNat []).getD 0 .nil),((b.L.getD a.I.toNat []).getD 1 .nil),((b.L.getD a.I.toNat []).getD 2 .nil),((b.L.getD a.I.toNat []).getD 3 .nil),((b.L.getD a.I.toNat []).getD 4 .nil),((b.L.getD a.I.toNat []).getD 5 .nil)]) fun n o p q r s=>(bif (decide (k.L.length+(rows [[n,o,.l s.L,p,q,r]]).length≤4294967296)) then (some (.again [.i (w64 (a.I+1)),.l b.L,.l c.L,.l d.L,e,f,g,.l h.L,.l i.L,.l j.L,.l (k.L++(rows [[n,o,.l s.L,p,q,r]])),.l l.L,.l m.L])) else none)) else none) else none) else (some (.brk 0 [.l b.L,.l c.L,.l d.L,e,f,g,.l h.L,.l i.L,.l j.L,.l k.L,.l l.L,.l m.L])))
def bQ.d2 (a b c d e f g h i j k l m:C):R:=(bif (decide (a.I<(d.L.length:Int))) then (bif (decide (0≤a.I)) then (bif (decide (a.I<(d.L.length:Int))) then (call12 (ic [((d.L.getD a.I.toNat []).getD 0 .nil),((d.L.getD a.I.toNat []).getD 1 .nil),((d.L.getD a.I.toNat []).getD 2 .nil),((d.L.getD a.I.toNat []).getD 3 .nil),((d.L.getD a.I.toNat []).getD 4 .nil),((d.L.getD a.I.toNat []).getD 5 .nil),((d.L.getD a.I.toNat []).getD 6 .nil),((d.L.getD a.I.toNat []).getD 7 .nil),((d.L.getD a.I.toNat []).getD 8 .nil),((d.L.getD a.I.toNat []).getD 9 .nil),((d.L.getD a.I.toNat []).getD 10 .nil),((d.L.getD a.I.toNat []).getD 11 .nil)]) fun n o p q r s t u v w x y=>(bif (decide (m.L.length+(rows [[n,o,p,q,r,s,t,.l y.L,u,v,w,x]]).length≤4294967296)) then (some (.again [.i (w64 (a.I+1)),.l b.L,.l c.L,.l d.L,e,f,g,.l h.L,.l i.L,.l j.L,.l k.L,.l l.L,.l (m.L++(rows [[n,o,p,q,r,s,t,.l y.L,u,v,w,x]]))])) else none)) else none) else none) else (some (.brk 2 [.l b.L,.l c.L,.l d.L,f,g,.l h.L,.l i.L,.l j.L,.l k.L,.l l.L,.l m.L])))
def bQ.d3 (a b c d e f g h i j k:C):R:=(some (.ret [e,.l a.L,.l b.L,.l c.L,.l i.L,.l j.L,.l k.L]))
def bQ.d4 (a b c d e f g h i j k l:C):R:=(ah 2 (lim (apn 13 bQ.d2) [.i 0,.l a.L,.l b.L,.l c.L,d,e,f,.l g.L,.l h.L,.l i.L,.l j.L,.l k.L,.l l.L]) (apn 11 bQ.d3))
def bQ.d5 (a b c d:C):R:=(bif (decide (af.length+c.L.length≤4294967296)) then (ah 0 (lim (apn 13 bQ.d1) [.i 0,.l b.L,.l c.L,.l d.L,a,.b false,.b a.B,.l af,.l af,.l af,.l af,.l (af++c.L),.l af]) (apn 12 bQ.d4)) else none)
def bQ:List C→Option (List C):=fun xs=>aY (apn 4 bQ.d5 xs)
def lS:FS:=⟨1,⟨[(0,(.ag [zo,(.ow 2000),(.ow 2001),(.ow 2002)]))],[(2000,.arr 72),(2001,.arr 40 1),(2002,.arr 38)]⟩,⟨[(0,(.ag [zo,(.ow 3003),(.ow 3004),(.ow 3005)]))],[(2000,.arr 72),(2001,.arr 40 1),(2002,.arr 38),(3003,.arr 72 1),(3004,.arr 40 1),(3005,.arr 38 1)]⟩,[2000,2001,2002],bQ⟩
theorem wK:aD Tryz.checked.prog T0 76 lS:=ry aC [28,46] false (fn:=Tryz.f76) (c:=Tryz.f76.body.getD .skip) lS (.seq .leaf (.seq .leaf (.seq (.seq .leaf (.block ⟨[(1,(.pt 1 0)),(2,(.pt 2 0)),(3,(.pt 3 0))],[(2000,.arr 72),(2001,.arr 40 1),(2002,.arr 38),(1,.var 27 [zo,(.ow 2000),(.ow 2001),(.ow 2002)]),(2,z11),(3,z12),(1161700,.arr 72 1),(1161701,.arr 40 1),(1161702,.arr 38 1),(1161703,.arr 72 1),(8,.arr 40 1),(1161704,.arr 38 1)]⟩ (.loop ⟨[(1,(.pt 1 0)),(2,(.pt 2 0)),(3,(.pt 3 0)),(4,zi)],[(2000,.arr 72),(2001,.arr 40 1),(2002,.arr 38),(1,.var 27 [zo,(.ow 2000),(.ow 2001),(.ow 2002)]),(2,z11),(3,z12),(1161700,.arr 72 1),(1161701,.arr 40 1),(1161702,.arr 38 1),(1161703,.arr 72 1),(8,.arr 40 1),(1161704,.arr 38 1)]⟩ .leaf))) (.seq (.seq .leaf (.block ⟨[(2,(.pt 2 0)),(3,(.pt 3 0))],[(2000,.arr 72),(2001,.arr 40 1),(2002,.arr 38),(2,z11),(3,z12),(1161700,.arr 72 1),(1161701,.arr 40 1),(1161702,.arr 38 1),(1161703,.arr 72 1),(8,.arr 40 1),(1161704,.arr 38 1)]⟩ (.loop ⟨[(1,(.pt 1 0)),(2,(.pt 2 0)),(3,(.pt 3 0)),(5,zi)],[(2000,.arr 72),(2001,.arr 40 1),(2002,.arr 38),(1,.var 27 [zo,(.ow 2000),(.ow 2001),(.ow 2002)]),(2,z11),(3,z12),(1161700,.arr 72 1),(1161701,.arr 40 1),(1161702,.arr 38 1),(1161703,.arr 72 1),(8,.arr 40 1),(1161704,.arr 38 1)]⟩ .leaf))) .leaf)))) [(104,some 27,js),(105,some 45,ky)] (.cons pH (.cons rn .nil)) (by kernel_rfl) (by kernel_rfl) (by kernel_rfl) (fun xs=>by kernel_rfl)
def jN.d1 (a b c d e f:C):R:=(bif (decide (af.length+f.L.length≤4294967296)) then (some (.ret [a,b,c,d,e,.l f.L,.l (af++f.L)])) else none)
def jN:List C→Option (List C):=fun xs=>aY (apn 6 jN.d1 xs)
def jv:FS:=⟨1,⟨[(0,(.ag [zt,zt,(.ow 2000),zi,zi,zo]))],[(2000,.arr 9 1)]⟩,⟨[(0,(.ag [zt,zt,(.ow 3001),zi,zi,zo]))],[(2000,.arr 9 1),(3001,.arr 9 1)]⟩,[2000],jN⟩
theorem sA:aD Tryz.checked.prog T0 104 jv:=br aC (fn:=Tryz.f104) (c:=Tryz.f104.body.getD .skip) jv .leaf [] .nil (by kernel_rfl) (by kernel_rfl) (by kernel_rfl) (fun xs=>by kernel_rfl)
def fY.d1 (a b c d e f g h i j k l:C):R:=(bif (decide (af.length+l.L.length≤4294967296)) then (some (.ret [a,b,c,d,e,f,g,h,i,j,k,.l l.L,.l (af++l.L)])) else none)
def fY:List C→Option (List C):=fun xs=>aY (apn 12 fY.d1 xs)
def ke:FS:=⟨1,⟨[(0,(.ag [zt,zt,zi,zi,zi,zi,zt,(.ow 2000),zi,zt,zt,zt]))],[(2000,.arr 100 1)]⟩,⟨[(0,(.ag [zt,zt,zi,zi,zi,zi,zt,(.ow 3001),zi,zt,zt,zt]))],[(2000,.arr 100 1),(3001,.arr 100 1)]⟩,[2000],fY⟩
theorem tG:aD Tryz.checked.prog T0 105 ke:=br aC (fn:=Tryz.f105) (c:=Tryz.f105.body.getD .skip) ke .leaf [] .nil (by kernel_rfl) (by kernel_rfl) (by kernel_rfl) (fun xs=>by kernel_rfl)
def cY.d1 (a b c d e f:C):R:=(bif (decide (b.I<(f.L.length:Int))) then (bif (decide (0≤b.I)) then (bif (decide (b.I<(f.L.length:Int))) then (bif ((((f.L.getD b.I.toNat []).getD 0 .nil).S).toList==a.S.toList) then (some (.ret [b])) else (some (.again [a,.i (w64 (b.I+1)),c,d,e,f]))) else none) else none) else (some (.brk 0 [])))
def cY.d2:R:=(some (.ret [.i (-1)]))
def cY.d3 (a b c d e:C):R:=(ah 0 (lim (apn 6 cY.d1) [e,.i 0,a,b,c,d]) (fun xs=>cY.d2))
def cY:List C→Option (List C):=fun xs=>aY (apn 5 cY.d3 xs)
def eh:FS:=⟨2,⟨[(0,z2),(1,zt)],[]⟩,⟨[(0,zi)],[]⟩,[],cY⟩
theorem eT:aD Tryz.checked.prog T0 36 eh:=br aC (fn:=Tryz.f36) (c:=Tryz.f36.body.getD .skip) eh (.seq .leaf (.seq (.seq .leaf (.block ⟨[],[]⟩ (.loop ⟨[(1,zt),(2,(.pt 2 0)),(5,zi)],[(2,z0)]⟩ .leaf))) .leaf)) [] .nil (by kernel_rfl) (by kernel_rfl) (by kernel_rfl) (fun xs=>by kernel_rfl)
end
end Go.Ev
