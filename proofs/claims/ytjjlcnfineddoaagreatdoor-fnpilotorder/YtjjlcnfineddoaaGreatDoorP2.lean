/- Proved here: the law FnPilotOrderCard of the given program answers true at every input, and leaves the input as it was; no condition. This text: lemmas on the way (an evaluator of the program's code, sound once for all; the functions it prints; plain proofs on these). -/
import Derived.Test.YtjjlcnfineddoaaGreatDoorP1
import Derived.LoopN
import Derived.ScopeJumps
import Derived.ChangeArms
import Derived.WalkKit
import Derived.ProofKit
import Derived.OpenShut
import Derived.ShutString
import Derived.ChangeOld
import Derived.Below
import Derived.SizedLaws
import Derived.Test.YtjjlcnfineddoaaGreatDoorChecked
import Derived.Lib.Strings
import Derived.Lib.Slices
import Derived.Lib.Walk
import Derived.Lib.Bytealg
import Derived.Sort.Grow
import Derived.Sort.Row
import Derived.Shelf.SlSortCmp.InsertionK
import Derived.Deep.Draws
import Derived.Lib.SliceRun
import Derived.Lib.JoinLaws
import Derived.Lib.AppendZerosOnto
import Derived.Lib.Overlaps
import Derived.Laws.Externs
import Derived.Laws.IdiomCopy
import Derived.Laws.CopyRow
import Derived.Shelf.RegionOpenPlain
set_option linter.all false
set_option autoImplicit false
namespace Go.Ev
theorem kq {ρ ρ':ca}:∀ {l:List Operand},(∀x,x∈l→bP ρ x=bP ρ' x)→im ρ l=im ρ' l
 |[],_=>rfl
 |x::r,h=>by
  show bP ρ x::im ρ r=bP ρ' x::im ρ' r
  rw[h x (List.mem_cons_self ..),kq fun y hy=>h y (List.mem_cons_of_mem _ hy)]
theorem tq {T:Tys} {fs:List (Nat×TypeId)} {ρ ρ':ca}:∀ {ps:List (Nat×Operand)} {cs:List V},(∀x,x∈ps.map (·.2)→bP ρ x=bP ρ' x)→s7 T fs ρ ps cs=s7 T fs ρ' ps cs
 |[],cs,_=>rfl
 |(i,x)::r,cs,h=>by
  have e:=h x (by simp)
  simp only[s7,e]
  split
  ·split
   ·rw[tq fun y hy=>h y (by simp at hy⊢;exact .inr hy)]
   ·rfl
  ·rfl
theorem tF {ρ ρ':ca}:∀ {ps:List (Nat×Operand)},(∀x,x∈ps.map (·.2)→bP ρ x=bP ρ' x)→tg ρ ps=tg ρ' ps
 |[],h=>rfl
 |(i,x)::r,h=>by
  simp only[tg]
  rw[h x (by simp),tF fun y hy=>h y (by simp at hy⊢;exact .inr hy)]
theorem Bo (K:List KE) {ρ ρ':ca} {x:Operand} (h:bP ρ x=bP ρ' x):bP (qZ K ρ) x=bP (qZ K ρ') x:=by
 cases x with
 |tmp d=>
  show qZ K ρ d=qZ K ρ' d
  rw[py,py]
  exact congrArg _ h
 |const v=>rfl
 |func f=>rfl
 |global g=>rfl
theorem tt {cts:List CT} {ρ ρ':ca}:∀ {ps:List (Nat×Operand)} {es:List (List C)},(∀x,x∈ps.map (·.2)→bP ρ x=bP ρ' x)→pZ cts ρ ps es=pZ cts ρ' ps es
 |[],es,_=>rfl
 |(i,x)::r,es,h=>by
  have e:=h x (by simp)
  simp only[pZ,e]
  split
  ·rw[tt fun y hy=>h y (by simp at hy⊢;exact .inr hy)]
  ·rfl
theorem yK (X:Cx) (dst:Option Tmp) {ρ ρ':ca} (op:Op) (h:∀x,x∈op.operands.toList→bP ρ x=bP ρ' x):evalOp X dst ρ op=evalOp X dst ρ' op:=by
 cases op with
 |pick c a b=>
  simp only[Op.operands] at h
  simp only[evalOp]
  rw[h c (by simp),h a (by simp),h b (by simp)]
 |build t ps=>
  simp only[Op.operands] at h
  simp only[evalOp,sw]
  congr 1;funext d
  split
  ·congr 1;funext _
   rw[tq fun x hx=>h x (by simpa using hx)]
  ·rfl
 |buildSlice t n ps=>
  simp only[Op.operands] at h
  simp only[evalOp,iM]
  congr 1;funext d
  congr 1;funext d
  rw[tF fun x hx=>h x (by simpa using hx)]
  congr 1;funext q
  congr 1;funext K
  rw[tt fun x hx=>Bo K (h x (by simpa using hx))]
 |makeFunc fn first caps=>
  simp only[Op.operands] at h
  cases fn with
  |func f=>
   simp only[evalOp]
   rw[kq fun x hx=>h x (by simp at hx⊢;exact .inr hx)]
  |_=>rfl
 |slice t x lo hi mx=>
  simp only[Op.operands] at h
  simp only[evalOp]
  have e1:=h x (by simp)
  have e2:wx ρ lo=wx ρ' lo:=by
   cases lo with
   |none=>rfl
   |some y=>show some _=some _;rw[h y (by simp)]
  have e3:wx ρ hi=wx ρ' hi:=by
   cases hi with
   |none=>rfl
   |some y=>show some _=some _;rw[h y (by simp)]
  rw[e1,e2,e3]
 |call c=>
  obtain ⟨callee,args,argTypes⟩:=c
  simp only[Op.operands,Call.operands] at h
  cases callee with
  |value f=>
   simp only[evalOp,j6]
   rw[h f (by simp),kq (l:=args.toList) fun x hx=>h x (by simp at hx⊢;exact .inr hx)]
  |invoke _ _=>rfl
  |builtin b=>
   have ha:∀x,x∈args.toList→bP ρ x=bP ρ' x:=fun x hx=>h x (by simpa using hx)
   simp only[evalOp,j6]
   cases b with
   |len=>
    simp only
    rcases hx:args.toList with _|⟨x,_|⟨y,l⟩⟩
    ·rfl
    ·have e1:=ha x (by simp[hx])
     rcases argTypes.toList with _|⟨t,_|⟨t',l'⟩⟩
     ·rfl
     ·show BE X.T t (bP ρ x)=BE X.T t (bP ρ' x)
      rw[e1]
     ·rfl
    ·rfl
   |clear=>
    simp only
    rcases hx:args.toList with _|⟨x,_|⟨y,l⟩⟩
    ·rfl
    ·have e1:=ha x (by simp[hx])
     rcases argTypes.toList with _|⟨t,_|⟨t',l'⟩⟩
     ·rfl
     ·show sg X.T t (bP ρ x)=sg X.T t (bP ρ' x)
      rw[e1]
     ·rfl
    ·rfl
   |append=>
    simp only
    rcases hx:args.toList with _|⟨x,_|⟨y,_|⟨z,l⟩⟩⟩
    ·rfl
    ·rfl
    ·have e1:=ha x (by simp[hx])
     have e2:=ha y (by simp[hx])
     rcases argTypes.toList with _|⟨t,_|⟨t',_|⟨t'',l'⟩⟩⟩
     ·rfl
     ·rfl
     ·show (do aW (Nat.beq t t');AY X t (lk dst) (bP ρ x) (bP ρ y):M Eff)=(do aW (Nat.beq t t');AY X t (lk dst) (bP ρ' x) (bP ρ' y):M Eff)
      rw[e1,e2]
     ·rfl
    ·rfl
   |min=>simp only;rw[kq ha]
   |max=>simp only;rw[kq ha]
   |_=>rfl
 |unOp op t x=>
  simp only[Op.operands] at h
  simp only[evalOp]
  rw[h x (by simp)]
 |extract x i=>
  simp only[Op.operands] at h
  simp only[evalOp]
  rw[h x (by simp)]
 |alloc t=>rfl
 |box t x=>simp only[Op.operands] at h;simp only[evalOp];rw[h x (by simp)]
 |move x=>simp only[Op.operands] at h;simp only[evalOp];rw[h x (by simp)]
 |assign x=>simp only[Op.operands] at h;simp only[evalOp];rw[h x (by simp)]
 |load t x=>simp only[Op.operands] at h;simp only[evalOp];rw[h x (by simp)]
 |store t x y=>simp only[Op.operands] at h;simp only[evalOp];rw[h x (by simp),h y (by simp)]
 |nilCheck x=>simp only[Op.operands] at h;simp only[evalOp];rw[h x (by simp)]
 |binOp op t x y e=>simp only[Op.operands] at h;simp only[evalOp];rw[h x (by simp),h y (by simp)]
 |convert s d x=>simp only[Op.operands] at h;simp only[evalOp];rw[h x (by simp)]
 |makeSlice t x y=>simp only[Op.operands] at h;simp only[evalOp];rw[h x (by simp),h y (by simp)]
 |fieldAddr s x f=>simp only[Op.operands] at h;simp only[evalOp];rw[h x (by simp)]
 |field s x f=>simp only[Op.operands] at h;simp only[evalOp];rw[h x (by simp)]
 |indexAddr t x y=>simp only[Op.operands] at h;simp only[evalOp];rw[h x (by simp),h y (by simp)]
 |index t x y=>simp only[Op.operands] at h;simp only[evalOp];rw[h x (by simp),h y (by simp)]
 |makeMap t c=>cases c<;>rfl
 |lookup t x y ok=>simp only[Op.operands] at h;simp only[evalOp];rw[h x (by simp),h y (by simp)]
 |mapUpdate t x y z=>simp only[Op.operands] at h;simp only[evalOp];rw[h x (by simp),h y (by simp),h z (by simp)]
 |_=>rfl
theorem x7 (X:Cx) (dst:Option Tmp) (ρ:ca) (c:Call):Loc (j6 X dst ρ c):=by
 unfold j6
 split
 ·split
  ·exact Ff _ _ _
  ·exact Loc.fail
 ·split
  ·exact Loc.bind (Loc.aW _) fun _=>FO _ _ _ _ _
  ·exact Loc.fail
 ·split
  ·unfold sg
   refine Loc.bind (Loc.opt _) fun _=>Loc.bind (Loc.opt _) fun _=>?_
   split
   ·refine Loc.bind (Loc.bK _) fun _=>?_
    split
    ·exact Loc.bind (Loc.aW _) fun _=>Loc.ret _
    ·exact Loc.fail
   ·exact Loc.fail
  ·exact Loc.fail
 ·split
  ·exact AX _ _ _
  ·exact Loc.fail
 ·split
  ·exact AX _ _ _
  ·exact Loc.fail
 ·split
  ·exact Loc.bind (Loc.opt _) fun _=>Cv _ _ _ _ _
  ·exact Loc.fail
 ·exact Loc.fail
theorem uI (X:Cx) (dst:Option Tmp) (ρ:ca) (op:Op):Loc (evalOp X dst ρ op):=by
 cases op with
 |pick c a b=>
  simp only[evalOp]
  split
  ·exact DF _ _ _
  ·exact Loc.fail
 |build t ps=>exact C5 _ _ _ _
 |buildSlice t n ps=>exact vX _ _ _ _ _ _
 |load t x=>exact Loc.bind (xx _ _) fun _=>G8 _ _ _
 |store t x y=>exact Fj _ _ _ _
 |nilCheck x=>exact y9 _ _
 |binOp op t x y e=>
  simp only[evalOp]
  unfold En
  split
  ·unfold Fa
   refine Loc.bind (Loc.aW _) fun _=>Loc.bind (Loc.opt _) fun _=>Loc.bind (Loc.opt _) fun _=>?_
   split
   ·exact Loc.rv _
   ·exact Loc.rv _
   ·exact Loc.fail
  ·exact Fg _ _ _ _ _
 |unOp op t x=>simp only[evalOp];repeat (first|exact Loc.rv _|exact Loc.ret _|exact Loc.fail|exact Loc.opt _|exact Loc.chk _|exact Loc.aW _|exact Loc.bK _|exact Loc.cR _|exact Loc.pure _|refine Loc.bind ?_ (fun _=>?_)|split)
 |convert s d x=>exact Du _ _ _ _
 |makeFunc fn first caps=>cases fn<;>first|exact Loc.fail|exact Loc.bind (Loc.aW _) fun _=>Loc.rv _
 |makeSlice t x y=>exact DX _ _ _ _ _
 |slice t x lo hi mx=>exact Loc.bind (Loc.aW _) fun _=>CX _ _ _ _ _
 |fieldAddr s x f=>exact Loc.bind (xx _ _) fun _=>wQ _ _ _ _
 |field s x f=>exact Cw _ _ _ _
 |indexAddr t x y=>exact wZ _ _ _ _
 |index t x y=>exact Di _ _ _ _
 |makeMap t c=>
  cases c with
  |some c=>exact Loc.fail
  |none=>exact Loc.bind (Loc.opt _) fun _=>Loc.bind (Loc.opt _) fun _=>Loc.bind (Loc.opt _) fun _=>Loc.bind (Loc.cR _) fun _=>Loc.ret _
 |lookup t x y ok=>
  simp only[evalOp]
  unfold uj
  split
  ·refine Loc.bind (Loc.opt _) fun _=>Loc.bind (Loc.opt _) fun _=>Loc.bind (Loc.opt _) fun _=>Loc.bind (Loc.bK _) fun _=>?_
   split
   ·exact Loc.bind (Loc.aW _) fun _=>Loc.rv _
   ·exact Loc.fail
  ·exact Loc.fail
 |mapUpdate t x y z=>
  simp only[evalOp]
  unfold nu
  split
  ·refine Loc.bind (Loc.opt _) fun _=>Loc.bind (Loc.opt _) fun _=>Loc.bind (Loc.opt _) fun _=>Loc.bind (Loc.bK _) fun _=>?_
   split
   ·exact Loc.bind (Loc.aW _) fun _=>Loc.ret _
   ·exact Loc.fail
  ·exact Loc.fail
 |extract x i=>
  simp only[evalOp]
  split
  ·exact Loc.bind (Loc.opt _) fun _=>Loc.rv _
  ·exact Loc.fail
 |call c=>exact x7 _ _ _ _
 |alloc t=>exact Loc.bind (Loc.opt _) fun _=>Loc.bind (Loc.cR _) fun _=>Loc.ret _
 |box t x=>exact Loc.bind (Loc.opt _) fun _=>Loc.bind (Loc.cR _) fun _=>Loc.bind (Loc.aW _) fun _=>Loc.bind (Loc.aW _) fun _=>Loc.ret _
 |move x=>exact Loc.rv _
 |assign x=>exact Loc.rv _
 |_=>exact Loc.fail
end Go.Ev
namespace Go.Ev
inductive mM (X:Cx) (ops:List Oper) (o:Oper) (σ:St) (v:V) (up:List (Nat×Box)) (lg:Lg):Prop
 |plain (e:Eff) (rd:List Nat) (hg:guardOf ops o=none) (h:∀k,evalOp X o.dst σ.sl o.op σ.bx k=k e rd) (hv:v=mm e.v) (hu:up=e.up) (hl:lg=⟨rd,bN e.up⟩)
 |yes (gd:Nat) (want:Bool) (e:Eff) (rd:List Nat) (hg:guardOf ops o=some (some gd,want)) (hs:σ.sl gd=.c .bool (.b want)) (h:∀k,evalOp X o.dst σ.sl o.op σ.bx k=k e rd) (hv:v=mm e.v) (hu:up=e.up) (hl:lg=⟨rd,bN e.up⟩)
 |no (gd:Nat) (want:Bool) (hg:guardOf ops o=some (some gd,want)) (hs:σ.sl gd=.c .bool (.b (!want))∨σ.sl gd=.ud) (hv:v=.ud) (hu:up=[]) (hl:lg=⟨[],[]⟩)
def St.step (σ:St) (o:Oper) (v:V) (up:List (Nat×Box)):St:=⟨qX σ.sl o.dst v,dg σ.bx up⟩
theorem vQ {X:Cx} {dst:Option Tmp} {ρ:ca} {op:Op} {bx:Bxs} {k:Eff→List Nat→R} {r:Out} (h:evalOp X dst ρ op bx k=some r):
  ∃e rd,k e rd=some r∧∀k',evalOp X dst ρ op bx k'=k' e rd:=by
 obtain ⟨e,rd,h1,h2⟩:=uI X dst ρ op bx k r h
 exact ⟨e,rd,h1,fun k'=>h2 bx (fun _ _=>rfl) k'⟩
theorem mM.wr {X:Cx} {ops:List Oper} {o:Oper} {σ:St} {v:V} {up:List (Nat×Box)} {lg:Lg} (h:mM X ops o σ v up lg):lg.wr=bN up:=by
 cases h with
 |plain e rd hg h hv hu hl=>rw[hl,hu]
 |yes gd want e rd hg hs h hv hu hl=>rw[hl,hu]
 |no gd want hg hs hv hu hl=>rw[hl,hu];rfl
theorem yH {l:List Operand} {t:Nat} (h:Operand.tmp t∈l):t∈ou l:=by
 induction l with
 |nil=>simp at h
 |cons x r ih=>
  cases h with
  |head=>exact List.mem_cons_self ..
  |tail _ h=>
   have:=ih h
   cases x<;>simp only[ou]<;>first|exact List.mem_cons_of_mem _ this|exact this
theorem mM.at {X:Cx} {ops:List Oper} {o:Oper} {σ σ2:St} {v:V} {up:List (Nat×Box)} {lg:Lg} (h:mM X ops o σ v up lg) (hs:∀d,d∈looks ops o→σ2.sl d=σ.sl d) (hb:∀b,b∈lg.rd→σ2.bx b=σ.bx b):
  mM X ops o σ2 v up lg:=by
 have hev:∀(e:Eff) (rd:List Nat),lg=⟨rd,bN e.up⟩→(∀k,evalOp X o.dst σ.sl o.op σ.bx k=k e rd)→∀k,evalOp X o.dst σ2.sl o.op σ2.bx k=k e rd:=by
  intro e rd hl h k
  have hc:evalOp X o.dst σ2.sl o.op=evalOp X o.dst σ.sl o.op:=yK X o.dst o.op fun x hx=>by
   cases x with
   |tmp t=>exact hs t (by unfold looks;rw[ff];exact List.mem_append_left _ (yH hx))
   |_=>rfl
  rw[hc]
  have h1:=h fun e' rd'=>some (.ret [])
  obtain ⟨e2,rd2,g1,g2⟩:=uI X o.dst σ.sl o.op σ.bx _ _ h1
  have h3:∀k:Eff→List Nat→R,k e rd=k e2 rd2:=fun k=>by rw[←h k,g2 σ.bx (fun _ _=>rfl) k]
  have hbx:∀b,b∈rd2→σ2.bx b=σ.bx b:=by
   have key:rd=rd2:=by
    open Classical in
    have:=h3 fun _ l=>if l=rd2 then some (.ret []) else none
    simp only[if_true] at this
    by_cases hh:rd=rd2
    ·exact hh
    ·rw[if_neg hh] at this;simp at this
   intro b hb'
   rw[←key] at hb'
   exact hb b (by rw[hl];exact hb')
  rw[g2 σ2.bx hbx k,h3 k]
 have hgd:∀gd want,guardOf ops o=some (some gd,want)→σ2.sl gd=σ.sl gd:=fun gd want hg=>hs gd (by unfold looks;rw[hg,ff];exact List.mem_append_right _ (List.mem_cons_self ..))
 cases h with
 |plain e rd hg h hv hu hl=>exact .plain e rd hg (hev e rd hl h) hv hu hl
 |yes gd want e rd hg hs' h hv hu hl=>exact .yes gd want e rd hg (by rw[hgd gd want hg];exact hs') (hev e rd hl h) hv hu hl
 |no gd want hg hs' hv hu hl=>exact .no gd want hg (by rw[hgd gd want hg];exact hs') hv hu hl
theorem oB {a b:List Nat} (h:meets a b=false):∀x,x∈a→¬x∈b:=by
 induction a with
 |nil=>intro x hx;simp at hx
 |cons y r ih=>
  simp only[meets,jw,Bool.or_eq_false_iff] at h
  intro x hx hb
  rcases List.mem_cons.1 hx with rfl|hx
  ·rw[(cA _ _).2 hb] at h;simp at h
  ·exact ih h.2 x hx hb
theorem yr {f:ca} {d:Option Tmp} {v:V} {k:Nat} (h:d≠some k):qX f d v k=f k:=by
 cases d with
 |none=>rfl
 |some d=>exact aP _ _ (fun e=>h (by rw[e]))
theorem CC {f:ca} {d d':Option Tmp} {v v':V} (h:∀k,d=some k→d'≠some k):qX (qX f d v) d' v'=qX (qX f d' v') d v:=by
 funext k
 cases d with
 |none=>rfl
 |some d=>cases d' with
  |none=>rfl
  |some d'=>
   have hne:d≠d':=fun e=>h d rfl (by rw[e])
   show upd (upd f d v) d' v' k=upd (upd f d' v') d v k
   simp only[pO]
   split
   ·rename_i e;subst e;rw[if_neg (Ne.symm hne)]
   ·rfl
theorem zn:∀ {l:List (Nat×Box)} {f f':Bxs} {b:Nat},f b=f' b→dg f l b=dg f' l b
 |[],f,f',b,h=>h
 |(c,x)::r,f,f',b,h=>by
  show dg (upd f c (some x)) r b=dg (upd f' c (some x)) r b
  refine zn ?_
  simp only[pO]
  split<;>first|rfl|exact h
theorem r9:∀ {l:List (Nat×Box)} {f f':Bxs} {b:Nat},b∈bN l→dg f l b=dg f' l b
 |[],f,f',b,h=>by simp[bN] at h
 |(c,x)::r,f,f',b,h=>by
  show dg (upd f c (some x)) r b=dg (upd f' c (some x)) r b
  by_cases hb:b∈bN r
  ·exact r9 hb
  ·have:b=c:=by
    simp only[bN,List.mem_cons] at h
    exact h.resolve_right hb
   subst this
   exact zn (by simp only[ar])
theorem Db {f:Bxs} {l m:List (Nat×Box)} (h:∀b,b∈bN l→¬b∈bN m):dg (dg f l) m=dg (dg f m) l:=by
 funext b
 by_cases h1:b∈bN l
 ·rw[gk (h b h1)]
  exact r9 h1
 ·by_cases h2:b∈bN m
  ·rw[gk (l:=l) h1]
   exact r9 h2
  ·rw[gk h2,gk h1,gk h1,gk h2]
theorem zS {ops:List Oper} {x y:Oper} (h:nH ops x y=true):(∀d,x.dst=some d→¬d∈looks ops y)∧(∀d,x.dst=some d→y.dst≠some d)∧∀d,y.dst=some d→¬d∈looks ops x:=by
 have nm:∀ {l:List Nat} {d:Nat},dA (cJ l d)=true→¬d∈l:=fun h hm=>by rw[(cA _ _).2 hm] at h;simp[dA] at h
 unfold nH at h
 simp only[aq,Bool.and_eq_true] at h
 refine ⟨fun d hd=>?_,fun d hd=>?_,fun d hd=>?_⟩
 ·have h1:=h.1
  rw[hd] at h1
  simp only[Bool.and_eq_true] at h1
  exact nm h1.1
 ·have h1:=h.1
  rw[hd] at h1
  simp only[Bool.and_eq_true] at h1
  intro hy
  have h2:=h1.2
  rw[hy] at h2
  simp only[Nat.beq_refl,dA] at h2
  simp at h2
 ·have h1:=h.2
  rw[hd] at h1
  exact nm h1
theorem swap {X:Cx} {ops:List Oper} {q o:Oper} {σ:St} {vq vo:V} {uq uo:List (Nat×Box)} {h g:Lg} (h1:mM X ops q σ vq uq h) (h2:mM X ops o (σ.step q vq uq) vo uo g) (ha:nH ops q o=true) (hc:Lg.tz h g=false):
  mM X ops o σ vo uo g∧mM X ops q (σ.step o vo uo) vq uq h∧(σ.step o vo uo).step q vq uq=(σ.step q vq uq).step o vo uo:=by
 obtain ⟨a1,a2,a3⟩:=zS ha
 simp only[Lg.tz,jw,Bool.or_eq_false_iff] at hc
 obtain ⟨c1,c2,c3⟩:=hc
 have c1:=oB c1
 have c2:=oB c2
 have c3:=oB c3
 rw[h1.wr] at c1 c2
 rw[h2.wr] at c2 c3
 refine ⟨h2.at (fun d hd=>?_) (fun b hb=>?_),h1.at (fun d hd=>?_) (fun b hb=>?_),?_⟩
 ·exact (yr (fun e=>a1 d e hd)).symm
 ·exact (gk (fun e=>c1 b e hb)).symm
 ·exact yr (fun e=>a3 d e hd)
 ·exact gk (fun e=>c3 b e hb)
 ·unfold St.step
  rw[CC a2,Db c2]
inductive tf (X:Cx) (ops:List Oper):St→List (Nat×Oper×Lg)→St→Prop
 |nil (σ:St):tf X ops σ [] σ
 |cons {σ σ':St} {i:Nat} {o:Oper} {lg:Lg} {v:V} {up:List (Nat×Box)} {L:List (Nat×Oper×Lg)} (hd:xh X.n o.dst=true) (h:mM X ops o σ v up lg) (hr:tf X ops (σ.step o v up) L σ'):tf X ops σ ((i,o,lg)::L) σ'
theorem EL {X:Cx} {ops:List Oper} {i:Nat} {o:Oper} {g:Lg} {post:List (Nat×Oper×Lg)} {σ':St}:∀(pre:List (Nat×Oper×Lg)) (σ:St),tf X ops σ (pre++(i,o,g)::post) σ'→
  (∀j q h,(j,q,h)∈pre→nH ops q o=true∧Lg.tz h g=false)→tf X ops σ ((i,o,g)::(pre++post)) σ'
 |[],σ,hc,_=>hc
 |(j,q,h)::pre,σ,hc,ha=>by
  cases hc with
  |cons hd hs hr=>
   have hb:=EL pre _ hr fun j q h hm=>ha j q h (List.mem_cons_of_mem _ hm)
   obtain ⟨x1,x2⟩:=ha j q h (List.mem_cons_self ..)
   cases hb with
   |cons hd2 hs2 hr2=>
    obtain ⟨s1,s2,s3⟩:=swap hs hs2 x1 x2
    refine .cons hd2 s1 (.cons hd s2 ?_)
    rw[s3]
    exact hr2
end Go.Ev
namespace Go.Ev
theorem xf {ops:List Oper} {an:List Nat} {o:Oper} {g:Lg}:∀ {l:List (Oper×Lg)} {j0:Nat},lP ops an o g l j0=true→∀(j:Nat) (q:Oper) (h:Lg),l[j]?=some (q,h)→cJ an (j0+j)=true∨(nH ops q o=true∧Lg.tz h g=false)
 |[],j0,_,j,q,h,hj=>by simp at hj
 |(q',h')::r,j0,hl,j,q,h,hj=>by
  simp only[lP,aq,jw,cF,Bool.and_eq_true,Bool.or_eq_true,Bool.not_eq_true'] at hl
  cases j with
  |zero=>simp at hj;obtain ⟨rfl,rfl⟩:=hj;exact hl.1
  |succ j=>
   have:=xf hl.2 j q h (by simpa using hj)
   rw[show j0+(j+1)=j0+1+j from by omega]
   exact this
def yo (n:Nat) (ops:List Oper) (σ:St):Prop:=∀j q d x,j<n→ops[j]?=some q→q.dst=some d→σ.sl d=.c .bool x→∃v,x=.b v
theorem xZ {v:V} {x:C} (h:mm v=.c .bool x):∃b,x=.b b:=by
 cases v with
 |c t y=>cases t with
  |bool=>
   simp only[mm,V.c.injEq,true_and] at h
   exact ⟨_,h.symm⟩
  |_=>simp[mm] at h
 |_=>simp[mm] at h
theorem yo.step {n:Nat} {ops:List Oper} {σ:St} {o:Oper} {v:V} {up:List (Nat×Box)} (h:yo n ops σ) (ho:ops[n]?=some o) (hv:∀x,v=.c .bool x→∃b,x=.b b):yo (n+1) ops (σ.step o v up):=by
 intro j q d x hj hq hd hx
 by_cases he:o.dst=some d
 ·have:(σ.step o v up).sl d=v:=by show qX σ.sl o.dst v d=v;rw[he];exact ar _ _ _
  rw[this] at hx
  exact hv x hx
 ·have:(σ.step o v up).sl d=σ.sl d:=yr he
  rw[this] at hx
  have hjn:j≠n:=by
   rintro rfl
   rw[ho] at hq
   obtain rfl:=Option.some.inj hq
   exact he hd
  exact h j q d x (by omega) hq hd hx
theorem AH {f:ca} {d:Nat} {v:V} (h:f d=v):upd f d v=f:=by
 funext k
 rw[pO]
 split
 ·rename_i e;rw[e,h]
 ·rfl
structure Run (X:Cx) (draw:Bool) (ops:List Oper) (an:List (List Nat)) (κ:St→R) (r:Out) (rem:List Oper) (lg:List (Oper×Lg)) (σ:St):Prop where
 ex:∃(L:List (Nat×Oper×Lg)) (σ':St),tf X ops σ L σ'∧κ σ'=some r∧L.map (fun p=>(p.1,p.2.1))=(rem.zipIdx lg.length).map (fun p=>(p.2,p.1))∧
  (draw=true→∀(p:Nat) (i:Nat) (o:Oper) (g:Lg),L[p]?=some (i,o,g)→∀(j:Nat) (q:Oper) (h:Lg),(lg++L.map (·.2))[j]?=some (q,h)→j<lg.length+p→cJ (nth [] an i) j=true∨(nH ops q o=true∧Lg.tz h g=false))
theorem rF {X:Cx} {draw:Bool} {ops:List Oper} {an:List (List Nat)} {κ:St→R} {r:Out}:∀(rem:List Oper) (lg:List (Oper×Lg)) (σ:St),(∀(i:Nat) (o:Oper),rem[i]?=some o→ops[lg.length+i]?=some o)→yo lg.length ops σ→
  jL X draw ops an κ rem lg σ=some r→Run X draw ops an κ r rem lg σ
 |[],lg,σ,_,_,h=>⟨[],σ,.nil σ,h,rfl,fun _ p i o g hp=>by simp at hp⟩
 |o::rem,lg,σ,hrem,hpr,h=>by
  have ho:ops[lg.length]?=some o:=hrem 0 o rfl
  cases hd:aA (xh X.n o.dst) (yY (len lg) o) with
  |false=>
   simp only[jL,hd,sif] at h
   simp at h
  |true=>
  have hd':=hd
  simp only[aq,Bool.and_eq_true,cV] at hd'
  have key:∀(v:V) (up:List (Nat×Box)) (g:Lg),mM X ops o σ v up g→(∀x,v=.c .bool x→∃b,x=.b b)→orS (dA draw) (lP ops (nth [] an (len lg)) o g lg 0)=true→
    jL X draw ops an κ rem (app lg [(o,g)]) (σ.step o v up)=some r→Run X draw ops an κ r (o::rem) lg σ:=by
   intro v up g hs hv hlog hrun
   rw[ff] at hrun
   have hlen:(lg++[(o,g)]).length=lg.length+1:=by simp
   obtain ⟨⟨L,σ',c1,c2,c3,c4⟩⟩:=rF rem (lg++[(o,g)]) (σ.step o v up) (fun i q hq=>by
    rw[hlen,show lg.length+1+i=lg.length+(i+1) from by omega]
    exact hrem (i+1) q (by simpa using hq)) (by rw[hlen];exact hpr.step ho hv) hrun
   refine ⟨(lg.length,o,g)::L,σ',.cons hd'.1 hs c1,c2,?_,fun hdr p i q' g' hp j q h hj hjl=>?_⟩
   ·rw[hlen] at c3
    simp[List.zipIdx_cons,c3]
   ·cases p with
    |zero=>
     simp only[List.getElem?_cons_zero,Option.some.injEq,Prod.mk.injEq] at hp
     obtain ⟨rfl,rfl,rfl⟩:=hp
     rw[hdr] at hlog
     simp only[jw,cF,Bool.not_true,Bool.false_or,cV] at hlog
     rw[List.getElem?_append_left (by omega)] at hj
     have:=xf hlog j q h hj
     simpa using this
    |succ p=>
     have e:lg++((lg.length,o,g)::L).map (·.2)=lg++[(o,g)]++L.map (·.2):=by simp
     rw[e] at hj
     exact c4 hdr p i q' g' (by simpa using hp) j q h hj (by rw[hlen];omega)
  simp only[jL,hd,af] at h
  have fin:∀(e:Eff) (rd:List Nat) (ρ:ca),ρ=σ.sl→(∀k,evalOp X o.dst σ.sl o.op σ.bx k=k e rd)→mM X ops o σ (mm e.v) e.up ⟨rd,bN e.up⟩→
    (sif (orS (dA draw) (lP ops (nth [] an (len lg)) o ⟨rd,bN e.up⟩ lg 0))
     (e.v.force fun v=>sN e.up fun up=>jL X draw ops an κ rem (app lg [(o,⟨rd,bN e.up⟩)]) (yv ⟨ρ,σ.bx⟩ o.dst ⟨mm v,up⟩)) none)=some r→Run X draw ops an κ r (o::rem) lg σ:=by
   intro e rd ρ hρ hall hs h
   cases hl:orS (dA draw) (lP ops (nth [] an (len lg)) o ⟨rd,bN e.up⟩ lg 0) with
   |false=>simp[hl,sif] at h
   |true=>
    rw[hl,af,force_eq,xb] at h
    subst hρ
    exact key _ _ _ hs (fun x hx=>xZ hx) hl h
  split at h
  ·rename_i hg
   obtain ⟨e,rd,h1,h2⟩:=vQ h
   exact fin e rd σ.sl rfl h2 (.plain e rd hg h2 rfl rfl rfl) h1
  ·rename_i gd want hg
   have hprop:∀x,σ.sl gd=.c .bool x→∃v,x=.b v:=by
    intro x hx
    unfold guardOf at hg
    split at hg
    ·simp at hg
    ·rename_i gi want' hgu
     simp only[Option.some.injEq,Prod.mk.injEq] at hg
     obtain ⟨hq,rfl⟩:=hg
     have hlt:gi<lg.length:=by
      have:=hd'.2
      simp only[yY,hgu] at this
      simp[Nat.blt] at this
      omega
     rw[lU] at hq
     split at hq
     ·rename_i q hqq
      exact hpr gi q gd x hlt hqq hq hx
     ·simp at hq
   split at h
   ·rename_i x hx
    obtain ⟨v,rfl⟩:=hprop x hx
    have hcond:(sif want v (!v))=(v==want):=by cases want<;>cases v<;>rfl
    replace h:cond (sif want v (!v))
     (evalOp X o.dst (upd σ.sl gd (.c .bool (.b want))) o.op σ.bx fun e rd=>
      sif (orS (dA draw) (lP ops (nth [] an (len lg)) o ⟨rd,bN e.up⟩ lg 0))
       (e.v.force fun v=>sN e.up fun up=>jL X draw ops an κ rem (app lg [(o,⟨rd,bN e.up⟩)]) (yv ⟨upd σ.sl gd (.c .bool (.b want)),σ.bx⟩ o.dst ⟨mm v,up⟩)) none)
     (sif (orS (dA draw) (lP ops (nth [] an (len lg)) o ⟨[],[]⟩ lg 0))
      (jL X draw ops an κ rem (app lg [(o,⟨[],[]⟩)]) ⟨qX (upd σ.sl gd (.c .bool (.b (dA want)))) o.dst .ud,σ.bx⟩) none)=some r:=h
    rw[hcond] at h
    by_cases hvw:v=want
    ·subst hvw
     rw[show (v==v)=true from beq_self_eq_true v] at h
     simp only[cond_true] at h
     rw[AH hx] at h
     obtain ⟨e,rd,h1,h2⟩:=vQ h
     exact fin e rd σ.sl rfl h2 (.yes gd v e rd hg hx h2 rfl rfl rfl) h1
    ·rw[show (v==want)=false from by simpa using hvw] at h
     simp only[cond_false] at h
     have hv':v=!want:=by cases v<;>cases want<;>simp_all
     rw[cF want,←hv',AH hx] at h
     cases hl:orS (dA draw) (lP ops (nth [] an (len lg)) o ⟨[],[]⟩ lg 0) with
     |false=>simp[hl,sif] at h
     |true=>
      rw[hl,af] at h
      exact key .ud [] ⟨[],[]⟩ (.no gd want hg (.inl (by rw[hx,hv'])) rfl rfl rfl) (fun x hx=>by simp at hx) hl h
   ·rename_i hx
    cases hl:orS (dA draw) (lP ops (nth [] an (len lg)) o ⟨[],[]⟩ lg 0) with
    |false=>simp[hl,sif] at h
    |true=>
     rw[hl,af] at h
     exact key .ud [] ⟨[],[]⟩ (.no gd want hg (.inr hx) rfl rfl rfl) (fun x hx=>by simp at hx) hl h
   ·simp at h
  ·simp at h
section
variable {P:Program} {X:Cx} {fr:Fr}
theorem DN {T:Tys} {F:Nat→Prop} {w:World} {bx:Bxs} {θ:Nat→Value} {x:V} {v:Value} (h:aj T F w bx θ x v):aj T F w bx θ (mm x) v:=by
 cases x with
 |c t y=>cases t with
  |bool=>
   cases h with
   |c t y v hr=>cases hr with
    |bool b=>exact .c _ _ _ (.bool b)
  |_=>exact h
 |_=>exact h
theorem EB {a:Act} {dst:Option Tmp} {v:Value} {n:Nat} (hn:a.tmps.size=n) (hd:xh n dst=true) (k:Nat):(a.put dst v).tmps.getD k undef=if dst=some k then v else a.tmps.getD k undef:=by
 cases dst with
 |none=>simp[Act.put]
 |some d=>
  have hlt:d<a.tmps.size:=by rw[hn];exact Nat.le_of_ble_eq_true hd
  simp only[Act.put,Array.getD_eq_getD_getElem?,Option.some.injEq]
  rw[Array.getElem?_setIfInBounds]
  split
  ·rename_i e;subst e;simp[hlt]
  ·rfl
theorem DS (a:Act) (dst:Option Tmp) (v:Value):(a.put dst v).tmps.size=a.tmps.size:=by cases dst<;>simp[Act.put]
theorem put_defers (a:Act) (dst:Option Tmp) (v:Value):(a.put dst v).defers=a.defers:=by cases dst<;>rfl
theorem EI {f:ca} {d:Option Tmp} {v:V} (k:Nat):qX f d v k=if d=some k then v else f k:=by
 cases d with
 |none=>simp[qX]
 |some d=>
  show upd f d v k=_
  rw[pO]
  by_cases h:k=d
  ·subst h;simp
  ·rw[if_neg h,if_neg (fun e=>h (Option.some.inj e).symm)]
theorem zk {T:Tys} {F:Nat→Prop} {w w':World} {θ:Nat→Value} {σ:St} {a:Act} {n:Nat} {o:Oper} {e:Eff} {v:Value} {x:V} (hs:SlR T F w σ.bx θ n σ.sl a) (hd:xh n o.dst=true)
  (h:Aft T fr F w σ.bx θ e v w') (hx:∀F' θ',aj T F' w' (dg σ.bx e.up) θ' e.v v→aj T F' w' (dg σ.bx e.up) θ' x v):Sim T fr n (σ.step o x e.up) (a.put o.dst v) w':=by
 obtain ⟨F',θ',h1,h2,h3⟩:=h
 refine ⟨F',θ',h1,⟨fun k=>?_,by rw[DS];exact hs.n,by rw[put_defers];exact hs.defers⟩⟩
 rw[EB hs.n hd]
 show aj T F' w' (dg σ.bx e.up) θ' (qX σ.sl o.dst x k) _
 rw[EI]
 split
 ·exact hx _ _ h3
 ·exact (hs.sl k).mv h2
theorem wj {ops:List Oper} {a:Act} {g:Nat} {gd:Nat} (hq:(match qO ops g with|some q=>q.dst|none=>none)=some gd):yielded ops.toArray a.tmps g=match a.tmps[gd]? with|some (.bool b)=>some b|_=>none:=by
 unfold yielded
 rw[lU] at hq
 split at hq
 ·rename_i q hqq
  simp[hqq,hq]
  cases a.tmps[gd]? with
  |none=>rfl
  |some u=>cases u<;>rfl
 ·simp at hq
theorem BK {a:Act} {gd:Nat} {v:Bool} (h:a.tmps.getD gd undef=.bool v):a.tmps[gd]?=some (.bool v):=by
 rw[Array.getD_eq_getD_getElem?] at h
 cases hh:a.tmps[gd]? with
 |none=>rw[hh] at h;simp[undef] at h
 |some u=>rw[hh] at h;simp at h;rw[h]
theorem Co (hX:Env P X) {ops:List Oper} {i:Nat} {o:Oper} {σ:St} {v:V} {up:List (Nat×Box)} {lg:Lg} {a:Act} {w:World} (hi:ops[i]?=some o) (hd:xh X.n o.dst=true) (h:mM X ops o σ v up lg) (hs:Sim X.T fr X.n σ a w)
  {K:Act→World→Prop} {Q:Exit→Act→World→Prop} (hK:∀a' w',Sim X.T fr X.n (σ.step o v up) a' w'→K a' w'):wpOp P ops.toArray Q i K a w:=by
 unfold wpOp
 have hi':ops.toArray[i]?=some o:=by simpa using hi
 rw[hi']
 simp only
 obtain ⟨F,θ,hw,hsl⟩:=hs
 have run:∀(e:Eff) (rd:List Nat),(∀k,evalOp X o.dst σ.sl o.op σ.bx k=k e rd)→v=mm e.v→up=e.up→o.wp P a w K Q:=by
  intro e rd hall hv hu
  have h1:=hall fun e rd=>some (.ret [])
  have ho:=Cr (ρ:=σ.sl) (a:=a) hsl.sl
  have open_:∀(p:Eff→List Nat→Prop),p e rd→True:=fun _ _=>trivial
  obtain ⟨e2,rd2,g1,g2⟩:=Ak (k:=fun e' rd'=>open Classical in if e'=e∧rd'=rd then some (.ret []) else none) (r:=.ret []) hX hw ho (by rw[hall];simp)
  have he:e2=e:=by
   open Classical in
   by_cases hh:e2=e∧rd2=rd
   ·exact hh.1
   ·simp only[hh,if_false] at g1;simp at g1
  subst he
  refine g2 K Q fun u w' hA=>hK _ _ ?_
  rw[hv,hu]
  exact zk hsl hd hA fun F' θ' hr=>DN hr
 cases h with
 |plain e rd hg hall hv hu hl=>
  have hwant:Region.wanted o (yielded ops.toArray a.tmps)=true:=by
   unfold guardOf at hg
   unfold Region.wanted
   split at hg
   ·rename_i hgu;rw[hgu]
   ·simp at hg
  rw[if_pos hwant]
  exact .inl (run e rd hall hv hu)
 |yes gd want e rd hg hsg hall hv hu hl=>
  have hwant:Region.wanted o (yielded ops.toArray a.tmps)=true:=by
   unfold guardOf at hg
   unfold Region.wanted
   split at hg
   ·simp at hg
   ·rename_i g want' hgu
    simp only[Option.some.injEq,Prod.mk.injEq] at hg
    obtain ⟨hq,rfl⟩:=hg
    rw[hgu]
    simp only
    rw[wj hq]
    have hr:=hsl.sl gd
    rw[hsg] at hr
    rw[BK (kN hr)]
    simp[C.B]
  rw[if_pos hwant]
  exact .inl (run e rd hall hv hu)
 |no gd want hg hsg hv hu hl=>
  have hwant:¬Region.wanted o (yielded ops.toArray a.tmps)=true:=by
   unfold guardOf at hg
   unfold Region.wanted
   split at hg
   ·simp at hg
   ·rename_i g want' hgu
    simp only[Option.some.injEq,Prod.mk.injEq] at hg
    obtain ⟨hq,rfl⟩:=hg
    rw[hgu]
    simp only
    rw[wj hq]
    have hr:=hsl.sl gd
    rcases hsg with hsg|hsg
    ·rw[hsg] at hr
     rw[BK (kN hr)]
     cases want'<;>simp[C.B]
    ·rw[hsg] at hr
     generalize hz:a.tmps.getD gd undef=z at hr
     cases hr
     rw[Array.getD_eq_getD_getElem?] at hz
     cases hh:a.tmps[gd]? with
     |none=>simp
     |some u=>rw[hh] at hz;simp at hz;subst hz;simp[undef]
  rw[if_neg hwant]
  refine hK _ _ ?_
  rw[hv,hu]
  exact zk (e:=⟨.ud,[]⟩) hsl hd (Aft.same hw .ud) fun F' θ' hr=>hr
theorem zF (hX:Env P X) {ops:List Oper} {Q:Exit→Act→World→Prop} {σ':St}:∀(L:List (Nat×Oper×Lg)) (σ:St) (a:Act) (w:World),tf X ops σ L σ'→(∀i o g,(i,o,g)∈L→ops[i]?=some o)→Sim X.T fr X.n σ a w→
  (∀a' w',Sim X.T fr X.n σ' a' w'→Q .normal a' w')→wpOps P ops.toArray Q (L.map (·.1)) a w
 |[],σ,a,w,hc,_,hs,hQ=>by
  cases hc
  exact hQ a w hs
 |(i,o,g)::L,σ,a,w,hc,hi,hs,hQ=>by
  cases hc with
  |cons hd h hr=>
   show wpOps P ops.toArray Q (i::L.map (·.1)) a w
   rw[wpOps_cons]
   exact Co hX (hi i o g (List.mem_cons_self ..)) hd h hs fun a' w' hs'=>zF hX L _ a' w' hr (fun i o g hm=>hi i o g (List.mem_cons_of_mem _ hm)) hs' hQ
end
end Go.Ev
namespace Go.Ev
theorem wa {j:Nat}:∀ {l m:List Nat},j∈Dd l m→j∈l∨j∈m
 |[],m,h=>.inr h
 |a::r,m,h=>by
  replace h:j∈sif (cJ m a) (Dd r m) (a::Dd r m):=h
  cases hm:cJ m a with
  |true=>rw[hm,af] at h;exact (wa h).imp (List.mem_cons_of_mem _) id
  |false=>
   rw[hm,aR] at h
   rcases List.mem_cons.1 h with rfl|h
   ·exact .inl (List.mem_cons_self ..)
   ·exact (wa h).imp (List.mem_cons_of_mem _) id
theorem E6 {j:Nat} {l m:List Nat} (h:j∈uni l m):j∈l∨j∈m:=by
 unfold uni at h
 split at h
 ·exact .inl h
 ·exact wa h
theorem xz {acc:List (List Nat)} {j:Nat}:∀(l:List Edge) (s:List Nat),j∈l.foldl (fun s e=>sif (jK e) (sif (cJ s e.on) s (e.on::uni (nth [] acc e.on) s)) s) s→j∈s∨∃e,e∈l∧jK e=true∧(j=e.on∨j∈nth [] acc e.on)
 |[],s,h=>.inl h
 |e::r,s,h=>by
  rcases xz r _ h with h|⟨e',h1,h2⟩
  ·replace h:j∈sif (jK e) (sif (cJ s e.on) s (e.on::uni (nth [] acc e.on) s)) s:=h
   cases hb:jK e with
   |false=>rw[hb,aR] at h;exact .inl h
   |true=>
    rw[hb,af] at h
    cases hm:cJ s e.on with
    |true=>rw[hm,af] at h;exact .inl h
    |false=>
     rw[hm,aR] at h
     rcases List.mem_cons.1 h with h|h
     ·exact .inr ⟨e,List.mem_cons_self ..,hb,.inl h⟩
     ·rcases E6 h with h|h
      ·exact .inr ⟨e,List.mem_cons_self ..,hb,.inr h⟩
      ·exact .inl h
  ·exact .inr ⟨e',List.mem_cons_of_mem _ h1,h2⟩
theorem rW:∀(l:List Oper) (acc:List (List Nat)),(∀i,i<acc.length→(anc l acc)[i]?=acc[i]?)∧
  ∀(i:Nat) (o:Oper),l[i]?=some o→∀j,j∈nth [] (anc l acc) (acc.length+i)→∃e,e∈o.after.toList∧jK e=true∧(j=e.on∨j∈nth [] (anc l acc) e.on)
 |[],acc=>⟨fun i _=>rfl,fun i o h=>by simp at h⟩
 |o::r,acc=>by
  have e0:∃x,x=o.after.toList.foldl (fun s e=>sif (jK e) (sif (cJ s e.on) s (e.on::uni (nth [] acc e.on) s)) s) []:=⟨_,rfl⟩
  obtain ⟨x,hx⟩:=e0
  have e1:anc (o::r) acc=anc r (acc++[x]):=by
   show anc r (app acc [_])=_
   rw[ff,←hx]
  obtain ⟨h1,h2⟩:=rW r (acc++[x])
  have hlen:(acc++[x]).length=acc.length+1:=by simp
  rw[e1]
  refine ⟨fun i hi=>?_,fun i q hq j hj=>?_⟩
  ·rw[h1 i (by omega),List.getElem?_append_left hi]
  ·cases i with
   |zero=>
    simp at hq;subst hq
    rw[Nat.add_zero,qI,List.getD_eq_getElem?_getD,h1 acc.length (by omega),List.getElem?_append_right (Nat.le_refl _)] at hj
    simp at hj
    rw[hx] at hj
    rcases xz _ _ hj with h|⟨e,a1,a2,a3⟩
    ·simp at h
    ·refine ⟨e,a1,a2,a3.imp id fun hm=>?_⟩
     rw[qI,List.getD_eq_getElem?_getD] at hm⊢
     by_cases hlt:e.on<acc.length
     ·rw[h1 e.on (by omega),List.getElem?_append_left hlt];exact hm
     ·rw[List.getElem?_eq_none (by omega)] at hm;simp at hm
   |succ i=>
    have:=h2 i q (by simpa using hq) j (by rw[hlen,show acc.length+1+i=acc.length+(i+1) from by omega];exact hj)
    exact this
theorem lN:∀ {l:List Oper} {n:Nat},mX l n=true→∀(i:Nat) (o:Oper),l[i]?=some o→∀e,e∈o.after.toList→jK e=true→e.on<n+i
 |[],n,_,i,o,h,_,_,_=>by simp at h
 |q::r,n,h,i,o,ho,e,he,hb=>by
  simp only[mX,aq,Bool.and_eq_true] at h
  cases i with
  |zero=>
   simp at ho;subst ho
   have key:∀ {l:List Edge},Fi (qP n) l=true→∀e,e∈l→qP n e=true:=by
    intro l
    induction l with
    |nil=>intro _ e he;simp at he
    |cons y r ih=>
     intro hl e he
     simp only[Fi,aq,Bool.and_eq_true] at hl
     rcases List.mem_cons.1 he with rfl|he
     ·exact hl.1
     ·exact ih hl.2 e he
   have:=key h.1 e he
   simp only[qP,jw,cF,hb,Bool.not_true,Bool.false_or] at this
   exact Nat.le_of_ble_eq_true this
  |succ i=>
   have:=lN h.2 i o (by simpa using ho) e he hb
   omega
section
variable {P:Program} {X:Cx} {fr:Fr}
structure Inv (ops:List Oper) (listed:Array Bool) (L:List (Nat×Oper×Lg)):Prop where
 size:listed.size=ops.length
 mem:∀i o g,(i,o,g)∈L→ops[i]?=some o∧listed.getD i false=false
 all:∀i,i<ops.length→listed.getD i false=false→∃o g,(i,o,g)∈L
 sorted:L.Pairwise fun a b=>a.1<b.1
 ind:L.Pairwise fun a b=>cJ (nth [] (anc ops []) b.1) a.1=true∨(nH ops a.2.1 b.2.1=true∧Lg.tz a.2.2 b.2.2=false)
 closed:∀i o,listed.getD i false=true→ops[i]?=some o→∀e,e∈o.after.toList→jK e=true→listed.getD e.on false=true
theorem sV {ops:List Oper} {listed:Array Bool} (hsz:listed.size=ops.length) (i:Nat):i∈Region.ready .any ops.toArray listed↔∃o,ops[i]?=some o∧listed.getD i false=false∧∀e,e∈o.after.toList→jK e=true→listed.getD e.on false=true:=by
 unfold Region.ready
 simp only[List.mem_filter,List.mem_range,List.size_toArray,Bool.and_eq_true,Bool.not_eq_true']
 constructor
 ·rintro ⟨h1,h2,h3⟩
  have ho:ops[i]?=some ops[i]:=List.getElem?_eq_getElem h1
  refine ⟨_,ho,?_,fun e he hb=>?_⟩
  ·simp only[Array.getD_eq_getD_getElem?] at h2⊢
   rw[Array.getElem?_eq_getElem (by omega)] at h2⊢
   simpa using h2
  ·rw[show ops.toArray[i]?=some ops[i] from by simpa using ho] at h3
   simp only[Option.map_some,Option.getD_some] at h3
   rw[←Array.all_toList,List.all_eq_true] at h3
   have:=h3 e he
   unfold jK at hb
   rw[hb] at this
   simpa using this
 ·rintro ⟨o,ho,h2,h3⟩
  have h1:i<ops.length:=(List.getElem?_eq_some_iff.1 ho).1
  refine ⟨h1,?_,?_⟩
  ·simp only[Array.getD_eq_getD_getElem?] at h2⊢
   rw[Array.getElem?_eq_getElem (by omega)] at h2⊢
   simpa using h2
  ·rw[show ops.toArray[i]?=some o from by simpa using ho]
   simp only[Option.map_some,Option.getD_some]
   rw[←Array.all_toList,List.all_eq_true]
   intro e he
   cases hb:Region.binds .any e with
   |false=>rfl
   |true=>
    have:=h3 e he hb
    simpa using this
theorem A3 {ops:List Oper} {listed:Array Bool} (hB:mX ops 0=true) (hcl:∀i o,listed.getD i false=true→ops[i]?=some o→∀e,e∈o.after.toList→jK e=true→listed.getD e.on false=true):
  ∀(n m:Nat),m≤n→listed.getD m false=true→∀j,j∈nth [] (anc ops []) m→listed.getD j false=true:=by
 intro n
 induction n with
 |zero=>
  intro m hm hl j hj
  cases ho:ops[m]? with
  |none=>
   have:(anc ops [])[m]?=none:=by
    have key:∀(l:List Oper) (acc:List (List Nat)),(anc l acc).length=acc.length+l.length:=by
     intro l
     induction l with
     |nil=>intro acc;rfl
     |cons o r ih=>intro acc;show (anc r (app acc [_])).length=_;rw[ih,ff];simp;omega
    rw[List.getElem?_eq_none_iff,key]
    rw[List.getElem?_eq_none_iff] at ho
    simpa using ho
   rw[qI,List.getD_eq_getElem?_getD,this] at hj
   simp at hj
  |some o=>
   obtain ⟨e,h1,h2,h3⟩:=(rW ops []).2 m o ho j (by simpa using hj)
   have:=lN hB m o ho e h1 h2
   omega
 |succ n ih=>
  intro m hm hl j hj
  cases ho:ops[m]? with
  |none=>
   have:(anc ops [])[m]?=none:=by
    have key:∀(l:List Oper) (acc:List (List Nat)),(anc l acc).length=acc.length+l.length:=by
     intro l
     induction l with
     |nil=>intro acc;rfl
     |cons o r ih=>intro acc;show (anc r (app acc [_])).length=_;rw[ih,ff];simp;omega
    rw[List.getElem?_eq_none_iff,key]
    rw[List.getElem?_eq_none_iff] at ho
    simpa using ho
   rw[qI,List.getD_eq_getElem?_getD,this] at hj
   simp at hj
  |some o=>
   obtain ⟨e,h1,h2,h3⟩:=(rW ops []).2 m o ho j (by simpa using hj)
   have hlt:=lN hB m o ho e h1 h2
   have hle:=hcl m o hl ho e h1 h2
   rcases h3 with rfl|h3
   ·exact hle
   ·exact ih e.on (by omega) hle j h3
theorem Hg (hX:Env P X) {ops:List Oper} {Q:Exit→Act→World→Prop} {σ':St} (hB:mX ops 0=true) (hQ:∀a' w',Sim X.T fr X.n σ' a' w'→Q .normal a' w'):
  ∀(fuel:Nat) (listed:Array Bool) (L:List (Nat×Oper×Lg)) (σ:St) (a:Act) (w:World),Inv ops listed L→L.length≤fuel→tf X ops σ L σ'→Sim X.T fr X.n σ a w→wpAny P .any ops.toArray Q fuel listed a w:=by
 intro fuel
 induction fuel with
 |zero=>
  intro listed L σ a w hI hlen hc hs
  have:L=[]:=List.eq_nil_of_length_eq_zero (by omega)
  subst this
  cases hc
  refine ⟨?_,hQ a w hs⟩
  cases hr:Region.ready .any ops.toArray listed with
  |nil=>rfl
  |cons i t=>
   have:i∈Region.ready .any ops.toArray listed:=by rw[hr];exact List.mem_cons_self ..
   obtain ⟨o,h1,h2,_⟩:=(sV hI.size i).1 this
   obtain ⟨o',g,hm⟩:=hI.all i (List.getElem?_eq_some_iff.1 h1).1 h2
   simp at hm
 |succ fuel ih=>
  intro listed L σ a w hI hlen hc hs
  refine ⟨fun hr=>?_,fun i hi=>?_⟩
  ·cases L with
   |nil=>cases hc;exact hQ a w hs
   |cons p L=>
    obtain ⟨i,o,g⟩:=p
    exfalso
    obtain ⟨h1,h2⟩:=hI.mem i o g (List.mem_cons_self ..)
    have:i∈Region.ready .any ops.toArray listed:=by
     refine (sV hI.size i).2 ⟨o,h1,h2,fun e he hb=>?_⟩
     have hlt:=lN hB i o h1 e he hb
     cases hl:listed.getD e.on false with
     |true=>rfl
     |false=>
      obtain ⟨o',g',hm⟩:=hI.all e.on (by have:=(List.getElem?_eq_some_iff.1 h1).1;omega) hl
      rcases List.mem_cons.1 hm with heq|hm
      ·simp only[Prod.mk.injEq] at heq;omega
      ·have:=(List.pairwise_cons.1 hI.sorted).1 _ hm
       simp only at this
       omega
    rw[hr] at this
    simp at this
  ·obtain ⟨o,h1,h2,h3⟩:=(sV hI.size i).1 hi
   obtain ⟨o',g,hm⟩:=hI.all i (List.getElem?_eq_some_iff.1 h1).1 h2
   have ho:=(hI.mem i o' g hm).1
   rw[h1] at ho;obtain rfl:=Option.some.inj ho
   obtain ⟨pre,post,rfl⟩:=List.append_of_mem hm
   have hpre:∀j q h,(j,q,h)∈pre→nH ops q o=true∧Lg.tz h g=false:=by
    intro j q h hj
    have hind:=(List.pairwise_append.1 hI.ind).2.2 (j,q,h) hj (i,o,g) (List.mem_cons_self ..)
    refine hind.resolve_left fun hmb=>?_
    have hjun:=(hI.mem j q h (List.mem_append_left _ hj)).2
    have:listed.getD j false=true:=by
     obtain ⟨e,e1,e2,e3⟩:=(rW ops []).2 i o h1 j (by simpa using (cA _ _).1 hmb)
     have hle:=h3 e e1 e2
     rcases e3 with rfl|e3
     ·exact hle
     ·exact A3 hB hI.closed e.on e.on (Nat.le_refl _) hle j e3
    rw[this] at hjun;simp at hjun
   have hb:=EL pre σ hc hpre
   cases hb with
   |cons hd hstep hr=>
    refine Co hX h1 hd hstep hs fun a' w' hs'=>?_
    refine ih _ (pre++post) _ a' w' ?_ (by simp at hlen⊢;omega) hr hs'
    have hil:i<listed.size:=by rw[hI.size];exact (List.getElem?_eq_some_iff.1 h1).1
    have hset:∀k,(listed.setIfInBounds i true).getD k false=if k=i then true else listed.getD k false:=by
     intro k
     simp only[Array.getD_eq_getD_getElem?,Array.getElem?_setIfInBounds]
     by_cases hk:k=i
     ·subst hk;simp[hil]
     ·rw[if_neg (Ne.symm hk),if_neg hk]
    have hsub:List.Sublist (pre++post) (pre++(i,o,g)::post):=List.Sublist.append_left (List.sublist_cons_self ..) _
    have hne:∀p,p∈pre++post→p.1≠i:=by
     intro p hp
     have hs:=List.pairwise_append.1 hI.sorted
     rcases List.mem_append.1 hp with hp|hp
     ·have:=hs.2.2 p hp (i,o,g) (List.mem_cons_self ..);simp only at this;omega
     ·have:=(List.pairwise_cons.1 hs.2.1).1 p hp;simp only at this;omega
    refine ⟨by simpa using hI.size,fun k q h hk=>?_,fun k hk hl=>?_,hI.sorted.sublist hsub,hI.ind.sublist hsub,fun k q hl hq e he hbe=>?_⟩
    ·have:=hI.mem k q h (hsub.subset hk)
     refine ⟨this.1,?_⟩
     rw[hset,if_neg (hne _ hk)]
     exact this.2
    ·rw[hset] at hl
     split at hl
     ·simp at hl
     ·rename_i hki
      obtain ⟨q,h,hm⟩:=hI.all k hk hl
      refine ⟨q,h,?_⟩
      rcases List.mem_append.1 hm with hm|hm
      ·exact List.mem_append_left _ hm
      ·rcases List.mem_cons.1 hm with he|hm
       ·simp only[Prod.mk.injEq] at he;exact absurd he.1 hki
       ·exact List.mem_append_right _ hm
    ·rw[hset]
     split
     ·rfl
     ·rw[hset] at hl
      split at hl
      ·rename_i hki
       subst hki
       rw[h1] at hq;obtain rfl:=Option.some.inj hq
       exact h3 e he hbe
      ·exact hI.closed k q hl hq e he hbe
end
end Go.Ev
namespace Go.Ev
section
variable {T:Tys} {fr:Fr} {F:Nat→Prop} {w:World} {bx:Bxs} {θ:Nat→Value} {bs:List Nat}
def uP (T:Tys) (bx:Bxs) (bs:List Nat):Bxs:=fun b=>match bx b with|some x=>some (sif (cJ bs b) (.dead (x.ver+1)) (x.frz T bx bs))|none=>none
theorem mD (T:Tys) (bx:Bxs) (bs:List Nat):∀(l:List V) (i:Nat),(V.vj T bx bs l)[i]?=(l[i]?).map (V.frz T bx bs)
 |[],i=>by simp[V.vj]
 |v::r,0=>by simp[V.vj]
 |v::r,i+1=>by simp[V.vj,mD T bx bs r i]
theorem mE (T:Tys) (bx:Bxs) (bs:List Nat) (l:List V):(V.vj T bx bs l).length=l.length:=by
 induction l with
 |nil=>rfl
 |cons v r ih=>simp[V.vj,ih]
theorem lj {b:Nat} {x:Box} (h:bx b=some x) (hb:cJ bs b=false):uP T bx bs b=some (x.frz T bx bs):=by
 unfold uP;rw[h];simp only;rw[hb,aR]
theorem EZ {b:Nat} {x:Box} (h:bx b=some x) (hb:cJ bs b=true):uP T bx bs b=some (.dead (x.ver+1)):=by
 unfold uP;rw[h];simp only;rw[hb,af]
theorem hY (x:Box):(x.frz T bx bs).ver=x.ver:=by cases x<;>rfl
theorem EC {F':Nat→Prop} {b ver m:Nat} {lo hi:Int} {t:TypeId} {es:List (List C)} {v:Value} (hy:bx b=some (.arr ver t es m)) (hR:ic T F' w bx θ b (.arr ver t es 0)) (hx:aj T F w bx θ (.vw b ver lo hi) v) (hg:∀g,bA (θ b)=some g→F' g):
  bX T F' w (.sl t) (.l ((es.take hi.toNat).drop lo.toNat)) v:=by
 obtain ⟨_,d,A',c',hd',h0,hlh,hhi,rfl,hcc,hblk,_⟩:=qH hx hy (Nat.beq_refl _)
 have hsl:=u9 h0 hlh hhi
 rcases Int.lt_or_eq_of_le hlh with hlt|rfl
 ·obtain ⟨g,og,e2,rfl⟩:=hblk hlt
  obtain ⟨A,cap,us,hth,hul,hrw,hA⟩:=jd hR hd'
  rw[←hsl]
  have hp:=hrw.part lo.toNat hi.toNat
  refine .sl t d _ g (og+lo.toNat*d.cts.length) c' (fun i j=>((us.take (hi.toNat*d.cts.length)).drop (lo.toNat*d.cts.length)).getD (i*d.cts.length+j) undef) hd' (hg g (by rw[e2];rfl)) (by omega) hp.len (fun i c j x a1 a2=>?_) (fun i c j x ct a1 a2 a3=>?_)
  ·rcases hA with ⟨rfl,rfl,rfl⟩|⟨g',o',cs,rfl,h1,h2,h3,rfl⟩
   ·simp at hhi;omega
   ·rw[hth] at e2
    simp only[Value.slice.injEq,Option.some.injEq,Addr.mk.injEq,true_and] at e2
    obtain ⟨⟨rfl,rfl,_⟩,_⟩:=e2
    have hi':i<(hi-lo).toNat:=by rw[←hsl];exact (List.getElem?_eq_some_iff.1 a1).1
    have hj:j<d.cts.length:=by rw[←hp.len i c a1];exact (List.getElem?_eq_some_iff.1 a2).1
    have q1:lo.toNat*d.cts.length+(i*d.cts.length+j)<hi.toNat*d.cts.length:=by
     have:=je (show lo.toNat+i<hi.toNat by omega) hj
     rw[Nat.add_mul] at this;omega
    have q2:hi.toNat*d.cts.length≤es.length*d.cts.length:=Nat.mul_le_mul_right _ (by omega)
    have q3:es.length*d.cts.length≤cap*d.cts.length:=Nat.mul_le_mul_right _ h3.1
    have q4:o'+(lo.toNat*d.cts.length+(i*d.cts.length+j))<cs.size:=by omega
    simp only[List.getD_eq_getElem?_getD,List.getElem?_drop,List.getElem?_take]
    rw[if_pos q1,if_pos (by omega),Nat.add_assoc]
    simp[World.cell?,h1,q4]
  ·clear hA
   have hi':i<(hi-lo).toNat:=by rw[←hsl];exact (List.getElem?_eq_some_iff.1 a1).1
   have hj:j<d.cts.length:=(List.getElem?_eq_some_iff.1 a3).1
   have q1:lo.toNat*d.cts.length+(i*d.cts.length+j)<hi.toNat*d.cts.length:=by
    have:=je (show lo.toNat+i<hi.toNat by omega) hj
    rw[Nat.add_mul] at this;omega
   have q2:hi.toNat*d.cts.length≤es.length*d.cts.length:=Nat.mul_le_mul_right _ (by omega)
   have hlen:i*d.cts.length+j<((us.take (hi.toNat*d.cts.length)).drop (lo.toNat*d.cts.length)).length:=by
    rw[List.length_drop,List.length_take,hul];omega
   refine hp.rel i c j x ct _ a1 a2 a3 ?_
   rw[List.getD_eq_getElem?_getD,List.getElem?_eq_getElem hlen];rfl
 ·have:((es.take lo.toNat).drop lo.toNat)=[]:=by simp
  rw[this]
  have:(lo-lo).toNat=0:=by omega
  rw[this]
  exact .sl0 _ _ _
theorem sK:∀ {f:List Nat},xw bs f=true→∀c,c∈f→cJ bs c=true
 |b::r,h,c,hc=>by
  simp only[xw,aq,Bool.and_eq_true] at h
  rcases List.mem_cons.1 hc with rfl|hc
  ·exact h.1
  ·exact sK h.2 c hc
theorem G3 {m:Nat} (h:dA (Nat.beq m 3)=true):m≠3:=by
 rintro rfl
 simp[dA] at h
theorem Fh (hw:WR T fr F w bx θ) {b v m:Nat} {t:TypeId} {es:List (List C)} (hm:cJ bs b=true) (hb:bx b=some (.arr v t es m)) (hm3:m≠3):ic T (FzF T F w bx θ bs) w bx θ b (.arr v t es 0):=by
 by_cases h2:2≤m
 ·have h0:m≠0:=by omega
  exact ic.EM (m':=0) (hw.box b _ hb) ((hw.lin b _ hb h0).1 hm3) (by decide) (fun _ k hk=>.inr ⟨b,_,(cA _ _).1 hm,hb,.inr ⟨h0,hk⟩⟩) rfl
 ·obtain ⟨d,A,cap,q1,q2,q3,q4⟩:=kV hw hb h2
  refine ⟨d,A,cap,q1,q2,q3,q4.imp id ?_⟩
  rintro ⟨g,o,cs,g1,g2,g3,g4,g5⟩
  exact ⟨g,o,cs,g1,g2,g3,g4,fun i c j x ct v a1 a2 a3 a4=>CR.mv (m:=0) (g5 i c j x ct v a1 a2 a3 a4) (fun _ h=>.inl h) (fun _ _=>rfl) fun _ _ _=>rfl⟩
theorem Ca (hw:WR T fr F w bx θ) {x:V} {v:Value} (h:aj T F w bx θ x v):aj T (FzF T F w bx θ bs) w (uP T bx bs) θ (x.frz T bx bs) v:=by
 have hin:∀ {b:Nat} {y:Box},cJ bs b=true→bx b=some y→y.live=true→∀g,bA (θ b)=some g→FzF T F w bx θ bs g:=fun hb hy hl g hg=>.inr ⟨_,_,(cA _ _).1 hb,hy,.inl ⟨hl,hg⟩⟩
 induction h with
 |un v=>exact .un v
 |ud=>exact .ud
 |c t x v hr=>exact .c t x v (hr.mv (fun _ h=>.inl h) fun _ _=>rfl)
 |nl=>exact .nl
 |np=>exact .np
 |ow b ver v y hb hv hs hh=>
  show aj T _ w _ θ (sif (cJ bs b) (match bx b with
   |some (.arr v t es m)=>sif (aA (Nat.beq v ver) (dA (Nat.beq m 3))) (.c (.sl t) (.l es)) .un
   |_=>.un) (.ow b ver)) v
  cases hm:cJ bs b with
  |true=>
   rw[af,hb]
   cases y with
   |arr v' t es md=>
    simp only
    cases hc:aA (Nat.beq v' ver) (dA (Nat.beq md 3)) with
    |false=>exact .un _
    |true=>
     rw[af]
     rw[aq,Bool.and_eq_true] at hc
     obtain ⟨_,rfl⟩:=jb (T:=T) (F:=F) (w:=w) (.ow b ver v _ hb hv hs hh) hb hc.1
     exact .c _ _ _ (mZ (Fh hw hm hb (G3 hc.2)) (fun _ h=>h) (hin hm hb rfl))
   |_=>exact .un _
  |false=>
   rw[aR]
   refine .ow b ver v _ (lj hb hm) (by rw[hY];exact hv) hs fun e=>?_
   rw[hY] at e
   obtain ⟨t,es,md,rfl,hvv⟩:=hh e
   exact ⟨t,es,md,rfl,hvv⟩
 |vw b ver lo hi v y hb hv hs hh=>
  show aj T _ w _ θ (sif (cJ bs b) (match bx b with
   |some (.arr v t es m)=>sif (aA (Nat.beq v ver) (dA (Nat.beq m 3))) (.c (.sl t) (.l ((es.take hi.toNat).drop lo.toNat))) .un
   |_=>.un) (.vw b ver lo hi)) v
  cases hm:cJ bs b with
  |true=>
   rw[af,hb]
   cases y with
   |arr v' t es md=>
    simp only
    cases hc:aA (Nat.beq v' ver) (dA (Nat.beq md 3)) with
    |false=>exact .un _
    |true=>
     rw[af]
     rw[aq,Bool.and_eq_true] at hc
     have:=Nat.eq_of_beq_eq_true hc.1;subst this
     exact .c _ _ _ (EC (F:=F) hb (Fh hw hm hb (G3 hc.2)) (.vw b v' lo hi v _ hb hv hs hh) (hin hm hb rfl))
   |_=>exact .un _
  |false=>
   rw[aR]
   refine .vw b ver lo hi v _ (lj hb hm) (by rw[hY];exact hv) hs fun e=>?_
   rw[hY] at e
   obtain ⟨t,es,md,d,A,c,rfl,hrest⟩:=hh e
   exact ⟨t,es,md,d,A,c,rfl,hrest⟩
 |rf b ver ix off e v y hb hv hs hh=>
  show aj T _ w _ θ (sif (cJ bs b) .un (.rf b ver ix off e)) v
  cases hm:cJ bs b with
  |true=>rw[af];exact .un _
  |false=>
   rw[aR]
   refine .rf b ver ix off e v _ (lj hb hm) (by rw[hY];exact hv) hs fun e1 e2=>?_
   rw[hY] at e1
   obtain ⟨t,es,d,g,o,cap,rfl,hrest⟩:=hh e1 (by cases y<;>first|exact e2|simp[Box.m,Box.frz] at e2)
   exact ⟨t,es,d,g,o,cap,rfl,hrest⟩
 |mp b ver v y hb hv hs hh=>
  show aj T _ w _ θ (sif (cJ bs b) .un (.mp b ver)) v
  cases hm:cJ bs b with
  |true=>rw[af];exact .un _
  |false=>
   rw[aR]
   refine .mp b ver v _ (lj hb hm) (by rw[hY];exact hv) hs fun e=>?_
   rw[hY] at e
   obtain ⟨t,es,rfl,hvv⟩:=hh e
   exact ⟨t,es,rfl,hvv⟩
 |pt b ver off v y hb hv hs hh=>
  show aj T _ w _ θ (sif (cJ bs b) (match bx b with
   |some (.var v t cells)=>sif (Nat.beq v ver) (match aV T t with
    |some d=>match iV bx d.cts cells with
     |some (cs,f)=>sif (xw bs f) (match (generalizing:=false) off with|0=>.c (.pt t) (.p cs)|off=>.fa d.cts cs off) .un
     |none=>.un
    |none=>.un) .un
   |_=>.un) (.pt b ver off)) v
  cases hm:cJ bs b with
  |true=>
   rw[af,hb]
   cases y with
   |var v' t cells=>
    simp only
    cases hc:Nat.beq v' ver with
    |false=>exact .un _
    |true=>
     rw[af]
     have:=Nat.eq_of_beq_eq_true hc;subst this
     cases htd:aV T t with
     |none=>exact .un _
     |some td=>
      simp only
      cases hcs:iV bx td.cts cells with
      |none=>exact .un _
      |some q=>
       obtain ⟨cs,f⟩:=q
       simp only
       cases hmf:xw bs f with
       |false=>exact .un _
       |true=>
        rw[af]
        obtain ⟨t2,cells2,g,e3,e4,rfl⟩:=hh rfl
        simp only[Box.var.injEq,true_and] at e3
        obtain ⟨rfl,rfl⟩:=e3
        obtain ⟨g',wcs,ee,d,k1,k2,k3,k4,k5,k6⟩:=hw.box b _ hb
        rw[e4] at k1
        simp only[Value.pointer.injEq,Option.some.injEq,Addr.mk.injEq,true_and] at k1
        obtain ⟨rfl,_⟩:=k1
        rw[htd] at k4
        obtain rfl:=Option.some.inj k4
        obtain ⟨l1,l2⟩:=tZ (T:=T) (F:=F) (F':=FzF T F w bx θ bs) (w:=w) (θ:=θ) hcs
        have l3:=l2 (fun _ h=>.inl h) (fun c hc v t es md hbc h3=>mZ (Fh hw (sK hmf c hc) hbc h3) (fun _ h=>h) (hin (sK hmf c hc) hbc rfl))
        have c1:∀(j:Nat) (c:C),cs[j]?=some c→w.cell? ⟨g,0+j,none⟩=some (wcs.getD j undef):=fun j c hj=>by
         have hj':j<wcs.size:=by rw[k3,k5,←l1];exact (List.getElem?_eq_some_iff.1 hj).1
         simp[World.cell?,k2,hj']
        have c2:∀(j:Nat) (c:C) (ct:CT),cs[j]?=some c→td.cts[j]?=some ct→bX T (FzF T F w bx θ bs) w ct c (wcs.getD j undef):=fun j c ct hj hct=>by
         obtain ⟨x,a1,a2⟩:=l3 j c ct hj hct
         have hj':j<wcs.size:=by rw[k3];exact (List.getElem?_eq_some_iff.1 a1).1
         refine a2 _ (k6 j x _ a1 ?_)
         simp[hj']
        cases off with
        |zero=>exact .c _ _ _ (.pt t td cs g 0 _ htd (hin hm hb rfl g (by rw[e4];rfl)) l1 c1 c2)
        |succ off=>
         have:=aj.fa (T:=T) (F:=FzF T F w bx θ bs) (w:=w) (bx:=uP T bx bs) (θ:=θ) td.cts cs (off+1) g 0 (fun j=>wcs.getD j undef) (hin hm hb rfl g (by rw[e4];rfl)) l1 c1 c2
         rwa [Nat.zero_add] at this
   |_=>exact .un _
  |false=>
   rw[aR]
   refine .pt b ver off v _ (lj hb hm) (by rw[hY];exact hv) hs fun e=>?_
   rw[hY] at e
   obtain ⟨t,cells,g,rfl,h1,h2⟩:=hh e
   exact ⟨t,_,g,rfl,h1,h2⟩
 |pe b ver ix off nb v y hb hv hs hh=>
  show aj T _ w _ θ (sif (cJ bs b) (match bx b with
   |some (.arr v t es m)=>sif (aA (aA (Nat.beq v ver) (dA (Nat.beq m 3))) (dA nb)) (match aV T t with|some d=>.fa d.cts (es.getD ix.toNat []) off|none=>.un) .un
   |_=>.un) (.pe b ver ix off nb)) v
  cases hm:cJ bs b with
  |true=>
   rw[af,hb]
   cases y with
   |arr v' t es md=>
    simp only
    cases hc:aA (aA (Nat.beq v' ver) (dA (Nat.beq md 3))) (dA nb) with
    |false=>exact .un _
    |true=>
     rw[af]
     rw[aq,aq,Bool.and_eq_true,Bool.and_eq_true] at hc
     have hm3:=G3 hc.1.2
     simp only[cF,Bool.and_eq_true,Bool.not_eq_true'] at hc
     obtain ⟨rfl,d,hd,hp⟩:=qx (F:=F) (w:=w) (.pe b ver ix off nb v _ hb hv hs hh) hb hc.1.1
     rw[hd]
     simp only
     rcases hp with ⟨h1,_⟩|⟨h0,hlt,g,og,cap,h2,rfl⟩
     ·rw[hc.2] at h1;simp at h1
     ·obtain ⟨A,cap',us,hth,hul,hrw,hA⟩:=jd (Fh (bs:=bs) hw hm hb hm3) hd
      have hn:ix.toNat<es.length:=by omega
      have hnn:es[ix.toNat]?=some es[ix.toNat]:=List.getElem?_eq_getElem hn
      have hgd:es.getD ix.toNat []=es[ix.toNat]:=by rw[List.getD_eq_getElem?_getD,hnn];rfl
      have hrl:=hrw.len _ _ hnn
      rw[hgd]
      rcases hA with ⟨rfl,rfl,rfl⟩|⟨g',o',cs,rfl,q1,q2,q3,rfl⟩
      ·simp at hn
      ·rw[hth] at h2
       simp only[Value.slice.injEq,Option.some.injEq,Addr.mk.injEq,true_and] at h2
       obtain ⟨⟨rfl,rfl,_⟩,_⟩:=h2
       have hlt':∀j,j<d.cts.length→ix.toNat*d.cts.length+j<es.length*d.cts.length:=fun j hj=>je hn hj
       have q4:o'+es.length*d.cts.length≤cs.size:=by rw[q2];exact Nat.add_le_add_left (Nat.mul_le_mul_right _ q3.1) o'
       rw[←Nat.add_assoc]
       refine .fa d.cts es[ix.toNat] off g' (o'+ix.toNat*d.cts.length) (fun j=>cs.getD (o'+(ix.toNat*d.cts.length+j)) undef) (hin hm hb rfl g' (by rw[hth];rfl)) hrl (fun j c hc=>?_) (fun j c t' hc ht=>?_)
       ·have hj:j<d.cts.length:=by rw[←hrl];exact (List.getElem?_eq_some_iff.1 hc).1
        have:=hlt' j hj
        simp[World.cell?,q1,Array.getD,Nat.add_assoc,show o'+(ix.toNat*d.cts.length+j)<cs.size by omega]
       ·have hj:j<d.cts.length:=(List.getElem?_eq_some_iff.1 ht).1
        have:=hlt' j hj
        refine hrw.rel _ _ j c t' _ hnn hc ht ?_
        rw[List.getElem?_take_of_lt this,List.getElem?_drop]
        simp[Array.getD,show o'+(ix.toNat*d.cts.length+j)<cs.size by omega]
   |_=>exact .un _
  |false=>
   rw[aR]
   refine .pe b ver ix off nb v _ (lj hb hm) (by rw[hY];exact hv) hs fun e=>?_
   rw[hY] at e
   obtain ⟨t,es,md,d,rfl,hrest⟩:=hh e
   exact ⟨t,es,md,d,rfl,hrest⟩
 |fa cts cs off g o cv hF hlen hc hr=>exact .fa cts cs off g o cv (.inl hF) hlen hc fun j c t h1 h2=>(hr j c t h1 h2).mv (fun _ h=>.inl h) fun _ _=>rfl
 |ag l o vs hl ho h ih=>
  refine .ag _ _ vs (by rw[mE];exact hl) (fun x hx=>by
   obtain ⟨cs,e1,e2,e3⟩:=ho x hx
   refine ⟨cs,e1,by rw[mE];exact e2,fun i v hv=>?_⟩
   rw[mD] at hv
   obtain ⟨z,hz,rfl⟩:=Option.map_eq_some_iff.1 hv
   obtain ⟨t,rfl⟩:=e3 i z hz
   exact ⟨t,rfl⟩) fun i x v h1 h2=>?_
  rw[mD] at h1
  obtain ⟨y,hy,rfl⟩:=Option.map_eq_some_iff.1 h1
  exact ih i y v hy h2
 |tu l vs hl h ih=>
  refine .tu _ vs (by rw[mE];exact hl) fun i x v h1 h2=>?_
  rw[mD] at h1
  obtain ⟨y,hy,rfl⟩:=Option.map_eq_some_iff.1 h1
  exact ih i y v hy h2
 |fn f l vs hl h ih=>
  refine .fn f _ vs (by rw[mE];exact hl) fun i x v h1 h2=>?_
  rw[mD] at h1
  obtain ⟨y,hy,rfl⟩:=Option.map_eq_some_iff.1 h1
  exact ih i y v hy h2
theorem Hf {n:Nat} {σ:St} {a:Act} (bs:List Nat) (h:Sim T fr n σ a w):Sim T fr n (σ.frz T bs) a w:=by
 obtain ⟨F,θ,hw,hs⟩:=h
 have hb:(σ.frz T bs).bx=uP T σ.bx bs:=rfl
 have hget:∀b y,uP T σ.bx bs b=some y→∃x,σ.bx b=some x∧((cJ bs b=true∧y=.dead (x.ver+1))∨(cJ bs b=false∧y=x.frz T σ.bx bs)):=by
  intro b y hy
  unfold uP at hy
  cases hx:σ.bx b with
  |none=>rw[hx] at hy;simp at hy
  |some x=>
   rw[hx] at hy
   simp only[Option.some.injEq] at hy
   cases hm:cJ bs b with
   |true=>rw[hm,af] at hy;exact ⟨x,rfl,.inl ⟨rfl,hy.symm⟩⟩
   |false=>rw[hm,aR] at hy;exact ⟨x,rfl,.inr ⟨rfl,hy.symm⟩⟩
 have hlive:∀b y,uP T σ.bx bs b=some y→y.live=true→∃x,σ.bx b=some x∧x.live=true∧cJ bs b=false:=by
  intro b y hy hl
  obtain ⟨x,hx,⟨hm,rfl⟩|⟨hm,rfl⟩⟩:=hget b y hy
  ·simp[Box.live] at hl
  ·exact ⟨x,hx,by cases x<;>simp_all [Box.live,Box.frz],hm⟩
 have hnst:∀b y k,uP T σ.bx bs b=some y→y.nst T w (θ b) k→∃x,σ.bx b=some x∧cJ bs b=false∧x.nst T w (θ b) k∧y.m=x.m:=by
  intro b y k hy hk
  obtain ⟨x,hx,⟨hm,rfl⟩|⟨hm,rfl⟩⟩:=hget b y hy
  ·exact hk.elim
  ·refine ⟨x,hx,hm,?_⟩
   cases x with
   |arr v t es m=>exact ⟨hk,rfl⟩
   |_=>exact hk.elim
 refine ⟨FzF T F w σ.bx θ bs,θ,⟨?_,?_,?_,Bx hw,hw.keep,fun k hk=>.inl (hw.sub k hk),BI hw,?_,fun b y hy=>?_,fun b y k hy hk=>?_,fun b b' y y' k hy hy' hk hk'=>?_,fun k hk=>.inl (hw.nlF k hk)⟩,⟨fun k=>?_,hs.n,hs.defers⟩⟩
 ·intro b y hy
  obtain ⟨x,hx,⟨hm,rfl⟩|⟨hm,rfl⟩⟩:=hget b y hy
  ·trivial
  ·have hbx:=hw.box b x hx
   cases x with
   |var ver t cells=>
    obtain ⟨g,cs,e,d,q1,q2,q3,q4,q5,q6⟩:=hbx
    refine ⟨g,cs,e,d,q1,q2,by rw[mE];exact q3,q4,by rw[mE];exact q5,fun i z v h1 h2=>?_⟩
    rw[mD] at h1
    obtain ⟨u,hu,rfl⟩:=Option.map_eq_some_iff.1 h1
    exact Ca hw (q6 i u v hu h2)
   |arr ver t es md=>
    obtain ⟨d,A,cap,q1,q2,q3,q4⟩:=hbx
    refine ⟨d,A,cap,q1,q2,q3,q4.imp id ?_⟩
    rintro ⟨g,o,cs,g1,g2,g3,g4,g5⟩
    exact ⟨g,o,cs,g1,g2,g3,g4,fun i c j x ct v a1 a2 a3 a4=>CR.mv (m:=md) (g5 i c j x ct v a1 a2 a3 a4) (fun _ h=>.inl h) (fun _ _=>rfl) fun _ _ _=>rfl⟩
   |mp ver t es=>exact hbx
   |dead v=>trivial
 ·intro b b' y y' g hy hy' hl hl' hg hg'
  obtain ⟨x,h1,h2,_⟩:=hlive b y hy hl
  obtain ⟨x',h1',h2',_⟩:=hlive b' y' hy' hl'
  exact hw.disj b b' x x' g h1 h1' h2 h2' hg hg'
 ·intro b y g hy hl hg
  obtain ⟨x,h1,h2,h3⟩:=hlive b y hy hl
  obtain ⟨q1,q2⟩:=hw.out b x g h1 h2 hg
  refine ⟨?_,q2⟩
  rintro (h|⟨c,z,c1,c2,⟨c3,c4⟩|c3⟩)
  ·exact q1 h
  ·have:=hw.disj b c x z g h1 c2 h2 c3 hg c4
   subst this
   rw[(cA _ _).2 c1] at h3
   simp at h3
  ·exact (hw.own c z g c2 c3).2.2.2.2 b x h1 h2 hg
 ·intro n hn
  obtain ⟨x,h1,h2⟩:=hw.stay n hn
  cases hm:cJ bs n with
  |true=>exact ⟨_,EZ h1 hm,fun e=>by simp[Box.ver] at e⟩
  |false=>
   refine ⟨_,lj h1 hm,fun e=>?_⟩
   obtain ⟨p1,p2⟩:=h2 (by rw[hY] at e;exact e)
   exact ⟨p1,fun hm2=>p2 (by cases x<;>first|exact hm2|simp[Box.m,Box.frz] at hm2)⟩
 ·obtain ⟨x,hx,⟨hm,rfl⟩|⟨hm,rfl⟩⟩:=hget b y hy
  ·trivial
  ·have:=hw.lin b x hx
   cases x<;>first|exact this|trivial
 ·obtain ⟨x,h1,h2,h3,h4⟩:=hnst b y k hy hk
  obtain ⟨o1,o2,o3,o4,o5⟩:=hw.own b x k h1 h3
  rw[h4]
  refine ⟨o1,fun hm=>?_,fun hm=>.inl (o3 hm),o4,fun b' y' hy' hl' hg'=>?_⟩
  ·rintro (h|⟨c,z,c1,c2,⟨c3,c4⟩|c3⟩)
   ·exact o2 hm h
   ·exact o5 c z c2 c3 c4
   ·have:=hw.odj b c x z k h1 c2 h3 c3
    subst this
    rw[(cA _ _).2 c1] at h2
    simp at h2
  ·obtain ⟨x',q1,q2,_⟩:=hlive b' y' hy' hl'
   exact o5 b' x' q1 q2 hg'
 ·obtain ⟨x,h1,_,h3,_⟩:=hnst b y k hy hk
  obtain ⟨x',h1',_,h3',_⟩:=hnst b' y' k hy' hk'
  exact hw.odj b b' x x' k h1 h1' h3 h3'
 ·exact Ca hw (hs.sl k)
theorem zE {n:Nat} {σ:St} {a:Act} {d b v md:Nat} {lo hi:Int} {t:TypeId} {es:List (List C)} (hsl:σ.sl d=.vw b v lo hi) (hbx:σ.bx b=some (.arr v t es md)) (hmd:¬2≤md) (hlo:lo=0∨lo<hi) (h:Sim T fr n σ a w):
  Sim T fr n ⟨upd σ.sl d (.ow b (v+1)),upd σ.bx b (some (.arr (v+1) t ((es.take hi.toNat).drop lo.toNat) (mT T t)))⟩ a w:=by
 obtain ⟨F,θ,hw,hs⟩:=h
 have hx:=hs.sl d
 rw[hsl] at hx
 obtain ⟨dd,_,_,hdd,_⟩:=hw.box b _ hbx
 have hmT:mT T t=mF dd:=by simp[mT,hdd]
 obtain ⟨hput,hva⟩:=y6 (md:=mT T t) hx hbx hmd hdd (by rw[hmT];exact vM dd) hlo hw
 refine ⟨F,_,hput.1,⟨fun k=>?_,hs.n,hs.defers⟩⟩
 by_cases hk:k=d
 ·subst hk
  show aj T F w (upd σ.bx b _) _ (upd σ.sl k _ k) _
  rw[ar]
  exact .ow b (v+1) _ _ (ar _ _ _) (Nat.le_refl _) hva fun _=>⟨t,_,_,rfl,(ar _ _ _).symm⟩
 ·show aj T F w (upd σ.bx b _) _ (upd σ.sl d _ k) _
  rw[aP _ _ hk]
  exact (hs.sl k).mv hput.2
theorem xe {n:Nat} {σ:St} {a:Act} {m i b v vw md:Nat} {lo hi:Int} {t tw:TypeId} {es:List (List C)} {cells:List V} (hm:σ.bx m=some (.var vw tw cells)) (hci:cells[i]?=some (.vw b v lo hi)) (hbx:σ.bx b=some (.arr v t es md)) (hmd:¬2≤md) (hlo:lo=0∨lo<hi) (h:Sim T fr n σ a w):
  Sim T fr n ⟨σ.sl,upd (upd σ.bx b (some (.arr (v+1) t ((es.take hi.toNat).drop lo.toNat) (mT T t)))) m (some (.var vw tw (cells.set i (.ow b (v+1)))))⟩ a w:=by
 obtain ⟨F,θ,hw,hs⟩:=h
 have hmb:m≠b:=by rintro rfl;rw[hm] at hbx;simp at hbx
 obtain ⟨g,cs,e,dt,q1,q2,q3,q4,q5,q6⟩:=hw.box m _ hm
 have hil:i<cells.length:=(List.getElem?_eq_some_iff.1 hci).1
 have hcs:cs[i]?=some (cs[i]'(by omega)):=Array.getElem?_eq_getElem (by omega)
 have hx:=q6 i _ _ hci hcs
 obtain ⟨dd,_,_,hdd,_⟩:=hw.box b _ hbx
 have hmT:mT T t=mF dd:=by simp[mT,hdd]
 obtain ⟨hput,hva⟩:=y6 (md:=mT T t) hx hbx hmd hdd (by rw[hmT];exact vM dd) hlo hw
 have hm':(upd σ.bx b (some (.arr (v+1) t ((es.take hi.toNat).drop lo.toNat) (mT T t)))) m=some (.var vw tw cells):=by rw[aP _ _ hmb];exact hm
 have hthm:(upd θ b (cs[i]'(by omega))) m=θ m:=aP _ _ hmb
 have hput2:=hput.1.put m (.var vw tw (cells.set i (.ow b (v+1)))) (θ m) w (fun z hz=>by
   rw[hm'] at hz;obtain rfl:=Option.some.inj hz
   exact .inr ⟨rfl,by simp[Box.same],hthm.symm,fun h=>by simp[Box.m] at h⟩) (fun q hq=>.inl rfl) (Nat.le_refl _) rfl rfl ⟨rfl,Nat.le_refl _⟩
  (fun q hq=>.inr ⟨_,hm',rfl,by rw[hthm];exact hq⟩) (fun _ h=>h) trivial (fun mv=>by
   refine ⟨g,cs,e,dt,by rw[ar];exact q1,q2,by rw[List.length_set];exact q3,q4,by rw[List.length_set];exact q5,fun k x u hk hu=>?_⟩
   rw[List.getElem?_set] at hk
   split at hk
   ·rename_i e
    subst e
    obtain rfl:=Option.some.inj hk
    rw[hcs] at hu
    obtain rfl:=Option.some.inj hu
    exact (aj.ow b (v+1) _ _ (ar _ _ _) (Nat.le_refl _) hva fun _=>⟨t,_,_,rfl,(ar _ _ _).symm⟩).mv mv
   ·exact ((q6 k x u hk hu).mv hput.2).mv mv)
 exact ⟨F,_,hput2.1,⟨fun k=>((hs.sl k).mv hput.2).mv hput2.2,hs.n,hs.defers⟩⟩
theorem FI {n:Nat} {σ:St} {a:Act} (m i:Nat) (hc:σ.uX m i=true) (h:Sim T fr n σ a w):Sim T fr n (σ.DY T m i) a w:=by
 unfold St.DY
 unfold St.uX at hc
 split
 ·rename_i vw tw cells hm
  rw[hm] at hc
  simp only at hc
  split
  ·rename_i b ver lo hi hci
   rw[hci] at hc
   simp only at hc
   rw[lU] at hci
   split
   ·rename_i v t es md hbx
    cases hv:aA (Nat.beq v ver) (Nat.blt md 2) with
    |false=>exact h
    |true=>
     have hv':=hv
     rw[aq,Bool.and_eq_true] at hv'
     have hmd:=jQ hv'.2
     have e:=Nat.eq_of_beq_eq_true hv'.1
     subst e
     rw[af]
     split
     ·have:=xe hm hci hbx hmd (.inl rfl) h
      simpa [ua] using this
     ·rename_i hne
      have:=xe hm hci hbx hmd (by
       split at hc
       ·exact (hne rfl).elim
       ·exact .inr (by simpa using hc)) h
      simpa [ua] using this
   ·exact h
  ·exact h
 ·exact h
theorem Hl {n:Nat} {σ:St} {a:Act} (d:Nat) (hc:σ.zq d=true) (h:Sim T fr n σ a w):Sim T fr n (σ.cut T d) a w:=by
 unfold St.cut
 unfold St.zq at hc
 split
 ·rename_i b ver lo hi hsl
  rw[hsl] at hc
  simp only at hc
  split
  ·rename_i v t es md hbx
   cases hv:aA (Nat.beq v ver) (Nat.blt md 2) with
   |false=>exact h
   |true=>
    have hv':=hv
    rw[aq,Bool.and_eq_true] at hv'
    have hmd:=jQ hv'.2
    have e:=Nat.eq_of_beq_eq_true hv'.1
    subst e
    rw[af]
    split
    ·have:=zE hsl hbx hmd (.inl rfl) h
     simpa using this
    ·rename_i hne
     refine zE hsl hbx hmd ?_ h
     split at hc
     ·exact (hne rfl).elim
     ·exact .inr (by simpa using hc)
  ·exact h
 ·exact h
end
end Go.Ev
namespace Go.Ev
section
variable {P:Program} {X:Cx} {fr:Fr}
theorem D8 {T:Tys} {n:Nat} {σ:St} {a:Act} {w w':World} (h:Sim T fr n σ a w) (hh:w'.heap=w.heap) (hos:w'.os=w.os) (htp:w'.tape=w.tape) (hou:w'.output=w.output∧w.drawn≤w'.drawn):Sim T fr n σ a w':=by
 obtain ⟨F,θ,hw,hs⟩:=h
 have m:Mv F w σ.bx θ F w' σ.bx θ:=⟨fun _ h=>h,fun k _=>by rw[hh],fun b x hx=>⟨x,hx,Nat.le_refl _,fun _=>⟨x.jF,rfl,fun h=>⟨h,fun g o n cap e p A l c hc=>(fv (show w'.heap[g]?=w.heap[g]? by rw[hh]) p).trans hc⟩⟩⟩⟩
 have hb:∀(b:Nat) (x:Box) (k:Nat),x.nst T w' (θ b) k→x.nst T w (θ b) k:=fun b x k hk=>ym hk (fun g _=>by rw[hh]) fun k _=>by rw[hh]
 refine ⟨F,θ,⟨fun b x hx=>(hw.box b x hx).mv m rfl (fun g _=>by rw[hh]) fun k _=>by rw[hh],hw.disj,fun b x g h1 h2 h3=>by rw[hh];exact hw.out b x g h1 h2 h3,fun k hk=>by rw[hh];exact hw.lt k hk,
  hw.keep.next hos htp hou (by rw[hh];exact Nat.le_refl _) fun k _ _=>by rw[hh],hw.sub,hw.new,pM hw.stay m,fun b x hx=>yq (hw.lin b x hx) (fun g _=>by rw[hh]) fun k _=>by rw[hh],fun b x k hx hk=>by rw[hh];exact hw.own b x k hx (hb b x k hk),
  fun b b' x x' k hx hx' hk hk'=>hw.odj b b' x x' k hx hx' (hb b x k hk) (hb b' x' k hk'),hw.nlF⟩,⟨fun k=>(hs.sl k).mv m,hs.n,hs.defers⟩⟩
theorem CD (hX:Env P X) {id:Nat} {ops:Array Oper} {draw:Bool} {κ:St→R} {σ:St} {r:Out} {a:Act} {w:World} {Q:Exit→Act→World→Prop}
  (h:sif (orS (dA draw) (mX ops.toList 0)) (jL X draw ops.toList (sif draw (anc ops.toList []) []) κ ops.toList [] σ) none=some r) (hs:Sim X.T fr X.n σ a w)
  (hκ:∀σ' a' w',κ σ'=some r→Sim X.T fr X.n σ' a' w'→Q .normal a' w'):(Code.region id ops draw).wp P Q a w:=by
 cases hB:orS (dA draw) (mX ops.toList 0) with
 |false=>rw[hB,aR] at h;simp at h
 |true=>
  rw[hB,af] at h
  obtain ⟨⟨L,σ',c1,c2,c3,c4⟩⟩:=rF ops.toList [] σ (fun i o ho=>by simpa using ho) (fun j q d x hj=>by simp at hj) h
  simp only[List.length_nil] at c3
  have hget:∀(p i:Nat) (o:Oper) (g:Lg),L[p]?=some (i,o,g)→i=p∧ops.toList[p]?=some o:=by
   intro p i o g hp
   have h1:(L.map fun p=>(p.1,p.2.1))[p]?=some (i,o):=by simp[hp]
   rw[c3] at h1
   simp only[List.getElem?_map,Option.map_eq_some_iff] at h1
   obtain ⟨⟨o',i'⟩,h2,h3⟩:=h1
   simp only[Prod.mk.injEq] at h3
   obtain ⟨rfl,rfl⟩:=h3
   rw[List.getElem?_zipIdx] at h2
   obtain ⟨z,hz,he⟩:=Option.map_eq_some_iff.1 h2
   simp only[Prod.mk.injEq] at he
   obtain ⟨rfl,rfl⟩:=he
   exact ⟨by omega,hz⟩
  have hlen:L.length=ops.size:=by
   have:=congrArg List.length c3
   simpa using this
  have hmem:∀i o g,(i,o,g)∈L→ops.toList[i]?=some o:=by
   intro i o g hm
   obtain ⟨p,hp,he⟩:=List.mem_iff_getElem.1 hm
   obtain ⟨rfl,h2⟩:=hget p i o g (by rw[List.getElem?_eq_getElem hp,he])
   exact h2
  cases draw with
  |false=>
   refine wp_region ?_
   have:=zF hX (Q:=Q) L σ a w c1 hmem hs fun a' w' hs'=>hκ σ' a' w' c2 hs'
   have e:L.map (·.1)=List.range ops.size:=by
    refine List.ext_getElem? fun p=>?_
    rw[List.getElem?_map]
    rcases Nat.lt_or_ge p L.length with hp|hp
    ·have hp':=List.getElem?_eq_getElem hp
     obtain ⟨h1,h2⟩:=hget p _ _ _ hp'
     rw[hp',List.getElem?_range (by omega)]
     exact congrArg some h1
    ·rw[List.getElem?_eq_none hp,List.getElem?_eq_none (by simp;omega)];rfl
   rw[e] at this
   simpa using this
  |true=>
   refine wp_region_any hX.mixed ?_
   have hB':mX ops.toList 0=true:=by simpa [jw,cF] using hB
   have hs':Sim X.T fr X.n σ a {w with drawn:=w.drawn+1}:=D8 hs rfl rfl rfl ⟨rfl,Nat.le_succ _⟩
   have hI:Inv ops.toList (Array.replicate ops.size false) L:=by
    refine ⟨by simp,fun i o g hm=>⟨hmem i o g hm,?_⟩,fun i hi _=>?_,?_,?_,fun i o hl=>?_⟩
    ·have:=(List.getElem?_eq_some_iff.1 (hmem i o g hm)).1
     simp at this
     simp[Array.getD,this]
    ·have hi':i<L.length:=by rw[hlen];simpa using hi
     have hp':=List.getElem?_eq_getElem hi'
     obtain ⟨h1,h2⟩:=hget i _ _ _ hp'
     refine ⟨L[i].2.1,L[i].2.2,?_⟩
     have hm:=List.getElem_mem hi'
     have e:L[i]=(i,L[i].2.1,L[i].2.2):=Prod.ext h1 rfl
     rw[e] at hm
     exact hm
    ·refine List.pairwise_iff_getElem.2 fun p q hp hq hpq=>?_
     have h1:L[p].1=p:=(hget p _ _ _ (List.getElem?_eq_getElem hp)).1
     have h2:L[q].1=q:=(hget q _ _ _ (List.getElem?_eq_getElem hq)).1
     omega
    ·refine List.pairwise_iff_getElem.2 fun p q hp hq hpq=>?_
     have h1:L[p].1=p:=(hget p _ _ _ (List.getElem?_eq_getElem hp)).1
     have h2:=c4 rfl q L[q].1 L[q].2.1 L[q].2.2 (List.getElem?_eq_getElem hq) p L[p].2.1 L[p].2.2 (by simp[hp]) (by simpa using hpq)
     rw[h1]
     exact h2
    ·by_cases hi:i<ops.size
     ·simp[Array.getD,hi] at hl
     ·simp[Array.getD,hi] at hl
   have:=Hg hX (Q:=Q) hB' (fun a' w' hs''=>hκ σ' a' w' c2 hs'') ops.size _ L σ a _ hI (by omega) c1 hs'
   simpa using this
def w6 (id:Nat):Exit:=if id≤999999 then .exit id else .goto (id-1000000)
theorem An {id:Nat} (h:id≤999999):w6 id=.exit id:=if_pos h
theorem sk (l:Nat):w6 (Nat.add 1000000 l)=.goto l:=by
 rw[Nat.add_eq]
 unfold w6
 rw[if_neg (by omega),Nat.add_sub_cancel_left]
theorem Cm {K:Act→World→Prop} {Q:Exit→Act→World→Prop} {id:Nat} {a:Act} {w:World} (h:Q (w6 id) a w):Exit.then K Q (w6 id) a w:=by
 unfold w6 at h⊢
 by_cases hl:id≤999999
 ·rw[if_pos hl] at h⊢;exact h
 ·rw[if_neg hl] at h⊢;exact h
def Snd (P:Program) (X:Cx) (fr:Fr) (J:Jn) (c:Code) (m:Ann→(St→R)→St→R):Prop:=
 ∀(n:Ann) (κ:St→R) (σ:St) (r:Out) (Q:Exit→Act→World→Prop) (a:Act) (w:World),m n κ σ=some r→Sim X.T fr X.n σ a w→
  (∀σ' a' w',κ σ'=some r→Sim X.T fr X.n σ' a' w'→Q .normal a' w')→
  (∀id t xs a' w',oK J id=some t→r=.brk id xs→Sim X.T fr X.n (t.inj xs) a' w'→Q (w6 id) a' w')→
  (∀σ' a' w',oL X σ'=some r→Sim X.T fr X.n σ' a' w'→Q .ret a' w')→c.wp P Q a w
theorem zA {β:Type} (xs:List C):∀(q:List (Nat×Sk)) (p:Nat) (f:ca) (k:ca→Nat→β),Er xs q p f k=k (cg nm0 xs q p f).1 (cg nm0 xs q p f).2
 |[],p,f,k=>rfl
 |(d,s)::r,p,f,k=>by
  show (s.inst nm0 xs p).1.force _=_
  rw[force_eq,zA xs r]
  rfl
theorem rZ {β:Type} (xs:List C):∀(q:List (Nat×BSk)) (p:Nat) (f:Bxs) (k:Bxs→β),uE xs q p f k=k (cd nm0 xs q p f)
 |[],p,f,k=>rfl
 |(b,.var t cells)::r,p,f,k=>by
  show V.oz _ _=_
  rw[kT,rZ xs r]
  rfl
 |(b,.arr t m)::r,p,f,k=>by
  show uE xs r _ _ k=_
  rw[rZ xs r]
  rfl
 |(b,.mp t)::r,p,f,k=>by
  show uE xs r _ _ k=_
  rw[rZ xs r]
  rfl
theorem pI {β:Type} (t:Tm) (xs:List C) (k:St→β):t.pg xs k=k (t.inj xs):=by
 unfold Tm.pg
 rw[zA,rZ]
 rfl
theorem jM {σ:St} {r:Out} (h:oL X σ=some r):∃ys,r=.ret ys:=by
 unfold oL at h
 split at h
 ·cases hc:aA (Be σ.bx X.ip) (lE X.inT.bx X.ip) with
  |false=>rw[hc,aR] at h;simp at h
  |true=>
   rw[hc,af] at h
   split at h
   ·rename_i e _
    cases hz:isNil e.fz with
    |false=>rw[hz,aR] at h;simp at h
    |true=>rw[hz,af] at h;exact ⟨_,(Option.some.inj h).symm⟩
   ·simp at h
 ·simp at h
theorem ij {J:Jn} {c:Code} {f:Ann→(St→R)→St→R} (hst:fr.st=X.ip) (hf:Snd P X fr J c f):Snd P X fr J c (wrap X f):=by
 intro n
 induction n with
 |frz bs x ih=>
  intro κ σ r Q a w h hs h1 h2 h3
  exact ih κ (σ.frz X.T bs) r Q a w h (Hf bs hs) h1 h2 h3
 |cut d x ih=>
  intro κ σ r Q a w h hs h1 h2 h3
  replace h:cond (σ.zq d) (wrap X f x κ (σ.cut X.T d)) none=some r:=h
  cases hc:σ.zq d with
  |false=>rw[hc] at h;simp at h
  |true=>rw[hc] at h;exact ih κ (σ.cut X.T d) r Q a w h (Hl d hc hs) h1 h2 h3
 |cutc m i x ih=>
  intro κ σ r Q a w h hs h1 h2 h3
  replace h:cond (σ.uX m i) (wrap X f x κ (σ.DY X.T m i)) none=some r:=h
  cases hc:σ.uX m i with
  |false=>rw[hc] at h;simp at h
  |true=>rw[hc] at h;exact ih κ (σ.DY X.T m i) r Q a w h (FI m i hc hs) h1 h2 h3
 |join t x ih=>
  intro κ σ r Q a w h hs h1 h2 h3
  replace h:bR (wrap X f x (fun σ'=>nY X t σ' .nrm) σ) (fun xs=>t.pg xs κ)=some r:=h
  cases hr1:wrap X f x (fun σ'=>nY X t σ' .nrm) σ with
  |none=>rw[hr1] at h;simp[bR] at h
  |some r1=>
   rw[hr1] at h
   refine ih _ σ r1 Q a w hr1 hs (fun σ' a' w' hk hs'=>?_) (fun id t' xs a' w' hj he hs'=>?_) (fun σ' a' w' hk hs'=>?_)
   ·obtain ⟨xs,rfl,hs''⟩:=pF hst hk hs'
    replace h:t.pg xs κ=some r:=h
    rw[pI] at h
    exact h1 _ a' w' h hs''
   ·subst he
    have e:r=.brk id xs:=(Option.some.inj h).symm
    exact h2 id t' xs a' w' hj e hs'
   ·obtain ⟨ys,rfl⟩:=jM hk
    have e:r=.ret ys:=(Option.some.inj h).symm
    rw[←e] at hk
    exact h3 σ' a' w' hk hs'
 |leaf=>exact hf .leaf
 |seq x y _ _=>exact hf (.seq x y)
 |cond x y _ _=>exact hf (.cond x y)
 |block t x _=>exact hf (.block t x)
 |loop t x _=>exact hf (.loop t x)
 |skip x _=>exact hf (.skip x)
 |scp l t x y _ _=>exact hf (.scp l t x y)
theorem Aa (id:Nat):∀(J:Jn),oK (si id J) id=none∧∀k t,oK (si id J) k=some t→oK J k=some t
 |[]=>⟨rfl,fun k t h=>h⟩
 |(m,u)::r=>by
  obtain ⟨h1,h2⟩:=Aa id r
  cases hb:Nat.beq m id with
  |true=>
   have e:si id ((m,u)::r)=si id r:=by show sif (Nat.beq m id) _ _=_;rw[hb];rfl
   rw[e]
   refine ⟨h1,fun k t hk=>?_⟩
   have hmk:Nat.beq m k=false:=by
    cases hmk:Nat.beq m k with
    |false=>rfl
    |true=>
     have a1:=Nat.eq_of_beq_eq_true hb
     have a2:=Nat.eq_of_beq_eq_true hmk
     subst a1;subst a2
     rw[h1] at hk;simp at hk
   show sif (Nat.beq m k) _ _=_
   rw[hmk]
   exact h2 k t hk
  |false=>
   have e:si id ((m,u)::r)=(m,u)::si id r:=by show sif (Nat.beq m id) _ _=_;rw[hb];rfl
   rw[e]
   refine ⟨?_,fun k t hk=>?_⟩
   ·show sif (Nat.beq m id) _ _=_
    rw[hb];exact h1
   ·replace hk:sif (Nat.beq m k) (some u) (oK (si id r) k)=some t:=hk
    show sif (Nat.beq m k) (some u) (oK r k)=some t
    cases hmk:Nat.beq m k with
    |true=>rw[hmk] at hk;exact hk
    |false=>rw[hmk] at hk;exact h2 k t hk
theorem rn {body:List C→R} {xs:List C} {r:Out} (h:lim body xs=some r):∃k,iter body k xs=some r:=by
 unfold lim at h
 split at h
 ·exact ⟨_,h⟩
 ·simp at h
theorem yk (hX:Env P X) (hst:fr.st=X.ip):∀(c:Code) (J:Jn),Snd P X fr J c (ev X c J):=by
 intro c
 induction c with
 |skip=>
  intro J
  refine ij hst ?_
  intro n κ σ r Q a w h hs h1 h2 h3
  exact wp_skip (h1 σ a w h hs)
 |region id ops draw=>
  intro J
  refine ij hst ?_
  intro n κ σ r Q a w h hs h1 h2 h3
  exact CD hX h hs h1
 |seq x y ihx ihy=>
  intro J
  refine ij hst ?_
  intro n κ σ r Q a w h hs h1 h2 h3
  have key:∀n1 n2,ev X x J n1 (fun σ=>ev X y J n2 κ σ) σ=some r→(Code.seq x y).wp P Q a w:=by
   intro n1 n2 h
   refine wp_seq (ihx J n1 _ σ r _ a w h hs (fun σ' a' w' hk hs'=>?_) (fun id t xs a' w' h4 h5 h6=>Cm (h2 id t xs a' w' h4 h5 h6)) h3)
   exact ihy J n2 κ σ' r Q a' w' hk hs' h1 h2 h3
  cases n with
  |seq n1 n2=>exact key n1 n2 h
  |_=>exact key _ _ h
 |cond q x y ihx ihy=>
  intro J
  refine ij hst ?_
  intro n κ σ r Q a w h hs h1 h2 h3
  have hv:aj X.T _ _ _ _ (bP σ.sl q) (a.eval q):=Cr hs.ex.choose_spec.choose_spec.2.sl q
  dsimp only at h
  generalize ho:bP σ.sl q=oq at h hv
  cases oq with
  |c t z=>cases t with
   |bool=>
    have hb:=kN hv
    have key:∀n1 n2,cond z.B (ev X x J n1 κ σ) (ev X y J n2 κ σ)=some r→(Code.cond q x y).wp P Q a w:=by
     intro n1 n2 h
     refine wp_cond_split hb (fun ht=>?_) (fun hf=>?_)
     ·rw[ht] at h;exact ihx J n1 κ σ r Q a w h hs h1 h2 h3
     ·rw[hf] at h;exact ihy J n2 κ σ r Q a w h hs h1 h2 h3
    cases n with
    |cond n1 n2=>exact key n1 n2 h
    |_=>exact key _ _ h
   |_=>exact absurd (show (none:R)=some r from h) (by simp)
  |_=>exact absurd (show (none:R)=some r from h) (by simp)
 |block id x ih=>
  intro J
  refine ij hst ?_
  intro n κ σ r Q a w h hs h1 h2 h3
  cases hlow:Nat.ble id 999999 with
  |false=>dsimp only at h;rw[hlow,aR] at h;simp at h
  |true=>
  dsimp only at h
  rw[hlow,af] at h
  have hlow':=Nat.le_of_ble_eq_true hlow
  have hblk:∀(id':Nat) (a':Act) (w':World),id'≠id→Q (w6 id') a' w'→Exit.inBlock id Q (w6 id') a' w':=by
   intro id' a' w' hid hq
   unfold w6 at hq⊢
   by_cases hl:id'≤999999
   ·rw[if_pos hl] at hq⊢
    show if id'=id then _ else _
    rw[if_neg hid];exact hq
   ·rw[if_neg hl] at hq⊢;exact hq
  have key:∀n1,ev X x (si id J) n1 κ σ=some r→(Code.block id x).wp P Q a w:=by
   intro n1 h
   refine wp_block (ih (si id J) n1 κ σ r _ a w h hs h1 (fun id' t xs a' w' hj he hs'=>?_) h3)
   obtain ⟨d1,d2⟩:=Aa id J
   by_cases hid:id'=id
   ·subst hid;rw[d1] at hj;simp at hj
   ·exact hblk id' a' w' hid (h2 id' t xs a' w' (d2 _ _ hj) he hs')
  cases n with
  |block t n1=>
   replace h:ax id (ev X x ((id,t)::J) n1 (fun σ'=>nY X t σ' (.brk id)) σ) (fun xs=>t.pg xs κ)=some r:=h
   cases hr1:ev X x ((id,t)::J) n1 (fun σ'=>nY X t σ' (.brk id)) σ with
   |none=>rw[hr1] at h;simp[ax] at h
   |some r1=>
    rw[hr1] at h
    have hbrk:∀xs a' w',r1=.brk id xs→Sim X.T fr X.n (t.inj xs) a' w'→Q .normal a' w':=by
     intro xs a' w' he hs'
     subst he
     replace h:sif (Nat.beq id id) (t.pg xs κ) (some (.brk id xs))=some r:=h
     rw[Nat.beq_refl,af,pI] at h
     exact h1 _ a' w' h hs'
    refine wp_block (ih ((id,t)::J) n1 _ σ r1 _ a w hr1 hs (fun σ' a' w' hk hs'=>?_) (fun id' t' xs a' w' hj he hs'=>?_) (fun σ' a' w' hk hs'=>?_))
    ·obtain ⟨xs,he,hs''⟩:=pF hst hk hs'
     exact hbrk xs a' w' he hs''
    ·by_cases hid:id'=id
     ·subst hid
      replace hj:sif (Nat.beq id' id') (some t) (oK J id')=some t':=hj
      rw[Nat.beq_refl,af] at hj
      obtain rfl:=Option.some.inj hj
      rw[An hlow']
      show if id'=id' then _ else _
      rw[if_pos rfl]
      exact hbrk xs a' w' he hs'
     ·refine hblk id' a' w' hid ?_
      have hb1:Nat.beq id id'=false:=by
       cases hb:Nat.beq id id' with
       |false=>rfl
       |true=>exact absurd (Nat.eq_of_beq_eq_true hb).symm hid
      have hb2:Nat.beq id' id=false:=by
       cases hb:Nat.beq id' id with
       |false=>rfl
       |true=>exact absurd (Nat.eq_of_beq_eq_true hb) hid
      replace hj:sif (Nat.beq id id') (some t) (oK J id')=some t':=hj
      rw[hb1,aR] at hj
      subst he
      replace h:sif (Nat.beq id' id) (t.pg xs κ) (some (.brk id' xs))=some r:=h
      rw[hb2,aR] at h
      exact h2 id' t' xs a' w' hj (Option.some.inj h).symm hs'
    ·obtain ⟨ys,rfl⟩:=jM hk
     have e:r=.ret ys:=(Option.some.inj h).symm
     rw[←e] at hk
     exact h3 σ' a' w' hk hs'
  |skip n1=>exact key n1 h
  |_=>exact key _ h
 |loop x ih=>
  intro J
  refine ij hst ?_
  intro n κ σ r Q a w h hs h1 h2 h3
  cases n with
  |loop t n1=>
   replace h:sif (sO X t σ) (match t.data X.T (vt X.ip) σ with
    |some xs=>lim (fun xs=>t.pg xs (ev X x J n1 fun σ'=>nY X t σ' .again)) xs
    |none=>none) none=some r:=h
   cases hj:sO X t σ with
   |false=>rw[hj,aR] at h;simp at h
   |true=>
    rw[hj,af] at h
    split at h
    ·rename_i xs hxs
     have h0:nY X t σ .again=some (.again xs):=by unfold nY;rw[hj,af,hxs]
     obtain ⟨xs',he,hs0⟩:=pF hst h0 hs
     simp only[Out.again.injEq] at he
     subst he
     obtain ⟨k,hk⟩:=rn h
     refine wp_loop_rounds k ?_
     have rounds:∀(k:Nat) (xs:List C) (a:Act) (w:World),iter (fun xs=>t.pg xs (ev X x J n1 fun σ'=>nY X t σ' .again)) k xs=some r→Sim X.T fr X.n (t.inj xs) a w→Code.rounds P x Q k a w:=by
      intro k
      induction k with
      |zero=>intro xs a w hk _;simp[iter] at hk
      |succ k ihk=>
       intro xs a w hk hs
       show x.wp P (Exit.then (Code.rounds P x Q k) Q) a w
       simp only[iter] at hk
       rw[pI] at hk
       cases hr1:ev X x J n1 (fun σ'=>nY X t σ' .again) (t.inj xs) with
       |none=>rw[hr1] at hk;simp at hk
       |some r1=>
        rw[hr1] at hk
        refine ih J n1 _ _ r1 _ a w hr1 hs (fun σ' a' w' hk' hs'=>?_) (fun id' t' ys a' w' hj he hs'=>?_) (fun σ' a' w' hk' hs'=>?_)
        ·obtain ⟨ys,rfl,hs''⟩:=pF hst hk' hs'
         exact ihk ys a' w' hk hs''
        ·subst he
         exact Cm (h2 id' t' ys a' w' hj (Option.some.inj hk).symm hs')
        ·obtain ⟨ys,rfl⟩:=jM hk'
         have e:r=.ret ys:=(Option.some.inj hk).symm
         rw[←e] at hk'
         exact h3 σ' a' w' hk' hs'
     exact rounds k _ a w hk hs0
    ·simp at h
  |_=>exact absurd (show (none:R)=some r from h) (by simp)
 |exit id=>
  intro J
  refine ij hst ?_
  intro n κ σ r Q a w h hs h1 h2 h3
  replace h:sif (Nat.ble id 999999) (match oK J id with
   |some t=>nY X t σ (.brk id)
   |none=>none) none=some r:=h
  cases hlow:Nat.ble id 999999 with
  |false=>rw[hlow,aR] at h;simp at h
  |true=>
   rw[hlow,af] at h
   split at h
   ·rename_i t hj
    obtain ⟨xs,he,hs'⟩:=pF hst h hs
    have:=h2 id t xs a w hj he hs'
    rw[An (Nat.le_of_ble_eq_true hlow)] at this
    exact wp_exit this
   ·simp at h
 |label l=>
  intro J
  refine ij hst ?_
  intro n κ σ r Q a w h hs h1 h2 h3
  exact wp_label (h1 σ a w h hs)
 |goto l=>
  intro J
  refine ij hst ?_
  intro n κ σ r Q a w h hs h1 h2 h3
  replace h:(match oK J (Nat.add 1000000 l) with
   |some t=>nY X t σ (.brk (Nat.add 1000000 l))
   |none=>none)=some r:=h
  split at h
  ·rename_i t hj
   obtain ⟨xs,he,hs'⟩:=pF hst h hs
   have:=h2 _ t xs a w hj he hs'
   rw[sk] at this
   exact wp_goto this
  ·simp at h
 |ret=>
  intro J
  refine ij hst ?_
  intro n κ σ r Q a w h hs h1 h2 h3
  exact wp_ret (h3 σ a w h hs)
 |_=>
  intro J n κ σ r Q a w h
  exact absurd (show (none:R)=some r from h) (by simp)
theorem tU {c rest:Code} {Q:Exit→Act→World→Prop} {a:Act} {w:World} (l:Nat) (R:Nat→Act→World→Prop) (hf:findLabel c l=some rest)
  (first:c.wp P (Exit.jump l (fun a w=>∃k,R k a w) Q) a w)
  (pass:∀k a w,R k a w→rest.wp P (Exit.jump l (fun a' w'=>∃j,j<k∧R j a' w') Q) a w):(Code.scope c).wp P Q a w:=by
 intro b k cs
 have hg:gotoIn l (.inScope c::k)=some (.code rest::.inScope c::k):=by simp[gotoIn,hf]
 have key:∀n a w,R n a w→∃e a' w',Q e a' w'∧Arrives P (lone (b.at a (.code rest::.inScope c::k)) cs w) b k cs e a' w':=by
  intro n
  induction n using Nat.strongRecOn with
  |_ n ih=>
   intro a w hR
   obtain ⟨e,a₁,w₁,hq,harr⟩:=pass n a w hR b (.inScope c::k) cs
   cases e with
   |normal=>exact ⟨.normal,a₁,w₁,hq,Steps.trans harr (.one step_inScope)⟩
   |exit id=>exact ⟨.exit id,a₁,w₁,hq,fun k' hk=>harr k' (by simp[exitTo,hk])⟩
   |goto l'=>
    obtain ⟨rfl,j,hj,hR'⟩:=hq
    obtain ⟨e₂,a₂,w₂,hq₂,harr₂⟩:=ih j hj a₁ w₁ hR'
    exact ⟨e₂,a₂,w₂,hq₂,.of_steps (harr _ hg) harr₂⟩
   |ret=>exact ⟨_,a₁,w₁,hq,harr⟩
   |panic ch=>exact ⟨_,a₁,w₁,hq,harr⟩
   |outgrown=>exact ⟨_,a₁,w₁,hq,harr⟩
 obtain ⟨e,a₁,w₁,hq,harr⟩:=first b (.inScope c::k) cs
 cases e with
 |normal=>exact ⟨.normal,a₁,w₁,hq,.head step_scope (Steps.trans harr (.one step_inScope))⟩
 |exit id=>exact ⟨.exit id,a₁,w₁,hq,fun k' hk=>.head step_scope (harr k' (by simp[exitTo,hk]))⟩
 |goto l'=>
  obtain ⟨rfl,j,hR'⟩:=hq
  obtain ⟨e₂,a₂,w₂,hq₂,harr₂⟩:=key j a₁ w₁ hR'
  exact ⟨e₂,a₂,w₂,hq₂,.of_steps (.head step_scope (harr _ hg)) harr₂⟩
 |ret=>exact ⟨_,a₁,w₁,hq,.of_steps (.one step_scope) harr⟩
 |panic ch=>exact ⟨_,a₁,w₁,hq,.of_steps (.one step_scope) harr⟩
 |outgrown=>exact ⟨_,a₁,w₁,hq,.of_steps (.one step_scope) harr⟩
theorem FW (hX:Env P X) (hst:fr.st=X.ip) {c:Code} {l:Nat} {t:Tm} {x y:Ann} {σ:St} {ys:List C} {Q:Exit→Act→World→Prop} {a:Act} {w:World} (h:evS X l t x y c σ=some (.ret ys)) (hs:Sim X.T fr X.n σ a w)
  (h1:∀σ' a' w',oL X σ'=some (.ret ys)→Sim X.T fr X.n σ' a' w'→Q .normal a' w') (h3:∀σ' a' w',oL X σ'=some (.ret ys)→Sim X.T fr X.n σ' a' w'→Q .ret a' w'):(Code.scope c).wp P Q a w:=by
 unfold evS at h
 split at h
 ·rename_i c' hc'
  have hjg:oK [(Nat.add 1000000 l,t)] (Nat.add 1000000 l)=some t:=by
   show sif (Nat.beq _ _) _ _=_
   rw[Nat.beq_refl];rfl
  have hjo:∀id t',oK [(Nat.add 1000000 l,t)] id=some t'→id=Nat.add 1000000 l∧t'=t:=by
   intro id t' h
   replace h:sif (Nat.beq (Nat.add 1000000 l) id) (some t) none=some t':=h
   cases hb:Nat.beq (Nat.add 1000000 l) id with
   |false=>rw[hb,aR] at h;simp at h
   |true=>rw[hb,af] at h;exact ⟨(Nat.eq_of_beq_eq_true hb).symm,(Option.some.inj h).symm⟩
  let body:List C→R:=fun xs=>goA (Nat.add 1000000 l) (t.pg xs (ev X c' [(Nat.add 1000000 l,t)] y fun σ=>oL X σ))
  refine tU l (fun k a w=>∃xs,iter body k xs=some (.ret ys)∧Sim X.T fr X.n (t.inj xs) a w) hc' ?_ ?_
  ·cases hr1:ev X c [(Nat.add 1000000 l,t)] x (fun σ=>oL X σ) σ with
   |none=>rw[hr1] at h;simp[yP] at h
   |some r1=>
    rw[hr1] at h
    refine yk hX hst c _ x _ _ r1 _ _ w hr1 hs (fun σ' a' w' hk hs'=>?_) (fun id t' xs a' w' hj he hs'=>?_) (fun σ' a' w' hk hs'=>?_)
    ·obtain ⟨zs,rfl⟩:=jM hk
     have e:zs=ys:=by simpa [yP] using h
     exact h1 σ' a' w' (e▸hk) hs'
    ·obtain ⟨rfl,rfl⟩:=hjo _ _ hj
     subst he
     replace h:sif (Nat.beq (Nat.add 1000000 l) (Nat.add 1000000 l)) (lim body xs) none=some (.ret ys):=h
     rw[Nat.beq_refl,af] at h
     obtain ⟨k,hk⟩:=rn h
     rw[sk]
     exact ⟨rfl,k,xs,hk,hs'⟩
    ·obtain ⟨zs,rfl⟩:=jM hk
     have e:zs=ys:=by simpa [yP] using h
     exact h3 σ' a' w' (e▸hk) hs'
  ·rintro k a w ⟨xs,hk,hs⟩
   cases k with
   |zero=>simp[iter] at hk
   |succ k=>
    simp only[iter] at hk
    cases hr2:ev X c' [(Nat.add 1000000 l,t)] y (fun σ=>oL X σ) (t.inj xs) with
    |none=>
     have e:body xs=none:=by show goA _ (t.pg xs _)=none;rw[pI,hr2];rfl
     rw[e] at hk;simp at hk
    |some r1=>
     have e:body xs=goA (Nat.add 1000000 l) (some r1):=by show goA _ (t.pg xs _)=_;rw[pI,hr2]
     rw[e] at hk
     refine yk hX hst c' _ y _ _ r1 _ _ w hr2 hs (fun σ' a' w' hk' hs'=>?_) (fun id t' zs a' w' hj he hs'=>?_) (fun σ' a' w' hk' hs'=>?_)
     ·obtain ⟨zs,rfl⟩:=jM hk'
      have e:zs=ys:=by simpa [goA] using hk
      exact h1 σ' a' w' (e▸hk') hs'
     ·obtain ⟨rfl,rfl⟩:=hjo _ _ hj
      subst he
      have e2:goA (Nat.add 1000000 l) (some (.brk (Nat.add 1000000 l) zs))=some (.again zs):=by
       show sif (Nat.beq _ _) _ _=_
       rw[Nat.beq_refl];rfl
      rw[e2] at hk
      rw[sk]
      exact ⟨rfl,k,Nat.lt_succ_self k,zs,hk,hs'⟩
     ·obtain ⟨zs,rfl⟩:=jM hk'
      have e:zs=ys:=by simpa [goA] using hk
      exact h3 σ' a' w' (e▸hk') hs'
 ·simp at h
theorem Fs (hX:Env P X) (hst:fr.st=X.ip) {c:Code} {an:Ann} {σ:St} {ys:List C} {Q:Exit→Act→World→Prop} {a:Act} {w:World} (h:evT X an c σ=some (.ret ys)) (hs:Sim X.T fr X.n σ a w)
  (h1:∀σ' a' w',oL X σ'=some (.ret ys)→Sim X.T fr X.n σ' a' w'→Q .normal a' w') (h3:∀σ' a' w',oL X σ'=some (.ret ys)→Sim X.T fr X.n σ' a' w'→Q .ret a' w'):c.wp P Q a w:=by
 have flat:∀an,ev X c [] an (fun σ=>oL X σ) σ=some (.ret ys)→c.wp P Q a w:=fun an h=>
  yk hX hst c [] an _ _ _ _ _ w h hs h1 (fun id t xs a' w' h=>by simp[oK] at h) h3
 unfold evT at h
 split at h
 ·rename_i x l t y z b c
  exact wp_seq (yk hX hst b [] x _ _ _ _ _ w h hs (fun σ' a' w' hk hs'=>FW hX hst hk hs' h1 h3) (fun id t xs a' w' h=>by simp[oK] at h) h3)
 ·exact flat _ h
end
end Go.Ev
namespace Go.Ev
section
variable {P:Program} {T:Tys} {X:Cx} {fr:Fr} {F:Nat→Prop} {w:World} {θ:Nat→Value}
def vB (tmps:Array Value):ResultVar→Sem Value
 |.tmp t=>pure (tmps.getD t undef)
 |.cell a t=>do loadVar t (←asAddr (tmps.getD a undef))
theorem CI (hT:TOk P T) {σ:St} {n:Nat} {a:Act} (hw:WR T fr F w σ.bx θ) (hs:SlR T F w σ.bx θ n σ.sl a) {q:ResultVar} {v:V} (h:xW T σ q=some v):
  ∃u,(vB a.tmps q).run P w=.ok u w∧aj T F w σ.bx θ v u:=by
 cases q with
 |tmp t=>
  simp only[xW,Option.some.injEq] at h
  subst h
  exact ⟨_,by simp[vB],hs.sl t⟩
 |cell b t=>
  simp only[xW] at h
  split at h
  ·rename_i d b' ver off hd hb
   have hv:=hs.sl b
   rw[hb] at hv
   split at h
   ·rename_i v' t' cells hbx
    cases hc:aA (Nat.beq v' ver) (Nat.ble (off+len d.cts) (len cells)) with
    |false=>rw[hc,aR] at h;simp at h
    |true=>
     rw[hc,af] at h
     simp only[aq,Bool.and_eq_true,cV] at hc
     obtain ⟨g,hth,hvv,rfl⟩:=uK hv hbx hc.1
     obtain ⟨g',cs,e,d',q1,q2,q3,q4,q5,q6⟩:=hw.box b' _ hbx
     rw[hth] at q1
     simp only[Value.pointer.injEq,Option.some.injEq,Addr.mk.injEq,and_true] at q1
     subst q1
     have hle:=Nat.le_of_ble_eq_true hc.2
     rw[oO,pr,cV] at h
     have ht:=bV hT hd
     have hl:((cs.toList.drop off).take d.cts.length).length=d.cts.length:=by
      rw[List.length_take,List.length_drop];simp;omega
     have hl2:((cells.drop off).take d.cts.length).length=d.cts.length:=by
      rw[List.length_take,List.length_drop];omega
     have hrun:=ht.lL (w:=w) (g:=g) (o:=off) hl (fun j u hj=>by
      rw[List.getElem?_take] at hj
      split at hj
      ·rw[List.getElem?_drop] at hj
       simp[World.cell?,q2];simpa using hj
      ·simp at hj)
     refine ⟨_,?_,AS ht h (by rw[hl,hl2]) (fun i x u h1 h2=>?_)⟩
     ·simp[vB,hvv,asAddr,hrun]
     ·rw[List.getElem?_take] at h1 h2
      split at h1
      ·rename_i hi
       rw[if_pos hi] at h2
       rw[List.getElem?_drop] at h1 h2
       exact q6 _ x u h1 (by simpa using h2)
      ·simp at h1
   ·simp at h
  ·simp at h
theorem xL (hT:TOk P T) {σ:St} {n:Nat} {a:Act} (hw:WR T fr F w σ.bx θ) (hs:SlR T F w σ.bx θ n σ.sl a):∀(qs:List ResultVar) (vs:List V),se T σ qs=some vs→
  ∃us:List Value,(qs.mapM (vB a.tmps)).run P w=.ok us w∧us.length=vs.length∧∀(i:Nat) (x:V) (v:Value),vs[i]?=some x→us[i]?=some v→aj T F w σ.bx θ x v
 |[],vs,h=>by
  simp only[se,Option.some.injEq] at h
  subst h
  exact ⟨[],by simp,rfl,fun i x v h=>by simp at h⟩
 |q::r,vs,h=>by
  simp only[se] at h
  split at h
  ·rename_i v hv
   split at h
   ·rename_i vs' hvs
    simp only[Option.some.injEq] at h
    subst h
    obtain ⟨u,h1,h2⟩:=CI (P:=P) hT hw hs hv
    obtain ⟨us,h3,h4,h5⟩:=xL hT hw hs r vs' hvs
    refine ⟨u::us,by simp[List.mapM_cons,h1,h3],by simp[h4],fun i x z a1 a2=>?_⟩
    cases i with
    |zero=>simp at a1 a2;subst a1;subst a2;exact h2
    |succ i=>exact h5 i x z (by simpa using a1) (by simpa using a2)
   ·simp at h
  ·simp at h
theorem Gd (hT:TOk P T) {σ:St} {n:Nat} {a:Act} (hw:WR T fr F w σ.bx θ) (hs:SlR T F w σ.bx θ n σ.sl a) {fn:Func} {v:V} (h:He T σ fn.results.toList=some v):
  ∃u,(results fn a.tmps).run P w=.ok u w∧aj T F w σ.bx θ v u:=by
 unfold He at h
 have key:∀vs,se T σ fn.results.toList=some vs→∃us:List Value,(results fn a.tmps).run P w=.ok (if h:us.toArray.size=1 then us.toArray[0] else .tuple us.toArray) w∧us.length=vs.length∧∀(i:Nat) (x:V) (v:Value),vs[i]?=some x→us[i]?=some v→aj T F w σ.bx θ x v:=by
  intro vs hvs
  obtain ⟨us,h1,h2,h3⟩:=xL (P:=P) hT hw hs _ vs hvs
  refine ⟨us,?_,h2,h3⟩
  have e:results fn a.tmps=(do let vs←fn.results.mapM (vB a.tmps);pure (if h:vs.size=1 then vs[0] else .tuple vs)):=by
   unfold results
   congr 1
  rw[e]
  simp[Array.mapM_eq_mapM_toList,h1]
 split at h
 ·rename_i x hx
  simp only[Option.some.injEq] at h
  subst h
  obtain ⟨us,h1,h2,h3⟩:=key _ hx
  match us,h2 with
  |[u],_=>exact ⟨u,by simpa using h1,h3 0 _ u rfl rfl⟩
 ·rename_i vs hne hx
  simp only[Option.some.injEq] at h
  subst h
  obtain ⟨us,h1,h2,h3⟩:=key _ hx
  have hl:¬us.length=1:=by
   intro hl
   match vs,(h2.symm.trans hl) with
   |[x],_=>exact hne x rfl
  exact ⟨.tuple us.toArray,by simpa [hl] using h1,.tu _ us h2 h3⟩
 ·simp at h
theorem aG.HX (hX:Env P X) {f:FuncId} {fn:Func} {c:Code} {fs:FS} {an:Ann} (hf:P.funcs[f]?=some fn) (hb:fn.body=some c) (hname:(fn.name== "runtime.NumGoroutine")=false)
  (hn:fn.ntmps=X.n) (hres:fn.results.toList=X.res) (hin:X.inT=fs.inT) (hout:X.outT=fs.outT) (hip:X.ip=fs.ip) (hle:fs.n≤fn.ntmps) (hsl:∀xs k,fs.n≤k→(fs.inT.inj xs).sl k=.un)
  (hF:∀xs ys,fs.F xs=some ys→evF X c an xs=some ys):aG P X.T f fs:=by
 refine ⟨⟨fn,c,hf,hb,hname⟩,?_⟩
 intro w wr nl F0 θ xs ys args hw hsz hr hys
 refine calls_of_wp hf hb ?_
 have hev:=hF xs ys hys
 unfold evF at hev
 rw[hin,pI] at hev
 have hr1:evT X an c (fs.inT.inj xs)=some (.ret ys):=by
  unfold bl at hev
  split at hev
  ·rename_i ys' h;rw[h];simp only[Option.some.injEq] at hev;rw[hev]
  ·simp at hev
 have hs:Sim X.T ⟨w,wr,F0,θ,fs.ip,nl⟩ X.n (fs.inT.inj xs) {tmps:=args++Array.replicate (fn.ntmps-args.size) undef,defers:=[]} w:=by
  refine ⟨F0,θ,hw,⟨fun k=>?_,by simp;omega,rfl⟩⟩
  by_cases hk:k<fs.n
  ·have:=hr k hk
   have e:(args++Array.replicate (fn.ntmps-args.size) undef).getD k undef=args.getD k undef:=by
    simp only[Array.getD_eq_getD_getElem?]
    rw[Array.getElem?_append_left (by omega)]
   show aj _ _ _ _ _ _ ((args++Array.replicate (fn.ntmps-args.size) undef).getD k undef)
   rw[e]
   exact this
  ·rw[hsl xs k (by omega)];exact .un _
 have hfin:∀(σ':St) (a':Act) (w':World),oL X σ'=some (.ret ys)→Sim X.T ⟨w,wr,F0,θ,fs.ip,nl⟩ X.n σ' a' w'→a'.defers=[]∧∃v,(results fn a'.tmps).run P w'=.ok v w'∧∃v' F1 θ1,Ending.returned v=.returned v'∧WR X.T ⟨w,wr,F0,θ,[],nl⟩ F1 w' (fs.outT.inj ys).bx θ1∧aj X.T F1 w' (fs.outT.inj ys).bx θ1 ((fs.outT.inj ys).sl 0) v'∧
   ∀n x,n∈fs.ip→(fs.outT.inj ys).bx n=some x→θ1 n=θ n∧(x.m=2→Hdr w w' (θ n)):=by
  intro σ' a' w' hret hsim
  obtain ⟨F,θ',hw',hs'⟩:=hsim
  refine ⟨hs'.defers,?_⟩
  unfold oL at hret
  split at hret
  ·rename_i v hv
   cases hc:aA (Be σ'.bx X.ip) (lE X.inT.bx X.ip) with
   |false=>rw[hc,aR] at hret;simp at hret
   |true=>
    rw[hc,af] at hret
    simp only[aq,Bool.and_eq_true] at hc
    split at hret
    ·rename_i e he
     cases hz:isNil e.fz with
     |false=>rw[hz,aR] at hret;simp at hret
     |true=>
      rw[hz,af] at hret
      simp only[Option.some.injEq,Out.ret.injEq] at hret
      obtain ⟨u,hu,hru⟩:=Gd (P:=P) (fn:=fn) hX.T hw' hs' (by rw[hres];exact hv)
      have hval:∀d,aj X.T F w' σ'.bx θ' (upd (fun _=>V.un) 0 v d) (if d=0 then u else undef):=by
       intro d
       by_cases hd:d=0
       ·subst hd;rw[ar,if_pos rfl];exact hru
       ·rw[aP _ _ hd];exact .un _
      have hi:=sG hw' hval he
      have hle':=Dw hw' hval he
      rw[hret] at hi
      rw[hout] at hi he
      refine ⟨u,hu,u,_,_,rfl,hi.wr hw' (st:=[]) (fun n hn=>by simp at hn),?_,fun n x' hn hx=>?_⟩
      ·have:=hi.sl 0;simpa using this
      ·rw[hip,hin] at hc
       have hf':=hle' n _ (qM (l:=X.ip) (by rw[hip];exact hn))
       obtain ⟨x,q1,q2⟩:=hw'.stay n hn
       obtain ⟨y,q3,q4,q5⟩:=wE hc.1 n hn
       rw[q1] at q3;obtain rfl:=Option.some.inj q3
       have hth:l9 θ' e.r n=θ n:=by simp only[l9,hf'];exact (q2 q4).1
       refine ⟨hth,fun hm=>?_⟩
       obtain ⟨x2,p1,p2⟩:=hi.has n (hi.hasnt n x' hx)
       have hx2:x2=x':=by
        rw[hx] at p1;exact (Option.some.inj p1).symm
       subst hx2
       have:=(q2 q4).2 ?_
       ·rw[(q2 q4).1] at this;exact this
       ·rcases p2.2 with ⟨b',y',r1,r2,r3,r4,_⟩|⟨r1,_⟩
        ·rw[hf'] at r1
         simp only[Option.some.injEq] at r1
         subst r1
         rw[q1] at r2;obtain rfl:=Option.some.inj r2
         exact we r4 q5 hm
        ·rw[hf'] at r1;simp at r1
    ·simp at hret
  ·simp at hret
 refine Fs hX (fr:=⟨w,wr,F0,θ,fs.ip,nl⟩) hip.symm hr1 hs (fun σ' a' w' h1 h2=>?_) (fun σ' a' w' h1 h2=>?_)
 ·exact hfin σ' a' w' h1 h2
 ·exact hfin σ' a' w' h1 h2
end
end Go.Ev
namespace Go.Ev
def isZero:CT→Value→Bool
 |.int k,.int k' n=>aA (vz k k') (match n with|.ofNat 0=>true|_=>false)
 |.bool,.bool b=>dA b
 |.str,.string s=>match s with|⟨⟨[]⟩⟩=>true|_=>false
 |.sl _,.slice none 0 0=>true
 |.pt _,.pointer none=>true
 |.fn,.nilFunc=>true
 |_,_=>false
theorem xm {c:CT} {v:Value} (h:isZero c v=true):v=bQ c:=by
 unfold isZero at h
 split at h
 ·rename_i k k' n
  simp only[aq,Bool.and_eq_true] at h
  have:=lW h.1;subst this
  have h2:=h.2
  split at h2
  ·rfl
  ·simp at h2
 ·rename_i b;cases b<;>simp[dA] at h⊢;rfl
 ·split at h
  ·rfl
  ·simp at h
 ·rfl
 ·rfl
 ·rfl
 ·simp at h
def sR:List CT→List Value→Bool
 |[],[]=>true
 |c::cs,v::vs=>aA (isZero c v) (sR cs vs)
 |_,_=>false
theorem xR:∀ {cs:List CT} {vs:List Value},sR cs vs=true→vs=cs.map bQ
 |[],[],_=>rfl
 |[],_::_,h=>by simp[sR] at h
 |_::_,[],h=>by simp[sR] at h
 |c::cs,v::vs,h=>by
  simp only[sR,aq,Bool.and_eq_true] at h
  rw[xm h.1,xR h.2];rfl
def D9 (d:TD) (v:Value):Bool:=match d.agg with
 |true=>match v with|.agg cs=>sR d.cts cs.toList|_=>false
 |false=>match d.cts with|[t]=>isZero t v|_=>false
theorem EG {d:TD} {v:Value} (h:D9 d v=true):v=zeroOf d:=by
 unfold D9 at h
 unfold zeroOf
 split at h
 ·rename_i ha
  rw[ha,if_pos rfl]
  split at h
  ·rw[←xR h]
  ·simp at h
 ·rename_i ha
  rw[ha,if_neg (by simp)]
  split at h
  ·rename_i t ht
   rw[ht]
   exact xm h
  ·simp at h
def nU:List CT→List CT→Bool
 |[],[]=>true
 |a::r,b::s=>aA (ia a b) (nU r s)
 |_,_=>false
theorem uB:∀ {a b:List CT},nU a b=true→a=b
 |[],[],_=>rfl
 |[],_::_,h=>by simp[nU] at h
 |_::_,[],h=>by simp[nU] at h
 |x::r,y::s,h=>by
  simp only[nU,aq,Bool.and_eq_true] at h
  rw[fH h.1,uB h.2]
def CW:List (Nat×TypeId)→List (Nat×TypeId)→Bool
 |[],[]=>true
 |(a,b)::r,(c,d)::s=>aA (Nat.beq a c) (aA (Nat.beq b d) (CW r s))
 |_,_=>false
theorem BO:∀ {a b:List (Nat×TypeId)},CW a b=true→a=b
 |[],[],_=>rfl
 |[],_::_,h=>by simp[CW] at h
 |_::_,[],h=>by simp[CW] at h
 |(x,x')::r,(y,y')::s,h=>by
  simp only[CW,aq,Bool.and_eq_true] at h
  rw[Nat.eq_of_beq_eq_true h.1,Nat.eq_of_beq_eq_true h.2.1,BO h.2.2]
def G4:DV→DV→Bool
 |.bool,.bool=>true|.int k,.int k'=>vz k k'|.str,.str=>true|.sl e,.sl e'=>Nat.beq e e'|.pt e,.pt e'=>Nat.beq e e'|.st f,.st f'=>CW f f'|.fn,.fn=>true|_,_=>false
theorem E1 {a b:DV} (h:G4 a b=true):a=b:=by
 unfold G4 at h
 split at h
 ·rfl
 ·rw[lW h]
 ·rfl
 ·rw[Nat.eq_of_beq_eq_true h]
 ·rw[Nat.eq_of_beq_eq_true h]
 ·rw[BO h]
 ·rfl
 ·simp at h
def FZ (T:Tys) (cts:List CT):List (Nat×TypeId)→Bool
 |[]=>true
 |(o,f)::r=>aA (match aV T f with|some df=>nU (tak (len df.cts) (drp o cts)) df.cts|none=>true) (FZ T cts r)
theorem Cf {T:Tys} {cts:List CT}:∀ {fs:List (Nat×TypeId)},FZ T cts fs=true→∀o f,(o,f)∈fs→∀df,aV T f=some df→(cts.drop o).take df.cts.length=df.cts
 |[],_,o,f,h,_,_=>by simp at h
 |(o',f')::r,h,o,f,hm,df,hd=>by
  simp only[FZ,aq,Bool.and_eq_true] at h
  rcases List.mem_cons.1 hm with e|hm
  ·simp only[Prod.mk.injEq] at e
   obtain ⟨rfl,rfl⟩:=e
   have h1:=h.1
   rw[hd] at h1
   have:=uB h1
   rw[oO,pr,cV] at this
   exact this
  ·exact Cf h.2 o f hm df hd
def Gw (T:Tys) (d:TD):Bool:=match d.dv with
 |.bool=>nU d.cts [.bool]|.int k=>nU d.cts [.int k]|.str=>nU d.cts [.str]|.sl e=>nU d.cts [.sl e]|.pt e=>nU d.cts [.pt e]|.fn=>nU d.cts [.fn]
 |.st fs=>FZ T d.cts fs
 |.other=>false
def tyB (P:Program) (T:Tys) (t:TypeId) (d:TD):Bool:=
 match P.info? t,P.underlying t with
 |some i,some u=>aA (match i.zero with|some z=>D9 d z|none=>false) (aA (Nat.beq i.size (len d.cts)) (aA (Nat.beq i.bytes d.bytes) (aA (G4 (dM u) d.dv) (aA (Nat.blt 0 (len d.cts)) (Gw T d)))))
 |_,_=>false
theorem G9 {P:Program} {T:Tys} {t:TypeId} {d:TD} (h:tyB P T t d=true):kL P T t d:=by
 unfold tyB at h
 split at h
 ·rename_i i u hi hu
  simp only[aq,Bool.and_eq_true] at h
  obtain ⟨h1,h2,h3,h4,h5,h6⟩:=h
  have h2:=Nat.eq_of_beq_eq_true h2
  have h5:=Nat.le_of_ble_eq_true h5
  rw[cV] at h2 h5
  refine ⟨⟨i,hi,?_,h2,Nat.eq_of_beq_eq_true h3⟩,⟨u,hu,E1 h4⟩,h5,?_⟩
  ·split at h1
   ·rename_i z hz;rw[hz,EG h1]
   ·simp at h1
  ·unfold Gw at h6
   cases hd:d.dv with
   |st fs=>rw[hd] at h6;exact Cf h6
   |other=>rw[hd] at h6;simp at h6
   |_=>rw[hd] at h6;exact uB h6
 ·simp at h
def Ds (P:Program) (T:Tys):List (Nat×TD)→Bool
 |[]=>true
 |(t,d)::r=>aA (aA (tyB P T t d) (match d.dv with|.sl e=>(P.info? e).isSome|_=>true)) (Ds P T r)
theorem uz {t:Nat} {d:TD}:∀ {T:Tys},aV T t=some d→(t,d)∈T
 |[],h=>by simp[aV] at h
 |(n,d')::r,h=>by
  replace h:sif (Nat.beq n t) (some d') (aV r t)=some d:=h
  cases hb:Nat.beq n t with
  |true=>
   rw[hb,af] at h
   rw[Option.some.inj h,Nat.eq_of_beq_eq_true hb]
   exact List.mem_cons_self ..
  |false=>rw[hb,aR] at h;exact List.mem_cons_of_mem _ (uz h)
theorem Ci {P:Program} {T:Tys} (h:Ds P T T=true):TOk P T∧∀t e,dU T t=some e→(P.info? e).isSome=true:=by
 have key:∀ {l:List (Nat×TD)},Ds P T l=true→∀t d,(t,d)∈l→tyB P T t d=true∧(match d.dv with|.sl e=>(P.info? e).isSome|_=>true)=true:=by
  intro l
  induction l with
  |nil=>intro _ t d h;simp at h
  |cons p r ih=>
   obtain ⟨t',d'⟩:=p
   intro h t d hm
   simp only[Ds,aq,Bool.and_eq_true] at h
   rcases List.mem_cons.1 hm with e|hm
   ·simp only[Prod.mk.injEq] at e;obtain ⟨rfl,rfl⟩:=e;exact h.1
   ·exact ih h.2 t d hm
 refine ⟨fun t d hd=>G9 (key h t d (uz hd)).1,fun t e he=>?_⟩
 unfold dU at he
 split at he
 ·rename_i e' cts b hd
  simp only[Option.some.injEq] at he
  subst he
  exact (key h t _ (uz hd)).2
 ·simp at he
def pG (P:Program) (f:TypeId):CT→Bool
 |.int k=>match P.underlying f with|some (.int k')=>vz k' k|_=>false
 |.bool=>match P.underlying f with|some .bool=>true|_=>false
 |.str=>match P.underlying f with|some .string=>true|_=>false
 |_=>false
theorem AK {P:Program} {f:TypeId} {ct:CT} (h:pG P f ct=true):qA P f ct:=by
 cases ct with
 |int k=>
  simp only[pG] at h
  split at h
  ·rename_i k' hu;simp only[qA];rw[hu,lW h]
  ·simp at h
 |bool=>
  simp only[pG] at h
  split at h
  ·rename_i hu;exact hu
  ·simp at h
 |str=>
  simp only[pG] at h
  split at h
  ·rename_i hu;exact hu
  ·simp at h
 |_=>simp[pG] at h
def pJ (P:Program):List Field→List CT→Nat→Bool
 |[],[],_=>true
 |f::fs,ct::cts,j=>aA (dA (f.name== "_")) (aA (Nat.beq f.offset j) (aA (pG P f.type ct) (pJ P fs cts (j+1))))
 |_,_,_=>false
theorem wk {P:Program}:∀ {fs:List Field} {cts:List CT} {j:Nat},pJ P fs cts j=true→fs.length=cts.length∧∀(i:Nat) (f:Field) (ct:CT),fs[i]?=some f→cts[i]?=some ct→f.name≠ "_" ∧f.offset=j+i∧qA P f.type ct
 |[],[],j,_=>⟨rfl,fun i f ct h=>by simp at h⟩
 |[],_::_,j,h=>by simp[pJ] at h
 |_::_,[],j,h=>by simp[pJ] at h
 |f::fs,ct::cts,j,h=>by
  simp only[pJ,aq,cF,Bool.and_eq_true] at h
  obtain ⟨h1,h2,h3,h4⟩:=h
  obtain ⟨a,b⟩:=wk h4
  refine ⟨by simp[a],fun i g c hg hc=>?_⟩
  cases i with
  |zero=>
   simp only[List.getElem?_cons_zero,Option.some.injEq] at hg hc
   subst hg;subst hc
   refine ⟨fun e=>?_,by simpa using Nat.eq_of_beq_eq_true h2,AK h3⟩
   rw[e] at h1
   simp at h1
  |succ i=>
   obtain ⟨c1,c2,c3⟩:=b i g c (by simpa using hg) (by simpa using hc)
   exact ⟨c1,by omega,c3⟩
def eqB (P:Program) (T:Tys) (t:TypeId):Bool:=
 match P.underlying t,aV T t with
 |some (.struct fs),some d=>aA (dA (P.stoodInHeld t)) (aA (dA (P.eqGuardType P.depth t)) (pJ P fs.toList d.cts 0))
 |_,_=>false
theorem Ho {P:Program} {T:Tys} {t:TypeId} (h:eqB P T t=true):DZ P T t:=by
 unfold eqB at h
 split at h
 ·rename_i fs d hu hd
  simp only[aq,cF,Bool.and_eq_true,Bool.not_eq_true'] at h
  have hf:P.fieldsOf t=fs:=by simp[Program.fieldsOf,hu]
  refine ⟨by rw[hf];exact hu,h.1,h.2.1,fun d' hd'=>?_⟩
  rw[hd] at hd'
  obtain rfl:=Option.some.inj hd'
  obtain ⟨a,b⟩:=wk h.2.2
  rw[hf]
  exact ⟨a,fun i f ct h1 h2=>by have:=b i f ct h1 h2;simpa using this⟩
 ·simp at h
def Fk (P:Program) (T:Tys):List Nat→Bool|[]=>true|t::r=>aA (eqB P T t) (Fk P T r)
theorem Cd {P:Program} {T:Tys}:∀ {l:List Nat},Fk P T l=true→∀t,cJ l t=true→DZ P T t
 |[],_,t,h=>by simp[cJ] at h
 |a::r,h,t,hm=>by
  simp only[Fk,aq,Bool.and_eq_true] at h
  rw[cA] at hm
  rcases List.mem_cons.1 hm with rfl|hm
  ·exact Ho h.1
  ·exact Cd h.2 t ((cA _ _).2 hm)
end Go.Ev
namespace Go.Ev
abbrev bs (l:Array UInt8):ByteArray:=⟨l⟩
abbrev ah:List (List C):=[]
abbrev rows (l:List (List C)):List (List C):=l
abbrev w64 (n:Int):Int:=IntKind.wrap .i64 n
def ae (o:Option (List C)) (K:C→R):R:=gB o fun ys=>K (ys.getD 0 .nil)
def call2 (o:Option (List C)) (K:C→C→R):R:=gB o fun ys=>K (ys.getD 0 .nil) (ys.getD 1 .nil)
def call3 (o:Option (List C)) (K:C→C→C→R):R:=gB o fun ys=>K (ys.getD 0 .nil) (ys.getD 1 .nil) (ys.getD 2 .nil)
def call4 (o:Option (List C)) (K:C→C→C→C→R):R:=gB o fun ys=>K (ys.getD 0 .nil) (ys.getD 1 .nil) (ys.getD 2 .nil) (ys.getD 3 .nil)
def call5 (o:Option (List C)) (K:C→C→C→C→C→R):R:=gB o fun ys=>K (ys.getD 0 .nil) (ys.getD 1 .nil) (ys.getD 2 .nil) (ys.getD 3 .nil) (ys.getD 4 .nil)
def call6 (o:Option (List C)) (K:C→C→C→C→C→C→R):R:=gB o fun ys=>K (ys.getD 0 .nil) (ys.getD 1 .nil) (ys.getD 2 .nil) (ys.getD 3 .nil) (ys.getD 4 .nil) (ys.getD 5 .nil)
def call8 (o:Option (List C)) (K:C→C→C→C→C→C→C→C→R):R:=gB o fun ys=>K (ys.getD 0 .nil) (ys.getD 1 .nil) (ys.getD 2 .nil) (ys.getD 3 .nil) (ys.getD 4 .nil) (ys.getD 5 .nil) (ys.getD 6 .nil) (ys.getD 7 .nil)
def call12 (o:Option (List C)) (K:C→C→C→C→C→C→C→C→C→C→C→C→R):R:=gB o fun ys=>K (ys.getD 0 .nil) (ys.getD 1 .nil) (ys.getD 2 .nil) (ys.getD 3 .nil) (ys.getD 4 .nil) (ys.getD 5 .nil) (ys.getD 6 .nil) (ys.getD 7 .nil) (ys.getD 8 .nil) (ys.getD 9 .nil) (ys.getD 10 .nil) (ys.getD 11 .nil)
def call14 (o:Option (List C)) (K:C→C→C→C→C→C→C→C→C→C→C→C→C→C→R):R:=gB o fun ys=>K (ys.getD 0 .nil) (ys.getD 1 .nil) (ys.getD 2 .nil) (ys.getD 3 .nil) (ys.getD 4 .nil) (ys.getD 5 .nil) (ys.getD 6 .nil) (ys.getD 7 .nil) (ys.getD 8 .nil) (ys.getD 9 .nil) (ys.getD 10 .nil) (ys.getD 11 .nil) (ys.getD 12 .nil) (ys.getD 13 .nil)
def call23 (o:Option (List C)) (K:C→C→C→C→C→C→C→C→C→C→C→C→C→C→C→C→C→C→C→C→C→C→C→R):R:=gB o fun ys=>K (ys.getD 0 .nil) (ys.getD 1 .nil) (ys.getD 2 .nil) (ys.getD 3 .nil) (ys.getD 4 .nil) (ys.getD 5 .nil) (ys.getD 6 .nil) (ys.getD 7 .nil) (ys.getD 8 .nil) (ys.getD 9 .nil) (ys.getD 10 .nil) (ys.getD 11 .nil) (ys.getD 12 .nil) (ys.getD 13 .nil) (ys.getD 14 .nil) (ys.getD 15 .nil) (ys.getD 16 .nil) (ys.getD 17 .nil) (ys.getD 18 .nil) (ys.getD 19 .nil) (ys.getD 20 .nil) (ys.getD 21 .nil) (ys.getD 22 .nil)
abbrev Fun:Nat→Type|0=>R|n+1=>C→Fun n
def apk:(n k:Nat)→Fun n→List C→R
 |0,_,f,_=>f
 |n+1,k,f,xs=>apk n (k+1) (f (xs.getD k .nil)) xs
def apn (n:Nat) (f:Fun n) (xs:List C):R:=apk n 0 f xs
def phi:List (Nat×Option Nat×FS)→FuncId→Option Tmp→Option FS
 |[],_,_=>none
 |(g,d,fs)::r,f,o=>sif (aA (Nat.beq g f) (onb d o)) (some fs) (phi r f o)
def pW (P:Program) (T:Tys):List (Nat×Option Nat×FS)→Prop
 |[]=>True
 |(g,_,fs)::r=>aG P T g fs∧pW P T r
theorem pW.nil {P:Program} {T:Tys}:pW P T []:=trivial
theorem pW.cons {P:Program} {T:Tys} {g:FuncId} {d:Option Nat} {fs:FS} {r:List (Nat×Option Nat×FS)} (h:aG P T g fs) (hr:pW P T r):pW P T ((g,d,fs)::r):=⟨h,hr⟩
theorem EN {P:Program} {T:Tys}:∀ {l:List (Nat×Option Nat×FS)},pW P T l→∀f d fs,phi l f d=some fs→aG P T f fs
 |[],_,f,d,fs,h=>by simp[phi] at h
 |(g,d',fs')::r,hl,f,d,fs,h=>by
  replace h:sif (aA (Nat.beq g f) (onb d' d)) (some fs') (phi r f d)=some fs:=h
  cases hc:aA (Nat.beq g f) (onb d' d) with
  |true=>
   rw[hc,af] at h
   simp only[aq,Bool.and_eq_true] at hc
   have e:=Nat.eq_of_beq_eq_true hc.1
   subst e
   obtain rfl:=Option.some.inj h
   exact hl.1
  |false=>rw[hc,aR] at h;exact EN hl.2 f d fs h
def Fe (P:Program):List (Nat×Nat)→Bool
 |[]=>true
 |(t,e)::r=>(match P.underlying t with|some (.map k e')=>(match P.underlying k with|some .string=>e==e'|_=>false)|_=>false)&&Fe P r
theorem BM {P:Program}:∀ {l:List (Nat×Nat)},Fe P l=true→MOk P l
 |[],_,t,e,h=>by simp[wc] at h
 |(t',e')::r,hb,t,e,h=>by
  simp only[Fe,Bool.and_eq_true] at hb
  replace h:sif (Nat.beq t' t) (some e') (wc r t)=some e:=h
  cases hc:Nat.beq t' t with
  |false=>rw[hc,aR] at h;exact BM hb.2 t e h
  |true=>
   rw[hc,af] at h
   obtain rfl:=Option.some.inj h
   have:=Nat.eq_of_beq_eq_true hc;subst this
   have h1:=hb.1
   split at h1
   ·rename_i k e2 hu
    split at h1
    ·rename_i hk
     have:e'=e2:=by simpa using h1
     subst this
     exact ⟨k,hu,hk⟩
    ·simp at h1
   ·simp at h1
structure AR (P:Program) (T:Tys) (eqT:List Nat) (mp:List (Nat×Nat)):Prop where
 tok:TOk P T
 E:∀t e,dU T t=some e→(P.info? e).isSome=true
 mixed:P.follows .mixedOrders=true
 Q:∀t,cJ eqT t=true→DZ P T t
 M:MOk P mp
theorem AR.of {P:Program} {T:Tys} {eqT:List Nat} {mp:List (Nat×Nat)} (h1:Ds P T T=true) (h2:P.follows .mixedOrders=true) (h3:Fk P T eqT=true) (h4:Fe P mp=true):AR P T eqT mp:=
 ⟨(Ci h1).1,(Ci h1).2,h2,Cd h3,BM h4⟩
def slB (n:Nat):List (Nat×Sk)→Bool|[]=>true|(d,_)::r=>aA (Nat.blt d n) (slB n r)
theorem vu {nm:Nm} {xs:List C} {n:Nat}:∀ {l:List (Nat×Sk)} {p:Nat} {f:ca},slB n l=true→(∀k,n≤k→f k=.un)→∀k,n≤k→(cg nm xs l p f).1 k=.un
 |[],p,f,_,hf,k,hk=>hf k hk
 |(d,q)::r,p,f,h,hf,k,hk=>by
  simp only[slB,aq,Bool.and_eq_true] at h
  refine vu h.2 (fun k hk=>?_) k hk
  have hd:d<n:=Nat.le_of_ble_eq_true h.1
  rw[aP _ _ (by omega)]
  exact hf k hk
def stat (fn:Func) (fs:FS):Bool:=aA (dA (fn.name== "runtime.NumGoroutine")) (aA (Nat.ble fs.n fn.ntmps) (slB fs.n fs.inT.sl))
theorem Gs {P:Program} {T:Tys} {eqT:List Nat} {mp:List (Nat×Nat)} (B:AR P T eqT mp) (mv:List Nat) (tr:Bool) (nt:List Nat) {f:FuncId} {fn:Func} {c:Code} (fs:FS) (an:Ann) (l:List (Nat×Option Nat×FS)) (hl:pW P T l)
  (hf:P.funcs[f]?=some fn) (hb:fn.body=some c) (hs:stat fn fs=true)
  (hF:∀xs,evF ⟨T,phi l,fn.ntmps,fn.results.toList,fs.inT,fs.outT,fs.ip,eqT,mp,mv,tr,nt⟩ c an xs=fs.F xs):aG P T f fs:=by
 simp only[stat,aq,cF,Bool.and_eq_true,Bool.not_eq_true'] at hs
 exact aG.HX (X:=⟨T,phi l,fn.ntmps,fn.results.toList,fs.inT,fs.outT,fs.ip,eqT,mp,mv,tr,nt⟩) ⟨B.tok,B.E,EN hl,B.Q,B.M,B.mixed⟩ hf hb hs.1 rfl rfl rfl rfl rfl (Nat.le_of_ble_eq_true hs.2.1)
  (fun xs k hk=>vu hs.2.2 (fun _ _=>rfl) k hk) (fun xs ys h=>by rw[hF];exact h)
theorem uO {P:Program} {T:Tys} {eqT:List Nat} {mp:List (Nat×Nat)} (B:AR P T eqT mp) (mv:List Nat) (tr:Bool) {f:FuncId} {fn:Func} {c:Code} (fs:FS) (an:Ann) (l:List (Nat×Option Nat×FS)) (hl:pW P T l)
  (hf:P.funcs[f]?=some fn) (hb:fn.body=some c) (hs:stat fn fs=true)
  (hF:∀xs,evF ⟨T,phi l,fn.ntmps,fn.results.toList,fs.inT,fs.outT,fs.ip,eqT,mp,mv,tr,[]⟩ c an xs=fs.F xs):aG P T f fs:=Gs B mv tr [] fs an l hl hf hb hs hF
theorem bO {P:Program} {T:Tys} {eqT:List Nat} {mp:List (Nat×Nat)} (B:AR P T eqT mp) {f:FuncId} {fn:Func} {c:Code} (fs:FS) (an:Ann) (l:List (Nat×Option Nat×FS)) (hl:pW P T l)
  (hf:P.funcs[f]?=some fn) (hb:fn.body=some c) (hs:stat fn fs=true)
  (hF:∀xs,evF ⟨T,phi l,fn.ntmps,fn.results.toList,fs.inT,fs.outT,fs.ip,eqT,mp,[],false,[]⟩ c an xs=fs.F xs):aG P T f fs:=uO B [] false fs an l hl hf hb hs hF
theorem kD {P:Program} {T:Tys} {f:FuncId} {fn:Func} {c:Code} (n:Nat) (i o:Tm) (ip:List Nat) (hf:P.funcs[f]?=some fn) (hb:fn.body=some c) (hs:stat fn ⟨n,i,o,ip,fun _=>none⟩=true):aG P T f ⟨n,i,o,ip,fun _=>none⟩:=by
 simp only[stat,aq,cF,Bool.and_eq_true,Bool.not_eq_true'] at hs
 exact ⟨⟨fn,c,hf,hb,hs.1⟩,fun w wr nl F0 θ xs ys args h1 h2 h3 h4=>absurd h4 (by simp)⟩
noncomputable def iW:Nat:=Classical.choose (⟨1000000,Nat.le_refl _⟩:∃n,1000000≤n)
theorem lQ:1000000≤iW:=Classical.choose_spec (⟨1000000,Nat.le_refl _⟩:∃n,1000000≤n)
end Go.Ev
namespace Go.Ev
@[simp] theorem C.I_i (n:Int):(C.i n).I=n:=rfl
@[simp] theorem C.B_b (x:Bool):(C.b x).B=x:=rfl
@[simp] theorem C.S_s (x:ByteArray):(C.s x).S=x:=rfl
@[simp] theorem C.L_l (x:List (List C)):(C.l x).L=x:=rfl
@[simp] theorem C.P_p (x:List C):(C.p x).P=x:=rfl
@[simp] theorem C.s8 (x:List C):(C.p x).isP=true:=rfl
@[simp] theorem C.Iu:C.nil.isP=false:=rfl
@[simp] theorem C.IZ:C.nil.L=[]:=rfl
@[simp] theorem Il (ys:List C):bl (some (.ret ys))=some ys:=rfl
@[simp] theorem G7 (ys:List C) (K:List C→R):gB (some ys) K=K ys:=rfl
@[simp] theorem Gx (xs:List C) (K:List C→R):bR (some (.nrm xs)) K=K xs:=rfl
@[simp] theorem Ab (xs:List C) (K:List C→R):bR (some (.ret xs)) K=some (.ret xs):=rfl
@[simp] theorem Gy (i:Nat) (xs:List C) (K:List C→R):bR (some (.brk i xs)) K=some (.brk i xs):=rfl
@[simp] theorem ES (xs:List C) (K:List C→R):bR (some (.again xs)) K=some (.again xs):=rfl
@[simp] theorem zR (i:Nat) (xs:List C) (K:List C→R):ax i (some (.ret xs)) K=some (.ret xs):=rfl
@[simp] theorem EP (i:Nat) (xs:List C) (K:List C→R):ax i (some (.again xs)) K=some (.again xs):=rfl
@[simp] theorem Gi (i:Nat) (xs:List C) (K:List C→R):ax i (some (.nrm xs)) K=some (.nrm xs):=rfl
theorem Ax (i j:Nat) (xs:List C) (K:List C→R):ax i (some (.brk j xs)) K=if j=i then K xs else some (.brk j xs):=by
 show sif (Nat.beq j i) (K xs) (some (.brk j xs))=_
 by_cases h:j=i
 ·subst h;rw[Nat.beq_refl,af,if_pos rfl]
 ·have:Nat.beq j i=false:=by
   cases hb:Nat.beq j i with
   |false=>rfl
   |true=>exact absurd (Nat.eq_of_beq_eq_true hb) h
  rw[this,aR,if_neg h]
@[simp] theorem bg (i:Nat) (xs:List C) (K:List C→R):ax i (some (.brk i xs)) K=K xs:=by rw[Ax,if_pos rfl]
attribute [simp] ah
attribute [simp] rows
@[simp] theorem ER (n:Nat):((n:Int)).toNat=n:=Int.toNat_natCast n
theorem jA {α:Type} {a:α} {us vs:List α}:a::us++vs=a::(us++vs):=rfl
theorem jB {α:Type} (us:List α):[]++us=us:=rfl
theorem jC {α:Type} {x:α} {xs:List α} {d:α}:(x::xs).getD 0 d=x:=List.getD_cons_zero
theorem jD {α:Type} {x:α} {xs:List α} {n:Nat} {d:α}:(x::xs).getD (n+1) d=xs.getD n d:=List.getD_cons_succ
theorem jI (ys:List C) (K:List C→R):gB (some ys) K=K ys:=rfl
theorem jJ (xs:List C) (K:List C→R):bR (some (.nrm xs)) K=K xs:=rfl
theorem jR {α:Type} (a b:α):(bif true then a else b)=a:=rfl
theorem jS {α:Type} (a b:α):(bif false then a else b)=b:=rfl
theorem jV (ys:List C):bl (some (.ret ys))=some ys:=rfl
theorem jW {α β:Type} {us:List α} (f:α→β):(List.map f us).length=us.length:=List.length_map f
theorem jX (n:Nat):0≤(n:Int):=Int.natCast_nonneg n
theorem jY (n:Nat):((n:Int)).toNat=n:=Int.toNat_natCast n
theorem jZ:(!true)=false:=rfl
theorem ja:(!false)=true:=rfl
def gC (l:List C) (i:Nat):C:=l.getD i .nil
theorem apL:(∀(f:Fun 1) l,apn 1 f l=f (gC l 0))∧
 (∀(f:Fun 2) l,apn 2 f l=f (gC l 0) (gC l 1))∧
 (∀(f:Fun 3) l,apn 3 f l=f (gC l 0) (gC l 1) (gC l 2))∧
 (∀(f:Fun 4) l,apn 4 f l=f (gC l 0) (gC l 1) (gC l 2) (gC l 3))∧
 (∀(f:Fun 5) l,apn 5 f l=f (gC l 0) (gC l 1) (gC l 2) (gC l 3) (gC l 4))∧
 (∀(f:Fun 6) l,apn 6 f l=f (gC l 0) (gC l 1) (gC l 2) (gC l 3) (gC l 4) (gC l 5))∧
 (∀(f:Fun 7) l,apn 7 f l=f (gC l 0) (gC l 1) (gC l 2) (gC l 3) (gC l 4) (gC l 5) (gC l 6))∧
 (∀(f:Fun 8) l,apn 8 f l=f (gC l 0) (gC l 1) (gC l 2) (gC l 3) (gC l 4) (gC l 5) (gC l 6) (gC l 7))∧
 (∀(f:Fun 9) l,apn 9 f l=f (gC l 0) (gC l 1) (gC l 2) (gC l 3) (gC l 4) (gC l 5) (gC l 6) (gC l 7) (gC l 8))∧
 (∀(f:Fun 10) l,apn 10 f l=f (gC l 0) (gC l 1) (gC l 2) (gC l 3) (gC l 4) (gC l 5) (gC l 6) (gC l 7) (gC l 8) (gC l 9))∧
 (∀(f:Fun 11) l,apn 11 f l=f (gC l 0) (gC l 1) (gC l 2) (gC l 3) (gC l 4) (gC l 5) (gC l 6) (gC l 7) (gC l 8) (gC l 9) (gC l 10))∧
 (∀(f:Fun 12) l,apn 12 f l=f (gC l 0) (gC l 1) (gC l 2) (gC l 3) (gC l 4) (gC l 5) (gC l 6) (gC l 7) (gC l 8) (gC l 9) (gC l 10) (gC l 11))∧
 (∀(f:Fun 13) l,apn 13 f l=f (gC l 0) (gC l 1) (gC l 2) (gC l 3) (gC l 4) (gC l 5) (gC l 6) (gC l 7) (gC l 8) (gC l 9) (gC l 10) (gC l 11) (gC l 12))∧
 (∀(f:Fun 14) l,apn 14 f l=f (gC l 0) (gC l 1) (gC l 2) (gC l 3) (gC l 4) (gC l 5) (gC l 6) (gC l 7) (gC l 8) (gC l 9) (gC l 10) (gC l 11) (gC l 12) (gC l 13))∧
 (∀(f:Fun 15) l,apn 15 f l=f (gC l 0) (gC l 1) (gC l 2) (gC l 3) (gC l 4) (gC l 5) (gC l 6) (gC l 7) (gC l 8) (gC l 9) (gC l 10) (gC l 11) (gC l 12) (gC l 13) (gC l 14))∧
 (∀(f:Fun 16) l,apn 16 f l=f (gC l 0) (gC l 1) (gC l 2) (gC l 3) (gC l 4) (gC l 5) (gC l 6) (gC l 7) (gC l 8) (gC l 9) (gC l 10) (gC l 11) (gC l 12) (gC l 13) (gC l 14) (gC l 15))∧
 (∀(f:Fun 17) l,apn 17 f l=f (gC l 0) (gC l 1) (gC l 2) (gC l 3) (gC l 4) (gC l 5) (gC l 6) (gC l 7) (gC l 8) (gC l 9) (gC l 10) (gC l 11) (gC l 12) (gC l 13) (gC l 14) (gC l 15) (gC l 16))∧
 (∀(f:Fun 18) l,apn 18 f l=f (gC l 0) (gC l 1) (gC l 2) (gC l 3) (gC l 4) (gC l 5) (gC l 6) (gC l 7) (gC l 8) (gC l 9) (gC l 10) (gC l 11) (gC l 12) (gC l 13) (gC l 14) (gC l 15) (gC l 16) (gC l 17))∧
 (∀(f:Fun 19) l,apn 19 f l=f (gC l 0) (gC l 1) (gC l 2) (gC l 3) (gC l 4) (gC l 5) (gC l 6) (gC l 7) (gC l 8) (gC l 9) (gC l 10) (gC l 11) (gC l 12) (gC l 13) (gC l 14) (gC l 15) (gC l 16) (gC l 17) (gC l 18))∧
 (∀(f:Fun 20) l,apn 20 f l=f (gC l 0) (gC l 1) (gC l 2) (gC l 3) (gC l 4) (gC l 5) (gC l 6) (gC l 7) (gC l 8) (gC l 9) (gC l 10) (gC l 11) (gC l 12) (gC l 13) (gC l 14) (gC l 15) (gC l 16) (gC l 17) (gC l 18) (gC l 19))∧
 (∀(f:Fun 21) l,apn 21 f l=f (gC l 0) (gC l 1) (gC l 2) (gC l 3) (gC l 4) (gC l 5) (gC l 6) (gC l 7) (gC l 8) (gC l 9) (gC l 10) (gC l 11) (gC l 12) (gC l 13) (gC l 14) (gC l 15) (gC l 16) (gC l 17) (gC l 18) (gC l 19) (gC l 20))∧
 (∀(f:Fun 22) l,apn 22 f l=f (gC l 0) (gC l 1) (gC l 2) (gC l 3) (gC l 4) (gC l 5) (gC l 6) (gC l 7) (gC l 8) (gC l 9) (gC l 10) (gC l 11) (gC l 12) (gC l 13) (gC l 14) (gC l 15) (gC l 16) (gC l 17) (gC l 18) (gC l 19) (gC l 20) (gC l 21))∧
 (∀(f:Fun 23) l,apn 23 f l=f (gC l 0) (gC l 1) (gC l 2) (gC l 3) (gC l 4) (gC l 5) (gC l 6) (gC l 7) (gC l 8) (gC l 9) (gC l 10) (gC l 11) (gC l 12) (gC l 13) (gC l 14) (gC l 15) (gC l 16) (gC l 17) (gC l 18) (gC l 19) (gC l 20) (gC l 21) (gC l 22))∧
 (∀(f:Fun 24) l,apn 24 f l=f (gC l 0) (gC l 1) (gC l 2) (gC l 3) (gC l 4) (gC l 5) (gC l 6) (gC l 7) (gC l 8) (gC l 9) (gC l 10) (gC l 11) (gC l 12) (gC l 13) (gC l 14) (gC l 15) (gC l 16) (gC l 17) (gC l 18) (gC l 19) (gC l 20) (gC l 21) (gC l 22) (gC l 23))∧
 (∀(f:Fun 25) l,apn 25 f l=f (gC l 0) (gC l 1) (gC l 2) (gC l 3) (gC l 4) (gC l 5) (gC l 6) (gC l 7) (gC l 8) (gC l 9) (gC l 10) (gC l 11) (gC l 12) (gC l 13) (gC l 14) (gC l 15) (gC l 16) (gC l 17) (gC l 18) (gC l 19) (gC l 20) (gC l 21) (gC l 22) (gC l 23) (gC l 24))∧
 (∀(f:Fun 26) l,apn 26 f l=f (gC l 0) (gC l 1) (gC l 2) (gC l 3) (gC l 4) (gC l 5) (gC l 6) (gC l 7) (gC l 8) (gC l 9) (gC l 10) (gC l 11) (gC l 12) (gC l 13) (gC l 14) (gC l 15) (gC l 16) (gC l 17) (gC l 18) (gC l 19) (gC l 20) (gC l 21) (gC l 22) (gC l 23) (gC l 24) (gC l 25))∧
 (∀(f:Fun 27) l,apn 27 f l=f (gC l 0) (gC l 1) (gC l 2) (gC l 3) (gC l 4) (gC l 5) (gC l 6) (gC l 7) (gC l 8) (gC l 9) (gC l 10) (gC l 11) (gC l 12) (gC l 13) (gC l 14) (gC l 15) (gC l 16) (gC l 17) (gC l 18) (gC l 19) (gC l 20) (gC l 21) (gC l 22) (gC l 23) (gC l 24) (gC l 25) (gC l 26))∧
 (∀(f:Fun 28) l,apn 28 f l=f (gC l 0) (gC l 1) (gC l 2) (gC l 3) (gC l 4) (gC l 5) (gC l 6) (gC l 7) (gC l 8) (gC l 9) (gC l 10) (gC l 11) (gC l 12) (gC l 13) (gC l 14) (gC l 15) (gC l 16) (gC l 17) (gC l 18) (gC l 19) (gC l 20) (gC l 21) (gC l 22) (gC l 23) (gC l 24) (gC l 25) (gC l 26) (gC l 27))∧
 (∀(f:Fun 29) l,apn 29 f l=f (gC l 0) (gC l 1) (gC l 2) (gC l 3) (gC l 4) (gC l 5) (gC l 6) (gC l 7) (gC l 8) (gC l 9) (gC l 10) (gC l 11) (gC l 12) (gC l 13) (gC l 14) (gC l 15) (gC l 16) (gC l 17) (gC l 18) (gC l 19) (gC l 20) (gC l 21) (gC l 22) (gC l 23) (gC l 24) (gC l 25) (gC l 26) (gC l 27) (gC l 28))∧
 (∀(f:Fun 30) l,apn 30 f l=f (gC l 0) (gC l 1) (gC l 2) (gC l 3) (gC l 4) (gC l 5) (gC l 6) (gC l 7) (gC l 8) (gC l 9) (gC l 10) (gC l 11) (gC l 12) (gC l 13) (gC l 14) (gC l 15) (gC l 16) (gC l 17) (gC l 18) (gC l 19) (gC l 20) (gC l 21) (gC l 22) (gC l 23) (gC l 24) (gC l 25) (gC l 26) (gC l 27) (gC l 28) (gC l 29))∧
 (∀(f:Fun 31) l,apn 31 f l=f (gC l 0) (gC l 1) (gC l 2) (gC l 3) (gC l 4) (gC l 5) (gC l 6) (gC l 7) (gC l 8) (gC l 9) (gC l 10) (gC l 11) (gC l 12) (gC l 13) (gC l 14) (gC l 15) (gC l 16) (gC l 17) (gC l 18) (gC l 19) (gC l 20) (gC l 21) (gC l 22) (gC l 23) (gC l 24) (gC l 25) (gC l 26) (gC l 27) (gC l 28) (gC l 29) (gC l 30))∧
 (∀(f:Fun 32) l,apn 32 f l=f (gC l 0) (gC l 1) (gC l 2) (gC l 3) (gC l 4) (gC l 5) (gC l 6) (gC l 7) (gC l 8) (gC l 9) (gC l 10) (gC l 11) (gC l 12) (gC l 13) (gC l 14) (gC l 15) (gC l 16) (gC l 17) (gC l 18) (gC l 19) (gC l 20) (gC l 21) (gC l 22) (gC l 23) (gC l 24) (gC l 25) (gC l 26) (gC l 27) (gC l 28) (gC l 29) (gC l 30) (gC l 31))∧
 (∀(f:Fun 33) l,apn 33 f l=f (gC l 0) (gC l 1) (gC l 2) (gC l 3) (gC l 4) (gC l 5) (gC l 6) (gC l 7) (gC l 8) (gC l 9) (gC l 10) (gC l 11) (gC l 12) (gC l 13) (gC l 14) (gC l 15) (gC l 16) (gC l 17) (gC l 18) (gC l 19) (gC l 20) (gC l 21) (gC l 22) (gC l 23) (gC l 24) (gC l 25) (gC l 26) (gC l 27) (gC l 28) (gC l 29) (gC l 30) (gC l 31) (gC l 32))∧
 (∀(f:Fun 34) l,apn 34 f l=f (gC l 0) (gC l 1) (gC l 2) (gC l 3) (gC l 4) (gC l 5) (gC l 6) (gC l 7) (gC l 8) (gC l 9) (gC l 10) (gC l 11) (gC l 12) (gC l 13) (gC l 14) (gC l 15) (gC l 16) (gC l 17) (gC l 18) (gC l 19) (gC l 20) (gC l 21) (gC l 22) (gC l 23) (gC l 24) (gC l 25) (gC l 26) (gC l 27) (gC l 28) (gC l 29) (gC l 30) (gC l 31) (gC l 32) (gC l 33))∧
 (∀(f:Fun 35) l,apn 35 f l=f (gC l 0) (gC l 1) (gC l 2) (gC l 3) (gC l 4) (gC l 5) (gC l 6) (gC l 7) (gC l 8) (gC l 9) (gC l 10) (gC l 11) (gC l 12) (gC l 13) (gC l 14) (gC l 15) (gC l 16) (gC l 17) (gC l 18) (gC l 19) (gC l 20) (gC l 21) (gC l 22) (gC l 23) (gC l 24) (gC l 25) (gC l 26) (gC l 27) (gC l 28) (gC l 29) (gC l 30) (gC l 31) (gC l 32) (gC l 33) (gC l 34))∧
 (∀(f:Fun 36) l,apn 36 f l=f (gC l 0) (gC l 1) (gC l 2) (gC l 3) (gC l 4) (gC l 5) (gC l 6) (gC l 7) (gC l 8) (gC l 9) (gC l 10) (gC l 11) (gC l 12) (gC l 13) (gC l 14) (gC l 15) (gC l 16) (gC l 17) (gC l 18) (gC l 19) (gC l 20) (gC l 21) (gC l 22) (gC l 23) (gC l 24) (gC l 25) (gC l 26) (gC l 27) (gC l 28) (gC l 29) (gC l 30) (gC l 31) (gC l 32) (gC l 33) (gC l 34) (gC l 35))∧
 (∀(f:Fun 37) l,apn 37 f l=f (gC l 0) (gC l 1) (gC l 2) (gC l 3) (gC l 4) (gC l 5) (gC l 6) (gC l 7) (gC l 8) (gC l 9) (gC l 10) (gC l 11) (gC l 12) (gC l 13) (gC l 14) (gC l 15) (gC l 16) (gC l 17) (gC l 18) (gC l 19) (gC l 20) (gC l 21) (gC l 22) (gC l 23) (gC l 24) (gC l 25) (gC l 26) (gC l 27) (gC l 28) (gC l 29) (gC l 30) (gC l 31) (gC l 32) (gC l 33) (gC l 34) (gC l 35) (gC l 36))∧
 (∀(f:Fun 38) l,apn 38 f l=f (gC l 0) (gC l 1) (gC l 2) (gC l 3) (gC l 4) (gC l 5) (gC l 6) (gC l 7) (gC l 8) (gC l 9) (gC l 10) (gC l 11) (gC l 12) (gC l 13) (gC l 14) (gC l 15) (gC l 16) (gC l 17) (gC l 18) (gC l 19) (gC l 20) (gC l 21) (gC l 22) (gC l 23) (gC l 24) (gC l 25) (gC l 26) (gC l 27) (gC l 28) (gC l 29) (gC l 30) (gC l 31) (gC l 32) (gC l 33) (gC l 34) (gC l 35) (gC l 36) (gC l 37))∧
 (∀(f:Fun 39) l,apn 39 f l=f (gC l 0) (gC l 1) (gC l 2) (gC l 3) (gC l 4) (gC l 5) (gC l 6) (gC l 7) (gC l 8) (gC l 9) (gC l 10) (gC l 11) (gC l 12) (gC l 13) (gC l 14) (gC l 15) (gC l 16) (gC l 17) (gC l 18) (gC l 19) (gC l 20) (gC l 21) (gC l 22) (gC l 23) (gC l 24) (gC l 25) (gC l 26) (gC l 27) (gC l 28) (gC l 29) (gC l 30) (gC l 31) (gC l 32) (gC l 33) (gC l 34) (gC l 35) (gC l 36) (gC l 37) (gC l 38))∧
 (∀(f:Fun 40) l,apn 40 f l=f (gC l 0) (gC l 1) (gC l 2) (gC l 3) (gC l 4) (gC l 5) (gC l 6) (gC l 7) (gC l 8) (gC l 9) (gC l 10) (gC l 11) (gC l 12) (gC l 13) (gC l 14) (gC l 15) (gC l 16) (gC l 17) (gC l 18) (gC l 19) (gC l 20) (gC l 21) (gC l 22) (gC l 23) (gC l 24) (gC l 25) (gC l 26) (gC l 27) (gC l 28) (gC l 29) (gC l 30) (gC l 31) (gC l 32) (gC l 33) (gC l 34) (gC l 35) (gC l 36) (gC l 37) (gC l 38) (gC l 39))∧
 (∀x l,gC (x::l) 0=x)∧
 ∀x l n,gC (x::l) (n+1)=gC l n:=
 ⟨fun _ _=>rfl,fun _ _=>rfl,fun _ _=>rfl,fun _ _=>rfl,fun _ _=>rfl,fun _ _=>rfl,fun _ _=>rfl,fun _ _=>rfl,fun _ _=>rfl,fun _ _=>rfl,fun _ _=>rfl,fun _ _=>rfl,fun _ _=>rfl,fun _ _=>rfl,fun _ _=>rfl,fun _ _=>rfl,fun _ _=>rfl,fun _ _=>rfl,fun _ _=>rfl,fun _ _=>rfl,fun _ _=>rfl,fun _ _=>rfl,fun _ _=>rfl,fun _ _=>rfl,fun _ _=>rfl,fun _ _=>rfl,fun _ _=>rfl,fun _ _=>rfl,fun _ _=>rfl,fun _ _=>rfl,fun _ _=>rfl,fun _ _=>rfl,fun _ _=>rfl,fun _ _=>rfl,fun _ _=>rfl,fun _ _=>rfl,fun _ _=>rfl,fun _ _=>rfl,fun _ _=>rfl,fun _ _=>rfl,fun _ _=>rfl,fun _ _ _=>rfl⟩
attribute [simp] apL
theorem ss {body:List C→R}:∀ {k m:Nat} {xs:List C} {o:Out},k≤m→iter body k xs=some o→iter body m xs=some o
 |0,_,xs,o,_,h=>by simp[iter] at h
 |k+1,0,xs,o,hk,h=>by omega
 |k+1,m+1,xs,o,hk,h=>by
  simp only[iter] at h⊢
  split
  ·rename_i ys hb
   rw[hb] at h
   exact ss (by omega) h
  ·rename_i hb
   split at h
   ·rename_i ys hb';exact absurd hb' (hb ys)
   ·exact h
theorem kf {body:List C→R} {k:Nat} {xs:List C} {o:Out} (h:iter body k xs=some o):lim body xs=some o:=by
 have hex:∃k,(iter body k xs).isSome:=⟨k,by rw[h];rfl⟩
 unfold lim
 rw[dif_pos hex]
 have hs:=Classical.choose_spec hex
 obtain ⟨o',ho'⟩:=Option.isSome_iff_exists.1 hs
 rw[ho']
 rcases Nat.le_total k (Classical.choose hex) with hle|hle
 ·rw[ss hle h] at ho';exact ho'.symm
 ·rw[ss hle ho'] at h;exact h
theorem aO {body:List C→R} {xs ys:List C} (h:body xs=some (.again ys)):lim body xs=lim body ys:=by
 have key:∀k,iter body (k+1) xs=iter body k ys:=fun k=>by simp only[iter,h]
 cases hr:lim body ys with
 |some o=>
  obtain ⟨k,hk⟩:=rn hr
  exact kf (k:=k+1) (by rw[key];exact hk)
 |none=>
  cases hl:lim body xs with
  |none=>rfl
  |some o=>
   obtain ⟨k,hk⟩:=rn hl
   cases k with
   |zero=>simp[iter] at hk
   |succ k=>rw[key] at hk;rw[kf hk] at hr;simp at hr
theorem rH {body:List C→R} {xs ys:List C} (h:body xs=some (.ret ys)):lim body xs=some (.ret ys):=kf (k:=1) (by simp only[iter,h])
theorem aY {body:List C→R} {xs ys:List C} {i:Nat} (h:body xs=some (.brk i ys)):lim body xs=some (.brk i ys):=kf (k:=1) (by simp only[iter,h])
theorem aZ {n:Int} (h1:-9223372036854775808≤n) (h2:n≤9223372036854775807):w64 n=n:=by
 show (if (true&&decide (n%18446744073709551616≥9223372036854775808))=true then n%18446744073709551616-18446744073709551616 else n%18446744073709551616)=n
 split
 ·rename_i h;simp only[Bool.true_and,decide_eq_true_eq] at h;omega
 ·rename_i h;simp only[Bool.true_and,decide_eq_true_eq] at h;omega
theorem AF {α β:Type} (f:α→β) {l:List α} {i:Nat} (h:i<l.length) (d:β):(l.map f).getD i d=f l[i]:=by
 rw[List.getD_eq_getElem?_getD,List.getElem?_map,List.getElem?_eq_getElem h];rfl
def xA {α σ:Type} (f:Nat→α→σ→σ ⊕ Out) (fin:σ→Out):List α→Nat→σ→Out
 |[],_,a=>fin a
 |x::r,i,a=>match f i x a with
  |.inl b=>xA f fin r (i+1) b
  |.inr o=>o
def Out.stops:Out→Prop|.again _=>False|_=>True
theorem zU {body:List C→R} {xs:List C} {o:Out} (h:body xs=some o) (ho:o.stops):lim body xs=some o:=by
 cases o with
 |ret ys=>exact rH h
 |brk i ys=>exact aY h
 |nrm ys=>exact kf (k:=1) (by simp only[iter,h])
 |again ys=>exact ho.elim
def Hk {σ:Type} (body:List C→R) (S:Nat→σ→List C) (Inv:Nat→σ→Prop) (i:Nat) (a:σ):σ ⊕ Out→Prop
 |.inl b=>body (S i a)=some (.again (S (i+1) b))∧Inv (i+1) b
 |.inr o=>body (S i a)=some o∧o.stops
theorem u6 {α σ:Type} {l:List α} {body:List C→R} {S:Nat→σ→List C} (Inv:Nat→σ→Prop) (f:Nat→α→σ→σ ⊕ Out) (fin:σ→Out)
  (hstep:∀(i:Nat) (a:σ) (h:i<l.length),Inv i a→Hk body S Inv i a (f i l[i] a))
  (hend:∀a,Inv l.length a→body (S l.length a)=some (fin a)∧(fin a).stops):
  ∀(n i:Nat) (a:σ),n+i=l.length→Inv i a→lim body (S i a)=some (xA f fin (l.drop i) i a)
 |0,i,a,hn,ha=>by
  have:i=l.length:=by omega
  subst this
  obtain ⟨h1,h2⟩:=hend a ha
  rw[zU h1 h2,List.drop_length];rfl
 |n+1,i,a,hn,ha=>by
  have hi:i<l.length:=by omega
  have hs:=hstep i a hi ha
  rw[List.drop_eq_getElem_cons hi]
  show _=some (match f i l[i] a with
   |.inl b=>xA f fin (l.drop (i+1)) (i+1) b
   |.inr o=>o)
  cases hf:f i l[i] a with
  |inl b=>
   rw[hf] at hs
   rw[aO hs.1]
   exact u6 Inv f fin hstep hend n (i+1) b (by omega) hs.2
  |inr o=>
   rw[hf] at hs
   exact zU hs.1 hs.2
end Go.Ev
namespace Go.Ev
open Go.RowKit
inductive DB (T:Tys):CT→C→Prop
 |i (k:IntKind) (n:Int) (h:(Lit.int k n).wf=true):DB T (.int k) (.i n)
 |b (x:Bool):DB T .bool (.b x)
 |s (x:ByteArray) (h:x.size≤maxLen):DB T .str (.s x)
 |l (e:TypeId) (es:List (List C)) (h:es.length≤maxLen) (h1:∀(r:List C) (d:TD),r∈es→aV T e=some d→r.length=d.cts.length)
   (h2:∀(r:List C) (d:TD) (j:Nat) (c:C) (ct:CT),r∈es→aV T e=some d→r[j]?=some c→d.cts[j]?=some ct→DB T ct c):DB T (.sl e) (.l es)
theorem CG {w:World} {a:Addr} {v:Value} (h:w.cell? a=some v):a.block<w.heap.size∧a.spot=none:=by
 simp only[World.cell?] at h
 split at h
 ·rename_i c _ _ hb
  refine ⟨?_,?_⟩
  ·exact (Array.getElem?_eq_some_iff.1 hb).1
  ·split at h
   ·simp at h
   ·rename_i hs;simpa using hs
 ·simp at h
structure Rd (T:Tys) (w:World) (cts:List CT) (cs:List Value) (xs:List C):Prop where
 n:xs.length=cts.length
 m:cs.length=cts.length
 rel:∀(j:Nat) (c:C) (ct:CT) (v:Value),xs[j]?=some c→cts[j]?=some ct→cs[j]?=some v→bX T (fun k=>k<w.heap.size) w ct c v
 db:∀(j:Nat) (c:C) (ct:CT),xs[j]?=some c→cts[j]?=some ct→DB T ct c
theorem Rd.one {T:Tys} {w:World} {ct:CT} {c:C} {v:Value} (h:bX T (fun k=>k<w.heap.size) w ct c v) (hd:DB T ct c):Rd T w [ct] [v] [c]:=
 ⟨rfl,rfl,fun j c' ct' v' h1 h2 h3=>by
  cases j with
  |zero=>
   simp only[List.getElem?_cons_zero,Option.some.injEq] at h1 h2 h3
   subst h1;subst h2;subst h3;exact h
  |succ j=>simp at h1,fun j c' ct' h1 h2=>by
  cases j with
  |zero=>
   simp only[List.getElem?_cons_zero,Option.some.injEq] at h1 h2
   subst h1;subst h2;exact hd
  |succ j=>simp at h1⟩
def Dn (f:TypeId→Bool) (T:Tys):List (Nat×TypeId)→Nat→Nat→Bool
 |[],o,m=>Nat.beq o m
 |(o',t)::r,o,m=>aA (Nat.beq o' o) (aA (f t) (match aV T t with|some d=>Dn f T r (o+d.cts.length) m|none=>false))
def okA:Nat→Tys→TypeId→Bool
 |0,_,_=>false
 |n+1,T,t=>match aV T t with
  |some d=>match d.dv with
   |.int _=>true|.bool=>true|.str=>true
   |.sl e=>okA n T e
   |.st fs=>Dn (okA n T) T fs 0 d.cts.length
   |_=>false
  |none=>false
theorem BQ {β:Type} {p:Nat→β→Prop}:∀(n:Nat),(∀i,i<n→∃y,p i y)→∃l:List β,l.length=n∧∀i y,l[i]?=some y→p i y
 |0,_=>⟨[],rfl,fun i y h=>by simp at h⟩
 |n+1,h=>by
  obtain ⟨l,h1,h2⟩:=BQ n fun i hi=>h i (by omega)
  obtain ⟨y,hy⟩:=h n (by omega)
  refine ⟨l++[y],by simp[h1],fun i z hz=>?_⟩
  by_cases hi:i<n
  ·rw[List.getElem?_append_left (by omega)] at hz;exact h2 i z hz
  ·have hlt:=(List.getElem?_eq_some_iff.1 hz).1
   simp[h1] at hlt
   have:i=n:=by omega
   subst this
   rw[List.getElem?_append_right (by omega),h1,Nat.sub_self] at hz
   simp at hz;subst hz;exact hy
section
variable {H:Type} {enc:TypeId×Value→H} {P:Program} {w:World} {base:Nat} {sp:Nat→Bool} {held:Bool} {T:Tys}
theorem qz (hT:TOk P T) {t:TypeId} {d:TD} (h:aV T t=some d):P.cellsOf t=d.cts.length:=by
 obtain ⟨i,z,hi,hz,hs,hb,hzc⟩:=(hT t d h).facts
 simp[Program.cellsOf,hi,hs]
theorem rd (hT:TOk P T):∀(n:Nat) (t:TypeId) (d:TD) (fuel:Nat) (cs:List Value) (x:DataW H×List MemPlace),okA n T t=true→aV T t=some d→
  DataW.trod enc P w base sp held fuel t cs=some x→∃xs,Rd T w d.cts cs xs
 |0,t,d,fuel,cs,x,h,_,_=>by simp[okA] at h
 |n+1,t,d,fuel,cs,x,h,hd,hx=>by
  have ht:=hT t d hd
  obtain ⟨u,hu,hv⟩:=ht.desc
  have hleaf:=ht.leaf
  simp only[okA,hd] at h
  cases u with
  |bool=>
   obtain ⟨b,rfl,_⟩:=DataW.trod_bool hu hx
   rw[←hv] at hleaf;simp only[dM] at hleaf;rw[hleaf]
   exact ⟨_,.one (.bool b) (.b b)⟩
  |int k=>
   obtain ⟨b,rfl,_,hb⟩:=DataW.trod_int hu hx
   rw[←hv] at hleaf;simp only[dM] at hleaf;rw[hleaf]
   exact ⟨_,.one (.int k b) (.i k b hb)⟩
  |string=>
   obtain ⟨b,rfl,_,hb⟩:=DataW.trod_string hu hx
   rw[←hv] at hleaf;simp only[dM] at hleaf;rw[hleaf]
   exact ⟨_,.one (.str b) (.s b hb)⟩
  |slice e=>
   rw[←hv] at hleaf h;simp only[dM] at hleaf h;rw[hleaf]
   rcases DataW.trod_slice hu hx with ⟨rfl,_⟩|⟨a,len,cap,elems,rest,m,_,rfl,_,hb,hl,hm,hlen,hel,_,_⟩
   ·exact ⟨[.l []],.one (.sl0 e none 0) (.l e [] (by simp) (fun r d hr=>by simp at hr) fun r d j c ct hr=>by simp at hr)⟩
   ·obtain ⟨de,hde⟩:∃de,aV T e=some de:=by
     cases n with
     |zero=>simp[okA] at h
     |succ n=>
      simp only[okA] at h
      cases hq:aV T e with
      |none=>simp[hq] at h
      |some de=>exact ⟨de,rfl⟩
    have hpos:=(hT e de hde).pos
    have hc:=qz hT hde
    obtain ⟨es,h1,h2⟩:=BQ (p:=fun i ys=>∃cs',w.cells? base (a.add (i*P.cellsOf e)) (P.cellsOf e)=some cs'∧Rd T w de.cts cs' ys) len fun i hi=>by
     have:=hel i hi
     rw[List.getElem?_eq_getElem (by omega)] at this
     obtain ⟨cs',q1,q2⟩:=Option.bind_eq_some_iff.1 this
     obtain ⟨ys,q3⟩:=rd hT n e de m cs' _ h hde q2
     exact ⟨ys,cs',q1,q3⟩
    rw[hc] at h2
    have hdb:DB T (.sl e) (.l es):=.l e es (by omega) (fun r d hr hd=>by
     obtain ⟨i,hi⟩:=List.getElem?_of_mem hr
     obtain ⟨cs',_,q⟩:=h2 i r hi
     rw[hde] at hd;obtain rfl:=Option.some.inj hd
     exact q.n) fun r d j c ct hr hd hc hct=>by
     obtain ⟨i,hi⟩:=List.getElem?_of_mem hr
     obtain ⟨cs',_,q⟩:=h2 i r hi
     rw[hde] at hd;obtain rfl:=Option.some.inj hd
     exact q.db j c ct hc hct
    rcases Nat.eq_zero_or_pos len with h0|h0
    ·have:es=[]:=List.eq_nil_of_length_eq_zero (by omega)
     subst this
     subst h0
     exact ⟨[.l []],.one (.sl0 e (some a) cap) hdb⟩
    ·obtain ⟨cs0,q1,q2⟩:=h2 0 es[0] (List.getElem?_eq_getElem (by omega))
     obtain ⟨_,q3,q4⟩:=World.cells?_some q1
     have q5:=q4 0 hpos
     rw[List.getElem?_eq_getElem (by omega)] at q5
     have q6:=CG q5
     obtain ⟨g,o,spt⟩:=a
     have hspot:spt=none:=by
      by_cases he:spt=none
      ·exact he
      ·simp[Addr.add] at q6;exact q6.2
     subst hspot
     simp only[Addr.add_lit] at q6
     have hg:g<w.heap.size:=q6.1
     have key:=bX.sl (T:=T) (F:=fun k=>k<w.heap.size) (w:=w) e de es g o cap (fun i j=>(w.cell? ⟨g,o+(i*de.cts.length+j),none⟩).getD undef) hde hg (by omega)
      (fun i ys hi=>by
       obtain ⟨cs',_,q⟩:=h2 i ys hi
       exact q.n)
      (fun i ys j c hi hj=>by
       obtain ⟨cs',p1,q⟩:=h2 i ys hi
       obtain ⟨_,p2,p3⟩:=World.cells?_some p1
       have hjl:j<de.cts.length:=by rw[←q.n];exact (List.getElem?_eq_some_iff.1 hj).1
       have p4:=p3 j hjl
       rw[List.getElem?_eq_getElem (by omega)] at p4
       simp only[Addr.add_lit] at p4
       rw[←Nat.add_assoc,p4];rfl)
      (fun i ys j c ct hi hj hct=>by
       obtain ⟨cs',p1,q⟩:=h2 i ys hi
       obtain ⟨_,p2,p3⟩:=World.cells?_some p1
       have hjl:j<de.cts.length:=by rw[←q.n];exact (List.getElem?_eq_some_iff.1 hj).1
       have p4:=p3 j hjl
       rw[List.getElem?_eq_getElem (by omega)] at p4
       simp only[Addr.add_lit] at p4
       rw[←Nat.add_assoc,p4]
       exact q.rel j c ct _ hj hct (List.getElem?_eq_getElem (by omega)))
     rw[h1] at key
     exact ⟨[.l es],.one key hdb⟩
  |struct fs=>
   obtain ⟨zs,m,_,_,hl,hz,hf⟩:=DataW.trod_struct hu hx
   rw[←hv] at hleaf h;simp only[dM] at hleaf h
   rw[qz hT hd] at hl
   have key:∀(l:List Field) (o:Nat),Dn (okA n T) T (dr l) o d.cts.length=true→(∀q,q∈dr l→q∈dr fs.toList)→(∀f,f∈l→∃z,DataW.trod enc P w base sp held m f.type ((cs.drop f.offset).take (P.cellsOf f.type))=some z)→
     ∃xs:List C,xs.length+o=d.cts.length∧(∀(j:Nat) (c:C) (ct:CT) (v:Value),xs[j]?=some c→d.cts[o+j]?=some ct→cs[o+j]?=some v→bX T (fun k=>k<w.heap.size) w ct c v)∧∀(j:Nat) (c:C) (ct:CT),xs[j]?=some c→d.cts[o+j]?=some ct→DB T ct c:=by
    intro l
    induction l with
    |nil=>
     intro o h _ _
     simp only[dr,List.map_nil,Dn] at h
     exact ⟨[],by simpa using Nat.eq_of_beq_eq_true h,fun j c ct v h=>by simp at h,fun j c ct h=>by simp at h⟩
    |cons f l ih=>
     intro o h hin hall
     simp only[dr,List.map_cons,Dn,aq,Bool.and_eq_true] at h
     obtain ⟨ho,hok,h⟩:=h
     have ho:=Nat.eq_of_beq_eq_true ho
     cases hdf:aV T f.type with
     |none=>simp[hdf] at h
     |some df=>
      simp only[hdf] at h
      obtain ⟨z,hz⟩:=hall f (by simp)
      obtain ⟨ys,hys⟩:=rd hT n f.type df m _ z hok hdf hz
      obtain ⟨xs,h1,h2,h3⟩:=ih (o+df.cts.length) h (fun q hq=>hin q (by simp only[dr,List.map_cons,List.mem_cons];exact .inr hq)) (fun f' hf'=>hall f' (by simp[hf']))
      have hsub:=hleaf f.offset f.type (hin _ (by simp[dr])) df hdf
      rw[qz hT hdf] at hys
      rw[ho] at hsub hys
      refine ⟨ys++xs,by rw[List.length_append,hys.n];omega,fun j c ct v a1 a2 a3=>?_,fun j c ct a1 a2=>?_⟩
      ·by_cases hj:j<ys.length
       ·rw[List.getElem?_append_left hj] at a1
        have hjl:j<df.cts.length:=by rw[←hys.n];exact hj
        refine hys.rel j c ct v a1 ?_ ?_
        ·rw[←hsub,List.getElem?_take_of_lt hjl,List.getElem?_drop];exact a2
        ·rw[List.getElem?_take_of_lt hjl,List.getElem?_drop];exact a3
       ·rw[List.getElem?_append_right (by omega)] at a1
        have e:o+df.cts.length+(j-ys.length)=o+j:=by rw[hys.n] at hj⊢;omega
        exact h2 (j-ys.length) c ct v a1 (by rw[e];exact a2) (by rw[e];exact a3)
      ·by_cases hj:j<ys.length
       ·rw[List.getElem?_append_left hj] at a1
        have hjl:j<df.cts.length:=by rw[←hys.n];exact hj
        refine hys.db j c ct a1 ?_
        rw[←hsub,List.getElem?_take_of_lt hjl,List.getElem?_drop];exact a2
       ·rw[List.getElem?_append_right (by omega)] at a1
        have e:o+df.cts.length+(j-ys.length)=o+j:=by rw[hys.n] at hj⊢;omega
        exact h3 (j-ys.length) c ct a1 (by rw[e];exact a2)
   obtain ⟨xs,h1,h2,h3⟩:=key fs.toList 0 h (fun _ h=>h) (fun f hf'=>by
    obtain ⟨i,hi⟩:=List.getElem?_of_mem hf'
    have hi':fs[i]?=some f:=by simpa using hi
    have:=hf i f hi'
    have hil:i<zs.length:=by rw[hz];exact (Array.getElem?_eq_some_iff.1 hi').1
    rw[List.getElem?_eq_getElem hil] at this
    exact ⟨_,this⟩)
   exact ⟨xs,by simpa using h1,hl,fun j c ct v a1 a2 a3=>h2 j c ct v a1 (by simpa using a2) (by simpa using a3),fun j c ct a1 a2=>h3 j c ct a1 (by simpa using a2)⟩
  |_=>rw[←hv] at h;simp[dM] at h
end
theorem IE {P:Program} {T:Tys} {f n:Nat} {sl:List (Nat×Sk)} {Fn:List C→Option (List C)} (hf:aG P T f ⟨n,⟨sl,[]⟩,⟨[(0,.d .bool)],[]⟩,[],Fn⟩)
  (xs:List C) (args:Array Value) (W:World) (hs:args.size=n) (ha:∀k,k<n→aj T (fun k=>k<W.heap.size) W (fun _=>none) (fun _=>.bool false) (((⟨sl,[]⟩:Tm).inj xs).sl k) (args.getD k undef)) (hF:Fn xs=some [.b true]):
  Calls P f args W fun e W'=>e=.returned (.bool true)∧Below W.heap.size W W':=by
 refine (hf.calls W (fun _=>False) (fun _=>False) (fun k=>k<W.heap.size) (fun _=>.bool false) xs [.b true] args ?_ hs ha hF).mono ?_
 ·exact ⟨fun b x h=>(by cases h),fun b b' x x' g h=>(by cases h),fun b x g h=>(by cases h),fun k h=>h,⟨rfl,rfl,⟨rfl,Nat.le_refl _⟩,Nat.le_refl _,fun _ _ _=>rfl⟩,fun k h=>h,fun k h=>.inl h,fun n hn=>(by cases hn),fun b x h=>(by cases h),fun b x k h=>(by cases h),fun b b' x x' k h=>(by cases h),fun k h=>h.elim⟩
 ·rintro e W' ⟨v,F1,θ1,rfl,hw,hv,_⟩
  have hv':aj T F1 W' _ θ1 (.c .bool (.b true)) v:=hv
  cases hv' with
  |c _ _ _ h=>
   cases h
   exact ⟨rfl,⟨hw.keep.os,hw.keep.tape,hw.keep.output.1,hw.keep.size,fun k hk=>hw.keep.old k hk (fun h=>h)⟩⟩
end Go.Ev
set_option maxRecDepth 100000
namespace Go.Ev
open Go.Proofs
def zi:Sk:=.d (.int .i64)
def zt:Sk:=.d .str
def zo:Sk:=.d .bool
def zl (n:Nat):Sk:=.d (.sl n)
def z0:BSk:=.var 27 [zo,(zl 30),(zl 86),(zl 33)]
def z1:BSk:=.var 107 [(zl 5),zi]
def z2:BSk:=.var 33 [zt,zt,zi,zi,zi,zi,zt,(zl 122),zi,zt,zt,zt]
def z3:Sk:=(.ag [zo,(zl 30),(zl 86),(zl 33)])
def z4:BSk:=.var 35 [zi,zt,zt,(zl 9),zi,zi,zo,zt,zt,zi,zi,zi,zi,zt,(zl 122),zi,zt,zt,zt,zt,zt]
def z5:Sk:=(.ag [zt,zt,zi,zi,zi,zi,zt,(zl 122),zi,zt,zt,zt])
def z6:BSk:=.var 27 [zo,(.ow 1020700),(.ow 1020701),(.ow 1020702)]
def z7:Sk:=(.ag [zt,zt,(zl 9),zi,zi,zo])
def z8:BSk:=.var 30 [zt,zt,(zl 9),zi,zi,zo]
def z9:Sk:=(.ag [zi,zt,zt,(zl 9),zi,zi,zo,zt,zt,zi,zi,zi,zi,zt,(zl 122),zi,zt,zt,zt,zt,zt])
def z10:BSk:=.var 33 [zt,zt,zi,zi,zi,zi,zt,(.ow 1033800),zi,zt,zt,zt]
def z11:BSk:=.var 33 [zt,zt,zi,zi,zi,zi,zt,(.ow 1033801),zi,zt,zt,zt]
def z12:Sk:=(.ag [zo,(.ow 3000),(.ow 3001),(.ow 3002)])
def z13:BSk:=.var 27 [zo,(.ow 1013100),(.ow 1013101),(.ow 1013102)]
def z14:BSk:=.var 27 [zo,(.ow 1148100),(.ow 1148101),(.ow 1148102)]
def z15:BSk:=.var 27 [zo,(.ow 1020703),(.ow 1020704),(.ow 1020705)]
def z16:BSk:=.var 27 [zo,(.ow 1295000),(.ow 1295001),(.ow 1295002)]
def T0:Tys:=[(1,⟨.fn,[.fn],8⟩),
 (2,⟨(.int .i64),[(.int .i64)],8⟩),
 (3,⟨(.int .i64),[(.int .i64)],8⟩),
 (4,⟨.bool,[.bool],1⟩),
 (5,⟨(.int .u8),[(.int .u8)],1⟩),
 (6,⟨(.int .u8),[(.int .u8)],1⟩),
 (7,⟨(.st [(0,2),(1,3),(2,4),(3,6)]),[(.int .i64),(.int .i64),.bool,(.int .u8)],24⟩),
 (8,⟨(.st [(0,2),(1,3),(2,4),(3,6)]),[(.int .i64),(.int .i64),.bool,(.int .u8)],24⟩),
 (9,⟨.str,[.str],16⟩),
 (10,⟨.str,[.str],16⟩),
 (11,⟨.str,[.str],16⟩),
 (12,⟨(.int .u64),[(.int .u64)],8⟩),
 (13,⟨(.st [(0,9),(1,12)]),[.str,(.int .u64)],24⟩),
 (14,⟨(.st [(0,9),(1,12)]),[.str,(.int .u64)],24⟩),
 (15,⟨(.pt 215),[(.pt 215)],8⟩),
 (16,⟨(.pt 218),[(.pt 218)],8⟩),
 (17,⟨(.pt 226),[(.pt 226)],8⟩),
 (18,⟨(.st [(0,17)]),[(.pt 226)],8⟩),
 (19,⟨(.st [(0,17)]),[(.pt 226)],8⟩),
 (21,⟨(.int .i32),[(.int .i32)],4⟩),
 (22,⟨(.sl 5),[(.sl 5)],24⟩),
 (23,⟨(.sl 30),[(.sl 30)],24⟩),
 (24,⟨(.sl 86),[(.sl 86)],24⟩),
 (25,⟨(.sl 33),[(.sl 33)],24⟩),
 (26,⟨(.st [(0,4),(1,23),(2,24),(3,25)]),[.bool,(.sl 30),(.sl 86),(.sl 33)],80⟩),
 (27,⟨(.st [(0,4),(1,23),(2,24),(3,25)]),[.bool,(.sl 30),(.sl 86),(.sl 33)],80⟩),
 (28,⟨(.sl 9),[(.sl 9)],24⟩),
 (29,⟨(.st [(0,9),(1,9),(2,28),(3,3),(4,3),(5,4)]),[.str,.str,(.sl 9),(.int .i64),(.int .i64),.bool],80⟩),
 (30,⟨(.st [(0,9),(1,9),(2,28),(3,3),(4,3),(5,4)]),[.str,.str,(.sl 9),(.int .i64),(.int .i64),.bool],80⟩),
 (31,⟨(.sl 122),[(.sl 122)],24⟩),
 (32,⟨(.st [(0,9),(1,9),(2,3),(3,3),(4,3),(5,3),(6,9),(7,31),(8,3),(9,9),(10,9),(11,9)]),[.str,.str,(.int .i64),(.int .i64),(.int .i64),(.int .i64),.str,(.sl 122),(.int .i64),.str,.str,.str],160⟩),
 (33,⟨(.st [(0,9),(1,9),(2,3),(3,3),(4,3),(5,3),(6,9),(7,31),(8,3),(9,9),(10,9),(11,9)]),[.str,.str,(.int .i64),(.int .i64),(.int .i64),(.int .i64),.str,(.sl 122),(.int .i64),.str,.str,.str],160⟩),
 (34,⟨(.st [(0,3),(1,30),(7,33),(19,9),(20,9)]),[(.int .i64),.str,.str,(.sl 9),(.int .i64),(.int .i64),.bool,.str,.str,(.int .i64),(.int .i64),(.int .i64),(.int .i64),.str,(.sl 122),(.int .i64),.str,.str,.str,.str,.str],280⟩),
 (35,⟨(.st [(0,3),(1,30),(7,33),(19,9),(20,9)]),[(.int .i64),.str,.str,(.sl 9),(.int .i64),(.int .i64),.bool,.str,.str,(.int .i64),(.int .i64),(.int .i64),(.int .i64),.str,(.sl 122),(.int .i64),.str,.str,.str,.str,.str],280⟩),
 (37,⟨.fn,[.fn],8⟩),
 (39,⟨.fn,[.fn],8⟩),
 (40,⟨.fn,[.fn],8⟩),
 (41,⟨.fn,[.fn],8⟩),
 (42,⟨.fn,[.fn],8⟩),
 (43,⟨(.sl 48),[(.sl 48)],24⟩),
 (44,⟨(.sl 124),[(.sl 124)],24⟩),
 (45,⟨(.sl 51),[(.sl 51)],24⟩),
 (46,⟨(.st [(0,4),(1,43),(2,44),(3,45)]),[.bool,(.sl 48),(.sl 124),(.sl 51)],80⟩),
 (47,⟨(.st [(0,4),(1,43),(2,44),(3,45)]),[.bool,(.sl 48),(.sl 124),(.sl 51)],80⟩),
 (48,⟨(.st [(0,9),(1,9),(2,28),(3,3),(4,3),(5,4)]),[.str,.str,(.sl 9),(.int .i64),(.int .i64),.bool],80⟩),
 (49,⟨(.sl 146),[(.sl 146)],24⟩),
 (50,⟨(.st [(0,9),(1,9),(2,3),(3,3),(4,3),(5,3),(6,9),(7,49),(8,3),(9,9),(10,9),(11,9)]),[.str,.str,(.int .i64),(.int .i64),(.int .i64),(.int .i64),.str,(.sl 146),(.int .i64),.str,.str,.str],160⟩),
 (51,⟨(.st [(0,9),(1,9),(2,3),(3,3),(4,3),(5,3),(6,9),(7,49),(8,3),(9,9),(10,9),(11,9)]),[.str,.str,(.int .i64),(.int .i64),(.int .i64),(.int .i64),.str,(.sl 146),(.int .i64),.str,.str,.str],160⟩),
 (52,⟨(.st [(0,3),(1,48),(7,51),(19,9),(20,9)]),[(.int .i64),.str,.str,(.sl 9),(.int .i64),(.int .i64),.bool,.str,.str,(.int .i64),(.int .i64),(.int .i64),(.int .i64),.str,(.sl 146),(.int .i64),.str,.str,.str,.str,.str],280⟩),
 (53,⟨(.st [(0,3),(1,48),(7,51),(19,9),(20,9)]),[(.int .i64),.str,.str,(.sl 9),(.int .i64),(.int .i64),.bool,.str,.str,(.int .i64),(.int .i64),(.int .i64),(.int .i64),.str,(.sl 146),(.int .i64),.str,.str,.str,.str,.str],280⟩),
 (54,⟨.fn,[.fn],8⟩),
 (55,⟨.fn,[.fn],8⟩),
 (56,⟨.fn,[.fn],8⟩),
 (57,⟨.fn,[.fn],8⟩),
 (58,⟨.fn,[.fn],8⟩),
 (59,⟨.fn,[.fn],8⟩),
 (60,⟨.fn,[.fn],8⟩),
 (61,⟨.fn,[.fn],8⟩),
 (62,⟨(.pt 107),[(.pt 107)],8⟩),
 (63,⟨.fn,[.fn],8⟩),
 (64,⟨.fn,[.fn],8⟩),
 (65,⟨.fn,[.fn],8⟩),
 (66,⟨.fn,[.fn],8⟩),
 (67,⟨(.sl 3),[(.sl 3)],24⟩),
 (68,⟨.fn,[.fn],8⟩),
 (69,⟨.fn,[.fn],8⟩),
 (70,⟨.fn,[.fn],8⟩),
 (71,⟨.fn,[.fn],8⟩),
 (72,⟨.fn,[.fn],8⟩),
 (73,⟨.fn,[.fn],8⟩),
 (74,⟨.fn,[.fn],8⟩),
 (75,⟨.fn,[.fn],8⟩),
 (76,⟨.fn,[.fn],8⟩),
 (77,⟨.fn,[.fn],8⟩),
 (78,⟨.fn,[.fn],8⟩),
 (79,⟨.fn,[.fn],8⟩),
 (80,⟨.fn,[.fn],8⟩),
 (82,⟨.fn,[.fn],8⟩),
 (83,⟨.fn,[.fn],8⟩),
 (84,⟨.fn,[.fn],8⟩),
 (85,⟨(.st [(0,9),(1,3)]),[.str,(.int .i64)],24⟩),
 (86,⟨(.st [(0,9),(1,3)]),[.str,(.int .i64)],24⟩),
 (87,⟨.fn,[.fn],8⟩),
 (88,⟨.fn,[.fn],8⟩),
 (89,⟨.fn,[.fn],8⟩),
 (90,⟨.fn,[.fn],8⟩),
 (91,⟨.fn,[.fn],8⟩),
 (92,⟨.fn,[.fn],8⟩),
 (93,⟨.fn,[.fn],8⟩),
 (94,⟨.fn,[.fn],8⟩),
 (95,⟨.fn,[.fn],8⟩),
 (96,⟨.fn,[.fn],8⟩),
 (97,⟨.fn,[.fn],8⟩),
 (98,⟨.fn,[.fn],8⟩),
 (99,⟨.fn,[.fn],8⟩),
 (100,⟨.fn,[.fn],8⟩),
 (101,⟨.fn,[.fn],8⟩),
 (102,⟨.fn,[.fn],8⟩),
 (103,⟨.fn,[.fn],8⟩),
 (104,⟨.fn,[.fn],8⟩),
 (105,⟨.fn,[.fn],8⟩),
 (106,⟨(.st [(0,22),(1,3)]),[(.sl 5),(.int .i64)],32⟩),
 (107,⟨(.st [(0,22),(1,3)]),[(.sl 5),(.int .i64)],32⟩),
 (108,⟨.fn,[.fn],8⟩),
 (109,⟨.fn,[.fn],8⟩),
 (110,⟨.fn,[.fn],8⟩),
 (111,⟨.fn,[.fn],8⟩),
 (112,⟨.fn,[.fn],8⟩),
 (114,⟨.fn,[.fn],8⟩),
 (117,⟨.fn,[.fn],8⟩),
 (118,⟨.fn,[.fn],8⟩),
 (119,⟨.fn,[.fn],8⟩),
 (120,⟨.fn,[.fn],8⟩),
 (121,⟨(.st [(0,9),(1,3)]),[.str,(.int .i64)],24⟩),
 (122,⟨(.st [(0,9),(1,3)]),[.str,(.int .i64)],24⟩),
 (123,⟨.fn,[.fn],8⟩),
 (124,⟨(.st [(0,9),(1,3)]),[.str,(.int .i64)],24⟩),
 (125,⟨.fn,[.fn],8⟩),
 (126,⟨.fn,[.fn],8⟩),
 (127,⟨.fn,[.fn],8⟩),
 (128,⟨.fn,[.fn],8⟩),
 (129,⟨.fn,[.fn],8⟩),
 (130,⟨.fn,[.fn],8⟩),
 (131,⟨.fn,[.fn],8⟩),
 (132,⟨.fn,[.fn],8⟩),
 (133,⟨.fn,[.fn],8⟩),
 (134,⟨.fn,[.fn],8⟩),
 (135,⟨(.sl 28),[(.sl 28)],24⟩),
 (136,⟨.fn,[.fn],8⟩),
 (137,⟨.fn,[.fn],8⟩),
 (139,⟨.fn,[.fn],8⟩),
 (140,⟨.fn,[.fn],8⟩),
 (141,⟨(.pt 160),[(.pt 160)],8⟩),
 (143,⟨.fn,[.fn],8⟩),
 (144,⟨.fn,[.fn],8⟩),
 (145,⟨.fn,[.fn],8⟩),
 (146,⟨(.st [(0,9),(1,3)]),[.str,(.int .i64)],24⟩),
 (147,⟨.fn,[.fn],8⟩),
 (148,⟨.fn,[.fn],8⟩),
 (149,⟨.fn,[.fn],8⟩),
 (150,⟨.fn,[.fn],8⟩),
 (151,⟨.fn,[.fn],8⟩),
 (152,⟨(.sl 190),[(.sl 190)],24⟩),
 (153,⟨.fn,[.fn],8⟩),
 (154,⟨(.st [(0,152)]),[(.sl 190)],24⟩),
 (155,⟨(.st [(0,152)]),[(.sl 190)],24⟩),
 (156,⟨.fn,[.fn],8⟩),
 (157,⟨.fn,[.fn],8⟩),
 (158,⟨(.sl 141),[(.sl 141)],24⟩),
 (159,⟨(.st [(0,3),(1,9),(2,9),(3,158)]),[(.int .i64),.str,.str,(.sl 141)],64⟩),
 (160,⟨(.st [(0,3),(1,9),(2,9),(3,158)]),[(.int .i64),.str,.str,(.sl 141)],64⟩),
 (161,⟨(.pt 163),[(.pt 163)],8⟩),
 (162,⟨(.st [(0,9),(1,3),(2,4)]),[.str,(.int .i64),.bool],32⟩),
 (163,⟨(.st [(0,9),(1,3),(2,4)]),[.str,(.int .i64),.bool],32⟩),
 (164,⟨.fn,[.fn],8⟩),
 (165,⟨.fn,[.fn],8⟩),
 (166,⟨.fn,[.fn],8⟩),
 (167,⟨.fn,[.fn],8⟩),
 (169,⟨.fn,[.fn],8⟩),
 (170,⟨.fn,[.fn],8⟩),
 (171,⟨.fn,[.fn],8⟩),
 (172,⟨.fn,[.fn],8⟩),
 (173,⟨.fn,[.fn],8⟩),
 (174,⟨(.sl 67),[(.sl 67)],24⟩),
 (176,⟨.fn,[.fn],8⟩),
 (177,⟨.fn,[.fn],8⟩),
 (178,⟨.fn,[.fn],8⟩),
 (179,⟨.fn,[.fn],8⟩),
 (180,⟨.fn,[.fn],8⟩),
 (184,⟨.fn,[.fn],8⟩),
 (185,⟨.fn,[.fn],8⟩),
 (186,⟨(.pt 182),[(.pt 182)],8⟩),
 (188,⟨.fn,[.fn],8⟩),
 (189,⟨(.st [(0,3),(1,9),(2,9),(3,3)]),[(.int .i64),.str,.str,(.int .i64)],48⟩),
 (190,⟨(.st [(0,3),(1,9),(2,9),(3,3)]),[(.int .i64),.str,.str,(.int .i64)],48⟩),
 (191,⟨(.pt 193),[(.pt 193)],8⟩),
 (192,⟨(.st [(0,28),(1,3),(2,4)]),[(.sl 9),(.int .i64),.bool],40⟩),
 (193,⟨(.st [(0,28),(1,3),(2,4)]),[(.sl 9),(.int .i64),.bool],40⟩),
 (194,⟨.fn,[.fn],8⟩),
 (195,⟨.fn,[.fn],8⟩),
 (196,⟨.fn,[.fn],8⟩),
 (197,⟨(.sl 152),[(.sl 152)],24⟩),
 (198,⟨.fn,[.fn],8⟩),
 (200,⟨.fn,[.fn],8⟩),
 (201,⟨.fn,[.fn],8⟩),
 (202,⟨.fn,[.fn],8⟩),
 (203,⟨(.int .u64),[(.int .u64)],8⟩),
 (204,⟨.fn,[.fn],8⟩),
 (205,⟨.fn,[.fn],8⟩),
 (206,⟨(.int .u32),[(.int .u32)],4⟩),
 (208,⟨.fn,[.fn],8⟩),
 (210,⟨(.st [(0,5),(1,5)]),[(.int .u8),(.int .u8)],2⟩),
 (211,⟨(.st [(0,5),(1,5)]),[(.int .u8),(.int .u8)],2⟩),
 (213,⟨.fn,[.fn],8⟩),
 (214,⟨(.st [(0,17),(1,17),(2,17),(3,9)]),[(.pt 226),(.pt 226),(.pt 226),.str],40⟩),
 (215,⟨(.st [(0,17),(1,17),(2,17),(3,9)]),[(.pt 226),(.pt 226),(.pt 226),.str],40⟩),
 (219,⟨(.int .u8),[(.int .u8)],1⟩),
 (220,⟨(.int .u8),[(.int .u8)],1⟩),
 (221,⟨.fn,[.fn],8⟩),
 (222,⟨(.pt 5),[(.pt 5)],8⟩),
 (223,⟨(.int .i32),[(.int .i32)],4⟩),
 (224,⟨(.int .i32),[(.int .i32)],4⟩),
 (225,⟨(.st [(0,12),(1,12),(2,206),(3,219),(4,5),(5,5),(6,220),(7,221),(8,222),(9,223),(10,224)]),[(.int .u64),(.int .u64),(.int .u32),(.int .u8),(.int .u8),(.int .u8),(.int .u8),.fn,(.pt 5),(.int .i32),(.int .i32)],48⟩),
 (226,⟨(.st [(0,12),(1,12),(2,206),(3,219),(4,5),(5,5),(6,220),(7,221),(8,222),(9,223),(10,224)]),[(.int .u64),(.int .u64),(.int .u32),(.int .u8),(.int .u8),(.int .u8),(.int .u8),.fn,(.pt 5),(.int .i32),(.int .i32)],48⟩)]
def IB:List Nat:=[86,122]
def IA:List (Nat×Nat):=[(113,4),(115,3)]
theorem aI:AR Tryz.checked.prog T0 IB IA:=AR.of (by kernel_rfl) (by kernel_rfl) (by kernel_rfl) (by kernel_rfl)
end Go.Ev
namespace Go.Proofs
set_option maxHeartbeats 1000000 in
set_option maxRecDepth 100000 in
theorem stringslite_IndexByte (s:ByteArray) (c:Int) (w:World):
  Calls Tryz.prog 172 #[.string s,.int .u8 c] w fun e w'=>e=.returned (.int .i64 (Lib.indexByte s.data.toList c.toNat.toUInt8))∧w'=w:=by
 go_enter Tryz.func172,Tryz.ntmps172
 go_wp2
 rw[run_callFunc_extern Tryz.func182 (by kernel_rfl) (by kernel_rfl) (by kernel_rfl) (e:=Extern.BytealgIndexByte.indexByte) (by kernel_rfl),Lib.run_indexByteString]
 simp only[Result.andThen]
 rw[Oper.upon_value]
 go_wp2
 go_ret
 exact ⟨rfl,rfl⟩
end Go.Proofs
namespace Go.Ev
open Go.Proofs
def ibF:List C→Option (List C):=fun xs=>some [.i (Lib.indexByte (xs.getD 0 .nil).S.data.toList (xs.getD 1 .nil).I.toNat.toUInt8)]
theorem HD:aG Tryz.checked.prog T0 172 ⟨2,⟨[(0,.d .str),(1,.d (.int .u8))],[]⟩,⟨[(0,.d (.int .i64))],[]⟩,[],ibF⟩:=by
 refine ⟨⟨Tryz.f172,_,Tryz.func172,rfl,by kernel_rfl⟩,?_⟩
 intro W wr nl F0 θ xs ys args hW hsz hargs hF
 obtain ⟨a0,a1,rfl⟩:∃a0 a1,args= #[a0,a1]:=by
  obtain ⟨l⟩:=args
  simp only[List.size_toArray] at hsz
  match l,hsz with
  |[a,b],_=>exact ⟨a,b,rfl⟩
 have r0:aj T0 F0 W (fun _=>none) θ (.c .str (xs.getD 0 .nil)) a0:=hargs 0 (by decide)
 have r1:aj T0 F0 W (fun _=>none) θ (.c (.int .u8) (xs.getD 1 .nil)) a1:=hargs 1 (by decide)
 simp only[ibF,Option.some.injEq] at hF
 subst hF
 generalize hx0:xs.getD 0 .nil=x0 at*
 generalize hx1:xs.getD 1 .nil=x1 at*
 cases r0 with
 |c _ _ _ hc=>
 cases hc with
 |str s=>
 cases r1 with
 |c _ _ _ hc=>
 cases hc with
 |int _ m=>
 refine (stringslite_IndexByte s m W).mono ?_
 rintro e w' ⟨rfl,rfl⟩
 exact ⟨_,F0,θ,rfl,hW,.c _ _ _ (.int _ _),fun n _ hn=>by simp at hn⟩
end Go.Ev
namespace Go.Ev
open Go.Sort
section
variable {T:Tys} {w w':World} {wr nl F0:Nat→Prop} {θ:Nat→Value} {bx bx':Bxs} {t:TypeId} {d:TD} {es es':List (List C)} {m:Nat} {ip:List Nat}
end
end Go.Ev
namespace Go.Ev
open Go.Sort
end Go.Ev
namespace Go.Ev
open Go.Sort Go.Proofs
end Go.Ev
namespace Go.Ev
open Go.Sort Go.Proofs
section
variable {P:Program} {T:Tys} {g:FuncId} {cts:List CT} {CF:List C→Option (List C)} {Q:List C→Bool}
end
end Go.Ev
namespace Go.Ev
def II (rk bn:Int) (n:ByteArray) (rk' bn':Int) (n':ByteArray):Int:=bif rk !=rk' then w64 (rk'-rk) else bif bn !=bn' then w64 (bn-bn') else Lib.compareBytes n.data.toList n'.data.toList
def ltE (rk bn:Int) (n:ByteArray) (rk' bn':Int) (n':ByteArray):Bool:=decide (rk'<rk)||(rk==rk'&&(decide (bn<bn')||(bn==bn'&&Op.bytesLess n.data.toList n'.data.toList)))
section
variable {CF:List C→Option (List C)} (hCF:∀(a0 a1 a6 a9 a10 a11:ByteArray) (a2 a3 a4 a5 a8:Int) (a7:List (List C)) (b0 b1 b6 b9 b10 b11:ByteArray) (b2 b3 b4 b5 b8:Int) (b7:List (List C)),
 CF [.s a0,.s a1,.i a2,.i a3,.i a4,.i a5,.s a6,.l a7,.i a8,.s a9,.s a10,.s a11,.s b0,.s b1,.i b2,.i b3,.i b4,.i b5,.s b6,.l b7,.i b8,.s b9,.s b10,.s b11]=some [.i (II a2 a3 a0 b2 b3 b0)])
include hCF
end
end Go.Ev
namespace Go.Ev
open Go.Proofs Go.RowKit Go.Lib
section
variable {T:Tys} {F:Nat→Prop} {w:World}
theorem AI {d:TD} {es:List (List C)} {us:List Value} {n i j:Nat} {ct:CT} {c:C} {u:Value} (h:AtU d (es.take n) (us.take (n*d.cts.length)) i j ct c u):AtU d es us i j ct c u∧i<n:=by
 obtain ⟨row,h1,h2,h3,h4⟩:=h
 rw[List.getElem?_take] at h1 h4
 split at h1
 ·rename_i hi
  split at h4
  ·exact ⟨⟨row,h1,h2,h3,h4⟩,hi⟩
  ·cases h4
 ·cases h1
theorem zy {d:TD} {es:List (List C)} {us:List Value} {n i j:Nat} {ct:CT} {c:C} {u:Value} (h:AtU d (es.drop n) (us.drop (n*d.cts.length)) i j ct c u):AtU d es us (n+i) j ct c u:=by
 obtain ⟨row,h1,h2,h3,h4⟩:=h
 rw[List.getElem?_drop] at h1 h4
 have e:(n+i)*d.cts.length+j=n*d.cts.length+(i*d.cts.length+j):=by rw[Nat.add_mul];omega
 exact ⟨row,h1,h2,h3,by rw[e];exact h4⟩
theorem rD {d:TD} {es vs:List (List C)} {us ns ws:List Value} {i0 i j:Nat} {ct:CT} {c:C} {u:Value} (hl:us.length=es.length*d.cts.length) (hl':ns.length=vs.length*d.cts.length) (hi:i0≤es.length)
  (h:AtU d (es.take i0++vs++es.drop i0) (us.take (i0*d.cts.length)++ns++us.drop (i0*d.cts.length)++ws) i j ct c u):
  (AtU d es us i j ct c u∧i<i0)∨(AtU d vs ns (i-i0) j ct c u∧i0≤i∧i<i0+vs.length)∨(AtU d es us (i-vs.length) j ct c u∧i0+vs.length≤i):=by
 have m1:i0*d.cts.length≤es.length*d.cts.length:=Nat.mul_le_mul_right _ hi
 have l1:(us.take (i0*d.cts.length)).length=(es.take i0).length*d.cts.length:=by simp only[List.length_take];rw[Nat.min_eq_left hi];omega
 have l2:(us.take (i0*d.cts.length)++ns).length=(es.take i0++vs).length*d.cts.length:=by rw[List.length_append,List.length_append,l1,hl',Nat.add_mul]
 have l3:(us.drop (i0*d.cts.length)).length=(es.drop i0).length*d.cts.length:=by simp only[List.length_drop];rw[Nat.sub_mul];omega
 have l4:(es.take i0).length=i0:=by simp[Nat.min_eq_left hi]
 rcases nh l2 l3 h with q|⟨q1,q⟩
 ·rw[←List.append_nil (us.take (i0*d.cts.length)++ns)] at q
  rcases nh l1 hl' q with p|⟨p1,p⟩
  ·exact .inl (AI p)
  ·rw[l4] at p1 p
   have:i-i0<vs.length:=by obtain ⟨row,h1,_⟩:=p;exact (List.getElem?_eq_some_iff.1 h1).1
   exact .inr (.inl ⟨p,p1,by omega⟩)
 ·rw[List.length_append,l4] at q1 q
  have:=zy q
  have e:i0+(i-(i0+vs.length))=i-vs.length:=by omega
  rw[e] at this
  exact .inr (.inr ⟨this,q1⟩)
theorem fR.ins {d:TD} {es vs:List (List C)} {us ns ws:List Value} {i0:Nat} (h:fR T w d es us) (h':fR T w d vs ns) (hd:∀k,fN T w d es us k→¬fN T w d vs ns k) (hl:us.length=es.length*d.cts.length) (hl':ns.length=vs.length*d.cts.length) (hi:i0≤es.length):
  fR T w d (es.take i0++vs++es.drop i0) (us.take (i0*d.cts.length)++ns++us.drop (i0*d.cts.length)++ws)∧∀k,fN T w d (es.take i0++vs++es.drop i0) (us.take (i0*d.cts.length)++ns++us.drop (i0*d.cts.length)++ws) k→fN T w d es us k∨fN T w d vs ns k:=by
 refine ⟨⟨fun i j ct c u h1=>?_,fun i j ct c u i' j' ct' c' u' k h1 h2 h3 h4=>?_⟩,fun k ⟨i,j,ct,c,u,h1,h2⟩=>?_⟩
 ·rcases rD hl hl' hi h1 with ⟨q,_⟩|⟨q,_⟩|⟨q,_⟩
  ·exact h.rel _ _ _ _ _ q
  ·exact h'.rel _ _ _ _ _ q
  ·exact h.rel _ _ _ _ _ q
 ·rcases rD hl hl' hi h1 with ⟨q,a1⟩|⟨q,a1,a2⟩|⟨q,a1⟩<;>rcases rD hl hl' hi h2 with ⟨p,b1⟩|⟨p,b1,b2⟩|⟨p,b1⟩
  ·exact h.dj _ _ _ _ _ _ _ _ _ _ k q p h3 h4
  ·exact absurd ⟨_,_,_,_,_,p,h4⟩ (hd k ⟨_,_,_,_,_,q,h3⟩)
  ·obtain ⟨a,b⟩:=h.dj _ _ _ _ _ _ _ _ _ _ k q p h3 h4;exact ⟨by omega,b⟩
  ·exact absurd ⟨_,_,_,_,_,q,h3⟩ (hd k ⟨_,_,_,_,_,p,h4⟩)
  ·obtain ⟨a,b⟩:=h'.dj _ _ _ _ _ _ _ _ _ _ k q p h3 h4;exact ⟨by omega,b⟩
  ·exact absurd ⟨_,_,_,_,_,q,h3⟩ (hd k ⟨_,_,_,_,_,p,h4⟩)
  ·obtain ⟨a,b⟩:=h.dj _ _ _ _ _ _ _ _ _ _ k q p h3 h4;exact ⟨by omega,b⟩
  ·exact absurd ⟨_,_,_,_,_,p,h4⟩ (hd k ⟨_,_,_,_,_,q,h3⟩)
  ·obtain ⟨a,b⟩:=h.dj _ _ _ _ _ _ _ _ _ _ k q p h3 h4;exact ⟨by omega,b⟩
 ·rcases rD hl hl' hi h1 with ⟨q,_⟩|⟨q,_⟩|⟨q,_⟩
  ·exact .inl ⟨_,_,_,_,_,q,h2⟩
  ·exact .inr ⟨_,_,_,_,_,q,h2⟩
  ·exact .inl ⟨_,_,_,_,_,q,h2⟩
theorem rz {d:TD} {es:List (List C)} {us ws:List Value} {i0 j0 i j:Nat} {ct:CT} {c:C} {u:Value} (hl:us.length=es.length*d.cts.length) (hi:i0≤j0) (hj:j0≤es.length)
  (h:AtU d (es.take i0++es.drop j0) (us.take (i0*d.cts.length)++us.drop (j0*d.cts.length)++ws) i j ct c u):
  (AtU d es us i j ct c u∧i<i0)∨(AtU d es us (j0+(i-i0)) j ct c u∧i0≤i):=by
 have m1:i0*d.cts.length≤es.length*d.cts.length:=Nat.mul_le_mul_right _ (by omega)
 have l1:(us.take (i0*d.cts.length)).length=(es.take i0).length*d.cts.length:=by simp only[List.length_take];rw[Nat.min_eq_left (by omega:i0≤es.length)];omega
 have l3:(us.drop (j0*d.cts.length)).length=(es.drop j0).length*d.cts.length:=by simp only[List.length_drop];rw[Nat.sub_mul];omega
 have l4:(es.take i0).length=i0:=by simp;omega
 rcases nh l1 l3 h with q|⟨q1,q⟩
 ·exact .inl (AI q)
 ·rw[l4] at q1 q
  exact .inr ⟨zy q,q1⟩
theorem fR.del {d:TD} {es:List (List C)} {us ws:List Value} {i0 j0:Nat} (h:fR T w d es us) (hl:us.length=es.length*d.cts.length) (hi:i0≤j0) (hj:j0≤es.length):
  fR T w d (es.take i0++es.drop j0) (us.take (i0*d.cts.length)++us.drop (j0*d.cts.length)++ws)∧∀k,fN T w d (es.take i0++es.drop j0) (us.take (i0*d.cts.length)++us.drop (j0*d.cts.length)++ws) k→fN T w d es us k:=by
 refine ⟨⟨fun i j ct c u h1=>?_,fun i j ct c u i' j' ct' c' u' k h1 h2 h3 h4=>?_⟩,fun k ⟨i,j,ct,c,u,h1,h2⟩=>?_⟩
 ·rcases rz hl hi hj h1 with ⟨q,_⟩|⟨q,_⟩<;>exact h.rel _ _ _ _ _ q
 ·rcases rz hl hi hj h1 with ⟨q,a1⟩|⟨q,a1⟩<;>rcases rz hl hi hj h2 with ⟨p,b1⟩|⟨p,b1⟩<;>
  ·obtain ⟨a,b⟩:=h.dj _ _ _ _ _ _ _ _ _ _ k q p h3 h4;exact ⟨by omega,b⟩
 ·rcases rz hl hi hj h1 with ⟨q,_⟩|⟨q,_⟩<;>exact ⟨_,_,_,_,_,q,h2⟩
theorem Rws.ins {d:TD} {es vs:List (List C)} {us ns ws:List Value} {i:Nat} (h:Rws (bX T F w) d es us) (hl:us.length=es.length*d.cts.length) (h':Rws (bX T F w) d vs ns) (hl':ns.length=vs.length*d.cts.length) (hi:i≤es.length):
  Rws (bX T F w) d (es.take i++vs++es.drop i) (us.take (i*d.cts.length)++ns++us.drop (i*d.cts.length)++ws):=by
 refine ⟨fun k c hk=>?_,fun k c j x ct v hk hx ht hv=>?_⟩
 ·have hm:c∈es.take i++vs++es.drop i:=List.mem_of_getElem? hk
  simp only[List.mem_append] at hm
  rcases hm with (hm|hm)|hm
  ·obtain ⟨n,hn⟩:=List.getElem?_of_mem (List.mem_of_mem_take hm);exact h.len _ _ hn
  ·obtain ⟨n,hn⟩:=List.getElem?_of_mem hm;exact h'.len _ _ hn
  ·obtain ⟨n,hn⟩:=List.getElem?_of_mem (List.mem_of_mem_drop hm);exact h.len _ _ hn
 ·rcases rD hl hl' hi ⟨c,hk,hx,ht,hv⟩ with ⟨⟨r,a,b,e,g⟩,_⟩|⟨⟨r,a,b,e,g⟩,_⟩|⟨⟨r,a,b,e,g⟩,_⟩
  ·exact h.rel _ _ _ _ _ _ a b e g
  ·exact h'.rel _ _ _ _ _ _ a b e g
  ·exact h.rel _ _ _ _ _ _ a b e g
theorem Rws.del {d:TD} {es:List (List C)} {us ws:List Value} {i0 j0:Nat} (h:Rws (bX T F w) d es us) (hl:us.length=es.length*d.cts.length) (hi:i0≤j0) (hj:j0≤es.length):
  Rws (bX T F w) d (es.take i0++es.drop j0) (us.take (i0*d.cts.length)++us.drop (j0*d.cts.length)++ws):=by
 refine ⟨fun k c hk=>?_,fun k c j x ct v hk hx ht hv=>?_⟩
 ·have hm:c∈es.take i0++es.drop j0:=List.mem_of_getElem? hk
  simp only[List.mem_append] at hm
  rcases hm with hm|hm
  ·obtain ⟨n,hn⟩:=List.getElem?_of_mem (List.mem_of_mem_take hm);exact h.len _ _ hn
  ·obtain ⟨n,hn⟩:=List.getElem?_of_mem (List.mem_of_mem_drop hm);exact h.len _ _ hn
 ·rcases rz hl hi hj ⟨c,hk,hx,ht,hv⟩ with ⟨⟨r,a,b,e,g⟩,_⟩|⟨⟨r,a,b,e,g⟩,_⟩<;>exact h.rel _ _ _ _ _ _ a b e g
end
end Go.Ev
namespace Go.Ev
open Go.Proofs Go.RowKit Go.Lib
section
variable {P:Program}
theorem yV (w:World) {o:Oper} {a:Act} {K:Act→World→Prop} {Q:Exit→Act→World→Prop} (d s:Operand) (t t':TypeId)
  (ho:o.op=.call {callee:=.builtin .copy,args:= #[d,s],argTypes:= #[t,t']}) (v u:Value) (hd:a.eval d=v) (hs:a.eval s=u) {v':Value} {w':World}
  (hr:(Builtin.copy_ #[t,t'] o.type #[v,u]).run P w=.ok v' w') (h:K (a.put o.dst v') w'):o.wp P a w K Q:=by
 unfold Oper.wp execOp
 simp only[ho,resolve,invoke,builtin,Sem.run_bind,Sem.run_pure,Result.andThen_ok,List.map_toArray,List.map_cons,List.map_nil,hd,hs,hr]
 exact h
theorem gR (w:World) {ops:Array Oper} {rest:List Oper} {o:Oper} {a:Act} {Q:Exit→Act→World→Prop} (hgd:o.guard=none) (d s:Operand) (t t':TypeId)
  (ho:o.op=.call {callee:=.builtin .copy,args:= #[d,s],argTypes:= #[t,t']}) (v u:Value) (hd:a.eval d=v) (hs:a.eval s=u) {v':Value} {w':World}
  (hr:(Builtin.copy_ #[t,t'] o.type #[v,u]).run P w=.ok v' w') (h:wpList P ops Q rest (a.put o.dst v') w'):wpList P ops Q (o::rest) a w:=
 wpList_plain hgd fun _ hK=>yV w d s t t' ho v u hd hs hr (hK _ _ h)
theorem jj {ops:Array Oper} {o:Oper} {a:Act} {w:World} {K:Act→World→Prop} {Q:Exit→Act→World→Prop} {E:Prop}
  (hg:o.guard=none) (d x:Operand) (dT sT:TypeId) (hop:o.op=Op.call {callee:=Callee.builtin Builtin.copy,args:= #[d,x],argTypes:= #[dT,sT]})
  (v u:Value) (hd:a.eval d=v) (hx:a.eval x=u) {v':Value} {w':World} (hr:(Builtin.copy_ #[dT,sT] o.type #[v,u]).run P w=.ok v' w') (hK:K (a.put o.dst v') w'):
  if Region.wanted o (yielded ops a.tmps)=true then Oper.wp P o a w K Q else E:=by
 have hw:Region.wanted o (yielded ops a.tmps)=true:=by simp[Region.wanted,hg]
 rw[if_pos hw]
 unfold Oper.wp
 simp[execOp,hop,resolve,invoke,builtin,hd,hx,hr,Result.andThen]
 exact hK
theorem mL {ops:Array Oper} {o:Oper} {a:Act} {w:World} {K:Act→World→Prop} {Q:Exit→Act→World→Prop} {E:Prop}
  (hg:o.guard=none) (d x:Operand) (dT sT:TypeId) (hop:o.op=Op.call {callee:=Callee.builtin Builtin.append,args:= #[d,x],argTypes:= #[dT,sT]})
  (v u:Value) (hd:a.eval d=v) (hx:a.eval x=u) {v':Value} {w':World} (hr:(Builtin.append_ #[dT,sT] o.type #[v,u]).run P w=.ok v' w') (hK:K (a.put o.dst v') w'):
  if Region.wanted o (yielded ops a.tmps)=true then Oper.wp P o a w K Q else E:=by
 have hw:Region.wanted o (yielded ops a.tmps)=true:=by simp[Region.wanted,hg]
 rw[if_pos hw]
 unfold Oper.wp
 simp[execOp,hop,resolve,invoke,builtin,hd,hx,hr,Result.andThen]
 exact hK
theorem gE (w:World) {ops:Array Oper} {rest:List Oper} {o:Oper} {a:Act} {Q:Exit→Act→World→Prop} (hgd:o.guard=none) (d:Operand) (t:TypeId)
  (ho:o.op=.call {callee:=.builtin .clear,args:= #[d],argTypes:= #[t]}) (v:Value) (hd:a.eval d=v) {v':Value} {w':World}
  (hr:(Builtin.clear_ #[t] o.type #[v]).run P w=.ok v' w') (h:wpList P ops Q rest (a.put o.dst v') w'):wpList P ops Q (o::rest) a w:=
 wpList_plain hgd fun _ hK=>by
  unfold Oper.wp execOp
  simp only[ho,resolve,invoke,builtin,Sem.run_bind,Sem.run_pure,Result.andThen_ok,List.map_toArray,List.map_cons,List.map_nil,hd,hr]
  exact hK _ _ h
theorem j3 (w:World) (dT sT ty elem:TypeId) (i:TypeInfo) (g o dLen dCap:Nat) (a:Addr) (sLen sCap:Nat) (cur:Array Value) (t:TypeId) (cs:List Value)
  (hu:P.underlying dT=some (.slice elem)) (hi:P.info? elem=some i) (hg:w.heap[g]?=some (.cells cur t (0,0))) (hn:cs.length=Nat.min sLen dLen*i.size)
  (hsrc:∀j v,cs[j]?=some v→w.cell? (a.add j)=some v) (hfit:o+cs.length≤cur.size) (h1:∀v∈cs,v.oneCell'=true):
  (Builtin.copy_ #[dT,sT] ty #[.slice (some ⟨g,o,none⟩) dLen dCap,.slice (some a) sLen sCap]).run P w=
   .ok (goInt (Nat.min sLen dLen)) (w.setRow g (cur.toList.take o++cs++cur.toList.drop (o+cs.length)).toArray):=by
 have hl:=run_firstCells_some (P:=P) w i.size (Nat.min sLen dLen) a sLen sCap cs hn hsrc
 have hst:=run_storeCells_at P g o t cs 0 cur w hg (by simpa using hfit) h1
 simp only[Nat.add_zero] at hst
 simp[Builtin.copy_,run_underlying hu,Builtin.lenOf,sizeOf,typeInfo,hi,hl,hst]
end
structure ET (P:Program) (tS tE k:Nat) (i0:TypeInfo) (z:Value):Prop where
 u:P.underlying tS=some (.slice tE)
 i:P.info? tE=some i0
 s:i0.size=k
 pos:0<k
 b:i0.bytes≤16384
 zz:i0.zero=some z
 zs:z.cells.size=k
 z1:∀u∈(Builtin.zeroCells z.cells 1).toList,u.oneCell'=true
def ay (cs:Array Value) (o m:Nat):List Value:=(cs.toList.drop o).take m
theorem mH {w:World} {g o m:Nat} {cs:Array Value} {t:TypeId} (hg:w.heap[g]?=some (.cells cs t (0,0))) {p j:Nat} {v:Value} (hj:((ay cs o m).drop p)[j]?=some v):w.cell? ((⟨g,o+p,none⟩:Addr).add j)=some v:=by
 rw[ay,List.getElem?_drop,List.getElem?_take] at hj
 split at hj
 ·rw[List.getElem?_drop] at hj
  rw[Addr.add_lit]
  have e:o+p+j=o+(p+j):=by omega
  simpa [World.cell?,hg,e] using hj
 ·cases hj
theorem A4 {α:Type} {cs vs:List α} {n i c d:Nat} (hi:i<n) (hc:cs.length=c*d) (hroom:n+1≤c) (hv:vs.length=d):
  let seg:=(cs.take (n*d)).drop (i*d)
  let r1:=cs.take ((i+1)*d)++seg++cs.drop ((i+1)*d+seg.length)
  let r2:=r1.take (i*d)++vs++r1.drop (i*d+vs.length)
  seg.length=(n-i)*d∧(i+1)*d+seg.length≤cs.length∧r1.length=cs.length∧i*d+vs.length≤r1.length∧r2.length=cs.length∧r2.take ((n+1)*d)=cs.take (i*d)++vs++seg:=by
 intro seg r1 r2
 have m1:(i+1)*d=i*d+d:=Nat.succ_mul i d
 have m2:(n+1)*d=n*d+d:=Nat.succ_mul n d
 have m3:(n-i)*d=n*d-i*d:=Nat.sub_mul n i d
 have m4:(n+1)*d≤c*d:=Nat.mul_le_mul_right d hroom
 have m5:(i+1)*d≤n*d:=Nat.mul_le_mul_right d hi
 have s1:seg.length=(n-i)*d:=by simp only[seg,List.length_drop,List.length_take];omega
 have s2:(i+1)*d+seg.length≤cs.length:=by omega
 have s3:r1.length=cs.length:=by simp only[r1,List.length_append,List.length_take,List.length_drop];omega
 have s4:i*d+vs.length≤r1.length:=by omega
 have s5:r2.length=cs.length:=by simp only[r2,List.length_append,List.length_take,List.length_drop];omega
 refine ⟨s1,s2,s3,s4,s5,?_⟩
 have t1:r1.take (i*d)=cs.take (i*d):=by
  simp only[r1]
  rw[List.append_assoc,List.take_append_of_le_length (by simp;omega),List.take_take]
  congr 1;omega
 have t2:r1.drop (i*d+vs.length)=seg++cs.drop ((i+1)*d+seg.length):=by
  simp only[r1]
  rw[List.append_assoc,List.drop_append_of_le_length (by simp;omega),List.drop_take]
  have:(i+1)*d-(i*d+vs.length)=0:=by omega
  rw[this];simp
 simp only[r2]
 rw[t1,t2,←List.append_assoc,List.take_append_of_le_length (by simp;omega),List.take_of_length_le (by simp;omega)]
theorem CP {α:Type} {cs vs z1 z2:List α} {n i d:Nat} (hi:i<n) (hc:n*d≤cs.length) (hv:vs.length=d) (hz1:z1.length=(n+1-i)*d):
  let row:=cs.take (i*d)++z1++z2
  let r1:=row.take (i*d)++vs++row.drop (i*d+vs.length)
  let seg:=(cs.take (n*d)).drop (i*d)
  let r2:=r1.take ((i+1)*d)++seg++r1.drop ((i+1)*d+seg.length)
  seg.length=(n-i)*d∧i*d+vs.length≤row.length∧r1.length=row.length∧(i+1)*d+seg.length≤r1.length∧r2.length=row.length∧row.length=(n+1)*d+z2.length∧r2.take ((n+1)*d)=cs.take (i*d)++vs++seg:=by
 intro row r1 seg r2
 have m1:(i+1)*d=i*d+d:=Nat.succ_mul i d
 have m2:(n+1)*d=n*d+d:=Nat.succ_mul n d
 have m3:(n-i)*d=n*d-i*d:=Nat.sub_mul n i d
 have m5:(i+1)*d≤n*d:=Nat.mul_le_mul_right d hi
 have m6:(n+1-i)*d=(n+1)*d-i*d:=Nat.sub_mul (n+1) i d
 have s0:row.length=(n+1)*d+z2.length:=by simp only[row,List.length_append,List.length_take];omega
 have s1:seg.length=(n-i)*d:=by simp only[seg,List.length_drop,List.length_take];omega
 have s2:i*d+vs.length≤row.length:=by omega
 have s3:r1.length=row.length:=by simp only[r1,List.length_append,List.length_take,List.length_drop];omega
 have s4:(i+1)*d+seg.length≤r1.length:=by omega
 have s5:r2.length=row.length:=by simp only[r2,List.length_append,List.length_take,List.length_drop];omega
 refine ⟨s1,s2,s3,s4,s5,s0,?_⟩
 have t0:row.take (i*d)=cs.take (i*d):=by
  simp only[row]
  rw[List.append_assoc,List.take_append_of_le_length (by simp;omega),List.take_take]
  congr 1;omega
 have t1:r1.take ((i+1)*d)=cs.take (i*d)++vs:=by
  simp only[r1]
  rw[t0,List.take_append_of_le_length (by simp;omega),List.take_of_length_le (by simp;omega)]
 simp only[r2]
 rw[t1,List.take_append_of_le_length (by simp;omega),List.take_of_length_le (by simp;omega)]
section
variable {P:Program} {tS tE tI k:Nat} {i0:TypeInfo} {z:Value} {g o n c i gv ov cv:Nat} {cs csv:Array Value} {w:World}
theorem EE {α:Type} {cs B m:List α} {o p:Nat} (hB:B=cs.drop o) (h:o+p≤cs.length):(cs.take (o+p)++m++cs.drop (o+p+m.length)).drop o=B.take p++m++B.drop (p+m.length):=by rw[hB];exact fT cs m o p h
theorem pd {α:Type} {cs m:List α} {q:Nat} (h:q+m.length≤cs.length):(cs.take q++m++cs.drop (q+m.length)).length=cs.length:=by simp;omega
theorem tj (e:ET P tS tE k i0 z) (hi:i<n) (hroom:n+1≤c) (hne:gv≠g)
  (hg:w.heap[g]?=some (.cells cs tE (0,0))) (hcs:cs.size=o+c*k) (hgv:w.heap[gv]?=some (.cells csv tE (0,0))) (hcv:csv.size=ov+cv*k) (h1v:1≤cv)
  (h1:∀v∈ay cs o (n*k),v.oneCell'=true) (h1':∀v∈ay csv ov k,v.oneCell'=true):
  ∃r1 r2:Array Value,
   (∀ty dc sc,(Builtin.copy_ #[tS,tS] ty #[.slice (some ⟨g,o+(i+1)*k,none⟩) (n-i) dc,.slice (some ⟨g,o+i*k,none⟩) (n+1-i) sc]).run P w=.ok (goInt (Nat.min (n+1-i) (n-i))) (w.setRow g r1))∧
   (∀ty dc,(Builtin.copy_ #[tS,tS] ty #[.slice (some ⟨g,o+i*k,none⟩) (n+1-i) dc,.slice (some ⟨gv,ov,none⟩) 1 cv]).run P (w.setRow g r1)=.ok (goInt (Nat.min 1 (n+1-i))) ((w.setRow g r1).setRow g r2))∧
   r2.size=cs.size∧(r2.toList.drop o).take ((n+1)*k)=(ay cs o (n*k)).take (i*k)++ay csv ov k++(ay cs o (n*k)).drop (i*k):=by
 have hvl:(ay csv ov k).length=k:=by
  have:k≤cv*k:=Nat.le_mul_of_pos_left k h1v
  simp[ay];omega
 have hB:(cs.toList.drop o).length=c*k:=by simp[hcs]
 have hmk:(i+1)*k≤c*k:=Nat.mul_le_mul_right k (by omega)
 have hmi:i*k≤n*k:=Nat.mul_le_mul_right k (by omega)
 obtain ⟨p1,p2,p3,p4,p5,p6⟩:=A4 (cs:=cs.toList.drop o) (vs:=ay csv ov k) (n:=n) (i:=i) (c:=c) (d:=k) hi hB hroom hvl
 have hseg:((cs.toList.drop o).take (n*k)).drop (i*k)=(ay cs o (n*k)).drop (i*k):=rfl
 rw[hseg] at p1 p2 p3 p4 p5 p6
 generalize hsg:(ay cs o (n*k)).drop (i*k)=seg at*
 have q1:o+(i+1)*k≤cs.toList.length:=by simp[hcs];omega
 have q2:o+(i+1)*k+seg.length≤cs.toList.length:=by simp[hcs];omega
 obtain ⟨R1,hR1⟩:∃R1,R1=cs.toList.take (o+(i+1)*k)++seg++cs.toList.drop (o+(i+1)*k+seg.length):=⟨_,rfl⟩
 have l1:R1.length=cs.toList.length:=by rw[hR1];exact pd q2
 have d1:=EE (B:=cs.toList.drop o) (m:=seg) rfl q1
 rw[←hR1] at d1
 rw[←d1] at p3 p4 p5 p6
 obtain ⟨R2,hR2⟩:∃R2,R2=R1.take (o+i*k)++ay csv ov k++R1.drop (o+i*k+(ay csv ov k).length):=⟨_,rfl⟩
 have q3:o+i*k≤R1.length:=by rw[l1];simp[hcs];omega
 have q4:o+i*k+(ay csv ov k).length≤R1.length:=by rw[List.length_drop] at p4;omega
 have d2:=EE (B:=R1.drop o) (m:=ay csv ov k) rfl q3
 rw[←hR2] at d2
 rw[←d2] at p5 p6
 have hsetg:(w.setRow g R1.toArray).heap[g]?=some (.cells R1.toArray tE (0,0)):=setRow_heap w g cs _ tE _ hg
 refine ⟨R1.toArray,R2.toArray,fun ty dc sc=>?_,fun ty dc=>?_,?_,?_⟩
 ·rw[hR1]
  refine j3 w tS tS ty tE i0 g (o+(i+1)*k) (n-i) dc ⟨g,o+i*k,none⟩ (n+1-i) sc cs tE seg e.u e.i hg ?_ (fun j v hj=>?_) (by simpa using q2) (fun v hv=>?_)
  ·rw[p1,e.s];congr 1;simp only[Nat.min_def];split<;>omega
  ·rw[←hsg] at hj;exact mH hg hj
  ·rw[←hsg] at hv;exact h1 v (List.mem_of_mem_drop hv)
 ·have hW1v:(w.setRow g R1.toArray).heap[gv]?=some (.cells csv tE (0,0)):=by rw[setRow_other w g gv _ hne];exact hgv
  rw[hR2]
  refine j3 (w.setRow g R1.toArray) tS tS ty tE i0 g (o+i*k) (n+1-i) dc ⟨gv,ov,none⟩ 1 cv R1.toArray tE (ay csv ov k) e.u e.i hsetg ?_ (fun j v hj=>?_) (by simpa using q4) h1'
  ·rw[hvl,e.s];simp only[Nat.min_def];split<;>omega
  ·have:=mH (o:=ov) (m:=k) (p:=0) hW1v (by simpa using hj)
   simpa using this
 ·rw[List.size_toArray,hR2,pd q4,l1];simp
 ·rw[p6]
  congr 2
  simp only[ay]
  rw[List.take_take,Nat.min_eq_left hmi]
end
end Go.Ev
namespace Go.Ev
open Go.Proofs Go.RowKit Go.Lib
section
variable {P:Program} {tS tE tI k:Nat} {i0:TypeInfo} {z:Value} {g o n c i gv ov cv:Nat} {cs csv:Array Value} {w:World}
theorem lx {m:Nat} (h:o+m≤cs.size):(ay cs o m).length=m:=by simp[ay];omega
theorem jv {m:Nat} {t:TypeId} (hg:w.heap[g]?=some (.cells cs t (0,0))):∀(j:Nat) (v:Value),(ay cs o m)[j]?=some v→w.cell? ((⟨g,o,none⟩:Addr).add j)=some v:=fun j v hj=>by
 have:=mH (o:=o) (m:=m) (p:=0) hg (by simpa using hj)
 simpa using this
theorem xB {m p:Nat} (h:p≤m):(ay cs o m).take p=ay cs o p:=by simp only[ay];rw[List.take_take,Nat.min_eq_left h]
theorem yD {ob:Obj} {W:World} (hW:W.heap=w.heap.push ob):W.heap[w.heap.size]?=some ob∧∀j,j<w.heap.size→W.heap[j]?=w.heap[j]?:=by
 rw[hW]
 refine ⟨by simp,fun j hj=>?_⟩
 rw[Array.getElem?_push,if_neg (by omega)]
theorem vh (e:ET P tS tE k i0 z) (hI:P.underlying tI=some (.int .i64)) (hi:i<n) (hnc:n≤c) (hroom:c<n+1) (hn32:n+1≤4294967296) (hne:gv≠g)
  (hg:w.heap[g]?=some (.cells cs tE (0,0))) (hcs:cs.size=o+c*k) (hgv:w.heap[gv]?=some (.cells csv tE (0,0))) (hcv:csv.size=ov+cv*k) (h1v:1≤cv)
  (h1:∀v∈ay cs o (n*k),v.oneCell'=true) (h1':∀v∈ay csv ov k,v.oneCell'=true):
  ∃(G:Nat) (ROW r1 r2:Array Value),n+1≤G∧G≤maxLen∧
   (∀ty,(Builtin.append_ #[tS,tI] ty #[.slice (some ⟨g,o,none⟩) i c,.int .i64 ((n:Int)+1-(i:Int))]).run P w=.ok (.slice (some ⟨w.heap.size,0,none⟩) (n+1) G) (w.drew.alloc (.cells ROW tE)))∧
   (∀W:World,W.heap=w.heap.push (.cells ROW tE (0,0))→∀ty dc,(Builtin.copy_ #[tS,tS] ty #[.slice (some ⟨w.heap.size,i*k,none⟩) (n+1-i) dc,.slice (some ⟨gv,ov,none⟩) 1 cv]).run P W=.ok (goInt (Nat.min 1 (n+1-i))) (W.setRow w.heap.size r1))∧
   (∀W W':World,W.heap=w.heap.push (.cells ROW tE (0,0))→W'.heap=(W.setRow w.heap.size r1).heap→∀ty dc sc,(Builtin.copy_ #[tS,tS] ty #[.slice (some ⟨w.heap.size,(i+1)*k,none⟩) (n-i) dc,.slice (some ⟨g,o+i*k,none⟩) (n-i) sc]).run P W'=.ok (goInt (Nat.min (n-i) (n-i))) (W'.setRow w.heap.size r2))∧
   r2.size=G*k∧r2.toList.take ((n+1)*k)=(ay cs o (n*k)).take (i*k)++ay csv ov k++(ay cs o (n*k)).drop (i*k):=by
 have hmi:i*k≤n*k:=Nat.mul_le_mul_right k (by omega)
 have hmn:n*k≤c*k:=Nat.mul_le_mul_right k hnc
 have hkv:k≤cv*k:=Nat.le_mul_of_pos_left k h1v
 have hvl:(ay csv ov k).length=k:=lx (by omega)
 have hul:(ay cs o (n*k)).length=n*k:=lx (by omega)
 have hglt:g<w.heap.size:=(Array.getElem?_eq_some_iff.1 hg).1
 have hgvlt:gv<w.heap.size:=(Array.getElem?_eq_some_iff.1 hgv).1
 have hold:(Builtin.firstCells i0.size i (.slice (some ⟨g,o,none⟩) i c)).run P w.drew=.ok (ay cs o (i*k)).toArray w.drew:=by
  refine run_firstCells_some w.drew i0.size i ⟨g,o,none⟩ i c (ay cs o (i*k)) (by rw[e.s,lx (by omega)]) (jv (w:=w.drew) (t:=tE) hg)
 have hkk:(n:Int)+1-(i:Int)=((n+1-i:Nat):Int):=by omega
 have hik:i+(n+1-i)=n+1:=by omega
 obtain ⟨G,hG⟩:∃G,G=grownCap w (n+1) c tE:=⟨_,rfl⟩
 have hGn:n+1≤G:=by rw[hG];exact grownCap_ge w _ _ _
 have hGm:G≤maxLen:=by rw[hG];exact grownCap_le_maxLen w (n+1) c tE (by unfold maxLen;omega)
 have hbb:∀m,m≤4294967296→m*i0.bytes≤70368744177664:=fun m hm=>pc hm e.b
 have hrz:∀ty,(Builtin.append_ #[tS,tI] ty #[.slice (some ⟨g,o,none⟩) i c,.int .i64 ((n:Int)+1-(i:Int))]).run P w=
   .ok (.slice (some ⟨w.heap.size,0,none⟩) (n+1) G) (w.drew.alloc (.cells ((ay cs o (i*k)).toArray++Builtin.zeroCells z.cells (n+1-i)++Builtin.zeroCells z.cells (G-(n+1))) tE)):=fun ty=>by
  have b1:=hbb (n+1) hn32
  have b2:=hbb (n+1-i) (by omega)
  have h:=Lib.run_append_grow_zeros w tS tI ty tE i0 _ .i64 .i64 e.u hI e.i e.zz (some ⟨g,o,none⟩) i c (ay cs o (i*k)) hold (n+1-i) (by omega) (by rw[e.s];exact e.pos) (by omega) (by omega) (by omega) (by rw[hik];exact growslice_fits hroom (by omega))
  rw[hik,←hG] at h
  rw[hkk]
  exact h
 have gl:=CP (cs:=cs.toList.drop o) (vs:=ay csv ov k) (z1:=(Builtin.zeroCells z.cells (n+1-i)).toList) (z2:=(Builtin.zeroCells z.cells (G-(n+1))).toList) (n:=n) (i:=i) (d:=k) hi (by simp;omega) hvl (by simp[size_zeroCells,e.zs])
 have hz2l:(Builtin.zeroCells z.cells (G-(n+1))).toList.length=(G-(n+1))*k:=by simp[size_zeroCells,e.zs]
 obtain ⟨ROW,hROW⟩:∃ROW:Array Value,ROW=(ay cs o (i*k)).toArray++Builtin.zeroCells z.cells (n+1-i)++Builtin.zeroCells z.cells (G-(n+1)):=⟨_,rfl⟩
 rw[←hROW] at hrz
 have hRL:ROW.toList=(cs.toList.drop o).take (i*k)++(Builtin.zeroCells z.cells (n+1-i)).toList++(Builtin.zeroCells z.cells (G-(n+1))).toList:=by rw[hROW];simp[ay]
 rw[←hRL] at gl
 obtain ⟨p1,p2,p3,p4,p5,p0,p6⟩:=gl
 have hRs:ROW.size=G*k:=by
  have:ROW.toList.length=G*k:=by rw[p0,hz2l,←Nat.add_mul];congr 1;omega
  simpa using this
 have hseg:((cs.toList.drop o).take (n*k)).drop (i*k)=(ay cs o (n*k)).drop (i*k):=rfl
 rw[hseg] at p1 p4 p5 p6
 generalize hsg:(ay cs o (n*k)).drop (i*k)=seg at*
 generalize hr1:ROW.toList.take (i*k)++ay csv ov k++ROW.toList.drop (i*k+(ay csv ov k).length)=r1 at*
 refine ⟨G,ROW,r1.toArray,(r1.take ((i+1)*k)++seg++r1.drop ((i+1)*k+seg.length)).toArray,hGn,hGm,hrz,fun W hW ty dc=>?_,fun W W' hW hW' ty dc sc=>?_,?_,?_⟩
 ·obtain ⟨b1,b2⟩:=yD hW
  have b3:=b2 gv hgvlt
  rw[hgv] at b3
  rw[←hr1]
  refine j3 W tS tS ty tE i0 w.heap.size (i*k) (n+1-i) dc ⟨gv,ov,none⟩ 1 cv ROW tE (ay csv ov k) e.u e.i b1 ?_ (jv b3) (by simpa using p2) h1'
  rw[hvl,e.s];simp only[Nat.min_def];split<;>omega
 ·obtain ⟨b1,b2⟩:=yD hW
  have b3:=b2 g hglt
  rw[hg] at b3
  have b4:W'.heap[w.heap.size]?=some (.cells r1.toArray tE (0,0)):=by rw[hW'];exact setRow_heap W _ ROW _ tE _ b1
  have b5:W'.heap[g]?=some (.cells cs tE (0,0)):=by rw[hW',setRow_other W _ g _ (by omega)];exact b3
  have:=j3 W' tS tS ty tE i0 w.heap.size ((i+1)*k) (n-i) dc ⟨g,o+i*k,none⟩ (n-i) sc r1.toArray tE seg e.u e.i b4 (by rw[p1,e.s];congr 1;simp) (fun j v hj=>by rw[←hsg] at hj;exact mH b5 hj) (by simpa using p4) (fun v hv=>by rw[←hsg] at hv;exact h1 v (List.mem_of_mem_drop hv))
  simpa using this
 ·rw[List.size_toArray,p5];simpa using hRs
 ·rw[p6]
  congr 2
  simp only[ay]
  rw[List.take_take,Nat.min_eq_left hmi]
theorem xU (e:ET P tS tE k i0 z) (hnc:n≤c) (hcm:c≤maxLen) (hn32:n+1≤4294967296)
  (hg:w.heap[g]?=some (.cells cs tE (0,0))) (hcs:cs.size=o+c*k) (hgv:w.heap[gv]?=some (.cells csv tE (0,0))) (hcv:csv.size=ov+cv*k) (h1v:1≤cv) (h1':∀v∈ay csv ov k,v.oneCell'=true):
  (n+1≤c∧∃r:Array Value,(∀ty,(Builtin.append_ #[tS,tS] ty #[.slice (some ⟨g,o,none⟩) n c,.slice (some ⟨gv,ov,none⟩) 1 cv]).run P w=.ok (.slice (some ⟨g,o,none⟩) (n+1) c) (w.setRow g r))∧r.size=cs.size∧(r.toList.drop o).take ((n+1)*k)=ay cs o (n*k)++ay csv ov k)∨
  (∃(G:Nat) (r:Array Value),n+1≤G∧G≤maxLen∧(∀ty,(Builtin.append_ #[tS,tS] ty #[.slice (some ⟨g,o,none⟩) n c,.slice (some ⟨gv,ov,none⟩) 1 cv]).run P w=.ok (.slice (some ⟨w.heap.size,0,none⟩) (n+1) G) (w.drew.alloc (.cells r tE)))∧r.size=G*k∧r.toList.take ((n+1)*k)=ay cs o (n*k)++ay csv ov k):=by
 have hmn:n*k≤c*k:=Nat.mul_le_mul_right k hnc
 have hkv:k≤cv*k:=Nat.le_mul_of_pos_left k h1v
 have hvl:(ay csv ov k).length=k:=lx (by omega)
 have hul:(ay cs o (n*k)).length=n*k:=lx (by omega)
 have hs1:(n+1)*k=n*k+k:=Nat.succ_mul n k
 by_cases hroom:n+1≤c
 ·have hc1:(n+1)*k≤c*k:=Nat.mul_le_mul_right k hroom
  refine .inl ⟨hroom,(cs.toList.take (o+n*k)++ay csv ov k++cs.toList.drop (o+n*k+(ay csv ov k).length)).toArray,fun ty=>?_,?_,?_⟩
  ·have:=jE (P:=P) w tS ty tE i0 e.u e.i g o n c cs hg ⟨gv,ov,none⟩ 1 cv (ay csv ov k) (by rw[hvl,e.s];omega) (jv hgv) h1' hroom (by rw[hvl,e.s,hcs];omega)
   rw[e.s] at this
   exact this
  ·rw[List.size_toArray,pd (by rw[hvl];simp[hcs];omega)];simp
  ·show ((cs.toList.take (o+n*k)++ay csv ov k++cs.toList.drop (o+n*k+(ay csv ov k).length)).drop o).take ((n+1)*k)=_
   rw[EE (B:=cs.toList.drop o) rfl (by simp[hcs];omega),List.take_append_of_le_length (by simp;omega),List.take_of_length_le (by simp;omega)]
   rfl
 ·obtain ⟨G,hG⟩:∃G,G=grownCap w (n+1) c tE:=⟨_,rfl⟩
  have hGn:n+1≤G:=by rw[hG];exact grownCap_ge w _ _ _
  have hGm:G≤maxLen:=by rw[hG];exact grownCap_le_maxLen w (n+1) c tE (by unfold maxLen;omega)
  have hbb:=pc hn32 e.b
  refine .inr ⟨G,(ay cs o (n*k)).toArray++(ay csv ov k).toArray++Builtin.zeroCells z.cells (G-(n+1)),hGn,hGm,fun ty=>?_,?_,?_⟩
  ·rw[hG]
   exact run_append_grow (P:=P) w tS ty tE i0 z e.u e.i e.zz ⟨g,o,none⟩ n c (ay cs o (n*k)) (by rw[hul,e.s]) (jv hg) ⟨gv,ov,none⟩ 1 cv (ay csv ov k) (by rw[hvl,e.s];omega) (jv hgv) (by omega) (by omega) (growslice_fits (by omega) (by omega))
  ·simp[size_zeroCells,e.zs,hul,hvl]
   rw[←Nat.succ_mul,←Nat.add_mul];congr 1;simp;omega
  ·simp only[Array.toList_append]
   rw[List.take_append_of_le_length (by simp[hul,hvl];omega),List.take_of_length_le (by simp[hul,hvl];omega)]
theorem xK (e:ET P tS tE k i0 z) (hgv:w.heap[gv]?=some (.cells csv tE (0,0))) (hcv:csv.size=ov+cv*k) (h1v:1≤cv):
  ∃(G:Nat) (r:Array Value),1≤G∧G≤maxLen∧(∀ty,(Builtin.append_ #[tS,tS] ty #[.slice none 0 0,.slice (some ⟨gv,ov,none⟩) 1 cv]).run P w=.ok (.slice (some ⟨w.heap.size,0,none⟩) 1 G) (w.drew.alloc (.cells r tE)))∧r.size=G*k∧r.toList.take k=ay csv ov k:=by
 have hkv:k≤cv*k:=Nat.le_mul_of_pos_left k h1v
 have hvl:(ay csv ov k).length=k:=lx (by omega)
 obtain ⟨G,hG⟩:∃G,G=grownCap w 1 0 tE:=⟨_,rfl⟩
 have hGn:1≤G:=by rw[hG];exact grownCap_ge w _ _ _
 have hGm:G≤maxLen:=by rw[hG];exact grownCap_le_maxLen w 1 0 tE (by unfold maxLen;omega)
 have hbb:=e.b
 refine ⟨G,(ay csv ov k).toArray++Builtin.zeroCells z.cells (G-1),hGn,hGm,fun ty=>?_,?_,?_⟩
 ·rw[hG]
  exact run_append_nil (P:=P) w tS ty tE i0 z e.u e.i e.zz ⟨gv,ov,none⟩ 1 cv (ay csv ov k) (by rw[hvl,e.s];omega) (jv hgv) (by omega) (by omega) (by omega)
 ·simp[size_zeroCells,e.zs,hvl]
  have:k+(G-1)*k=(1+(G-1))*k:=by rw[Nat.add_mul];omega
  rw[this];congr 1;omega
 ·simp only[Array.toList_append]
  rw[List.take_append_of_le_length (by simp[hvl]),List.take_of_length_le (by simp[hvl])]
end
end Go.Ev
namespace Go.Ev
open Go.Proofs Go.RowKit Go.Lib
def lT (W:World) (g:Option Nat) (n k tE:Nat) (want:List Value) (e:Ending) (w':World):Prop:=
 ∃(G o' c':Nat) (cs':Array Value),e=.returned (.slice (some ⟨G,o',none⟩) n c')∧w'.heap[G]?=some (.cells cs' tE (0,0))∧cs'.size=o'+c'*k∧n≤c'∧c'≤maxLen∧
  (∀j,j<W.heap.size→w'.heap[j]?=W.heap[j]?∨(j=G∧g=some G))∧(g=some G∨(W.heap.size≤G∧G<w'.heap.size))∧W.heap.size≤w'.heap.size∧
  w'.os=W.os∧w'.tape=W.tape∧(w'.output=W.output∧W.drawn≤w'.drawn)∧(cs'.toList.drop o').take (n*k)=want
def HO (P:Program) (f:FuncId):Prop:=∃fn c,P.funcs[f]?=some fn∧fn.body=some c∧(fn.name== "runtime.NumGoroutine")=false
structure GL (P:Program) (f:FuncId) (tE k:Nat):Prop where
 fn:HO P f
 sm:∀(w:World) (g o n c i gv ov cv:Nat) (cs csv:Array Value),i≤n→n≤c→c≤maxLen→n+1≤4294967296→gv≠g→w.heap[g]?=some (.cells cs tE (0,0))→cs.size=o+c*k→
  w.heap[gv]?=some (.cells csv tE (0,0))→csv.size=ov+cv*k→1≤cv→(∀v∈ay cs o (n*k),v.oneCell'=true)→(∀v∈ay csv ov k,v.oneCell'=true)→
  Calls P f #[.slice (some ⟨g,o,none⟩) n c,.int .i64 i,.slice (some ⟨gv,ov,none⟩) 1 cv] w (lT w (some g) (n+1) k tE ((ay cs o (n*k)).take (i*k)++ay csv ov k++(ay cs o (n*k)).drop (i*k)))
 nn:∀(w:World) (gv ov cv:Nat) (csv:Array Value),w.heap[gv]?=some (.cells csv tE (0,0))→csv.size=ov+cv*k→1≤cv→
  Calls P f #[.slice none 0 0,.int .i64 0,.slice (some ⟨gv,ov,none⟩) 1 cv] w (lT w none 1 k tE (ay csv ov k))
structure Hs (P:Program) (f:FuncId) (tE k:Nat):Prop where
 fn:HO P f
 sm:∀(w:World) (g o n c i:Nat) (cs:Array Value),i<n→n≤c→c≤maxLen→w.heap[g]?=some (.cells cs tE (0,0))→cs.size=o+c*k→(∀v∈ay cs o (n*k),v.oneCell'=true)→
  Calls P f #[.slice (some ⟨g,o,none⟩) n c,.int .i64 i,.int .i64 ((i:Int)+1)] w (lT w (some g) (n-1) k tE ((ay cs o (n*k)).take (i*k)++(ay cs o (n*k)).drop ((i+1)*k)))
def ti:List C→Option (List C):=fun xs=>
 let i:=(xs.getD 0 .nil).I;let es:=(xs.getD 1 .nil).L;let vs:=(xs.getD 2 .nil).L
 bif decide (0≤i)&&(decide (i≤(es.length:Int))&&((vs.length==1)&&decide (es.length+1≤4294967296))) then some [.l (es.take i.toNat++vs++es.drop i.toNat)] else none
def sX:List C→Option (List C):=fun xs=>
 let i:=(xs.getD 0 .nil).I;let j:=(xs.getD 1 .nil).I;let es:=(xs.getD 2 .nil).L
 bif decide (0≤i)&&(decide (i<(es.length:Int))&&decide (j=i+1)) then some [.l (es.take i.toNat++es.drop (i.toNat+1))] else none
def wm (t:Nat):Tm:=⟨[(0,.ow 2000),(1,.d (.int .i64)),(2,.ow 2001)],[(2000,.arr t 1),(2001,.arr t 1)]⟩
def wO (t:Nat):Tm:=⟨[(0,.ow 2000),(1,.d (.int .i64)),(2,.d (.int .i64))],[(2000,.arr t 1)]⟩
def mg (t:Nat):Tm:=⟨[(0,.ow 2000)],[(2000,.arr t 1)]⟩
section
variable {P:Program} {T:Tys} {t:Nat} {d:TD} {W w':World} {wr nl F0 F:Nat→Prop} {θ:Nat→Value} {bx:Bxs} {es:List (List C)} {v:Value}
theorem Fo {x:C} {b:Nat} {y:Box} (h:((mg t).inj [x]).bx b=some y):b=2000∧y=.arr 0 t x.L 1:=by
 by_cases h0:b=2000
 ·subst h0;exact ⟨rfl,(Option.some.inj h).symm⟩
 ·have:((mg t).inj [x]).bx b=none:=by
   show (upd (fun _=>none) 2000 _) b=none
   rw[aP _ _ h0]
  rw[this] at h;cases h
theorem Gg (h:Aft T ⟨W,wr,F0,θ,[],nl⟩ F W bx θ ⟨.ow 2000 1,[(2000,.arr 1 t es 1)]⟩ v w'):
  ∃F1 θ1,WR T ⟨W,wr,F0,θ,[],nl⟩ F1 w' ((mg t).inj [.l es]).bx θ1∧aj T F1 w' ((mg t).inj [.l es]).bx θ1 (((mg t).inj [.l es]).sl 0) v∧∀n x,n∈([]:List Nat)→((mg t).inj [.l es]).bx n=some x→θ1 n=θ n∧(x.m=2→Hdr W w' (θ n)):=by
 obtain ⟨F1,θ1,hw,hm,hr⟩:=h
 have i0:(dg bx [(2000,.arr 1 t es 1)]) 2000=some (.arr 1 t es 1):=by show upd bx 2000 _ 2000=_;exact ar _ _ _
 have hv0:v=θ1 2000:=(jb hr i0 (Nat.beq_refl 1)).2
 have o0:∀ {b:Nat} {x:Box},((mg t).inj [.l es]).bx b=some x→b=2000∧x=.arr 0 t es 1:=fun h=>Fo h
 refine ⟨F1,θ1,⟨fun b x h=>?_,fun b b' x x' g h1 h2 _ _ _ _=>?_,fun b x g h _ hg=>?_,hw.lt,hw.keep,hw.sub,hw.new,fun n hn=>(by cases hn),fun b x h=>?_,fun b x k h hk=>?_,fun b b' x x' k h1 h2 _ _=>?_,hw.nlF⟩,?_,fun n x hn=>by cases hn⟩
 ·obtain ⟨rfl,rfl⟩:=o0 h
  exact hw.box 2000 _ i0
 ·rw[(o0 h1).1,(o0 h2).1]
 ·obtain ⟨rfl,rfl⟩:=o0 h
  exact hw.out 2000 _ g i0 rfl hg
 ·obtain ⟨rfl,rfl⟩:=o0 h
  exact fun h=>hw.lin 2000 (.arr 1 t es 1) i0 h
 ·obtain ⟨rfl,rfl⟩:=o0 h
  obtain ⟨a1,a2,a3,a4,a5⟩:=hw.own 2000 _ k i0 hk
  refine ⟨a1,a2,a3,a4,fun b' x' h' _=>?_⟩
  obtain ⟨rfl,rfl⟩:=o0 h'
  exact a5 2000 _ i0 rfl
 ·rw[(o0 h1).1,(o0 h2).1]
 ·have hs:∃A n c,v=.slice A n c:=by
   cases hr with
   |ow b ver v x hb hv hs h=>exact hs
  exact .ow 2000 0 v (.arr 0 t es 1) rfl (Nat.le_refl _) hs fun _=>⟨t,es,1,rfl,hv0⟩
theorem rN {cs:Array Value} {o m i j:Nat} {ct:CT} {c:C} {u:Value} (h:AtU d es (ay cs o m) i j ct c u):AtU d es (cs.toList.drop o) i j ct c u:=by
 obtain ⟨row,h1,h2,h3,h4⟩:=h
 rw[ay,List.getElem?_take] at h4
 split at h4
 ·exact ⟨row,h1,h2,h3,h4⟩
 ·cases h4
theorem wG (hw:WR T ⟨W,wr,F0,θ,[],nl⟩ F W bx θ) {b ver g o n c m:Nat} {cs:Array Value} (hd:aV T t=some d) (hb:bx b=some (.arr ver t es 1)) (hth:θ b=.slice (some ⟨g,o,none⟩) n c) (hg:W.heap[g]?=some (.cells cs t (0,0))):
  fR T W d es (ay cs o m)∧∀k,fN T W d es (ay cs o m) k→(Box.arr ver t es 1).nst T W (θ b) k:=by
 have h1:nC T W t es (θ b):=(hw.lin b _ hb (by decide)).1 (by decide)
 rw[hth] at h1
 have h2:=(uS hd hg).1 h1
 refine ⟨⟨fun i j ct c u h=>h2.rel _ _ _ _ _ (rN h),fun i j ct c u i' j' ct' c' u' k q1 q2=>h2.dj _ _ _ _ _ _ _ _ _ _ k (rN q1) (rN q2)⟩,fun k ⟨i,j,ct,c,u,q1,q2⟩=>⟨by decide,?_⟩⟩
 rw[hth]
 exact (uc hd hg).2 ⟨i,j,ct,c,u,rN q1,q2⟩
theorem C4 {l want:List Value} {m:Nat} (h:l.take m=want):l=want++l.drop m:=by rw[←h,List.take_append_drop]
theorem y5 (hw:WR T ⟨W,wr,F0,θ,[],nl⟩ F W bx θ) (hd:aV T t=some d) {es0:List (List C)} (hb:bx 2000=some (.arr 0 t es0 1)) {g:Option Nat} (hg:∀G,g=some G→bA (θ 2000)=some G) {want:List Value} {e:Ending}
  (hp:lT W g es.length d.cts.length t want e w')
  (hR:Rws (bX T F W) d es (want++[])) (hRw:∀ws,Rws (bX T F W) d es (want++ws)) (hL:∀ws,fR T W d es (want++ws)∧∀k,fN T W d es (want++ws) k→F k∧Fre ⟨W,wr,F0,θ,[],nl⟩ T W bx θ 2000 k):
  ∃v F1 θ1,e=.returned v∧WR T ⟨W,wr,F0,θ,[],nl⟩ F1 w' ((mg t).inj [.l es]).bx θ1∧aj T F1 w' ((mg t).inj [.l es]).bx θ1 (((mg t).inj [.l es]).sl 0) v∧∀n x,n∈([]:List Nat)→((mg t).inj [.l es]).bx n=some x→θ1 n=θ n∧(x.m=2→Hdr W w' (θ n)):=by
 obtain ⟨G,o',c',cs',rfl,q1,q2,q3,q4,q5,q6,q7,q8,q9,q10,q11⟩:=hp
 have hlive:g=some G→∃x,bx 2000=some x∧x.live=true∧bA (θ 2000)=some G:=fun h=>⟨_,hb,rfl,hg G h⟩
 have hsp:=C4 q11
 have:=oZ hw (b:=2000) (ver:=1) (m:=1) (es:=es) (g:=G) (o:=o') (cap:=c') (cs:=cs') (w':=w') hd (fun x hx=>by rw[hb] at hx;obtain rfl:=Option.some.inj hx;exact Nat.zero_lt_one) q2 ⟨q3,q4⟩ q1
  (fun k hk=>(q5 k hk).imp id fun ⟨a,b⟩=>⟨a,hlive b⟩) (q6.symm.imp id hlive) q7 q8 q9 q10 (by decide)
  (fun hk=>by rw[hsp];exact (hRw _).mv (fun _ h=>h) hk) (fun _=>by rw[hsp];exact (hL _).1) (fun _ k hk=>by rw[hsp] at hk;exact (hL _).2 k hk)
 obtain ⟨F1,θ1,a1,a2,a3⟩:=Gg this
 exact ⟨_,F1,θ1,rfl,a1,a2,a3⟩
theorem three {α:Type} {args:Array α} (h:args.size=3):∃a b c,args= #[a,b,c]:=by
 obtain ⟨l⟩:=args
 simp only[List.size_toArray] at h
 match l,h with
 |[a,b,c],_=>exact ⟨a,b,c,rfl⟩
theorem xS {f:FuncId} (hd:aV T t=some d) (hk0:0<d.cts.length) (hc:GL P f t d.cts.length):aG P T f ⟨3,wm t,mg t,[],ti⟩:=by
 refine ⟨hc.fn,?_⟩
 intro W wr nl F0 θ xs ys args hW hsz hargs hF
 obtain ⟨a0,a1,a2,rfl⟩:=three hsz
 have r0:aj T F0 W ((wm t).inj xs).bx θ (.ow 2000 0) a0:=hargs 0 (by show 0<3;decide)
 have r1:aj T F0 W ((wm t).inj xs).bx θ (.c (.int .i64) (xs.getD 0 .nil)) a1:=hargs 1 (by show 1<3;decide)
 have r2:aj T F0 W ((wm t).inj xs).bx θ (.ow 2001 0) a2:=hargs 2 (by show 2<3;decide)
 have i0:((wm t).inj xs).bx 2000=some (.arr 0 t (xs.getD 1 .nil).L 1):=rfl
 have i1:((wm t).inj xs).bx 2001=some (.arr 0 t (xs.getD 2 .nil).L 1):=rfl
 obtain ⟨_,rfl⟩:=jb r0 i0 (Nat.beq_refl 0)
 obtain ⟨_,rfl⟩:=jb r2 i1 (Nat.beq_refl 0)
 simp only[ti] at hF
 generalize hes:(xs.getD 1 .nil).L=es at*
 generalize hvs:(xs.getD 2 .nil).L=vs at*
 generalize hx0:xs.getD 0 .nil=x0 at*
 generalize hbx:((wm t).inj xs).bx=bx at*
 cases r1 with
 |c _ _ _ hc'=>
 cases hc' with
 |int _ m=>
 simp only[C.I] at hF
 rw[Bool.cond_eq_ite] at hF
 split at hF
 rotate_left
 ·simp at hF
 rename_i hcond
 simp only[Option.some.injEq] at hF
 subst hF
 simp only[Bool.and_eq_true] at hcond
 obtain ⟨h0,h1,h2,h3⟩:=hcond
 have h0:0≤m:=of_decide_eq_true h0
 have h1:m≤(es.length:Int):=of_decide_eq_true h1
 have h2:vs.length=1:=by simpa using h2
 have h3:es.length+1≤4294967296:=of_decide_eq_true h3
 obtain ⟨i,rfl⟩:=Int.eq_ofNat_of_zero_le h0
 have hi:i≤es.length:=by omega
 have hto:((i:Nat):Int).toNat=i:=Int.toNat_natCast i
 rw[hto]
 obtain ⟨A,cap,us,hth,hul,hrw,hA⟩:=jd (kV hW i0 (by decide)) hd
 obtain ⟨A',cap',us',hth',hul',hrw',hA'⟩:=jd (kV hW i1 (by decide)) hd
 have hone:=hrw.one hk0 hul
 have hone':=hrw'.one hk0 hul'
 rcases hA' with ⟨_,rfl,_⟩|⟨gv,ov,csv,rfl,b1,b2,b3,rfl⟩
 ·simp at h2
 obtain ⟨F',hW',hM,_,_⟩:=Gq hW i1 (by decide)
 have hbo:=hW.out 2001 _ gv i1 rfl (by rw[hth'];rfl)
 have hk2000:upd bx 2001 (some (.dead (0+1))) 2000=some (.arr 0 t es 1):=by rw[aP _ _ (by decide)];exact i0
 obtain ⟨hL2,hN2⟩:=wG hW (m:=vs.length*d.cts.length) hd i1 hth' b1
 have hF2:∀k,(Box.arr 0 t vs 1).nst T W (θ 2001) k→F' k∧Fre ⟨W,wr,F0,θ,[],nl⟩ T W (upd bx 2001 (some (.dead (0+1)))) θ 2000 k:=fun k hk=>by
  refine ⟨hM.sub _ ((hW.own 2001 _ k i1 hk).2.2.1 (by simp[Box.m])),?_⟩
  refine rp (K:=[(2001,0,t,vs)]) hW (List.mem_singleton.2 rfl) i1 ?_ 2000
  obtain ⟨_,i',j',ct',c',u',p1,p2⟩:=hk
  exact .sub _ _ _ _ _ _ _ _ _ p1 p2
 have hlen:(es.take i++vs++es.drop i).length=es.length+1:=by simp[h2];omega
 have hrows':ay csv ov (vs.length*d.cts.length)=ay csv ov d.cts.length:=by rw[h2,Nat.one_mul]
 have ns_eq:(csv.toList.drop ov).take (vs.length*d.cts.length)=ay csv ov (vs.length*d.cts.length):=rfl
 rw[ns_eq] at hul' hrw' hone'
 rw[h2] at hth' b3
 have hcap':1≤cap':=b3.1
 rcases hA with ⟨rfl,rfl,rfl⟩|⟨g,o,cs,rfl,c1,c2,c3,rfl⟩
 ·
  have hi0:i=0:=by simpa using hi
  subst hi0
  rw[hth,hth']
  refine (hc.nn W gv ov cap' csv b1 b2 hcap').mono fun e w' hp=>?_
  have hw1:∀ws,Rws (bX T F' W) d (([]:List (List C)).take 0++vs++([]:List (List C)).drop 0) (ay csv ov d.cts.length++ws):=fun ws=>by
   simp only[List.take_nil,List.nil_append,List.drop_nil,List.append_nil]
   rw[←hrows']
   refine (hrw'.mv hM.sub fun _ _=>rfl).pQ ?_
   rw[List.take_append_of_le_length (by omega)]
  have hw2:∀ws,∀i j ct c u,AtU d (([]:List (List C)).take 0++vs++([]:List (List C)).drop 0) (ay csv ov d.cts.length++ws) i j ct c u→AtU d vs (ay csv ov (vs.length*d.cts.length)) i j ct c u:=fun ws i j ct c u hq=>by
   simp only[List.take_nil,List.nil_append,List.drop_nil,List.append_nil] at hq
   obtain ⟨row,q1,q2,q3,q4⟩:=hq
   have:=je (List.getElem?_eq_some_iff.1 q1).1 (List.getElem?_eq_some_iff.1 q3).1
   rw[←hrows',List.getElem?_append_left (by omega)] at q4
   exact ⟨row,q1,q2,q3,q4⟩
  refine y5 (g:=none) hW' hd hk2000 (fun G h=>by cases h) (es:=([]:List (List C)).take 0++vs++([]:List (List C)).drop 0) (by rw[hlen];exact hp) (hw1 []) hw1 fun ws=>?_
  exact ⟨⟨fun i j ct c u hq=>hL2.rel _ _ _ _ _ (hw2 _ _ _ _ _ _ hq),fun i j ct c u i' j' ct' c' u' k q1 q2=>hL2.dj _ _ _ _ _ _ _ _ _ _ k (hw2 _ _ _ _ _ _ q1) (hw2 _ _ _ _ _ _ q2)⟩,fun k ⟨i,j,ct,c,u,q1,q2⟩=>hF2 k (hN2 k ⟨i,j,ct,c,u,hw2 _ _ _ _ _ _ q1,q2⟩)⟩
 ·have hne:gv≠g:=by
   intro e
   subst e
   have:=hW.disj 2000 2001 _ _ gv i0 i1 rfl rfl (by rw[hth];rfl) (by rw[hth'];rfl)
   omega
  have us_eq:(cs.toList.drop o).take (es.length*d.cts.length)=ay cs o (es.length*d.cts.length):=rfl
  rw[us_eq] at hul hrw hone
  obtain ⟨hL1,hN1⟩:=wG hW (m:=es.length*d.cts.length) hd i0 hth c1
  rw[hth,hth']
  refine (hc.sm W g o es.length cap i gv ov cap' cs csv hi c3.1 c3.2 h3 hne c1 c2 b1 b2 hcap' hone (by rw[←hrows'];exact hone')).mono fun e w' hp=>?_
  rw[←hrows'] at hp
  have hRw:=fun ws=>(hrw.mv (F':=F') (w':=W) hM.sub fun _ _=>rfl).ins hul (hrw'.mv hM.sub fun _ _=>rfl) hul' hi (ws:=ws)
  refine y5 (g:=some g) hW' hd hk2000 (fun G h=>by cases h;rw[hth];rfl) (es:=es.take i++vs++es.drop i) (by rw[hlen];exact hp) (hRw []) hRw fun ws=>?_
  obtain ⟨z1,z2⟩:=fR.ins (i0:=i) (ws:=ws) hL1 hL2 (fun k k1 k2=>by have:=hW.odj 2000 2001 _ _ k i0 i1 (hN1 k k1) (hN2 k k2);omega) hul hul' hi
  refine ⟨z1,fun k hk=>?_⟩
  rcases z2 k hk with h|h
  ·exact ⟨hM.sub _ ((hW.own 2000 _ k i0 (hN1 k h)).2.2.1 (by simp[Box.m])),pD hW' hk2000 (hN1 k h)⟩
  ·exact hF2 k (hN2 k h)
theorem xI {f:FuncId} (hd:aV T t=some d) (hk0:0<d.cts.length) (hc:Hs P f t d.cts.length):aG P T f ⟨3,wO t,mg t,[],sX⟩:=by
 refine ⟨hc.fn,?_⟩
 intro W wr nl F0 θ xs ys args hW hsz hargs hF
 obtain ⟨a0,a1,a2,rfl⟩:=three hsz
 have r0:aj T F0 W ((wO t).inj xs).bx θ (.ow 2000 0) a0:=hargs 0 (by show 0<3;decide)
 have r1:aj T F0 W ((wO t).inj xs).bx θ (.c (.int .i64) (xs.getD 0 .nil)) a1:=hargs 1 (by show 1<3;decide)
 have r2:aj T F0 W ((wO t).inj xs).bx θ (.c (.int .i64) (xs.getD 1 .nil)) a2:=hargs 2 (by show 2<3;decide)
 have i0:((wO t).inj xs).bx 2000=some (.arr 0 t (xs.getD 2 .nil).L 1):=rfl
 obtain ⟨_,rfl⟩:=jb r0 i0 (Nat.beq_refl 0)
 simp only[sX] at hF
 generalize hes:(xs.getD 2 .nil).L=es at*
 generalize hx0:xs.getD 0 .nil=x0 at*
 generalize hx1:xs.getD 1 .nil=x1 at*
 generalize hbx:((wO t).inj xs).bx=bx at*
 cases r1 with
 |c _ _ _ hc'=>
 cases hc' with
 |int _ m=>
 cases r2 with
 |c _ _ _ hc'=>
 cases hc' with
 |int _ m'=>
 simp only[C.I] at hF
 rw[Bool.cond_eq_ite] at hF
 split at hF
 rotate_left
 ·simp at hF
 rename_i hcond
 simp only[Option.some.injEq] at hF
 subst hF
 simp only[Bool.and_eq_true] at hcond
 obtain ⟨h0,h1,h2⟩:=hcond
 have h0:0≤m:=of_decide_eq_true h0
 have h1:m<(es.length:Int):=of_decide_eq_true h1
 obtain rfl:m'=m+1:=of_decide_eq_true h2
 obtain ⟨i,rfl⟩:=Int.eq_ofNat_of_zero_le h0
 have hi:i<es.length:=by omega
 have hto:((i:Nat):Int).toNat=i:=Int.toNat_natCast i
 rw[hto]
 obtain ⟨A,cap,us,hth,hul,hrw,hA⟩:=jd (kV hW i0 (by decide)) hd
 have hone:=hrw.one hk0 hul
 have hlen:(es.take i++es.drop (i+1)).length=es.length-1:=by simp;omega
 rcases hA with ⟨rfl,rfl,rfl⟩|⟨g,o,cs,rfl,c1,c2,c3,rfl⟩
 ·simp at hi
 ·have us_eq:(cs.toList.drop o).take (es.length*d.cts.length)=ay cs o (es.length*d.cts.length):=rfl
  rw[us_eq] at hul hrw hone
  obtain ⟨hL1,hN1⟩:=wG hW (m:=es.length*d.cts.length) hd i0 hth c1
  rw[hth]
  refine (hc.sm W g o es.length cap i cs hi c3.1 c3.2 c1 c2 hone).mono fun e w' hp=>?_
  have hRw:=fun ws=>hrw.del hul (by omega:i≤i+1) hi (ws:=ws)
  refine y5 (g:=some g) hW hd i0 (fun G h=>by cases h;rw[hth];rfl) (es:=es.take i++es.drop (i+1)) (by rw[hlen];exact hp) (hRw []) hRw fun ws=>?_
  obtain ⟨z1,z2⟩:=fR.del (i0:=i) (j0:=i+1) (ws:=ws) hL1 hul (by omega) hi
  exact ⟨z1,fun k hk=>⟨(hW.own 2000 _ k i0 (hN1 k (z2 k hk))).2.2.1 (by simp[Box.m]),pD hW i0 (hN1 k (z2 k hk))⟩⟩
end
end Go.Ev
namespace Go.Ev
open Go.Proofs Go.RowKit Go.Lib
theorem Gn {P:Program} {T:Tys} {tS tE k:Nat} {d:TD} (hT:TOk P T) (hd:aV T tE=some d) (hu:P.underlying tS=some (.slice tE)) (hk:d.cts.length=k) (hb:d.bytes≤16384):∃i0 z,ET P tS tE k i0 z:=by
 obtain ⟨i,z,h1,h2,h3,h4,h5⟩:=(bV hT hd).facts
 have hp:=(bV hT hd).pos
 refine ⟨i,z,hu,h1,by rw[h3,hk],by rw[←hk];exact (bV hT hd).pos,by rw[h4];exact hb,h2,by rw[h5];simp[hk],?_⟩
 have hm:=pS (T:=T) (F:=fun _=>False) (w:=default) (d:=d) 1 hp
 rw[h5]
 exact Rws.one (es:=List.replicate 1 (d.cts.map gj)) (vs:=(Builtin.zeroCells (d.cts.map bQ).toArray 1).toList) (by simpa [Builtin.zeroCells,madeCells] using hm) hp (by simp[Builtin.zeroCells])
section
variable {P:Program} {tS tE k g o n c i:Nat} {i0:TypeInfo} {z:Value} {cs r:Array Value} {want:List Value} {gg:Option Nat}
theorem kn (w W:World) (hW:W=w.setRow g r∨W=w.drew.setRow g r) (hg:w.heap[g]?=some (.cells cs tE (0,0))) (hr:r.size=cs.size) (hcs:cs.size=o+c*k) (hnc:n≤c) (hcm:c≤maxLen) (hwant:(r.toList.drop o).take (n*k)=want):
  lT w (some g) n k tE want (.returned (.slice (some ⟨g,o,none⟩) n c)) W:=by
 have hg':w.drew.heap[g]?=some (.cells cs tE (0,0)):=hg
 have s1:W.heap[g]?=some (.cells r tE (0,0)):=by
  rcases hW with rfl|rfl
  ·exact setRow_heap w g cs _ tE _ hg
  ·exact setRow_heap w.drew g cs _ tE _ hg'
 have s2:∀j,j<w.heap.size→W.heap[j]?=w.heap[j]?∨(j=g∧some g=some g):=fun j hj=>by
  by_cases e:j=g
  ·exact .inr ⟨e,rfl⟩
  ·left
   rcases hW with rfl|rfl
   ·exact setRow_other w g j _ e
   ·exact setRow_other w.drew g j _ e
 have s3:w.heap.size≤W.heap.size∧W.os=w.os∧W.tape=w.tape∧W.output=w.output∧w.drawn≤W.drawn:=by
  rcases hW with rfl|rfl
  ·exact ⟨by simp[World.setRow],rfl,rfl,rfl,Nat.le_refl _⟩
  ·exact ⟨by show _≤(w.setRow g r).heap.size;simp[World.setRow],rfl,rfl,rfl,Nat.le_succ _⟩
 exact ⟨g,o,c,r,rfl,s1,by rw[hr];exact hcs,hnc,hcm,s2,.inl rfl,s3.1,s3.2.1,s3.2.2.1,s3.2.2.2,hwant⟩
theorem uM {G:Nat} (w W:World) (hh:W.heap.size=w.heap.size+1) (hn:W.heap[w.heap.size]?=some (.cells r tE (0,0))) (ho:∀j,j<w.heap.size→W.heap[j]?=w.heap[j]?) (hos:W.os=w.os) (htp:W.tape=w.tape) (hou:W.output=w.output∧w.drawn≤W.drawn) (hG1:n≤G) (hG2:G≤maxLen) (hr:r.size=G*k) (hwant:r.toList.take (n*k)=want):
  lT w gg n k tE want (.returned (.slice (some ⟨w.heap.size,0,none⟩) n G)) W:=
 ⟨w.heap.size,0,G,r,rfl,hn,by omega,hG1,hG2,fun j hj=>.inl (ho j hj),.inr ⟨Nat.le_refl _,by omega⟩,by omega,hos,htp,hou,by simpa using hwant⟩
theorem rr {G:Nat} (w W:World) (hW:W=w.drew.alloc (.cells r tE)) (hG1:n≤G) (hG2:G≤maxLen) (hr:r.size=G*k) (hwant:r.toList.take (n*k)=want):
  lT w gg n k tE want (.returned (.slice (some ⟨w.heap.size,0,none⟩) n G)) W:=by
 subst hW
 obtain ⟨a,b⟩:=yD (w:=w) (W:=w.drew.alloc (.cells r tE)) (ob:=.cells r tE (0,0)) rfl
 exact uM w _ (by show (w.heap.push _).size=_;simp) a b rfl rfl ⟨rfl,Nat.le_succ _⟩ hG1 hG2 hr hwant
theorem xv {G:Nat} {ROW r1 r2:Array Value} (w W1 W2 W:World) (h1:W1.heap=w.heap.push (.cells ROW tE (0,0))) (h2:W2.heap=(W1.setRow w.heap.size r1).heap) (h3:W.heap=(W2.setRow w.heap.size r2).heap) (hos:W.os=w.os) (htp:W.tape=w.tape) (hou:W.output=w.output∧w.drawn≤W.drawn) (hG1:n≤G) (hG2:G≤maxLen) (hr:r2.size=G*k) (hwant:r2.toList.take (n*k)=want):
  lT w gg n k tE want (.returned (.slice (some ⟨w.heap.size,0,none⟩) n G)) W:=by
 obtain ⟨a,b⟩:=yD h1
 have a2:W2.heap[w.heap.size]?=some (.cells r1 tE (0,0)):=by rw[h2];exact setRow_heap W1 _ ROW _ tE _ a
 have a3:W.heap[w.heap.size]?=some (.cells r2 tE (0,0)):=by rw[h3];exact setRow_heap W2 _ r1 _ tE _ a2
 refine uM w W ?_ a3 (fun j hj=>?_) hos htp hou hG1 hG2 hr hwant
 ·rw[h3]
  show (W2.setRow w.heap.size r2).heap.size=_
  have:(W2.setRow w.heap.size r2).heap.size=W2.heap.size:=by simp[World.setRow]
  rw[this,h2]
  have:(W1.setRow w.heap.size r1).heap.size=W1.heap.size:=by simp[World.setRow]
  rw[this,h1];simp
 ·rw[h3,setRow_other _ _ _ _ (by omega),h2,setRow_other _ _ _ _ (by omega)]
  exact b j hj
theorem sS {w:World} {p:Nat} (e:ET P tS tE k i0 z) (hg:w.heap[g]?=some (.cells cs tE (0,0))) (hp:o+p*k+k≤cs.size):
  ∃r2:Array Value,(∀ty c',∃v,(Builtin.clear_ #[tS] ty #[.slice (some ⟨g,o+p*k,none⟩) 1 c']).run P w=.ok v (w.setRow g r2))∧r2.size=cs.size∧(r2.toList.drop o).take (p*k)=ay cs o (p*k):=by
 obtain ⟨ze,hze⟩:∃ze,ze=(Builtin.zeroCells z.cells 1).toList:=⟨_,rfl⟩
 have hzl:ze.length=k:=by rw[hze];simp[size_zeroCells,e.zs]
 have q1:o+p*k+ze.length≤cs.toList.length:=by rw[hzl];simpa using hp
 obtain ⟨R2,hR2⟩:∃R2,R2=cs.toList.take (o+p*k)++ze++cs.toList.drop (o+p*k+ze.length):=⟨_,rfl⟩
 have l2:R2.length=cs.toList.length:=by rw[hR2];exact pd q1
 have d2:=EE (cs:=cs.toList) (B:=cs.toList.drop o) (m:=ze) (o:=o) (p:=p*k) rfl (by omega)
 rw[←hR2] at d2
 refine ⟨R2.toArray,fun ty c'=>⟨.tuple #[],?_⟩,by rw[List.size_toArray,l2];simp,?_⟩
 ·have hst:=run_storeCells_at P g (o+p*k) tE ze 0 cs w hg (by simpa using q1) (by rw[hze];exact e.z1)
  simp only[Nat.add_zero] at hst
  have hzv:(zeroValue tE).run P w=.ok z w:=by simp[zeroValue,typeInfo,e.i,e.zz]
  rw[hR2]
  rw[hze] at hst⊢
  simp only[Builtin.clear_,List.getElem?_toArray,List.getElem?_cons_zero]
  simp[run_underlying e.u,hzv,hst]
 ·show (R2.drop o).take (p*k)=_
  rw[d2,List.append_assoc,List.take_append_of_le_length (by simp;omega),List.take_take,Nat.min_self]
  rfl
theorem xQ {w:World} (e:ET P tS tE k i0 z) (hi:i<n) (hnc:n≤c) (hg:w.heap[g]?=some (.cells cs tE (0,0))) (hcs:cs.size=o+c*k) (h1:∀v∈ay cs o (n*k),v.oneCell'=true):
  ∃r1 r2:Array Value,
   (∀ty,(Builtin.append_ #[tS,tS] ty #[.slice (some ⟨g,o,none⟩) i c,.slice (some ⟨g,o+(i+1)*k,none⟩) (n-(i+1)) (c-(i+1))]).run P w=.ok (.slice (some ⟨g,o,none⟩) (n-1) c) (w.setRow g r1))∧
   (∀ty c',∃v,(Builtin.clear_ #[tS] ty #[.slice (some ⟨g,o+(n-1)*k,none⟩) 1 c']).run P (w.setRow g r1)=.ok v ((w.setRow g r1).setRow g r2))∧
   r2.size=cs.size∧(r2.toList.drop o).take ((n-1)*k)=(ay cs o (n*k)).take (i*k)++(ay cs o (n*k)).drop ((i+1)*k):=by
 have hpos:=e.pos
 have m0:(i+1)*k=i*k+k:=Nat.succ_mul i k
 have m1:(i+1)*k≤n*k:=Nat.mul_le_mul_right k hi
 have m2:n*k≤c*k:=Nat.mul_le_mul_right k hnc
 have m3:(n-(i+1))*k=n*k-(i+1)*k:=Nat.sub_mul n (i+1) k
 have m4:(n-1)*k=n*k-k:=by rw[Nat.sub_mul,Nat.one_mul]
 have hul:(ay cs o (n*k)).length=n*k:=lx (by omega)
 obtain ⟨news,hnews⟩:∃news,news=(ay cs o (n*k)).drop ((i+1)*k):=⟨_,rfl⟩
 have hnl:news.length=(n-(i+1))*k:=by rw[hnews,List.length_drop,hul,m3]
 have q0:o+i*k+news.length≤cs.toList.length:=by simp[hcs];omega
 obtain ⟨R1,hR1⟩:∃R1,R1=cs.toList.take (o+i*k)++news++cs.toList.drop (o+i*k+news.length):=⟨_,rfl⟩
 have l1:R1.length=cs.toList.length:=by rw[hR1];exact pd q0
 have d1:=EE (cs:=cs.toList) (B:=cs.toList.drop o) (m:=news) (o:=o) (p:=i*k) rfl (by simp[hcs];omega)
 rw[←hR1] at d1
 have hone:∀v∈news,v.oneCell'=true:=fun v hv=>h1 v (by rw[hnews] at hv;exact List.mem_of_mem_drop hv)
 have hs1:(w.setRow g R1.toArray).heap[g]?=some (.cells R1.toArray tE (0,0)):=setRow_heap w g cs _ tE _ hg
 obtain ⟨r2,c1,c2,c3⟩:=sS (o:=o) (p:=n-1) e hs1 (by rw[List.size_toArray,l1];simp[hcs];omega)
 refine ⟨R1.toArray,r2,fun ty=>?_,c1,by rw[c2,List.size_toArray,l1];simp,?_⟩
 ·have:=jE (P:=P) w tS ty tE i0 e.u e.i g o i c cs hg ⟨g,o+(i+1)*k,none⟩ (n-(i+1)) (c-(i+1)) news (by rw[hnl,e.s]) (fun j v hj=>by rw[hnews] at hj;exact mH hg hj) hone (by omega) (by rw[e.s];simpa using q0)
  rw[e.s] at this
  have en:i+(n-(i+1))=n-1:=by omega
  rw[en] at this
  rw[hR1];exact this
 ·rw[c3]
  show (R1.drop o).take ((n-1)*k)=_
  rw[d1,List.take_append_of_le_length (by simp[hnl];omega),List.take_of_length_le (by simp[hnl];omega),hnews]
  congr 1
  simp only[ay]
  rw[List.take_take,Nat.min_eq_left (by omega)]
end
end Go.Ev
namespace Go.Ev
open Go.Proofs Go.RowKit Go.Lib
def G5:TD:=(aV T0 30).getD ⟨.other,[],0⟩
theorem GZ:∃i0 z,ET Tryz.prog 23 30 6 i0 z:=Gn (P:=Tryz.checked.prog) (d:=G5) aI.tok (by kernel_rfl) (by kernel_rfl) (by decide) (by decide)
theorem Ie (w:World) (g gv ov off m vc lb cb:Nat) (cs csv:Array Value) (hne:gv≠g) (hg:w.heap[g]?=some (.cells cs 30 (0,0))) (hgv:w.heap[gv]?=some (.cells csv 30 (0,0))) (h0:cs.size≠0):
  (callFunc 79 #[.slice (some ⟨gv,ov,none⟩) m vc,.slice (some ⟨g,off,none⟩) lb cb]).run Tryz.prog w=.ok (.value (.bool false)) w:=by
 obtain ⟨i0,z,e⟩:=GZ
 have hz:∀w,(Go.sizeOf 30).run Tryz.prog w=.ok 6 w:=fun w=>by simp[Go.sizeOf,typeInfo,e.i,e.s]
 have hsa:w.shape? gv=some (30,csv.size):=by simp[World.shape?,hgv]
 have hsb:w.shape? g=some (30,cs.size):=by simp[World.shape?,hg]
 rw[run_callFunc_extern Tryz.func79 (by kernel_rfl) (by kernel_rfl) (by kernel_rfl) (e:=Extern.SlicesOverlaps.overlaps #[23,23] #[4]) (by kernel_rfl),
  Lib.run_overlaps_apart w 23 4 30 e.u 6 hz ⟨gv,ov,none⟩ ⟨g,off,none⟩ m vc lb cb hne 30 30 csv.size cs.size hsa hsb h0 (by simp[World.frozen?,hgv]) (by simp[World.frozen?,hgv])]
 rfl
set_option maxHeartbeats 4000000 in
set_option maxRecDepth 100000 in
theorem Hr:GL Tryz.prog 29 30 6:=by
 obtain ⟨i0,z,e⟩:=GZ
 have hu:=e.u
 have hui:Tryz.prog.underlying 3=some (.int .i64):=by kernel_rfl
 have mixed:Tryz.prog.follows .mixedOrders=true:=aI.mixed
 have hs0:=e.s
 refine ⟨⟨Tryz.f29,_,Tryz.func29,rfl,by kernel_rfl⟩,?_,?_⟩
 ·intro w g o n c i gv ov cv cs csv hi hnc hcm hn32 hne hg hcs hgv hcv h1v h1 h1'
  by_cases hin:i=n
  ·subst hin
   have hb3:(i:Int)≤(i:Int):=Int.le_refl _
   have hlast:(ay cs o (i*6)).take (i*6)++ay csv ov 6++(ay cs o (i*6)).drop (i*6)=ay cs o (i*6)++ay csv ov 6:=by
    have hl:(ay cs o (i*6)).length≤i*6:=by simp[ay];omega
    rw[List.take_of_length_le hl,List.drop_eq_nil_of_le hl,List.append_nil]
   rw[hlast]
   rcases xU (P:=Tryz.prog) e hnc hcm hn32 hg hcs hgv hcv h1v h1' with ⟨hroom,r,hrun,hr1,hr2⟩|⟨G,r,hG1,hG2,hrun,hr1,hr2⟩
   ·have hci:¬(c=i):=by omega
    go_enter Tryz.func29,Tryz.ntmps29
    go_wp2_with (at_builtin;refine Lib.wpList_append_run _ rfl _ _ _ _ rfl _ _ rfl rfl _ _ (hrun _) ?_)
    all_goals go_ret
    all_goals exact kn w _ (.inl rfl) hg hr1 hcs hroom hcm hr2
   ·go_enter Tryz.func29,Tryz.ntmps29
    go_wp2_with (at_builtin;refine Lib.wpList_append_run _ rfl _ _ _ _ rfl _ _ rfl rfl _ _ (hrun _) ?_)
    all_goals go_ret
    all_goals exact rr w _ rfl hG1 hG2 hr1 hr2
  ·have hlt:i<n:=by omega
   have hz1:¬((i:Int)=(n:Int)):=by omega
   have hw1:IntKind.i64.wrap ((i:Int)+1)=(i:Int)+1:=by unfold maxLen at hcm;rw[IntKind.wrap_i64];omega
   have hb1:(0:Int)≤(i:Int)+1:=by omega
   have htn:((i:Int)+1).toNat=i+1:=by omega
   have hc63:c≤9223372036854775807:=by unfold maxLen at hcm;omega
   by_cases hroom:n+1≤c
   ·obtain ⟨r1,r2,hcp1,hcp2,hr1,hr2⟩:=tj (P:=Tryz.prog) (w:=w.drew) e hlt hroom hne hg hcs hgv hcv h1v h1 h1'
    have hov:=fun lb cb=>Ie w g gv ov (o+(i+1)*6) 1 cv lb cb cs csv hne hg hgv (by omega)
    have hb2:¬(c=i+1):=by omega
    have hb3:(i:Int)≤(n:Int)+1:=by omega
    have hb4:¬(c=i):=by omega
    have hb5:i≤n:=by omega
    go_enter Tryz.func29,Tryz.ntmps29
    go_wp2_with (simp only[hov])
    go_region_law_o (refine jj rfl _ _ 23 23 rfl _ _ (by simp[Act.eval,Act.put]) (by simp[Act.eval,Act.put]) (hcp1 _ _ _) ?_)
    go_wp2_with (at_builtin;refine gR _ rfl _ _ 23 23 rfl _ _ rfl rfl (hcp2 _ _) ?_)
    go_ret
    rw[setRow_setRow]
    exact kn w _ (.inr rfl) hg hr1 hcs hroom hcm hr2
   ·have hz3:(c:Int)<(n:Int)+1:=by omega
    obtain ⟨G,ROW,r1,r2,hG1,hG2,hrz,hcpA,hcpB,hr1,hr2⟩:=vh (P:=Tryz.prog) (w:=w) e hui hlt hnc (by omega) hn32 hne hg hcs hgv hcv h1v h1 h1'
    have hE1:((w.alloc (.cells ROW 30)).drew).heap=w.heap.push (.cells ROW 30 (0,0)):=rfl
    have hF1:((((w.alloc (.cells ROW 30)).drew).setRow w.heap.size r1).drew).heap=(((w.alloc (.cells ROW 30)).drew).setRow w.heap.size r1).heap:=rfl
    have hG63:G≤9223372036854775807:=by unfold maxLen at hG2;omega
    have hb3:(i:Int)≤(n:Int):=by omega
    have hb5:i≤n:=by omega
    have hGi:¬(G=i):=by omega
    have hGim:¬(G=i+1):=by omega
    have hci:¬(c=i):=by omega
    go_enter Tryz.func29,Tryz.ntmps29
    go_wp2_with (first
     |(at_builtin;refine Lib.wpList_append_run _ rfl _ _ _ _ rfl _ _ rfl rfl _ _ (hrz _) ?_)
     |(at_builtin;refine gR _ rfl _ _ 23 23 rfl _ _ rfl rfl (hcpA _ hE1 _ _) ?_))
    go_region_law_o (refine jj rfl _ _ 23 23 rfl (.slice (some ⟨w.heap.size,(i+1)*6,none⟩) (n-i) (G-(i+1))) (.slice (some ⟨g,o+i*6,none⟩) (n-i) (c-i)) (by simp[Act.eval,Act.put]) (by simp[Act.eval,Act.put]) (hcpB _ _ hE1 hF1 3 (G-(i+1)) (c-i)) ?_)
    go_wp2
    go_ret
    exact xv w _ _ _ hE1 hF1 rfl rfl rfl ⟨rfl,by show w.drawn≤_;exact Nat.le_trans (Nat.le_succ _) (Nat.le_succ _)⟩ hG1 hG2 hr1 hr2
 ·intro w gv ov cv csv hgv hcv h1v
  obtain ⟨G,r,hG1,hG2,hrun,hr1,hr2⟩:=xK (P:=Tryz.prog) e hgv hcv h1v
  go_enter Tryz.func29,Tryz.ntmps29
  go_wp2_with (at_builtin;refine Lib.wpList_append_run _ rfl _ _ _ _ rfl _ _ rfl rfl _ _ (hrun _) ?_)
  go_ret
  exact rr w _ rfl hG1 hG2 hr1 (by simpa using hr2)
theorem Ew:aG Tryz.checked.prog T0 29 ⟨3,wm 30,mg 30,[],ti⟩:=xS (P:=Tryz.checked.prog) (d:=G5) (by kernel_rfl) (by decide) Hr
set_option maxHeartbeats 4000000 in
set_option maxRecDepth 100000 in
theorem Hv:Hs Tryz.prog 30 30 6:=by
 obtain ⟨i0,z,e⟩:=GZ
 have hu:=e.u
 have mixed:Tryz.prog.follows .mixedOrders=true:=aI.mixed
 have hs0:=e.s
 refine ⟨⟨Tryz.f30,_,Tryz.func30,rfl,by kernel_rfl⟩,?_⟩
 intro w g o n c i cs hi hnc hcm hg hcs h1
 have hc63:c≤9223372036854775807:=by unfold maxLen at hcm;omega
 have hz1:¬((i:Int)=(i:Int)+1):=by omega
 have hb1:(0:Int)≤(i:Int)+1:=by omega
 have hb2:(i:Int)≤(i:Int)+1:=by omega
 have hb3:(i:Int)+1≤(n:Int):=by omega
 have hb4:(i:Int)≤(n:Int):=by omega
 have hb5:i≤c:=by omega
 have hb6:i+1≤n:=hi
 have hb8:n-1≤n:=by omega
 have hb9:n-1≤c:=by omega
 have hb7:((n-1:Nat):Int)≤(n:Int):=by omega
 have hc1:¬(c=n-1):=by omega
 have hd1:n-(n-1)=1:=by omega
 have htn:((i:Int)+1).toNat=i+1:=by omega
 have hni:¬(n=i):=by omega
 by_cases hc:c=i+1
 ·have hn:n=i+1:=by omega
  subst hn
  subst hc
  have hnn:i+1-(i+1)=0:=by omega
  obtain ⟨r2,hclr,hr1,hr2⟩:=sS (P:=Tryz.prog) (w:=w.drew) (o:=o) (p:=i) e hg (by omega)
  obtain ⟨vc,hclr⟩:=hclr 0 1
  go_enter Tryz.func30,Tryz.ntmps30
  go_wp2
  go_region_o
  go_wp2_with (at_builtin;refine gE _ rfl _ 23 rfl _ rfl hclr ?_)
  go_ret
  have hwant:(ay cs o ((i+1)*6)).take (i*6)++(ay cs o ((i+1)*6)).drop ((i+1)*6)=ay cs o (i*6):=by
   have hl:(ay cs o ((i+1)*6)).length≤(i+1)*6:=by simp[ay];omega
   rw[List.drop_eq_nil_of_le hl,List.append_nil,xB (by omega)]
  rw[hwant]
  exact kn w _ (.inr rfl) hg hr1 hcs (by omega) hcm hr2
 ·obtain ⟨r1,r2,hrun,hclr,hr1,hr2⟩:=xQ (P:=Tryz.prog) (w:=w.drew) e hi hnc hg hcs h1
  obtain ⟨vc,hclr⟩:=hclr 0 (c-(n-1))
  go_enter Tryz.func30,Tryz.ntmps30
  go_wp2
  go_region_law_o (refine mL rfl _ _ 23 23 rfl _ _ (by simp[Act.eval,Act.put]) (by simp[Act.eval,Act.put]) (hrun _) ?_)
  go_wp2_with (at_builtin;refine gE _ rfl _ 23 rfl _ rfl hclr ?_)
  go_ret
  rw[setRow_setRow]
  exact kn w _ (.inr rfl) hg hr1 hcs (by omega) hcm hr2
theorem EK:aG Tryz.checked.prog T0 30 ⟨3,wO 30,mg 30,[],sX⟩:=xI (P:=Tryz.checked.prog) (d:=G5) (by kernel_rfl) (by decide) Hv
def GQ:TD:=(aV T0 33).getD ⟨.other,[],0⟩
theorem GI:∃i0 z,ET Tryz.prog 25 33 12 i0 z:=Gn (P:=Tryz.checked.prog) (d:=GQ) aI.tok (by kernel_rfl) (by kernel_rfl) (by decide) (by decide)
theorem H0 (w:World) (g gv ov off m vc lb cb:Nat) (cs csv:Array Value) (hne:gv≠g) (hg:w.heap[g]?=some (.cells cs 33 (0,0))) (hgv:w.heap[gv]?=some (.cells csv 33 (0,0))) (h0:cs.size≠0):
  (callFunc 82 #[.slice (some ⟨gv,ov,none⟩) m vc,.slice (some ⟨g,off,none⟩) lb cb]).run Tryz.prog w=.ok (.value (.bool false)) w:=by
 obtain ⟨i0,z,e⟩:=GI
 have hz:∀w,(Go.sizeOf 33).run Tryz.prog w=.ok 12 w:=fun w=>by simp[Go.sizeOf,typeInfo,e.i,e.s]
 have hsa:w.shape? gv=some (33,csv.size):=by simp[World.shape?,hgv]
 have hsb:w.shape? g=some (33,cs.size):=by simp[World.shape?,hg]
 rw[run_callFunc_extern Tryz.func82 (by kernel_rfl) (by kernel_rfl) (by kernel_rfl) (e:=Extern.SlicesOverlaps.overlaps #[25,25] #[4]) (by kernel_rfl),
  Lib.run_overlaps_apart w 25 4 33 e.u 12 hz ⟨gv,ov,none⟩ ⟨g,off,none⟩ m vc lb cb hne 33 33 csv.size cs.size hsa hsb h0 (by simp[World.frozen?,hgv]) (by simp[World.frozen?,hgv])]
 rfl
set_option maxHeartbeats 4000000 in
set_option maxRecDepth 100000 in
theorem GX:GL Tryz.prog 35 33 12:=by
 obtain ⟨i0,z,e⟩:=GI
 have hu:=e.u
 have hui:Tryz.prog.underlying 3=some (.int .i64):=by kernel_rfl
 have mixed:Tryz.prog.follows .mixedOrders=true:=aI.mixed
 have hs0:=e.s
 refine ⟨⟨Tryz.f35,_,Tryz.func35,rfl,by kernel_rfl⟩,?_,?_⟩
 ·intro w g o n c i gv ov cv cs csv hi hnc hcm hn32 hne hg hcs hgv hcv h1v h1 h1'
  by_cases hin:i=n
  ·subst hin
   have hb3:(i:Int)≤(i:Int):=Int.le_refl _
   have hlast:(ay cs o (i*12)).take (i*12)++ay csv ov 12++(ay cs o (i*12)).drop (i*12)=ay cs o (i*12)++ay csv ov 12:=by
    have hl:(ay cs o (i*12)).length≤i*12:=by simp[ay];omega
    rw[List.take_of_length_le hl,List.drop_eq_nil_of_le hl,List.append_nil]
   rw[hlast]
   rcases xU (P:=Tryz.prog) e hnc hcm hn32 hg hcs hgv hcv h1v h1' with ⟨hroom,r,hrun,hr1,hr2⟩|⟨G,r,hG1,hG2,hrun,hr1,hr2⟩
   ·have hci:¬(c=i):=by omega
    go_enter Tryz.func35,Tryz.ntmps35
    go_wp2_with (at_builtin;refine Lib.wpList_append_run _ rfl _ _ _ _ rfl _ _ rfl rfl _ _ (hrun _) ?_)
    all_goals go_ret
    all_goals exact kn w _ (.inl rfl) hg hr1 hcs hroom hcm hr2
   ·go_enter Tryz.func35,Tryz.ntmps35
    go_wp2_with (at_builtin;refine Lib.wpList_append_run _ rfl _ _ _ _ rfl _ _ rfl rfl _ _ (hrun _) ?_)
    all_goals go_ret
    all_goals exact rr w _ rfl hG1 hG2 hr1 hr2
  ·have hlt:i<n:=by omega
   have hz1:¬((i:Int)=(n:Int)):=by omega
   have hw1:IntKind.i64.wrap ((i:Int)+1)=(i:Int)+1:=by unfold maxLen at hcm;rw[IntKind.wrap_i64];omega
   have hb1:(0:Int)≤(i:Int)+1:=by omega
   have htn:((i:Int)+1).toNat=i+1:=by omega
   have hc63:c≤9223372036854775807:=by unfold maxLen at hcm;omega
   by_cases hroom:n+1≤c
   ·obtain ⟨r1,r2,hcp1,hcp2,hr1,hr2⟩:=tj (P:=Tryz.prog) (w:=w.drew) e hlt hroom hne hg hcs hgv hcv h1v h1 h1'
    have hov:=fun lb cb=>H0 w g gv ov (o+(i+1)*12) 1 cv lb cb cs csv hne hg hgv (by omega)
    have hb2:¬(c=i+1):=by omega
    have hb3:(i:Int)≤(n:Int)+1:=by omega
    have hb4:¬(c=i):=by omega
    have hb5:i≤n:=by omega
    go_enter Tryz.func35,Tryz.ntmps35
    go_wp2_with (simp only[hov])
    go_region_law_o (refine jj rfl _ _ 25 25 rfl _ _ (by simp[Act.eval,Act.put]) (by simp[Act.eval,Act.put]) (hcp1 _ _ _) ?_)
    go_wp2_with (at_builtin;refine gR _ rfl _ _ 25 25 rfl _ _ rfl rfl (hcp2 _ _) ?_)
    go_ret
    rw[setRow_setRow]
    exact kn w _ (.inr rfl) hg hr1 hcs hroom hcm hr2
   ·have hz3:(c:Int)<(n:Int)+1:=by omega
    obtain ⟨G,ROW,r1,r2,hG1,hG2,hrz,hcpA,hcpB,hr1,hr2⟩:=vh (P:=Tryz.prog) (w:=w) e hui hlt hnc (by omega) hn32 hne hg hcs hgv hcv h1v h1 h1'
    have hE1:((w.alloc (.cells ROW 33)).drew).heap=w.heap.push (.cells ROW 33 (0,0)):=rfl
    have hF1:((((w.alloc (.cells ROW 33)).drew).setRow w.heap.size r1).drew).heap=(((w.alloc (.cells ROW 33)).drew).setRow w.heap.size r1).heap:=rfl
    have hG63:G≤9223372036854775807:=by unfold maxLen at hG2;omega
    have hb3:(i:Int)≤(n:Int):=by omega
    have hb5:i≤n:=by omega
    have hGi:¬(G=i):=by omega
    have hGim:¬(G=i+1):=by omega
    have hci:¬(c=i):=by omega
    go_enter Tryz.func35,Tryz.ntmps35
    go_wp2_with (first
     |(at_builtin;refine Lib.wpList_append_run _ rfl _ _ _ _ rfl _ _ rfl rfl _ _ (hrz _) ?_)
     |(at_builtin;refine gR _ rfl _ _ 25 25 rfl _ _ rfl rfl (hcpA _ hE1 _ _) ?_))
    go_region_law_o (refine jj rfl _ _ 25 25 rfl (.slice (some ⟨w.heap.size,(i+1)*12,none⟩) (n-i) (G-(i+1))) (.slice (some ⟨g,o+i*12,none⟩) (n-i) (c-i)) (by simp[Act.eval,Act.put]) (by simp[Act.eval,Act.put]) (hcpB _ _ hE1 hF1 3 (G-(i+1)) (c-i)) ?_)
    go_wp2
    go_ret
    exact xv w _ _ _ hE1 hF1 rfl rfl rfl ⟨rfl,by show w.drawn≤_;exact Nat.le_trans (Nat.le_succ _) (Nat.le_succ _)⟩ hG1 hG2 hr1 hr2
 ·intro w gv ov cv csv hgv hcv h1v
  obtain ⟨G,r,hG1,hG2,hrun,hr1,hr2⟩:=xK (P:=Tryz.prog) e hgv hcv h1v
  go_enter Tryz.func35,Tryz.ntmps35
  go_wp2_with (at_builtin;refine Lib.wpList_append_run _ rfl _ _ _ _ rfl _ _ rfl rfl _ _ (hrun _) ?_)
  go_ret
  exact rr w _ rfl hG1 hG2 hr1 (by simpa using hr2)
theorem Ey:aG Tryz.checked.prog T0 35 ⟨3,wm 33,mg 33,[],ti⟩:=xS (P:=Tryz.checked.prog) (d:=GQ) (by kernel_rfl) (by decide) GX
set_option maxHeartbeats 4000000 in
set_option maxRecDepth 100000 in
theorem GN:Hs Tryz.prog 36 33 12:=by
 obtain ⟨i0,z,e⟩:=GI
 have hu:=e.u
 have mixed:Tryz.prog.follows .mixedOrders=true:=aI.mixed
 have hs0:=e.s
 refine ⟨⟨Tryz.f36,_,Tryz.func36,rfl,by kernel_rfl⟩,?_⟩
 intro w g o n c i cs hi hnc hcm hg hcs h1
 have hc63:c≤9223372036854775807:=by unfold maxLen at hcm;omega
 have hz1:¬((i:Int)=(i:Int)+1):=by omega
 have hb1:(0:Int)≤(i:Int)+1:=by omega
 have hb2:(i:Int)≤(i:Int)+1:=by omega
 have hb3:(i:Int)+1≤(n:Int):=by omega
 have hb4:(i:Int)≤(n:Int):=by omega
 have hb5:i≤c:=by omega
 have hb6:i+1≤n:=hi
 have hb8:n-1≤n:=by omega
 have hb9:n-1≤c:=by omega
 have hb7:((n-1:Nat):Int)≤(n:Int):=by omega
 have hc1:¬(c=n-1):=by omega
 have hd1:n-(n-1)=1:=by omega
 have htn:((i:Int)+1).toNat=i+1:=by omega
 have hni:¬(n=i):=by omega
 by_cases hc:c=i+1
 ·have hn:n=i+1:=by omega
  subst hn
  subst hc
  have hnn:i+1-(i+1)=0:=by omega
  obtain ⟨r2,hclr,hr1,hr2⟩:=sS (P:=Tryz.prog) (w:=w.drew) (o:=o) (p:=i) e hg (by omega)
  obtain ⟨vc,hclr⟩:=hclr 0 1
  go_enter Tryz.func36,Tryz.ntmps36
  go_wp2
  go_region_o
  go_wp2_with (at_builtin;refine gE _ rfl _ 25 rfl _ rfl hclr ?_)
  go_ret
  have hwant:(ay cs o ((i+1)*12)).take (i*12)++(ay cs o ((i+1)*12)).drop ((i+1)*12)=ay cs o (i*12):=by
   have hl:(ay cs o ((i+1)*12)).length≤(i+1)*12:=by simp[ay];omega
   rw[List.drop_eq_nil_of_le hl,List.append_nil,xB (by omega)]
  rw[hwant]
  exact kn w _ (.inr rfl) hg hr1 hcs (by omega) hcm hr2
 ·obtain ⟨r1,r2,hrun,hclr,hr1,hr2⟩:=xQ (P:=Tryz.prog) (w:=w.drew) e hi hnc hg hcs h1
  obtain ⟨vc,hclr⟩:=hclr 0 (c-(n-1))
  go_enter Tryz.func36,Tryz.ntmps36
  go_wp2
  go_region_law_o (refine mL rfl _ _ 25 25 rfl _ _ (by simp[Act.eval,Act.put]) (by simp[Act.eval,Act.put]) (hrun _) ?_)
  go_wp2_with (at_builtin;refine gE _ rfl _ 25 rfl _ rfl hclr ?_)
  go_ret
  rw[setRow_setRow]
  exact kn w _ (.inr rfl) hg hr1 hcs (by omega) hcm hr2
theorem Ez:aG Tryz.checked.prog T0 36 ⟨3,wO 33,mg 33,[],sX⟩:=xI (P:=Tryz.checked.prog) (d:=GQ) (by kernel_rfl) (by decide) GN
end Go.Ev
namespace Go.Ev
open Go.Proofs
noncomputable section
def lG.d1 (a:C):R:=(bif (decide ((a.L.length:Int)>2000)) then (bif (decide (2000≤(a.L.length:Int))) then (some (.ret [.l ((a.L.take 2000).drop 0),.i 0])) else none) else (some (.ret [a,.i 0])))
def lG:List C→Option (List C):=fun xs=>bl (apn 1 lG.d1 xs)
def oo:FS:=⟨1,⟨[(0,(zl 5))],[]⟩,⟨[(0,(.pt 3000 0))],[(3000,z1)]⟩,[],lG⟩
theorem Az:aG Tryz.checked.prog T0 19 oo:=bO aI (fn:=Tryz.f19) (c:=Tryz.f19.body.getD .skip) oo .leaf [] .nil (by kernel_rfl) (by kernel_rfl) (by kernel_rfl) (fun xs=>by kernel_rfl)
def ad.d1 (a b c:C):R:=(bif (!(decide (a.I<1))) then (bif ((b.L.length:Int)==0) then (some (.ret [.i 0,b,.i (w64 (c.I+1))])) else (bif (decide ((w64 ((w64 (c.I+1))-1))<(b.L.length:Int))) then (bif (decide (0≤(w64 ((w64 (c.I+1))-1)))) then (bif (decide ((w64 ((w64 (c.I+1))-1))<(b.L.length:Int))) then (bif (a.I !=0) then (some (.ret [.i ((w64 (((b.L.getD (w64 ((w64 (c.I+1))-1)).toNat []).getD 0 .nil).I)).tmod a.I),b,.i (w64 (c.I+1))])) else none) else none) else none) else (bif ((b.L.length:Int) !=0) then (bif (decide (0≤((w64 ((w64 (c.I+1))-1)).tmod (b.L.length:Int)))) then (bif (decide (((w64 ((w64 (c.I+1))-1)).tmod (b.L.length:Int))<(b.L.length:Int))) then (bif ((b.L.length:Int) !=0) then (bif (decide (0≤((w64 ((w64 ((w64 ((w64 (c.I+1))-1))*7))+3)).tmod (b.L.length:Int)))) then (bif (decide (((w64 ((w64 ((w64 ((w64 (c.I+1))-1))*7))+3)).tmod (b.L.length:Int))<(b.L.length:Int))) then (bif ((b.L.length:Int) !=0) then (bif (a.I !=0) then (some (.ret [.i ((w64 ((BitVec.ofInt (IntKind.bits .i64) (w64 ((w64 ((w64 ((w64 ((w64 (((b.L.getD ((w64 ((w64 (c.I+1))-1)).tmod (b.L.length:Int)).toNat []).getD 0 .nil).I))*131))+(w64 ((w64 (((b.L.getD ((w64 ((w64 ((w64 ((w64 (c.I+1))-1))*7))+3)).tmod (b.L.length:Int)).toNat []).getD 0 .nil).I))*1117))))+(w64 ((w64 ((w64 (c.I+1))-1))*29))))+(w64 ((w64 ((w64 ((w64 (c.I+1))-1)).tdiv (b.L.length:Int)))*53))))^^^BitVec.ofInt (IntKind.bits .i64) (w64 ((w64 ((w64 ((w64 ((w64 ((w64 (((b.L.getD ((w64 ((w64 (c.I+1))-1)).tmod (b.L.length:Int)).toNat []).getD 0 .nil).I))*131))+(w64 ((w64 (((b.L.getD ((w64 ((w64 ((w64 ((w64 (c.I+1))-1))*7))+3)).tmod (b.L.length:Int)).toNat []).getD 0 .nil).I))*1117))))+(w64 ((w64 ((w64 (c.I+1))-1))*29))))+(w64 ((w64 ((w64 ((w64 (c.I+1))-1)).tdiv (b.L.length:Int)))*53)))).tdiv 64))).toNat:Int)).tmod a.I),b,.i (w64 (c.I+1))])) else none) else none) else none) else none) else none) else none) else none) else none))) else (some (.ret [.i 0,b,.i (w64 (c.I+1))])))
def ad:List C→Option (List C):=fun xs=>bl (apn 3 ad.d1 xs)
def aa:FS:=⟨2,⟨[(0,(.pt 2000 0)),(1,zi)],[(2000,z1)]⟩,⟨[(0,zi)],[(2000,z1)]⟩,[2000],ad⟩
theorem ab:aG Tryz.checked.prog T0 22 aa:=bO aI (fn:=Tryz.f22) (c:=Tryz.f22.body.getD .skip) aa .leaf [] .nil (by kernel_rfl) (by kernel_rfl) (by kernel_rfl) (fun xs=>by kernel_rfl)
def cw.d1 (G0:List C→Option (List C)) (a:C):R:=(bif (decide (a.I<0)) then (ae (G0 [.i (w64 (0-a.I))]) fun b=>(bif (decide ((bs #[45]).size+b.S.size≤4294967296)) then (some (.ret [.s ((bs #[45])++b.S)])) else none)) else (bif (decide (a.I<10)) then (some (.ret [.s (ke (rows [[.i (IntKind.wrap .u8 (w64 (48+a.I)))]]))])) else (ae (G0 [.i (w64 (a.I.tdiv 10))]) fun c=>(bif (decide (c.S.size+(ke (rows [[.i (IntKind.wrap .u8 (w64 (48+(a.I.tmod 10))))]])).size≤4294967296)) then (some (.ret [.s (c.S++(ke (rows [[.i (IntKind.wrap .u8 (w64 (48+(a.I.tmod 10))))]])))])) else none))))
def cw.step (G0:List C→Option (List C)):List C→Option (List C):=fun xs=>bl (apn 1 (cw.d1 G0) xs)
def dP (G:List C→Option (List C)):FS:=⟨1,⟨[(0,(.d (.int .i64)))],[]⟩,⟨[(0,(.d .str))],[]⟩,[],G⟩
theorem AP {G0:List C→Option (List C)} (h0:aG Tryz.checked.prog T0 69 (dP G0)):aG Tryz.checked.prog T0 69 (dP (cw.step G0)):=bO aI (fn:=Tryz.f69) (c:=Tryz.f69.body.getD .skip) (dP (cw.step G0)) .leaf [(69,some 7,(dP G0)),(69,some 18,(dP G0))] (.cons h0 (.cons h0 .nil)) (by kernel_rfl) (by kernel_rfl) (by kernel_rfl) (fun xs=>by kernel_rfl)
def cw.g:Nat→Nat→List C→Option (List C)
 |0,_=>fun _=>none
 |k+1,0=>cw.step (cw.g k 0)
 |_,_=>fun _=>none
theorem tc:∀k:Nat,aG Tryz.checked.prog T0 69 (dP (cw.g k 0))
 |0=>kD (fn:=Tryz.f69) (c:=Tryz.f69.body.getD .skip) (1) (⟨[(0,(.d (.int .i64)))],[]⟩) (⟨[(0,(.d .str))],[]⟩) [] (by kernel_rfl) (by kernel_rfl) (by kernel_rfl)
 |k+1=>AP (tc k)
def cw:List C→Option (List C):=cw.g iW 0
theorem iE:aG Tryz.checked.prog T0 69 (dP cw):=tc iW
def cC.d1 (a b c d e f g h i j k:C):R:=(bif (decide (a.I<2)) then (ae (cw [a]) fun l=>(bif (decide ((bs #[98]).size+l.S.size≤4294967296)) then (bif (decide (i.L.length+(rows [[.s ((bs #[98])++l.S),.s (bs #[101,97,115,116]),.l ah,.i 30,.i 30,.b false]]).length≤4294967296)) then (some (.again [.i (w64 (a.I+1)),b,c,d,e,.l f.L,.l g.L,.l h.L,.l (i.L++(rows [[.s ((bs #[98])++l.S),.s (bs #[101,97,115,116]),.l ah,.i 30,.i 30,.b false]])),.l j.L,.l k.L])) else none) else none)) else (some (.brk 0 [b,c,d,e,.l f.L,.l g.L,.l h.L,.l i.L,.l j.L,.l k.L])))
def cC.d2 (a b c d e f g h i j k l:C):R:=(bif (decide (b.I<(w64 (a.I+2)))) then (bif (decide ((bs #[99]).size+(ke (rows [[.i (IntKind.wrap .u8 (w64 (97+b.I)))]])).size≤4294967296)) then (call3 (ad [.i 3,c,d]) fun m n o=>(call3 (ad [.i 2,n,o]) fun p q r=>(bif (decide (b.I<a.I)) then (bif (decide (l.L.length+(rows [[.s ((bs #[99])++(ke (rows [[.i (IntKind.wrap .u8 (w64 (97+b.I)))]]))),.s (bs #[119,101,98]),m,.i 0,.i 1,p,.s (bs #[]),.l ah,.i 0,.s (bs #[]),.s (bs #[]),.s (bs #[98,48])]]).length≤4294967296)) then (some (.again [a,.i (w64 (b.I+1)),q,r,e,f,.l g.L,.l h.L,.l i.L,.l j.L,.l k.L,.l (l.L++(rows [[.s ((bs #[99])++(ke (rows [[.i (IntKind.wrap .u8 (w64 (97+b.I)))]]))),.s (bs #[119,101,98]),m,.i 0,.i 1,p,.s (bs #[]),.l ah,.i 0,.s (bs #[]),.s (bs #[]),.s (bs #[98,48])]]))])) else none) else (call3 (ad [.i 3,q,r]) fun s t u=>(bif (decide (s.I>0)) then (call3 (ad [.i 4,t,u]) fun v w x=>(bif (decide (l.L.length+(rows [[.s ((bs #[99])++(ke (rows [[.i (IntKind.wrap .u8 (w64 (97+b.I)))]]))),.s (bs #[119,101,98]),.i (w64 (1+v.I)),.i 0,.i 1,p,.s (bs #[]),.l ah,.i 0,.s (bs #[]),.s (bs #[98,48]),.s (bs #[])]]).length≤4294967296)) then (some (.again [a,.i (w64 (b.I+1)),w,x,e,f,.l g.L,.l h.L,.l i.L,.l j.L,.l k.L,.l (l.L++(rows [[.s ((bs #[99])++(ke (rows [[.i (IntKind.wrap .u8 (w64 (97+b.I)))]]))),.s (bs #[119,101,98]),.i (w64 (1+v.I)),.i 0,.i 1,p,.s (bs #[]),.l ah,.i 0,.s (bs #[]),.s (bs #[98,48]),.s (bs #[])]]))])) else none)) else (bif (decide (l.L.length+(rows [[.s ((bs #[99])++(ke (rows [[.i (IntKind.wrap .u8 (w64 (97+b.I)))]]))),.s (bs #[119,101,98]),m,.i 0,.i 1,p,.s (bs #[]),.l ah,.i 0,.s (bs #[]),.s (bs #[]),.s (bs #[])]]).length≤4294967296)) then (some (.again [a,.i (w64 (b.I+1)),t,u,e,f,.l g.L,.l h.L,.l i.L,.l j.L,.l k.L,.l (l.L++(rows [[.s ((bs #[99])++(ke (rows [[.i (IntKind.wrap .u8 (w64 (97+b.I)))]]))),.s (bs #[119,101,98]),m,.i 0,.i 1,p,.s (bs #[]),.l ah,.i 0,.s (bs #[]),.s (bs #[]),.s (bs #[])]]))])) else none)))))) else none) else (some (.brk 2 [c,d,e,f,.l g.L,.l h.L,.l i.L,.l j.L,.l k.L,.l l.L])))
def cC.d3 (a b c d e f g h i j:C):R:=(some (.ret [d,a,b,.l h.L,.l i.L,.l j.L]))
def cC.d4 (a b c d e f g h i j:C):R:=(call3 (ad [.i 2,a,b]) fun k l m=>(ax 2 (lim (apn 12 cC.d2) [.i (w64 (10-k.I)),.i 0,l,m,c,d,.l e.L,.l f.L,.l g.L,.l h.L,.l i.L,.l j.L]) (apn 10 cC.d3)))
def cC.d5 (a b:C):R:=(call3 (ad [.i 2,a,b]) fun c d e=>(call3 (ad [.i 9,d,e]) fun f g h=>(ax 0 (lim (apn 11 cC.d1) [.i 0,g,h,.b false,.b (c.I==0),.l ah,.l ah,.l ah,.l ah,.l (rows [[.s (bs #[119,101,98]),f]]),.l ah]) (apn 10 cC.d4))))
def cC:List C→Option (List C):=fun xs=>bl (apn 2 cC.d5 xs)
def pn:FS:=⟨1,⟨[(0,(.pt 2000 0))],[(2000,z1)]⟩,⟨[(0,(.ag [zo,(.ow 3001),(.ow 3002),(.ow 3003)]))],[(2000,z1),(3001,.arr 30 1),(3002,.arr 86 1),(3003,.arr 33 1)]⟩,[2000],cC⟩
theorem AB:aG Tryz.checked.prog T0 65 pn:=uO aI [26,64] false (fn:=Tryz.f65) (c:=Tryz.f65.body.getD .skip) pn (.seq .leaf (.seq .leaf (.seq (.seq .leaf (.block ⟨[(0,(.pt 2000 0)),(2,(.pt 2 0)),(3,(.pt 3 0))],[(2000,z1),(2,z13),(3,.var 27 [zo,(.ow 1013103),(.ow 14),(.ow 1013104)]),(1013100,.arr 30 1),(1013101,.arr 86 1),(1013102,.arr 33 1),(1013103,.arr 30 1),(14,.arr 86 1),(1013104,.arr 33 1)]⟩ (.loop ⟨[(0,(.pt 2000 0)),(2,(.pt 2 0)),(3,(.pt 3 0)),(4,zi)],[(2000,z1),(2,z13),(3,.var 27 [zo,(.ow 1013103),(.ow 14),(.ow 1013104)]),(1013100,.arr 30 1),(1013101,.arr 86 1),(1013102,.arr 33 1),(1013103,.arr 30 1),(14,.arr 86 1),(1013104,.arr 33 1)]⟩ .leaf))) (.seq .leaf (.seq (.seq .leaf (.block ⟨[(2,(.pt 2 0)),(3,(.pt 3 0))],[(2000,z1),(2,z13),(3,.var 27 [zo,(.ow 1013103),(.ow 14),(.ow 1013104)]),(1013100,.arr 30 1),(1013101,.arr 86 1),(1013102,.arr 33 1),(1013103,.arr 30 1),(14,.arr 86 1),(1013104,.arr 33 1)]⟩ (.loop ⟨[(0,(.pt 2000 0)),(2,(.pt 2 0)),(3,(.pt 3 0)),(5,zi),(6,zi)],[(2000,z1),(2,z13),(3,.var 27 [zo,(.ow 1013103),(.ow 14),(.ow 1013104)]),(1013100,.arr 30 1),(1013101,.arr 86 1),(1013102,.arr 33 1),(1013103,.arr 30 1),(14,.arr 86 1),(1013104,.arr 33 1)]⟩ .leaf))) .leaf))))) [(22,some 9,aa),(22,some 12,aa),(22,some 30,aa),(22,some 45,aa),(22,some 47,aa),(22,some 54,aa),(22,some 58,aa),(69,some 23,(dP cw))] (.cons ab (.cons ab (.cons ab (.cons ab (.cons ab (.cons ab (.cons ab (.cons iE .nil)))))))) (by kernel_rfl) (by kernel_rfl) (by kernel_rfl) (fun xs=>by kernel_rfl)
def cD.d1 (a b c:C):R:=(call3 (ad [.i 2,a,b]) fun d e f=>(bif (d.I==0) then (call3 (ad [.i 2,e,f]) fun g h i=>(bif (decide (0≤g.I)) then (bif (decide (g.I<((rows [[.s (bs #[115,115,100])],[.s (bs #[115,115,100,61,97])]]).length:Int))) then (bif (decide (c.L.length+(rows [[(((rows [[.s (bs #[115,115,100])],[.s (bs #[115,115,100,61,97])]]).getD g.I.toNat []).getD 0 .nil)]]).length≤4294967296)) then (some (.ret [h,i,.l (c.L++(rows [[(((rows [[.s (bs #[115,115,100])],[.s (bs #[115,115,100,61,97])]]).getD g.I.toNat []).getD 0 .nil)]]))])) else none) else none) else none)) else (some (.ret [e,f,.l c.L]))))
def cD.d2 (a b c:C):R:=(bR (call3 (ad [.i 3,a,b]) fun d e f=>(bif (d.I==0) then (bif (decide (c.L.length+(rows [[.s (bs #[111,108,100])]]).length≤4294967296)) then (some (.nrm [e,f,.l (c.L++(rows [[.s (bs #[111,108,100])]]))])) else none) else (some (.nrm [e,f,.l c.L])))) (apn 3 cD.d1))
def cD.d3 (a b c:C):R:=(bR (call3 (ad [.i 3,a,b]) fun d e f=>(bif (d.I==0) then (bif (decide (c.L.length+(rows [[.s (bs #[103,112,117])]]).length≤4294967296)) then (some (.nrm [e,f,.l (c.L++(rows [[.s (bs #[103,112,117])]]))])) else none) else (some (.nrm [e,f,.l c.L])))) (apn 3 cD.d2))
def cD.d4 (a b:C):R:=(bR (call3 (ad [.i 2,a,b]) fun c d e=>(bif (c.I==0) then (call3 (ad [.i 2,d,e]) fun f g h=>(bif (decide (0≤f.I)) then (bif (decide (f.I<((rows [[.s (bs #[114,101,100])],[.s (bs #[97])]]).length:Int))) then (bif (decide ((bs #[99,111,108,111,114,61]).size+((((rows [[.s (bs #[114,101,100])],[.s (bs #[97])]]).getD f.I.toNat []).getD 0 .nil).S).size≤4294967296)) then (bif (decide (ah.length+(rows [[.s ((bs #[99,111,108,111,114,61])++(((rows [[.s (bs #[114,101,100])],[.s (bs #[97])]]).getD f.I.toNat []).getD 0 .nil).S)]]).length≤4294967296)) then (some (.nrm [g,h,.l (ah++(rows [[.s ((bs #[99,111,108,111,114,61])++(((rows [[.s (bs #[114,101,100])],[.s (bs #[97])]]).getD f.I.toNat []).getD 0 .nil).S)]]))])) else none) else none) else none) else none)) else (some (.nrm [d,e,.l ah])))) (apn 3 cD.d3))
def cD:List C→Option (List C):=fun xs=>bl (apn 2 cD.d4 xs)
def nI:FS:=⟨1,⟨[(0,(.pt 2000 0))],[(2000,z1)]⟩,⟨[(0,(.ow 3001))],[(2000,z1),(3001,.arr 9 1)]⟩,[2000],cD⟩
theorem xX:aG Tryz.checked.prog T0 112 nI:=bO aI (fn:=Tryz.f112) (c:=Tryz.f112.body.getD .skip) nI (.seq .leaf (.seq .leaf (.seq (.join ⟨[(0,(.pt 2000 0)),(3,(.ow 4))],[(2000,z1),(4,.arr 9 1)]⟩ .leaf) (.seq (.join ⟨[(0,(.pt 2000 0)),(3,(.ow 4))],[(2000,z1),(4,.arr 9 1)]⟩ .leaf) (.seq (.join ⟨[(0,(.pt 2000 0)),(3,(.ow 4))],[(2000,z1),(4,.arr 9 1)]⟩ .leaf) .leaf))))) [(22,some 6,aa),(22,some 11,aa),(22,some 18,aa),(22,some 24,aa),(22,some 30,aa),(22,some 35,aa)] (.cons ab (.cons ab (.cons ab (.cons ab (.cons ab (.cons ab .nil)))))) (by kernel_rfl) (by kernel_rfl) (by kernel_rfl) (fun xs=>by kernel_rfl)
def eQ.d1 (a b c:C):R:=(call3 (ad [.i 3,b,c]) fun d e f=>(bif (decide (0≤d.I)) then (bif (decide (d.I<((rows [[.s (bs #[101,97,115,116])],[.s (bs #[119,101,115,116])],[.s (bs #[110,111,114,116,104])]]).length:Int))) then (call3 (cD [e,f]) fun g h i=>(call3 (ad [.i 20,g,h]) fun j k l=>(call3 (ad [.i 20,k,l]) fun m n o=>(call3 (ad [.i 10,n,o]) fun p q r=>(some (.ret [a,(((rows [[.s (bs #[101,97,115,116])],[.s (bs #[119,101,115,116])],[.s (bs #[110,111,114,116,104])]]).getD d.I.toNat []).getD 0 .nil),.i (w64 (4+j.I)),.i (w64 (4+m.I)),.b (p.I==0),q,r,.l i.L])))))) else none) else none))
def eQ:List C→Option (List C):=fun xs=>bl (apn 3 eQ.d1 xs)
def gX:FS:=⟨2,⟨[(0,(.pt 2000 0)),(1,zt)],[(2000,z1)]⟩,⟨[(0,(.ag [zt,zt,(.ow 3001),zi,zi,zo]))],[(2000,z1),(3001,.arr 9 1)]⟩,[2000],eQ⟩
theorem mO:aG Tryz.checked.prog T0 68 gX:=bO aI (fn:=Tryz.f68) (c:=Tryz.f68.body.getD .skip) gX .leaf [(22,some 8,aa),(22,some 14,aa),(22,some 17,aa),(22,some 20,aa),(112,some 12,nI)] (.cons ab (.cons ab (.cons ab (.cons ab (.cons xX .nil))))) (by kernel_rfl) (by kernel_rfl) (by kernel_rfl) (fun xs=>by kernel_rfl)
def ll.d1 (a b:C):R:=(call3 (ad [.i 8,a,b]) fun c d e=>(bif (decide (0≤c.I)) then (bif (decide (c.I<((rows [[.s (bs #[115,115,100])],[.s (bs #[111,108,100])],[.s (bs #[103,112,117])],[.s (bs #[122,111,110,101])],[.s (bs #[99,111,108,111,114])],[.s (bs #[97])],[.s (bs #[98,45,49])],[.s (bs #[120,95,50])]]).length:Int))) then (some (.ret [(((rows [[.s (bs #[115,115,100])],[.s (bs #[111,108,100])],[.s (bs #[103,112,117])],[.s (bs #[122,111,110,101])],[.s (bs #[99,111,108,111,114])],[.s (bs #[97])],[.s (bs #[98,45,49])],[.s (bs #[120,95,50])]]).getD c.I.toNat []).getD 0 .nil),d,e])) else none) else none))
def ll:List C→Option (List C):=fun xs=>bl (apn 2 ll.d1 xs)
def oW:FS:=⟨1,⟨[(0,(.pt 2000 0))],[(2000,z1)]⟩,⟨[(0,zt)],[(2000,z1)]⟩,[2000],ll⟩
theorem Ae:aG Tryz.checked.prog T0 163 oW:=bO aI (fn:=Tryz.f163) (c:=Tryz.f163.body.getD .skip) oW .leaf [(22,some 5,aa)] (.cons ab .nil) (by kernel_rfl) (by kernel_rfl) (by kernel_rfl) (fun xs=>by kernel_rfl)
def jc.d1 (a b:C):R:=(call3 (ad [.i 2,a,b]) fun c d e=>(bif (c.I==0) then (call3 (ll [d,e]) fun f g h=>(some (.ret [g,h,.l (rows [[.i 1,f,.s (bs #[]),.i 0]])]))) else (call3 (ad [.i 3,d,e]) fun i j k=>(bif (decide (0≤i.I)) then (bif (decide (i.I<((rows [[.s (bs #[122,111,110,101])],[.s (bs #[99,111,108,111,114])],[.s (bs #[115,115,100])]]).length:Int))) then (call3 (ad [.i 4,j,k]) fun l m n=>(bif (decide (0≤l.I)) then (bif (decide (l.I<((rows [[.s (bs #[101,97,115,116])],[.s (bs #[119,101,115,116])],[.s (bs #[114,101,100])],[.s (bs #[97])]]).length:Int))) then (some (.ret [m,n,.l (rows [[.i 2,(((rows [[.s (bs #[122,111,110,101])],[.s (bs #[99,111,108,111,114])],[.s (bs #[115,115,100])]]).getD i.I.toNat []).getD 0 .nil),(((rows [[.s (bs #[101,97,115,116])],[.s (bs #[119,101,115,116])],[.s (bs #[114,101,100])],[.s (bs #[97])]]).getD l.I.toNat []).getD 0 .nil),.i 0]])])) else none) else none)) else none) else none))))
def jc:List C→Option (List C):=fun xs=>bl (apn 2 jc.d1 xs)
def oJ:FS:=⟨1,⟨[(0,(.pt 2000 0))],[(2000,z1)]⟩,⟨[(0,(.ow 3001))],[(2000,z1),(3001,.arr 190 1)]⟩,[2000],jc⟩
theorem Ai:aG Tryz.checked.prog T0 145 oJ:=bO aI (fn:=Tryz.f145) (c:=Tryz.f145.body.getD .skip) oJ .leaf [(22,some 4,aa),(22,some 12,aa),(22,some 17,aa),(163,some 7,oW)] (.cons ab (.cons ab (.cons ab (.cons Ae .nil)))) (by kernel_rfl) (by kernel_rfl) (by kernel_rfl) (fun xs=>by kernel_rfl)
def bH.d1 (a b c d e:C):R:=(bif (decide (c.I<(d.L.length:Int))) then (bif (decide (0≤c.I)) then (bif (decide (c.I<(d.L.length:Int))) then (bif (decide (e.L.length+(((d.L.getD c.I.toNat []).getD 0 .nil).L).length≤4294967296)) then (some (.again [a,b,.i (w64 (c.I+1)),.l d.L,.l (e.L++(((d.L.getD c.I.toNat []).getD 0 .nil).L))])) else none) else none) else none) else (some (.brk 0 [a,b,.l d.L,.l e.L])))
def bH.d2 (a b c d:C):R:=(bif (decide (d.L.length+(rows [[a,.s (bs #[]),.s (bs #[]),b]]).length≤4294967296)) then (some (.ret [.l c.L,.l (d.L++(rows [[a,.s (bs #[]),.s (bs #[]),b]]))])) else none)
def bH.d3 (a b c:C):R:=(ax 0 (lim (apn 5 bH.d1) [a,b,.i 0,.l c.L,.l ah]) (apn 4 bH.d2))
def bH:List C→Option (List C):=fun xs=>bl (apn 3 bH.d3 xs)
def oY:FS:=⟨3,⟨[(0,zi),(1,zi),(2,(.ow 2000))],[(2000,.arr 152 1)]⟩,⟨[(0,(.ow 3001))],[(2000,.arr 152 1),(3001,.arr 190 1)]⟩,[2000],bH⟩
theorem zC:aG Tryz.checked.prog T0 146 oY:=bO aI (fn:=Tryz.f146) (c:=Tryz.f146.body.getD .skip) oY (.seq .leaf (.seq .leaf (.seq (.seq .leaf (.block ⟨[(0,zi),(1,zi),(7,(.ow 9))],[(2000,.arr 152 1),(9,.arr 190 1)]⟩ (.loop ⟨[(0,zi),(1,zi),(2,(.ow 2000)),(7,(.ow 9)),(8,zi)],[(2000,.arr 152 1),(9,.arr 190 1)]⟩ .leaf))) .leaf))) [] .nil (by kernel_rfl) (by kernel_rfl) (by kernel_rfl) (fun xs=>by kernel_rfl)
def eX:FS:=⟨3,⟨[(0,zi),(1,zi),(2,(.ow 2000))],[(2000,.arr 152)]⟩,⟨[(0,(.ow 3001))],[(2000,.arr 152),(3001,.arr 190 1)]⟩,[2000],bH⟩
theorem gG:aG Tryz.checked.prog T0 146 eX:=bO aI (fn:=Tryz.f146) (c:=Tryz.f146.body.getD .skip) eX (.seq .leaf (.seq .leaf (.seq (.seq .leaf (.block ⟨[(0,zi),(1,zi),(7,(.ow 9))],[(2000,.arr 152),(9,.arr 190 1)]⟩ (.loop ⟨[(0,zi),(1,zi),(2,(.ow 2000)),(7,(.ow 9)),(8,zi)],[(2000,.arr 152),(9,.arr 190 1)]⟩ .leaf))) .leaf))) [] .nil (by kernel_rfl) (by kernel_rfl) (by kernel_rfl) (fun xs=>by kernel_rfl)
def dK.d1 (G0:List C→Option (List C)) (a b c:C):R:=(bif (!(decide (a.I≤0))) then (call3 (ad [.i 3,b,c]) fun d e f=>(bif (d.I==0) then (call3 (jc [e,f]) fun g h i=>(some (.ret [g,h,.l i.L]))) else (call3 (ad [.i 3,e,f]) fun j k l=>(bif (j.I==0) then (call3 (G0 [.i (w64 (a.I-1)),k,l]) fun m n o=>(call2 (bH [.i 3,.i 1,.l (rows [[.l o.L]])]) fun p q=>(some (.ret [m,n,.l q.L])))) else (bif (j.I==1) then (call3 (G0 [.i (w64 (a.I-1)),k,l]) fun r s t=>(call3 (G0 [.i (w64 (a.I-1)),r,s]) fun u v w=>(call2 (bH [.i 4,.i 2,.l (rows [[.l t.L],[.l w.L]])]) fun x y=>(some (.ret [u,v,.l y.L]))))) else (call3 (G0 [.i (w64 (a.I-1)),k,l]) fun z a0 a1=>(call3 (G0 [.i (w64 (a.I-1)),z,a0]) fun a2 a3 a4=>(call2 (bH [.i 5,.i 2,.l (rows [[.l a1.L],[.l a4.L]])]) fun a5 a6=>(some (.ret [a2,a3,.l a6.L])))))))))) else (call3 (jc [b,c]) fun a7 a8 a9=>(some (.ret [a7,a8,.l a9.L]))))
def dK.step (G0:List C→Option (List C)):List C→Option (List C):=fun xs=>bl (apn 3 (dK.d1 G0) xs)
def er (G:List C→Option (List C)):FS:=⟨2,⟨[(0,(.pt 2000 0)),(1,(.d (.int .i64)))],[(2000,.var 107 [(.d (.sl 5)),(.d (.int .i64))])]⟩,⟨[(0,(.ow 3001))],[(2000,.var 107 [(.d (.sl 5)),(.d (.int .i64))]),(3001,.arr 190 1)]⟩,[2000],G⟩
theorem zh {G0:List C→Option (List C)} (h0:aG Tryz.checked.prog T0 129 (er G0)):aG Tryz.checked.prog T0 129 (er (dK.step G0)):=bO aI (fn:=Tryz.f129) (c:=Tryz.f129.body.getD .skip) (er (dK.step G0)) .leaf [(22,some 11,aa),(22,some 17,aa),(129,some 23,(er G0)),(129,some 31,(er G0)),(129,some 36,(er G0)),(129,some 42,(er G0)),(129,some 47,(er G0)),(145,some 15,oJ),(146,some 25,oY),(146,some 38,eX),(146,some 49,eX)] (.cons ab (.cons ab (.cons h0 (.cons h0 (.cons h0 (.cons h0 (.cons h0 (.cons Ai (.cons zC (.cons gG (.cons gG .nil))))))))))) (by kernel_rfl) (by kernel_rfl) (by kernel_rfl) (fun xs=>by kernel_rfl)
def dK.g:Nat→Nat→List C→Option (List C)
 |0,_=>fun _=>none
 |k+1,0=>dK.step (dK.g k 0)
 |_,_=>fun _=>none
theorem rh:∀k:Nat,aG Tryz.checked.prog T0 129 (er (dK.g k 0))
 |0=>kD (fn:=Tryz.f129) (c:=Tryz.f129.body.getD .skip) (2) (⟨[(0,(.pt 2000 0)),(1,(.d (.int .i64)))],[(2000,.var 107 [(.d (.sl 5)),(.d (.int .i64))])]⟩) (⟨[(0,(.ow 3001))],[(2000,.var 107 [(.d (.sl 5)),(.d (.int .i64))]),(3001,.arr 190 1)]⟩) [2000] (by kernel_rfl) (by kernel_rfl) (by kernel_rfl)
 |k+1=>zh (rh k)
def dK:List C→Option (List C):=dK.g iW 0
theorem zZ:aG Tryz.checked.prog T0 129 (er dK):=rh iW
def dD.d1 (a b c d:C):R:=(bif (decide (a.I<(b.L.length:Int))) then (bif (decide (0≤a.I)) then (bif (decide (a.I<(b.L.length:Int))) then (bif (!(decide (((b.L.getD a.I.toNat []).getD 3 .nil).I<0))) then (bif (decide (((b.L.getD a.I.toNat []).getD 3 .nil).I>(d.L.length:Int))) then (some (.ret [.b false,.l c.L])) else (bif (decide (0≤(w64 ((d.L.length:Int)-((b.L.getD a.I.toNat []).getD 3 .nil).I)))) then (bif (decide ((w64 ((d.L.length:Int)-((b.L.getD a.I.toNat []).getD 3 .nil).I))≤(d.L.length:Int))) then (bif (decide ((d.L.length:Int)≤(d.L.length:Int))) then (bif (decide (ah.length+((d.L.take (d.L.length:Int).toNat).drop (w64 ((d.L.length:Int)-((b.L.getD a.I.toNat []).getD 3 .nil).I)).toNat).length≤4294967296)) then (bif (decide (c.L.length+(rows [[.l (ah++((d.L.take (d.L.length:Int).toNat).drop (w64 ((d.L.length:Int)-((b.L.getD a.I.toNat []).getD 3 .nil).I)).toNat))]]).length≤4294967296)) then (bif (decide (0≤(w64 ((d.L.length:Int)-((b.L.getD a.I.toNat []).getD 3 .nil).I)))) then (bif (decide ((w64 ((d.L.length:Int)-((b.L.getD a.I.toNat []).getD 3 .nil).I))≤(d.L.length:Int))) then (bif (decide (((d.L.take (w64 ((d.L.length:Int)-((b.L.getD a.I.toNat []).getD 3 .nil).I)).toNat).drop 0).length+(rows [[a]]).length≤4294967296)) then (some (.again [.i (w64 (a.I+1)),b,.l (c.L++(rows [[.l (ah++((d.L.take (d.L.length:Int).toNat).drop (w64 ((d.L.length:Int)-((b.L.getD a.I.toNat []).getD 3 .nil).I)).toNat))]])),.l (((d.L.take (w64 ((d.L.length:Int)-((b.L.getD a.I.toNat []).getD 3 .nil).I)).toNat).drop 0)++(rows [[a]]))])) else none) else none) else none) else none) else none) else none) else none) else none)) else (some (.ret [.b false,.l c.L]))) else none) else none) else (some (.brk 0 [.l c.L,.l d.L])))
def dD.d2 (a b:C):R:=(some (.ret [.b ((b.L.length:Int)==1),.l a.L]))
def dD.d3 (a:C):R:=(ax 0 (lim (apn 4 dD.d1) [.i 0,a,.l ah,.l ah]) (apn 2 dD.d2))
def dD:List C→Option (List C):=fun xs=>bl (apn 1 dD.d3 xs)
def iP:FS:=⟨1,⟨[(0,(.ag [(zl 190)]))],[]⟩,⟨[(0,(.tu [(.ow 3000),zo]))],[(3000,.arr 67 1)]⟩,[],dD⟩
theorem lV:aG Tryz.checked.prog T0 143 iP:=uO aI [41] false (fn:=Tryz.f143) (c:=Tryz.f143.body.getD .skip) iP (.seq .leaf (.seq .leaf (.seq .leaf (.seq (.seq .leaf (.block ⟨[(4,(.ow 8)),(5,(.ow 9))],[(8,.arr 67 1),(9,.arr 3 1)]⟩ (.loop ⟨[(1,(.pt 1 0)),(4,(.ow 8)),(5,(.ow 9)),(6,zi)],[(1,.var 155 [(zl 190)]),(8,.arr 67 1),(9,.arr 3 1)]⟩ .leaf))) .leaf)))) [] .nil (by kernel_rfl) (by kernel_rfl) (by kernel_rfl) (fun xs=>by kernel_rfl)
def fZ.d1 (a b c:C):R:=(bif (decide (a.I≥b.I)) then (some (.ret [.b (decide (a.I≤c.I))])) else (some (.ret [.b false])))
def fZ:List C→Option (List C):=fun xs=>bl (apn 3 fZ.d1 xs)
def eE:FS:=⟨3,⟨[(0,zi),(1,zi),(2,zi)],[]⟩,⟨[(0,zo)],[]⟩,[],fZ⟩
theorem fk:aG Tryz.checked.prog T0 39 eE:=bO aI (fn:=Tryz.f39) (c:=Tryz.f39.body.getD .skip) eE .leaf [] .nil (by kernel_rfl) (by kernel_rfl) (by kernel_rfl) (fun xs=>by kernel_rfl)
def gH.d1 (a:C):R:=(bif (decide (a.I≥97)) then (bif (!(decide (a.I≤122))) then (bif (decide (a.I≥48)) then (bif (!(decide (a.I≤57))) then (bif (!(a.I==45)) then (some (.ret [.b (a.I==95)])) else (some (.ret [.b true]))) else (some (.ret [.b true]))) else (bif (!(a.I==45)) then (some (.ret [.b (a.I==95)])) else (some (.ret [.b true])))) else (some (.ret [.b true]))) else (bif (decide (a.I≥48)) then (bif (!(decide (a.I≤57))) then (bif (!(a.I==45)) then (some (.ret [.b (a.I==95)])) else (some (.ret [.b true]))) else (some (.ret [.b true]))) else (bif (!(a.I==45)) then (some (.ret [.b (a.I==95)])) else (some (.ret [.b true])))))
def gH:List C→Option (List C):=fun xs=>bl (apn 1 gH.d1 xs)
def jT:FS:=⟨1,⟨[(0,(.d (.int .u8)))],[]⟩,⟨[(0,zo)],[]⟩,[],gH⟩
theorem qd:aG Tryz.checked.prog T0 119 jT:=bO aI (fn:=Tryz.f119) (c:=Tryz.f119.body.getD .skip) jT .leaf [] .nil (by kernel_rfl) (by kernel_rfl) (by kernel_rfl) (fun xs=>by kernel_rfl)
def bd.d1 (a b:C):R:=(bif (decide (b.I<(a.S.size:Int))) then (bif (decide (0≤b.I)) then (bif (decide (b.I<(a.S.size:Int))) then (ae (gH [.i ((a.S.data.getD b.I.toNat 0).toNat:Int)]) fun c=>(bif (!c.B) then (some (.ret [.b false])) else (some (.again [a,.i (w64 (b.I+1))])))) else none) else none) else (some (.brk 0 [])))
def bd.d2:R:=(some (.ret [.b true]))
def bd.d3 (a:C):R:=(ae (fZ [.i (a.S.size:Int),.i 1,.i 20]) fun b=>(bif (!b.B) then (some (.ret [.b false])) else (ax 0 (lim (apn 2 bd.d1) [a,.i 0]) (fun xs=>bd.d2))))
def bd:List C→Option (List C):=fun xs=>bl (apn 1 bd.d3 xs)
def cf:FS:=⟨1,⟨[(0,zt)],[]⟩,⟨[(0,zo)],[]⟩,[],bd⟩
theorem cL:aG Tryz.checked.prog T0 84 cf:=bO aI (fn:=Tryz.f84) (c:=Tryz.f84.body.getD .skip) cf (.seq .leaf (.seq .leaf (.seq (.seq .leaf (.block ⟨[],[]⟩ (.loop ⟨[(0,zt),(3,zi)],[]⟩ .leaf))) .leaf))) [(39,some 6,eE),(119,some 17,jT)] (.cons fk (.cons qd .nil)) (by kernel_rfl) (by kernel_rfl) (by kernel_rfl) (fun xs=>by kernel_rfl)
def aL.d1 (a b c:C):R:=(bif b.B then (some (.ret [.b false])) else (some (.again [.i (w64 (a.I+1)),c])))
def aL.d2 (a b c d e f g:C):R:=(bR (bif b.B then (ae (bd [e]) fun h=>(bif (!(!h.B)) then (bif (!b.B) then (bif (!(!(e.S.toList==(bs #[]).toList))) then (bif (d.I==2) then (ae (bd [f]) fun i=>(bif (!(!i.B)) then (bif (d.I !=2) then (some (.nrm [a,.b (!(f.S.toList==(bs #[]).toList)),c])) else (some (.nrm [a,.b false,c]))) else (some (.nrm [a,.b true,c])))) else (bif (d.I !=2) then (some (.nrm [a,.b (!(f.S.toList==(bs #[]).toList)),c])) else (some (.nrm [a,.b false,c])))) else (some (.nrm [a,.b true,c]))) else (bif (d.I==2) then (ae (bd [f]) fun j=>(bif (!(!j.B)) then (bif (d.I !=2) then (some (.nrm [a,.b (!(f.S.toList==(bs #[]).toList)),c])) else (some (.nrm [a,.b false,c]))) else (some (.nrm [a,.b true,c])))) else (bif (d.I !=2) then (some (.nrm [a,.b (!(f.S.toList==(bs #[]).toList)),c])) else (some (.nrm [a,.b false,c]))))) else (some (.nrm [a,.b true,c])))) else (bif (!b.B) then (bif (!(!(e.S.toList==(bs #[]).toList))) then (bif (d.I==2) then (ae (bd [f]) fun k=>(bif (!(!k.B)) then (bif (d.I !=2) then (some (.nrm [a,.b (!(f.S.toList==(bs #[]).toList)),c])) else (some (.nrm [a,.b false,c]))) else (some (.nrm [a,.b true,c])))) else (bif (d.I !=2) then (some (.nrm [a,.b (!(f.S.toList==(bs #[]).toList)),c])) else (some (.nrm [a,.b false,c])))) else (some (.nrm [a,.b true,c]))) else (bif (d.I==2) then (ae (bd [f]) fun l=>(bif (!(!l.B)) then (bif (d.I !=2) then (some (.nrm [a,.b (!(f.S.toList==(bs #[]).toList)),c])) else (some (.nrm [a,.b false,c]))) else (some (.nrm [a,.b true,c])))) else (bif (d.I !=2) then (some (.nrm [a,.b (!(f.S.toList==(bs #[]).toList)),c])) else (some (.nrm [a,.b false,c])))))) (apn 3 aL.d1))
def aL.d3 (a b c d e f:C):R:=(bR (bif (!(c.I==1)) then (some (.nrm [a,.b (c.I==2),b,c,d,e,f])) else (some (.nrm [a,.b true,b,c,d,e,f]))) (apn 7 aL.d2))
def aL.d4 (a b:C):R:=(bif (decide (a.I<(b.L.length:Int))) then (bif (decide (0≤a.I)) then (bif (decide (a.I<(b.L.length:Int))) then (bR (ae (fZ [((b.L.getD a.I.toNat []).getD 0 .nil),.i 0,.i 5]) fun c=>(bif (!(!c.B)) then (bif (decide (0≤((b.L.getD a.I.toNat []).getD 0 .nil).I)) then (bif (decide (((b.L.getD a.I.toNat []).getD 0 .nil).I<((rows [[.i 0],[.i 0],[.i 0],[.i 1],[.i 2],[.i 2]]).length:Int))) then (bif (!(((b.L.getD a.I.toNat []).getD 3 .nil).I !=(((rows [[.i 0],[.i 0],[.i 0],[.i 1],[.i 2],[.i 2]]).getD (((b.L.getD a.I.toNat []).getD 0 .nil).I).toNat []).getD 0 .nil).I)) then (bif (((b.L.getD a.I.toNat []).getD 0 .nil).I==0) then (bif (decide ((b.L.length:Int)>1)) then (some (.ret [.b false])) else (some (.nrm [a,b,((b.L.getD a.I.toNat []).getD 0 .nil),((b.L.getD a.I.toNat []).getD 1 .nil),((b.L.getD a.I.toNat []).getD 2 .nil),((b.L.getD a.I.toNat []).getD 3 .nil)]))) else (some (.nrm [a,b,((b.L.getD a.I.toNat []).getD 0 .nil),((b.L.getD a.I.toNat []).getD 1 .nil),((b.L.getD a.I.toNat []).getD 2 .nil),((b.L.getD a.I.toNat []).getD 3 .nil)]))) else (some (.ret [.b false]))) else none) else none) else (some (.ret [.b false])))) (apn 6 aL.d3)) else none) else none) else (some (.brk 0 [])))
def aL.d5:R:=(some (.ret [.b true]))
def aL.d6 (a:C):R:=(bif (decide ((a.L.length:Int)>400)) then (some (.ret [.b false])) else (call2 (dD [a]) fun b c=>(bif (!b.B) then (some (.ret [.b false])) else (ax 0 (lim (apn 2 aL.d4) [.i 0,a]) (fun xs=>aL.d5)))))
def aL:List C→Option (List C):=fun xs=>bl (apn 1 aL.d6 xs)
def o9:FS:=⟨1,⟨[(0,(.ag [(zl 190)]))],[]⟩,⟨[(0,zo)],[]⟩,[],aL⟩
theorem Al:aG Tryz.checked.prog T0 160 o9:=bO aI (fn:=Tryz.f160) (c:=Tryz.f160.body.getD .skip) o9 (.seq .leaf (.seq .leaf (.seq .leaf (.seq .leaf (.seq (.seq .leaf (.block ⟨[],[]⟩ (.loop ⟨[(1,(.pt 1 0)),(5,zi)],[(1,.var 155 [(zl 190)])]⟩ (.seq .leaf (.seq (.skip (.seq .leaf (.seq (.join ⟨[(1,(.pt 1 0)),(5,zi),(6,(.pt 6 0))],[(1,.var 155 [(zl 190)]),(6,.var 190 [zi,zt,zt,zi])]⟩ .leaf) (.seq (.join ⟨[(1,(.pt 1 0)),(5,zi),(6,(.pt 6 0)),(7,zo)],[(1,.var 155 [(zl 190)]),(6,.var 190 [zi,zt,zt,zi])]⟩ .leaf) (.seq (.join ⟨[(1,(.pt 1 0)),(5,zi),(100,zo)],[(1,.var 155 [(zl 190)])]⟩ .leaf) .leaf))))) .leaf))))) .leaf))))) [(39,some 33,eE),(84,some 68,cf),(84,some 87,cf),(143,some 14,iP)] (.cons fk (.cons cL (.cons cL (.cons lV .nil)))) (by kernel_rfl) (by kernel_rfl) (by kernel_rfl) (fun xs=>by kernel_rfl)
def bw.d1 (G0:List C→Option (List C)) (a b c d:C):R:=(bif (decide (0≤b.I)) then (bif (decide (b.I<(a.L.length:Int))) then (bif (decide (d.I<((((a.L.getD b.I.toNat []).getD 0 .nil).L).length:Int))) then (bif (decide (0≤b.I)) then (bif (decide (b.I<(a.L.length:Int))) then (bif (decide (0≤d.I)) then (bif (decide (d.I<((((a.L.getD b.I.toNat []).getD 0 .nil).L).length:Int))) then (ae (G0 [a,(((((a.L.getD b.I.toNat []).getD 0 .nil).L).getD d.I.toNat []).getD 0 .nil)]) fun e=>(bif (decide ((w64 (e.I+1))>c.I)) then (some (.again [a,b,.i (w64 (e.I+1)),.i (w64 (d.I+1))])) else (some (.again [a,b,c,.i (w64 (d.I+1))])))) else none) else none) else none) else none) else (some (.brk 0 [c]))) else none) else none)
def bw.d2 (G0:List C→Option (List C)) (a:C):R:=(some (.ret [a]))
def bw.d3 (G0:List C→Option (List C)) (a b:C):R:=(ax 0 (lim (apn 4 (bw.d1 G0)) [a,b,.i 0,.i 0]) (apn 1 (bw.d2 G0)))
def bw.step (G0:List C→Option (List C)):List C→Option (List C):=fun xs=>bl (apn 2 (bw.d3 G0) xs)
def gJ (G:List C→Option (List C)):FS:=⟨2,⟨[(0,(.d (.sl 67))),(1,(.d (.int .i64)))],[]⟩,⟨[(0,(.d (.int .i64)))],[]⟩,[],G⟩
theorem zO {G0:List C→Option (List C)} (h0:aG Tryz.checked.prog T0 161 (gJ G0)):aG Tryz.checked.prog T0 161 (gJ (bw.step G0)):=bO aI (fn:=Tryz.f161) (c:=Tryz.f161.body.getD .skip) (gJ (bw.step G0)) (.seq .leaf (.seq .leaf (.seq (.seq .leaf (.block ⟨[(5,(.d (.int .i64)))],[]⟩ (.loop ⟨[(0,(.d (.sl 67))),(1,(.d (.int .i64))),(5,(.d (.int .i64))),(6,(.d (.int .i64)))],[]⟩ .leaf))) .leaf))) [(161,some 25,(gJ G0))] (.cons h0 .nil) (by kernel_rfl) (by kernel_rfl) (by kernel_rfl) (fun xs=>by kernel_rfl)
def bw.g:Nat→Nat→List C→Option (List C)
 |0,_=>fun _=>none
 |k+1,0=>bw.step (bw.g k 0)
 |_,_=>fun _=>none
theorem qU:∀k:Nat,aG Tryz.checked.prog T0 161 (gJ (bw.g k 0))
 |0=>kD (fn:=Tryz.f161) (c:=Tryz.f161.body.getD .skip) (2) (⟨[(0,(.d (.sl 67))),(1,(.d (.int .i64)))],[]⟩) (⟨[(0,(.d (.int .i64)))],[]⟩) [] (by kernel_rfl) (by kernel_rfl) (by kernel_rfl)
 |k+1=>zO (qU k)
def bw:List C→Option (List C):=bw.g iW 0
theorem Ad:aG Tryz.checked.prog T0 161 (gJ bw):=qU iW
def fi.d1 (a:C):R:=(ae (aL [a]) fun b=>(bif (!b.B) then (some (.ret [.b false])) else (call2 (dD [a]) fun c d=>(ae (bw [.l d.L,.i (w64 ((a.L.length:Int)-1))]) fun e=>(some (.ret [.b (decide (e.I≤20))]))))))
def fi:List C→Option (List C):=fun xs=>bl (apn 1 fi.d1 xs)
def iZ:FS:=⟨1,⟨[(0,(.ag [(zl 190)]))],[]⟩,⟨[(0,zo)],[]⟩,[],fi⟩
theorem mS:aG Tryz.checked.prog T0 142 iZ:=bO aI (fn:=Tryz.f142) (c:=Tryz.f142.body.getD .skip) iZ .leaf [(143,some 10,iP),(160,some 6,o9),(161,some 18,(gJ bw))] (.cons lV (.cons Al (.cons Ad .nil))) (by kernel_rfl) (by kernel_rfl) (by kernel_rfl) (fun xs=>by kernel_rfl)
def lA.d1 (a:C):R:=(bif (a.I==5) then (some (.ret [.i 1])) else (bif (a.I==4) then (some (.ret [.i 2])) else (some (.ret [.i 3]))))
def lA:List C→Option (List C):=fun xs=>bl (apn 1 lA.d1 xs)
def oc:FS:=⟨1,⟨[(0,zi)],[]⟩,⟨[(0,zi)],[]⟩,[],lA⟩
theorem AJ:aG Tryz.checked.prog T0 162 oc:=bO aI (fn:=Tryz.f162) (c:=Tryz.f162.body.getD .skip) oc .leaf [] .nil (by kernel_rfl) (by kernel_rfl) (by kernel_rfl) (fun xs=>by kernel_rfl)
def bj.d1 (G0:List C→Option (List C)) (a b c d e f:C):R:=(ae (lA [c]) fun g=>(bif (decide (g.I<a.I)) then (bif (decide ((bs #[40]).size+b.S.size≤4294967296)) then (bif (decide (((bs #[40])++b.S).size+(bs #[41]).size≤4294967296)) then (some (.ret [.s (((bs #[40])++b.S)++(bs #[41]))])) else none) else none) else (some (.ret [b]))))
def bj.d2 (G0:List C→Option (List C)) (a b c d:C):R:=(bif (decide (0≤c.I)) then (bif (decide (c.I<(a.L.length:Int))) then (bR (bif (((a.L.getD c.I.toNat []).getD 0 .nil).I==1) then (some (.nrm [d,((a.L.getD c.I.toNat []).getD 1 .nil),((a.L.getD c.I.toNat []).getD 0 .nil),((a.L.getD c.I.toNat []).getD 1 .nil),((a.L.getD c.I.toNat []).getD 2 .nil),((a.L.getD c.I.toNat []).getD 3 .nil)])) else (bif (((a.L.getD c.I.toNat []).getD 0 .nil).I==2) then (bif (decide ((((a.L.getD c.I.toNat []).getD 1 .nil).S).size+(bs #[61]).size≤4294967296)) then (bif (decide ((((a.L.getD c.I.toNat []).getD 1 .nil).S++(bs #[61])).size+(((a.L.getD c.I.toNat []).getD 2 .nil).S).size≤4294967296)) then (some (.nrm [d,.s ((((a.L.getD c.I.toNat []).getD 1 .nil).S++(bs #[61]))++((a.L.getD c.I.toNat []).getD 2 .nil).S),((a.L.getD c.I.toNat []).getD 0 .nil),((a.L.getD c.I.toNat []).getD 1 .nil),((a.L.getD c.I.toNat []).getD 2 .nil),((a.L.getD c.I.toNat []).getD 3 .nil)])) else none) else none) else (bif (((a.L.getD c.I.toNat []).getD 0 .nil).I==3) then (bif (decide (0≤c.I)) then (bif (decide (c.I<(b.L.length:Int))) then (bif (decide (0<((((b.L.getD c.I.toNat []).getD 0 .nil).L).length:Int))) then (ae (G0 [a,b,(((((b.L.getD c.I.toNat []).getD 0 .nil).L).getD 0 []).getD 0 .nil),.i 3]) fun e=>(bif (decide ((bs #[33]).size+e.S.size≤4294967296)) then (some (.nrm [d,.s ((bs #[33])++e.S),((a.L.getD c.I.toNat []).getD 0 .nil),((a.L.getD c.I.toNat []).getD 1 .nil),((a.L.getD c.I.toNat []).getD 2 .nil),((a.L.getD c.I.toNat []).getD 3 .nil)])) else none)) else none) else none) else none) else (bif (((a.L.getD c.I.toNat []).getD 0 .nil).I==4) then (bif (decide (0≤c.I)) then (bif (decide (c.I<(b.L.length:Int))) then (bif (decide (0<((((b.L.getD c.I.toNat []).getD 0 .nil).L).length:Int))) then (ae (G0 [a,b,(((((b.L.getD c.I.toNat []).getD 0 .nil).L).getD 0 []).getD 0 .nil),.i 2]) fun f=>(bif (decide (f.S.size+(bs #[32,38,32]).size≤4294967296)) then (bif (decide (0≤c.I)) then (bif (decide (c.I<(b.L.length:Int))) then (bif (decide (1<((((b.L.getD c.I.toNat []).getD 0 .nil).L).length:Int))) then (ae (G0 [a,b,(((((b.L.getD c.I.toNat []).getD 0 .nil).L).getD 1 []).getD 0 .nil),.i 3]) fun g=>(bif (decide ((f.S++(bs #[32,38,32])).size+g.S.size≤4294967296)) then (some (.nrm [d,.s ((f.S++(bs #[32,38,32]))++g.S),((a.L.getD c.I.toNat []).getD 0 .nil),((a.L.getD c.I.toNat []).getD 1 .nil),((a.L.getD c.I.toNat []).getD 2 .nil),((a.L.getD c.I.toNat []).getD 3 .nil)])) else none)) else none) else none) else none) else none)) else none) else none) else none) else (bif (((a.L.getD c.I.toNat []).getD 0 .nil).I==5) then (bif (decide (0≤c.I)) then (bif (decide (c.I<(b.L.length:Int))) then (bif (decide (0<((((b.L.getD c.I.toNat []).getD 0 .nil).L).length:Int))) then (ae (G0 [a,b,(((((b.L.getD c.I.toNat []).getD 0 .nil).L).getD 0 []).getD 0 .nil),.i 1]) fun h=>(bif (decide (h.S.size+(bs #[32,124,32]).size≤4294967296)) then (bif (decide (0≤c.I)) then (bif (decide (c.I<(b.L.length:Int))) then (bif (decide (1<((((b.L.getD c.I.toNat []).getD 0 .nil).L).length:Int))) then (ae (G0 [a,b,(((((b.L.getD c.I.toNat []).getD 0 .nil).L).getD 1 []).getD 0 .nil),.i 2]) fun i=>(bif (decide ((h.S++(bs #[32,124,32])).size+i.S.size≤4294967296)) then (some (.nrm [d,.s ((h.S++(bs #[32,124,32]))++i.S),((a.L.getD c.I.toNat []).getD 0 .nil),((a.L.getD c.I.toNat []).getD 1 .nil),((a.L.getD c.I.toNat []).getD 2 .nil),((a.L.getD c.I.toNat []).getD 3 .nil)])) else none)) else none) else none) else none) else none)) else none) else none) else none) else (some (.nrm [d,.s (bs #[]),((a.L.getD c.I.toNat []).getD 0 .nil),((a.L.getD c.I.toNat []).getD 1 .nil),((a.L.getD c.I.toNat []).getD 2 .nil),((a.L.getD c.I.toNat []).getD 3 .nil)]))))))) (apn 6 (bj.d1 G0))) else none) else none)
def bj.step (G0:List C→Option (List C)):List C→Option (List C):=fun xs=>bl (apn 4 (bj.d2 G0) xs)
def dQ (G:List C→Option (List C)):FS:=⟨4,⟨[(0,(.ag [(.d (.sl 190))])),(1,(.d (.sl 67))),(2,(.d (.int .i64))),(3,(.d (.int .i64)))],[]⟩,⟨[(0,(.d .str))],[]⟩,[],G⟩
theorem yU {G0:List C→Option (List C)} (h0:aG Tryz.checked.prog T0 144 (dQ G0)):aG Tryz.checked.prog T0 144 (dQ (bj.step G0)):=bO aI (fn:=Tryz.f144) (c:=Tryz.f144.body.getD .skip) (dQ (bj.step G0)) (.seq .leaf (.seq .leaf (.seq .leaf (.seq (.join ⟨[(3,(.d (.int .i64))),(9,(.pt 9 0)),(10,(.d .str))],[(9,.var 190 [(.d (.int .i64)),(.d .str),(.d .str),(.d (.int .i64))])]⟩ .leaf) .leaf)))) [(144,some 40,(dQ G0)),(144,some 52,(dQ G0)),(144,some 62,(dQ G0)),(144,some 74,(dQ G0)),(144,some 84,(dQ G0)),(162,some 88,oc)] (.cons h0 (.cons h0 (.cons h0 (.cons h0 (.cons h0 (.cons AJ .nil)))))) (by kernel_rfl) (by kernel_rfl) (by kernel_rfl) (fun xs=>by kernel_rfl)
def bj.g:Nat→Nat→List C→Option (List C)
 |0,_=>fun _=>none
 |k+1,0=>bj.step (bj.g k 0)
 |_,_=>fun _=>none
theorem p7:∀k:Nat,aG Tryz.checked.prog T0 144 (dQ (bj.g k 0))
 |0=>kD (fn:=Tryz.f144) (c:=Tryz.f144.body.getD .skip) (4) (⟨[(0,(.ag [(.d (.sl 190))])),(1,(.d (.sl 67))),(2,(.d (.int .i64))),(3,(.d (.int .i64)))],[]⟩) (⟨[(0,(.d .str))],[]⟩) [] (by kernel_rfl) (by kernel_rfl) (by kernel_rfl)
 |k+1=>yU (p7 k)
def bj:List C→Option (List C):=bj.g iW 0
theorem yz:aG Tryz.checked.prog T0 144 (dQ bj):=p7 iW
def gf.d1 (a:C):R:=(ae (fi [a]) fun b=>(bif (!b.B) then (some (.ret [.s (bs #[])])) else (call2 (dD [a]) fun c d=>(ae (bj [a,.l d.L,.i (w64 ((a.L.length:Int)-1)),.i 1]) fun e=>(bif (decide ((e.S.size:Int)>200)) then (some (.ret [.s (bs #[])])) else (some (.ret [e])))))))
def gf:List C→Option (List C):=fun xs=>bl (apn 1 gf.d1 xs)
def kr:FS:=⟨1,⟨[(0,(.ag [(zl 190)]))],[]⟩,⟨[(0,zt)],[]⟩,[],gf⟩
theorem tH:aG Tryz.checked.prog T0 128 kr:=bO aI (fn:=Tryz.f128) (c:=Tryz.f128.body.getD .skip) kr .leaf [(142,some 7,iZ),(143,some 11,iP),(144,some 20,(dQ bj))] (.cons mS (.cons lV (.cons yz .nil))) (by kernel_rfl) (by kernel_rfl) (by kernel_rfl) (fun xs=>by kernel_rfl)
def dB.d1 (a b:C):R:=(call3 (ad [.i 2,a,b]) fun c d e=>(bif (c.I==0) then (some (.ret [.s (bs #[]),d,e])) else (call3 (ad [.i 3,d,e]) fun f g h=>(bif (f.I==0) then (call3 (ad [.i 6,g,h]) fun i j k=>(bif (decide (0≤i.I)) then (bif (decide (i.I<((rows [[.s (bs #[122,111,110,101,61,101,97,115,116])],[.s (bs #[33,111,108,100])],[.s (bs #[115,115,100])],[.s (bs #[122,111,110,101,61,101,97,115,116,32,124,32,122,111,110,101,61,119,101,115,116])],[.s (bs #[33,122,111,110,101,61,110,111,114,116,104])],[.s (bs #[99,111,108,111,114,61,114,101,100,32,124,32,103,112,117])]]).length:Int))) then (some (.ret [(((rows [[.s (bs #[122,111,110,101,61,101,97,115,116])],[.s (bs #[33,111,108,100])],[.s (bs #[115,115,100])],[.s (bs #[122,111,110,101,61,101,97,115,116,32,124,32,122,111,110,101,61,119,101,115,116])],[.s (bs #[33,122,111,110,101,61,110,111,114,116,104])],[.s (bs #[99,111,108,111,114,61,114,101,100,32,124,32,103,112,117])]]).getD i.I.toNat []).getD 0 .nil),j,k])) else none) else none)) else (call3 (dK [.i 2,g,h]) fun l m n=>(ae (gf [.l n.L]) fun o=>(some (.ret [o,l,m]))))))))
def dB:List C→Option (List C):=fun xs=>bl (apn 2 dB.d1 xs)
def eC:FS:=⟨1,⟨[(0,(.pt 2000 0))],[(2000,z1)]⟩,⟨[(0,zt)],[(2000,z1)]⟩,[2000],dB⟩
theorem gx:aG Tryz.checked.prog T0 113 eC:=bO aI (fn:=Tryz.f113) (c:=Tryz.f113.body.getD .skip) eC .leaf [(22,some 4,aa),(22,some 7,aa),(22,some 11,aa),(128,some 17,kr),(129,some 15,(er dK))] (.cons ab (.cons ab (.cons ab (.cons tH (.cons zZ .nil))))) (by kernel_rfl) (by kernel_rfl) (by kernel_rfl) (fun xs=>by kernel_rfl)
def bW.d1 (a b c d e f g h i j k l m n o p q r s t u v w x y z a0 a1:C):R:=(bif (decide (b.I>0)) then (call3 (dB [c,d]) fun a2 a3 a4=>(call3 (ad [.i 19,a3,a4]) fun a5 a6 a7=>(bif (decide (a1.L.length+(rows [[a2,.i (w64 (a5.I-9))]]).length≤4294967296)) then (some (.again [a,.i (w64 (b.I-1)),a6,a7,e,f,g,h,i,j,k,l,m,n,o,p,q,r,s,t,u,v,w,x,y,z,.l a0.L,.l (a1.L++(rows [[a2,.i (w64 (a5.I-9))]]))])) else none))) else (some (.brk 0 [a,c,d,e,f,g,h,i,j,k,l,m,n,o,p,q,r,s,t,u,v,w,x,y,z,.l a0.L,.l a1.L])))
def bW.d2 (a b c d e f g h i j k l m n o p q r s t u v w x y z a0:C):R:=(call3 (ad [.i 8,b,c]) fun a1 a2 a3=>(bif (a1.I==0) then (some (.ret [o,p,q,r,s,t,u,.l a0.L,.i 1,w,x,y,a2,a3])) else (bif (a1.I==1) then (some (.ret [o,p,q,r,s,t,u,.l a0.L,.i 2,w,x,y,a2,a3])) else (bif (a1.I==2) then (call3 (ad [.i 4,a2,a3]) fun a4 a5 a6=>(bif (decide (0≤a4.I)) then (bif (decide (a4.I<((rows [[.s (bs #[119,101,98])],[.s (bs #[100,98])],[.s (bs #[103,111,110,101])],[a]]).length:Int))) then (some (.ret [o,p,q,r,s,t,u,.l a0.L,v,(((rows [[.s (bs #[119,101,98])],[.s (bs #[100,98])],[.s (bs #[103,111,110,101])],[a]]).getD a4.I.toNat []).getD 0 .nil),x,y,a5,a6])) else none) else none)) else (bif (a1.I==3) then (call3 (ad [.i 3,a2,a3]) fun a7 a8 a9=>(bif (a7.I==0) then (call3 (ad [.i 4,a8,a9]) fun b0 b1 b2=>(ae (cw [b0]) fun b3=>(bif (decide ((bs #[98]).size+b3.S.size≤4294967296)) then (some (.ret [o,p,q,r,s,t,u,.l a0.L,v,w,.s ((bs #[98])++b3.S),y,b1,b2])) else none))) else (some (.ret [o,p,q,r,s,t,u,.l a0.L,v,w,x,y,a8,a9])))) else (some (.ret [o,p,q,r,s,t,u,.l a0.L,v,w,x,y,a2,a3])))))))
def bW.d3 (a b c:C):R:=(call3 (ad [.i 4,b,c]) fun d e f=>(bif (decide (0≤d.I)) then (bif (decide (d.I<((rows [[.s (bs #[119,101,98])],[.s (bs #[100,98])],[.s (bs #[106,111,98])],[.s (bs #[99,97,99,104,101])]]).length:Int))) then (bif (decide (((((rows [[.s (bs #[119,101,98])],[.s (bs #[100,98])],[.s (bs #[106,111,98])],[.s (bs #[99,97,99,104,101])]]).getD d.I.toNat []).getD 0 .nil).S).size+(bs #[45]).size≤4294967296)) then (ae (cw [a]) fun g=>(bif (decide (((((rows [[.s (bs #[119,101,98])],[.s (bs #[100,98])],[.s (bs #[106,111,98])],[.s (bs #[99,97,99,104,101])]]).getD d.I.toNat []).getD 0 .nil).S++(bs #[45])).size+g.S.size≤4294967296)) then (call3 (ad [.i 6,e,f]) fun h i j=>(bif (decide (0≤h.I)) then (bif (decide (h.I<((rows [[.i 1],[.i 1],[.i 5],[.i 5],[.i 9],[.i 50]]).length:Int))) then (call3 (ad [.i 30,i,j]) fun k l m=>(call3 (ad [.i 7,l,m]) fun n o p=>(call3 (ad [.i 8,o,p]) fun q r s=>(call3 (dB [r,s]) fun t u v=>(call3 (ad [.i 5,u,v]) fun w x y=>(ax 0 (lim (apn 28 bW.d1) [(((rows [[.s (bs #[119,101,98])],[.s (bs #[100,98])],[.s (bs #[106,111,98])],[.s (bs #[99,97,99,104,101])]]).getD d.I.toNat []).getD 0 .nil),.i (w64 (w.I-2)),x,y,.s (bs #[]),.s (bs #[]),.i 0,.i 0,.i 0,.i 0,.s (bs #[]),.i 0,.s (bs #[]),.s (bs #[]),.s (bs #[]),.s (((((rows [[.s (bs #[119,101,98])],[.s (bs #[100,98])],[.s (bs #[106,111,98])],[.s (bs #[99,97,99,104,101])]]).getD d.I.toNat []).getD 0 .nil).S++(bs #[45]))++g.S),(((rows [[.s (bs #[119,101,98])],[.s (bs #[100,98])],[.s (bs #[106,111,98])],[.s (bs #[99,97,99,104,101])]]).getD d.I.toNat []).getD 0 .nil),(((rows [[.i 1],[.i 1],[.i 5],[.i 5],[.i 9],[.i 50]]).getD h.I.toNat []).getD 0 .nil),k,.i (w64 (1+n.I)),q,t,.i 0,.s (bs #[]),.s (bs #[]),.s (bs #[]),.l ah,.l ah]) (apn 27 bW.d2))))))) else none) else none)) else none)) else none) else none) else none))
def bW:List C→Option (List C):=fun xs=>bl (apn 3 bW.d3 xs)
def ku:FS:=⟨2,⟨[(0,(.pt 2000 0)),(1,zi)],[(2000,z1)]⟩,⟨[(0,z5)],[(2000,z1)]⟩,[2000],bW⟩
theorem tP:aG Tryz.checked.prog T0 71 ku:=bO aI (fn:=Tryz.f71) (c:=Tryz.f71.body.getD .skip) ku (.seq .leaf (.seq .leaf (.seq .leaf (.seq (.seq .leaf (.block ⟨[(0,(.pt 2000 0)),(4,(.pt 4 0)),(5,zt),(6,(.pt 6 0))],[(2000,z1),(4,z10),(6,z11),(1033800,.arr 122 1),(1033801,.arr 122 1)]⟩ (.loop ⟨[(0,(.pt 2000 0)),(4,(.pt 4 0)),(5,zt),(6,(.pt 6 0)),(7,zi)],[(2000,z1),(4,z10),(6,z11),(1033800,.arr 122 1),(1033801,.arr 122 1)]⟩ .leaf))) (.seq .leaf (.seq .leaf (.frz [1033801] .leaf))))))) [(22,some 10,aa),(22,some 21,aa),(22,some 25,aa),(22,some 27,aa),(22,some 30,aa),(22,some 35,aa),(22,some 46,aa),(22,some 53,aa),(22,some 65,aa),(22,some 72,aa),(22,some 75,aa),(69,some 16,(dP cw)),(69,some 76,(dP cw)),(113,some 32,eC),(113,some 44,eC)] (.cons ab (.cons ab (.cons ab (.cons ab (.cons ab (.cons ab (.cons ab (.cons ab (.cons ab (.cons ab (.cons ab (.cons iE (.cons iE (.cons gx (.cons gx .nil))))))))))))))) (by kernel_rfl) (by kernel_rfl) (by kernel_rfl) (fun xs=>by kernel_rfl)
end
end Go.Ev
