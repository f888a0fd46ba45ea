/- Proved here: the law FnPilotHarmCard of the given program answers true at every input, and leaves the input as it was; no condition. This text: lemmas on the way (an evaluator of the program's code, sound once for all; the functions it prints; plain proofs on these). -/
import Derived.Orders
import Derived.KernelRfl
import Derived.Laws.Append
import Derived.Laws.AppendOwn
import Derived.Laws.MakeOwn
import Derived.Laws.OwnMore
import Derived.Laws.NewBlocks
import Derived.WalkKit
import Derived.Laws.StructEq
set_option linter.all false
set_option autoImplicit false
namespace Go.Ev
theorem Mg:type_of% @List.getElem?_eq_getElem:=@List.getElem?_eq_getElem
theorem Mh:type_of% @Option.some.inj:=@Option.some.inj
theorem Mi:type_of% @Nat.eq_of_beq_eq_true:=@Nat.eq_of_beq_eq_true
theorem Mj:type_of% @Option.some.injEq:=@Option.some.injEq
theorem Mk:type_of% @Bool.and_eq_true:=@Bool.and_eq_true
theorem Ml:type_of% @List.getElem?_eq_some_iff:=@List.getElem?_eq_some_iff
theorem Mm:type_of% @List.getD_eq_getElem?_getD:=@List.getD_eq_getElem?_getD
theorem Mn:type_of% @List.length_cons:=@List.length_cons
theorem Mo:type_of% @List.length_nil:=@List.length_nil
theorem Mp:type_of% @Nat.le_refl:=@Nat.le_refl
theorem Mq:type_of% @List.getElem_mem:=@List.getElem_mem
theorem Mr:type_of% @Int.natCast_zero:=@Int.natCast_zero
theorem Ms:type_of% @decide_eq_true_eq:=@decide_eq_true_eq
theorem Mt:type_of% @decide_true:=@decide_true
theorem Mu:type_of% @decide_false:=@decide_false
theorem Mw:type_of% @List.mem_cons:=@List.mem_cons
theorem Mx:type_of% @Bool.true_and:=@Bool.true_and
theorem My:type_of% @Nat.zero_add:=@Nat.zero_add
theorem Mz:type_of% @List.mem_cons_self:=@List.mem_cons_self
theorem MA:type_of% @Nat.mul_le_mul_right:=@Nat.mul_le_mul_right
theorem MB:type_of% @List.getElem?_drop:=@List.getElem?_drop
theorem MC:type_of% @List.map_nil:=@List.map_nil
theorem MD:type_of% @List.map_cons:=@List.map_cons
theorem ME:type_of% @List.length_take:=@List.length_take
theorem MF:type_of% @List.mem_cons_of_mem:=@List.mem_cons_of_mem
theorem MG:type_of% @Prod.mk.injEq:=@Prod.mk.injEq
theorem MH:type_of% @List.mem_singleton:=@List.mem_singleton
theorem MI:type_of% @List.length_set:=@List.length_set
theorem MJ:type_of% @Nat.le_of_ble_eq_true:=@Nat.le_of_ble_eq_true
theorem MK:type_of% @ByteArray.size_append:=@ByteArray.size_append
theorem ML:type_of% @Value.slice.injEq:=@Value.slice.injEq
theorem MM:type_of% @Bool.not_eq_true':=@Bool.not_eq_true'
theorem MN:type_of% @List.take_succ_eq_append_getElem:=@List.take_succ_eq_append_getElem
theorem MO:type_of% @List.mem_append:=@List.mem_append
theorem MP:type_of% @List.length_append:=@List.length_append
theorem MQ:type_of% @List.length_drop:=@List.length_drop
theorem MR:type_of% @Nat.le_trans:=@Nat.le_trans
theorem MS:type_of% @Nat.lt_of_lt_of_le:=@Nat.lt_of_lt_of_le
theorem MT:type_of% @List.mem_map:=@List.mem_map
theorem MU:type_of% @List.drop_eq_getElem_cons:=@List.drop_eq_getElem_cons
theorem MV:type_of% @List.getElem?_append_left:=@List.getElem?_append_left
theorem MW:type_of% @List.getElem?_append_right:=@List.getElem?_append_right
theorem MX:type_of% @Bool.or_eq_true:=@Bool.or_eq_true
theorem MY:type_of% @beq_iff_eq:=@beq_iff_eq
theorem MZ:type_of% @List.map_append:=@List.map_append
theorem M0:type_of% @List.append_assoc:=@List.append_assoc
theorem M1:type_of% @List.append_nil:=@List.append_nil
theorem M3:type_of% @List.getElem?_cons_zero:=@List.getElem?_cons_zero
theorem M4:type_of% @List.getElem?_cons_succ:=@List.getElem?_cons_succ
theorem M5:type_of% @Array.getElem?_eq_getElem:=@Array.getElem?_eq_getElem
theorem M6:type_of% @Array.getD_eq_getD_getElem?:=@Array.getD_eq_getD_getElem?
theorem M7:type_of% @List.getElem?_eq_none:=@List.getElem?_eq_none
theorem M8:type_of% @List.mem_of_getElem?:=@List.mem_of_getElem?
theorem M9:type_of% @List.getElem?_set:=@List.getElem?_set
theorem Na:type_of% @List.take_length:=@List.take_length
theorem Nb:type_of% @List.drop_zero:=@List.drop_zero
theorem Nc:type_of% @List.take_zero:=@List.take_zero
theorem Nd:type_of% @Option.isSome_some:=@Option.isSome_some
theorem Nf:type_of% @Option.isSome_none:=@Option.isSome_none
theorem Ng:type_of% @Option.getD_some:=@Option.getD_some
theorem Nh:type_of% @List.any_eq_true:=@List.any_eq_true
theorem Ni:type_of% @List.all_eq_true:=@List.all_eq_true
theorem Nj:type_of% @Bool.false_or:=@Bool.false_or
theorem Nk:type_of% @Bool.false_and:=@Bool.false_and
theorem Nl:type_of% @Bool.and_false:=@Bool.and_false
theorem Nn:type_of% @Option.map_some:=@Option.map_some
theorem No:type_of% @List.getElem?_map:=@List.getElem?_map
theorem Np:type_of% @List.length_filter_le:=@List.length_filter_le
theorem Nq:type_of% @List.mem_or_eq_of_mem_set:=@List.mem_or_eq_of_mem_set
theorem Nr:type_of% @List.map_set:=@List.map_set
theorem Ns:type_of% @beq_eq_false_iff_ne:=@beq_eq_false_iff_ne
end Go.Ev
namespace Go.Ev
inductive CT where
 |int (k:IntKind)|bool|str|sl (e:TypeId)|pt (e:TypeId)|fn
 deriving DecidableEq
inductive C where
 |i (n:Int)|b (x:Bool)|s (x:ByteArray)|l (es:List (List C))|p (cs:List C)|nil
instance:Inhabited C:=⟨.nil⟩
def C.I:C->Int|.i n=>n|_=>0
def C.B:C->Bool|.b x=>x|_=>false
def C.S:C->ByteArray|.s x=>x|_=>ByteArray.empty
def C.L:C->List (List C)|.l es=>es|_=>[]
def C.P:C->List C|.p cs=>cs|_=>[]
def C.isP:C->Bool|.p _=>true|_=>false
inductive DV where
 |bool|int (k:IntKind)|str|sl (e:TypeId)|pt (e:TypeId)|st (fs:List (Nat×TypeId))|fn|other
structure TD where
 dv:DV
 cts:List CT
 bytes:Nat
abbrev Tys:=List (Nat×TD)
def TD.agg (d:TD):Bool:=match d.dv with|.st _=>true|_=>false
inductive V where
 |un|ud
 |c (t:CT) (x:C)
 |nl|np
 |ow (b ver:Nat)
 |mp (b ver:Nat)
 |vw (b ver:Nat) (lo hi:Int)
 |pt (b ver off:Nat)
 |pe (b ver:Nat) (ix:Int) (off:Nat) (nb:Bool)
 |rf (b ver:Nat) (ix:Int) (off:Nat) (e:TypeId)
 |fa (cts:List CT) (cs:List C) (off:Nat)
 |ag (l:List V) (o:Option C)
 |tu (l:List V)
 |fn (f:FuncId) (caps:List V)
instance:Inhabited V:=⟨.un⟩
inductive Box where
 |var (ver:Nat) (t:TypeId) (cells:List V)
 |arr (ver:Nat) (t:TypeId) (es:List (List C)) (m:Nat)
 |mp (ver:Nat) (t:TypeId) (es:List (List C))
 |dead (ver:Nat)
def Box.m:Box->Nat|.arr _ _ _ m=>m|_=>0
def Box.ver:Box->Nat|.var v _ _=>v|.arr v _ _ _=>v|.mp v _ _=>v|.dead v=>v
abbrev Bxs:=Nat->Option Box
abbrev cu:=Nat->V
def sif {α:Type} (p:Bool) (a b:α):α:=match p with|true=>a|false=>b
def dY (a:Bool):Bool:=match a with|true=>false|false=>true
def az (a b:Bool):Bool:=match a with|true=>b|false=>false
def orS (a b:Bool):Bool:=match a with|true=>true|false=>b
def nth {α:Type} (d:α):List α->Nat->α|[],_=>d|x::_,0=>x|_::r,n+1=>nth d r n
def uA {α:Type}:List α->Nat->Option α|[],_=>none|x::_,0=>some x|_::r,n+1=>uA r n
def len {α:Type}:List α->Nat|[]=>0|_::r=>len r+1
def tak {α:Type}:Nat->List α->List α|0,_=>[]|_,[]=>[]|n+1,x::r=>x::tak n r
def drp {α:Type}:Nat->List α->List α|0,l=>l|_,[]=>[]|n+1,_::r=>drp n r
def app {α:Type}:List α->List α->List α|[],m=>m|x::r,m=>x::app r m
def rev {α:Type}:List α->List α->List α|[],m=>m|x::r,m=>rev r (x::m)
def yh:IntKind->IntKind->Bool
 |.i8,.i8=>true|.i16,.i16=>true|.i32,.i32=>true|.i64,.i64=>true
 |.u8,.u8=>true|.u16,.u16=>true|.u32,.u32=>true|.u64,.u64=>true|_,_=>false
def jg:CT->CT->Bool
 |.int a,.int b=>yh a b|.bool,.bool=>true|.str,.str=>true|.sl a,.sl b=>Nat.beq a b|.pt a,.pt b=>Nat.beq a b|.fn,.fn=>true|_,_=>false
def upd {α:Type} (f:Nat->α) (d:Nat) (v:α):Nat->α:=fun k=>sif (Nat.beq k d) v (f k)
structure St where
 sl:cu
 bx:Bxs
inductive Out where
 |ret (xs:List C)|brk (id:Nat) (xs:List C)|nrm (xs:List C)|again (xs:List C)
abbrev R:=Option Out
mutual
def V.force {β:Type}:V->(V->β)->β
 |.un,k=>k .un|.ud,k=>k .ud|.c t x,k=>k (.c t x)|.nl,k=>k .nl|.np,k=>k .np
 |.ow b v,k=>k (.ow b v)|.mp b v,k=>k (.mp b v)|.vw b v l h,k=>k (.vw b v l h)|.pt b v o,k=>k (.pt b v o)|.pe b v i o n,k=>k (.pe b v i o n)|.rf b v i o e,k=>k (.rf b v i o e)
 |.fa a x o,k=>k (.fa a x o)
 |.ag l o,k=>V.qT l fun m=>k (.ag m o)
 |.tu l,k=>V.qT l fun m=>k (.tu m)
 |.fn f l,k=>V.qT l fun m=>k (.fn f m)
def V.qT {β:Type}:List V->(List V->β)->β
 |[],k=>k []
 |v::r,k=>v.force fun v'=>V.qT r fun r'=>k (v'::r')
end
def Box.force {β:Type}:Box->(Box->β)->β
 |.var v t cells,k=>V.qT cells fun m=>k (.var v t m)
 |.arr v t es m,k=>k (.arr v t es m)
 |.mp v t es,k=>k (.mp v t es)
 |.dead v,k=>k (.dead v)
def wu {β:Type}:List (Nat×Box)->(List (Nat×Box)->β)->β
 |[],k=>k []
 |(b,x)::r,k=>x.force fun x'=>wu r fun r'=>k ((b,x')::r')
def M (α:Type):Type:=Bxs->(α->List Nat->R)->R
def M.ret {α:Type} (a:α):M α:=fun _ k=>k a []
def M.fail {α:Type}:M α:=fun _ _=>none
def M.bind {α β:Type} (m:M α) (f:α->M β):M β:=fun bx k=>m bx fun a r=>f a bx fun b r'=>k b (app r r')
instance:Monad M where
 pure:=M.ret
 bind:=M.bind
def bR (b:Nat):M Box:=fun bx k=>match bx b with|some x=>k x [b]|none=>none
def chk (p:Bool):M Unit:=fun _ k=>cond p (k () []) none
def bd (p:Bool):M Unit:=fun _ k=>sif p (k () []) none
def opt {α:Type} (o:Option α):M α:=fun _ k=>match o with|some a=>k a []|none=>none
def dq (b:Nat):M Nat:=fun bx k=>k (match bx b with|some x=>x.ver+1|none=>0) [b]
def eM (cts:List CT) (cs:List C) (off:Nat):Nat->List V
 |0=>[]
 |n+1=>.c (nth .bool cts off) (cs.getD off .nil)::eM cts cs (off+1) n
inductive Sk where
 |un|st (ts:List CT)|d (t:CT)|ow (b:Nat)|mp (b:Nat)|pt (b off:Nat)|pe (b off:Nat)
 |ag (l:List Sk)|tu (l:List Sk)|fn (f:FuncId) (l:List Sk)
inductive BSk where
 |var (t:TypeId) (cells:List Sk)|arr (t:TypeId) (m:Nat:=0)|mp (t:TypeId)
structure Tm where
 sl:List (Nat×Sk)
 bx:List (Nat×BSk)
abbrev Nm:=Nat->Nat×Nat
mutual
def Sk.inst (nm:Nm) (xs:List C):Sk->Nat->V×Nat
 |.un,p=>(.un,p)
 |.d t,p=>(.c t (xs.getD p .nil),p+1)
 |.st ts,p=>(.ag (eM ts (xs.getD p .nil).P 0 (len ts)) (some (xs.getD p .nil)),p+1)
 |.ow b,p=>(.ow (nm b).1 (nm b).2,p)
 |.mp b,p=>(.mp (nm b).1 (nm b).2,p)
 |.pt b o,p=>(.pt (nm b).1 (nm b).2 o,p)
 |.pe b o,p=>(.pe (nm b).1 (nm b).2 (xs.getD p .nil).I o true,p+1)
 |.ag l,p=>(.ag (Sk.insts nm xs l p).1 none,(Sk.insts nm xs l p).2)
 |.tu l,p=>(.tu (Sk.insts nm xs l p).1,(Sk.insts nm xs l p).2)
 |.fn f l,p=>(.fn f (Sk.insts nm xs l p).1,(Sk.insts nm xs l p).2)
def Sk.insts (nm:Nm) (xs:List C):List Sk->Nat->List V×Nat
 |[],p=>([],p)
 |k::ks,p=>((k.inst nm xs p).1::(Sk.insts nm xs ks (k.inst nm xs p).2).1,(Sk.insts nm xs ks (k.inst nm xs p).2).2)
end
def cy (nm:Nm) (xs:List C):List (Nat×Sk)->Nat->cu->cu×Nat
 |[],p,f=>(f,p)
 |(d,k)::r,p,f=>cy nm xs r (k.inst nm xs p).2 (upd f d (k.inst nm xs p).1)
def ck (nm:Nm) (xs:List C):List (Nat×BSk)->Nat->Bxs->Bxs
 |[],_,f=>f
 |(b,.var t cells)::r,p,f=>ck nm xs r (Sk.insts nm xs cells p).2 (upd f (nm b).1 (some (.var (nm b).2 t (Sk.insts nm xs cells p).1)))
 |(b,.arr t m)::r,p,f=>ck nm xs r (p+1) (upd f (nm b).1 (some (.arr (nm b).2 t (xs.getD p .nil).L m)))
 |(b,.mp t)::r,p,f=>ck nm xs r (p+1) (upd f (nm b).1 (some (.mp (nm b).2 t (xs.getD p .nil).L)))
def nm0:Nm:=fun n=>(n,0)
def Tm.inj (t:Tm) (xs:List C):St:=
 ⟨(cy nm0 xs t.sl 0 fun _=>.un).1,ck nm0 xs t.bx (cy nm0 xs t.sl 0 fun _=>.un).2 fun _=>none⟩
def HK {β:Type} (xs:List C):List (Nat×Sk)->Nat->cu->(cu->Nat->β)->β
 |[],p,f,k=>k f p
 |(d,q)::r,p,f,k=>(q.inst nm0 xs p).1.force fun v=>HK xs r (q.inst nm0 xs p).2 (upd f d v) k
def yt {β:Type} (xs:List C):List (Nat×BSk)->Nat->Bxs->(Bxs->β)->β
 |[],_,f,k=>k f
 |(b,.var t cells)::r,p,f,k=>V.qT (Sk.insts nm0 xs cells p).1 fun m=>yt xs r (Sk.insts nm0 xs cells p).2 (upd f b (some (.var 0 t m))) k
 |(b,.arr t m)::r,p,f,k=>yt xs r (p+1) (upd f b (some (.arr 0 t (xs.getD p .nil).L m))) k
 |(b,.mp t)::r,p,f,k=>yt xs r (p+1) (upd f b (some (.mp 0 t (xs.getD p .nil).L))) k
def Tm.qQ {β:Type} (t:Tm) (xs:List C) (k:St->β):β:=
 HK xs t.sl 0 (fun _=>.un) fun f p=>yt xs t.bx p (fun _=>none) fun g=>k ⟨f,g⟩
abbrev Ren:=List (Nat×Option Nat)
def Ren.find:Ren->Nat->Option (Option Nat)
 |[],_=>none
 |(n,b)::r,m=>sif (Nat.beq n m) (some b) (Ren.find r m)
def onb (o:Option Nat) (o':Option Nat):Bool:=match o,o' with|none,none=>true|some a,some b=>Nat.beq a b|_,_=>false
def Ren.put (r:Ren) (n:Nat) (b:Option Nat):Option Ren:=
 match r.find n with
 |none=>some ((n,b)::r)
 |some b'=>sif (onb b' b) (some r) none
structure Ex where
 xs:List C
 r:Ren
 fz:List Nat
def du (bx:Bxs) (b ver:Nat):Option (TypeId×List (List C)):=
 match bx b with
 |some (.arr v t es m)=>sif (az (Nat.beq v ver) (dY (Nat.beq m 3))) (some (t,es)) none
 |_=>none
def Ex.put (e:Ex) (n:Nat) (b:Option Nat):Option Ex:=match e.r.put n b with|some r=>some ⟨e.xs,r,e.fz⟩|none=>none
def bj:Tys->Nat->Option TD
 |[],_=>none
 |(n,d)::r,t=>sif (Nat.beq n t) (some d) (bj r t)
def qn:List CT->List CT->Bool|[],[]=>true|a::r,b::r'=>az (jg a b) (qn r r')|_,_=>false
def yi (bx:Bxs):CT->V->Option (C×List Nat)
 |t,.c t' x=>sif (jg t t') (some (x,[])) none
 |.sl _,.nl=>some (.l [],[])
 |.sl t,.ow b ver=>match du bx b ver with|some (t',es)=>sif (Nat.beq t t') (some (.l es,[b])) none|none=>none
 |.pt _,.np=>some (.nil,[])
 |_,_=>none
def j9 (bx:Bxs):List CT->List V->Option (List C×List Nat)
 |[],[]=>some ([],[])
 |t::ts,v::vs=>match yi bx t v with
  |some (x,f)=>match j9 bx ts vs with
   |some (xs,g)=>some (x::xs,app f g)
   |none=>none
  |none=>none
 |_,_=>none
def ll:List CT->List V->Bool
 |[],[]=>true
 |t::ts,.c t' _::vs=>az (jg t t') (ll ts vs)
 |_,_=>false
mutual
def Sk.ext (T:Tys) (bx:Bxs):Sk->V->Ex->Option Ex
 |.un,_,e=>some e
 |.d t,.c t' x,e=>sif (jg t t') (some ⟨x::e.xs,e.r,e.fz⟩) none
 |.d (.sl _),.nl,e=>some ⟨.l []::e.xs,e.r,e.fz⟩
 |.d (.sl t),.ow b ver,e=>match du bx b ver with
  |some (t',es)=>sif (Nat.beq t t') (some ⟨.l es::e.xs,e.r,b::e.fz⟩) none
  |none=>none
 |.d (.sl t),.vw b ver lo hi,e=>match du bx b ver with
  |some (t',es)=>sif (Nat.beq t t') (some ⟨.l ((es.take hi.toNat).drop lo.toNat)::e.xs,e.r,b::e.fz⟩) none
  |none=>none
 |.d (.pt _),.np,e=>some ⟨.nil::e.xs,e.r,e.fz⟩
 |.d (.pt t),.fa cts cs 0,e=>match bj T t with
  |some td=>sif (qn cts td.cts) (some ⟨.p cs::e.xs,e.r,e.fz⟩) none
  |none=>none
 |.d (.pt t),.pt b ver 0,e=>match bx b with
  |some (.var v t' cells)=>sif (az (Nat.beq t t') (Nat.beq v ver)) (match bj T t with
   |some td=>match j9 bx td.cts cells with
    |some (cs,f)=>some ⟨.p cs::e.xs,e.r,b::app f e.fz⟩
    |none=>none
   |none=>none) none
  |_=>none
 |.d (.pt t),.pe b ver ix 0 nb,e=>match du bx b ver with
  |some (t',es)=>sif (Nat.beq t t') (some ⟨sif nb (cond (decide (0<=ix)) (.p (es.getD ix.toNat [])) .nil) (.p (es.getD ix.toNat []))::e.xs,e.r,b::e.fz⟩) none
  |none=>none
 |.ow n,.ow b ver,e=>match du bx b ver with
  |some _=>e.put n (some b)
  |none=>none
 |.ow n,.nl,e=>e.put n none
 |.mp n,.mp b ver,e=>match bx b with
  |some (.mp v _ _)=>sif (Nat.beq v ver) (e.put n (some b)) none
  |_=>none
 |.pt n o,.pt b ver o',e=>match bx b with
  |some (.var v _ _)=>sif (az (Nat.beq o o') (Nat.beq v ver)) (e.put n (some b)) none
  |_=>none
 |.pe n o,.pe b ver ix o' _,e=>match du bx b ver with
  |some _=>sif (Nat.beq o o') (Ex.put ⟨.i ix::e.xs,e.r,e.fz⟩ n (some b)) none
  |none=>none
 |.pe n _,.np,e=>match e.r.find n with
  |some (some b)=>match bx b with
   |some (.arr _ _ _ _)=>some ⟨.i (-1)::e.xs,e.r,e.fz⟩
   |_=>none
  |_=>none
 |.ag l,.ag vs _,e=>Sk.exts T bx l vs e
 |.st ts,.ag vs o,e=>match o with
  |some x=>sif (ll ts vs) (some ⟨x::e.xs,e.r,e.fz⟩) none
  |none=>match j9 bx ts vs with
   |some (cs,f)=>some ⟨.p cs::e.xs,e.r,app f e.fz⟩
   |none=>none
 |.tu l,.tu vs,e=>Sk.exts T bx l vs e
 |.fn f l,.fn f' vs,e=>sif (Nat.beq f f') (Sk.exts T bx l vs e) none
 |_,_,_=>none
def Sk.exts (T:Tys) (bx:Bxs):List Sk->List V->Ex->Option Ex
 |[],[],e=>some e
 |k::ks,v::vs,e=>match k.ext T bx v e with
  |some e'=>Sk.exts T bx ks vs e'
  |none=>none
 |_,_,_=>none
end
def rB (T:Tys) (σ:St):List (Nat×Sk)->Ex->Option Ex
 |[],e=>some e
 |(d,k)::r,e=>match k.ext T σ.bx (σ.sl d) e with
  |some e'=>rB T σ r e'
  |none=>none
def mok:Nat->Nat->Bool|0,0=>true|0,1=>true|1,1=>true|2,2=>true|2,4=>true|_,_=>false
def ic (T:Tys) (bx:Bxs):List (Nat×BSk)->Ex->Option Ex
 |[],e=>some e
 |(n,.var t cells)::r,e=>match e.r.find n with
  |some (some b)=>match bx b with
   |some (.var _ t' vs)=>match sif (Nat.beq t t') (Sk.exts T bx cells vs e) none with
    |some e'=>ic T bx r e'
    |none=>none
   |_=>none
  |_=>none
 |(n,.arr t m)::r,e=>match e.r.find n with
  |some (some b)=>match bx b with
   |some (.arr _ t' es m')=>sif (az (Nat.beq t t') (mok m m')) (ic T bx r ⟨.l es::e.xs,e.r,e.fz⟩) none
   |_=>none
  |some none=>ic T bx r ⟨.l []::e.xs,e.r,e.fz⟩
  |none=>none
 |(n,.mp t)::r,e=>match e.r.find n with
  |some (some b)=>match bx b with
   |some (.mp _ t' es)=>sif (Nat.beq t t') (ic T bx r ⟨.l es::e.xs,e.r,e.fz⟩) none
   |_=>none
  |_=>none
def bxT (T:Tys):List (Nat×BSk)->Bool
 |[]=>true
 |(_,.var t _)::r=>match bj T t with|some _=>bxT T r|none=>false
 |(_,.arr t _)::r=>match bj T t with|some _=>bxT T r|none=>false
 |(_,.mp _)::r=>bxT T r
def bL:List (Nat×BSk)->Nat->Bool
 |[],_=>false
 |(b,_)::r,n=>orS (Nat.beq b n) (bL r n)
mutual
def Sk.named (l:List (Nat×BSk)):Sk->Bool
 |.un=>true|.d _=>true|.st _=>true|.ow b=>bL l b|.mp b=>bL l b|.pt b _=>bL l b|.pe b _=>bL l b
 |.ag q=>Sk.s8 l q|.tu q=>Sk.s8 l q|.fn _ q=>Sk.s8 l q
def Sk.s8 (l:List (Nat×BSk)):List Sk->Bool
 |[]=>true
 |k::r=>az (k.named l) (Sk.s8 l r)
end
def px (l:List (Nat×BSk)):List (Nat×Sk)->Bool|[]=>true|(_,k)::r=>az (k.named l) (px l r)
def iW (l:List (Nat×BSk)):List (Nat×BSk)->Bool|[]=>true|(_,.var _ cells)::r=>az (Sk.s8 l cells) (iW l r)|(_,.arr _ _)::r=>iW l r|(_,.mp _)::r=>iW l r
def cZ (l:List Nat) (a:Nat):Bool:=match l with|[]=>false|b::r=>orS (Nat.beq b a) (cZ r a)
def bM:List Nat->Bool|[]=>true|a::r=>az (dY (cZ r a)) (bM r)
def names:Ren->List Nat|[]=>[]|(_,some b)::r=>b::names r|(_,none)::r=>names r
def Fh (r:Ren):List Nat->Bool|[]=>true|b::l=>az (dY (cZ (names r) b)) (Fh r l)
def Tm.ext (T:Tys) (t:Tm) (r0:Ren) (σ:St):Option Ex:=
 match rB T σ t.sl ⟨[],r0,[]⟩ with
 |some e=>match ic T σ.bx t.bx e with
  |some e'=>sif (az (az (bxT T t.bx) (az (px t.bx t.sl) (iW t.bx t.bx))) (az (bM (names e'.r)) (Fh e'.r e'.fz))) (some e') none
  |none=>none
 |none=>none
def Tm.data (T:Tys) (t:Tm) (r0:Ren) (σ:St):Option (List C):=match t.ext T r0 σ with|some e=>some (rev e.xs [])|none=>none
structure FS where
 n:Nat
 inT:Tm
 outT:Tm
 ip:List Nat
 F:List C->Option (List C)
structure Cx where
 T:Tys
 Φ:FuncId->Option Tmp->Option FS
 n:Nat
 res:List ResultVar
 inT:Tm
 outT:Tm
 ip:List Nat
 eqT:List Nat
 mps:List (Nat×Nat)
 mv:List Nat:=[]
 tree:Bool:=false
 nt:List Nat:=[]
end Go.Ev
namespace Go.Ev
def bF:List CT->Bool|[]=>true|.int _::r=>bF r|.bool::r=>bF r|.str::r=>bF r|_=>false
structure Eff where
 v:V
 up:List (Nat×Box)
def rv (v:V):M Eff:=M.ret ⟨v,[]⟩
def gr:List Value->List V
 |[]=>[]
 |.int k n::r=>.c (.int k) (.i n)::gr r
 |.bool x::r=>.c .bool (.b x)::gr r
 |.string x::r=>.c .str (.s x)::gr r
 |.slice none 0 0::r=>.nl::gr r
 |.pointer none::r=>.np::gr r
 |_::r=>.un::gr r
def tc:Value->V
 |.int k n=>.c (.int k) (.i n)
 |.bool x=>.c .bool (.b x)
 |.string x=>.c .str (.s x)
 |.slice none 0 0=>.nl
 |.pointer none=>.np
 |.agg cs=>.ag (gr cs.toList) none
 |_=>.un
def bX (ρ:cu):Operand->V
 |.tmp t=>ρ t
 |.const v=>tc v
 |.func f=>.fn f []
 |.global _=>.un
def isNil {α:Type}:List α->Bool|[]=>true|_=>false
def isStr (T:Tys) (t:Nat):Bool:=match bj T t with|some ⟨.str,_,_⟩=>true|_=>false
def isBool (T:Tys) (t:Nat):Bool:=match bj T t with|some ⟨.bool,_,_⟩=>true|_=>false
def Ci (T:Tys) (t:Nat):Bool:=match bj T t with|some ⟨.sl _,_,_⟩=>true|_=>false
def Hp (T:Tys) (t:Nat):Bool:=match bj T t with|some ⟨.pt _,_,_⟩=>true|_=>false
def ir:CT->C
 |.int _=>.i 0|.bool=>.b false|.str=>.s ⟨#[]⟩|.sl _=>.l []|.pt _=>.nil|.fn=>.nil
def ya:CT->V
 |.int k=>.c (.int k) (.i 0)|.bool=>.c .bool (.b false)|.str=>.c .str (.s ⟨#[]⟩)|.sl _=>.nl|.pt _=>.np|.fn=>.c .fn .nil
def HO (d:TD) (cs:List V) (o:Option C):Option V:=sif d.agg (some (.ag cs o)) (match cs with|[x]=>some x|_=>none)
def mkV (d:TD) (cs:List V):Option V:=HO d cs none
def Fv (off n m:Nat) (cs:List C):Option C:=sif (az (Nat.beq off 0) (Nat.beq n m)) (some (.p cs)) none
def bI:V->List V|.ag l _=>l|v=>[v]
def il:V->Bool|.ag _ _=>false|.tu _=>false|.un=>false|.ud=>false|_=>true
def eN:List V->Bool|[]=>true|v::r=>az (il v) (eN r)
def wV:CT->V->Option C
 |t,.c t' x=>sif (jg t t') (some x) none
 |.sl _,.nl=>some (.l [])
 |.pt _,.np=>some .nil
 |_,_=>none
def ij:List CT->List V->Option (List C)
 |[],[]=>some []
 |t::ts,v::vs=>match wV t v with
  |some x=>match ij ts vs with|some r=>some (x::r)|none=>none
  |none=>none
 |_,_=>none
def tD {α:Type} (l:List α) (off:Nat) (m:List α):List α:=app (tak off l) (app m (drp (off+len m) l))
def aB (l:List C) (off:Nat) (m:List C):List C:=l.take off++m++l.drop (off+m.length)
def Jx (op:BinOp) (k:IntKind) (x y:Int):Option V:=
 match op with
 |.add=>some (.c (.int k) (.i (k.wrap (x+y))))
 |.sub=>some (.c (.int k) (.i (k.wrap (x-y))))
 |.mul=>some (.c (.int k) (.i (k.wrap (x*y))))
 |.eql=>some (.c .bool (.b (x==y)))
 |.neq=>some (.c .bool (.b (x !=y)))
 |.and=>some (.c (.int k) (.i (k.wrap (BitVec.ofInt k.bits x&&& BitVec.ofInt k.bits y).toNat)))
 |.or=>some (.c (.int k) (.i (k.wrap (BitVec.ofInt k.bits x|||BitVec.ofInt k.bits y).toNat)))
 |.xor=>some (.c (.int k) (.i (k.wrap (BitVec.ofInt k.bits x^^^BitVec.ofInt k.bits y).toNat)))
 |.lss=>some (.c .bool (.b (decide (x<y))))
 |.leq=>some (.c .bool (.b (decide (x<=y))))
 |.gtr=>some (.c .bool (.b (decide (x>y))))
 |.geq=>some (.c .bool (.b (decide (x≥y))))
 |_=>none
def KL (op:BinOp) (x y:ByteArray):Option V:=
 match op with
 |.eql=>some (.c .bool (.b (x.toList==y.toList)))
 |.neq=>some (.c .bool (.b (!(x.toList==y.toList))))
 |.lss=>some (.c .bool (.b (Op.bytesLess x.toList y.toList)))
 |.gtr=>some (.c .bool (.b (!(Op.bytesLess x.toList y.toList||x.toList==y.toList))))
 |.leq=>some (.c .bool (.b (Op.bytesLess x.toList y.toList||x.toList==y.toList)))
 |.geq=>some (.c .bool (.b (!(Op.bytesLess x.toList y.toList))))
 |_=>none
def eqC:CT->C->C->Option Bool
 |.int _,x,y=>some (x.I==y.I)
 |.bool,x,y=>some (x.B==y.B)
 |.str,x,y=>some (x.S.toList==y.S.toList)
 |_,_,_=>none
def Js:List CT->List V->List V->Option Bool
 |[],[],[]=>some true
 |q::s,.c t x::r,.c t' y::r'=>match sif (az (jg q t) (jg q t')) (eqC q x y) none,Js s r r' with
  |some a,some b=>some (a&&b)
  |_,_=>none
 |_,_,_=>none
def Gw (T:Tys) (op:BinOp) (t:TypeId):V->V->M Eff
 |.c (.int k) x,.c (.int k') y=>
  match op with
  |.shl=>do chk (decide (0<=y.I));rv (.c (.int k) (.i (k.wrap (x.I*2^(min y.I.toNat k.bits)))))
  |.shr=>do chk (decide (0<=y.I));rv (.c (.int k) (.i (x.I.fdiv (2^(min y.I.toNat k.bits)))))
  |.quo=>do bd (yh k k');chk (y.I !=0);rv (.c (.int k) (.i (k.wrap (x.I.tdiv y.I))))
  |.rem=>do bd (yh k k');chk (y.I !=0);rv (.c (.int k) (.i (x.I.tmod y.I)))
  |op=>do bd (yh k k');rv (←opt (Jx op k x.I y.I))
 |.c .str x,.c .str y=>
  match op with
  |.add=>do chk (decide (x.S.size+y.S.size<=4294967296));rv (.c .str (.s (x.S++y.S)))
  |op=>do rv (←opt (KL op x.S y.S))
 |.c .bool x,.c .bool y=>do
  bd (isBool T t)
  match op with
  |.eql=>rv (.c .bool (.b (x.B==y.B)))
  |.neq=>rv (.c .bool (.b (!(x.B==y.B))))
  |_=>M.fail
 |.np,.np=>do
  bd (Hp T t)
  match op with|.eql=>rv (.c .bool (.b true))|.neq=>rv (.c .bool (.b false))|_=>M.fail
 |.pt b ver _,.np=>do
  bd (Hp T t)
  match←bR b with
  |.var v _ _=>do
   bd (Nat.beq v ver)
   match op with|.eql=>rv (.c .bool (.b false))|.neq=>rv (.c .bool (.b true))|_=>M.fail
  |_=>M.fail
 |.pe b ver ix _ nb,.np=>do
  bd (Hp T t)
  match←bR b with
  |.arr v _ _ _=>do
   bd (Nat.beq v ver)
   match op with
   |.eql=>rv (.c .bool (.b (sif nb (decide (ix<0)) false)))
   |.neq=>rv (.c .bool (.b (!(sif nb (decide (ix<0)) false))))
   |_=>M.fail
  |_=>M.fail
 |.c (.pt _) x,.np=>do
  bd (Hp T t)
  match op with|.eql=>rv (.c .bool (.b (!x.isP)))|.neq=>rv (.c .bool (.b x.isP))|_=>M.fail
 |_,_=>M.fail
def JK (X:Cx) (op:BinOp) (t:TypeId) (l m:List V):M Eff:=do
 bd (cZ X.eqT t)
 let d←opt (bj X.T t)
 let b←opt (Js d.cts l m)
 match op with
 |.eql=>rv (.c .bool (.b b))
 |.neq=>rv (.c .bool (.b (!b)))
 |_=>M.fail
def HP (X:Cx) (op:BinOp) (t:TypeId) (x y:V):M Eff:=match x,y with
 |.ag l _,.ag m _=>JK X op t l m
 |a,b=>Gw X.T op t a b
def AY (T:Tys) (t:TypeId):V->M Eff
 |.pt b ver off=>do
  let d←opt (bj T t)
  match←bR b with
  |.var v _ cells=>do
   bd (Nat.beq v ver)
   bd (Nat.ble (off+len d.cts) (len cells))
   rv (←opt (mkV d (tak (len d.cts) (drp off cells))))
  |_=>M.fail
 |.pe b ver ix off nb=>do
  let d←opt (bj T t)
  match←bR b with
  |.arr v e es m=>do
   let de←opt (bj T e)
   bd (Nat.beq v ver)
   chk (sif nb (decide (0<=ix)) true)
   bd (Nat.ble (off+len d.cts) (len de.cts))
   bd (Nat.blt m 2)
   rv (←opt (HO d (eM de.cts (es.getD ix.toNat []) off (len d.cts)) (Fv off (len d.cts) (len de.cts) (es.getD ix.toNat []))))
  |_=>M.fail
 |.fa cts cs off=>do
  let d←opt (bj T t)
  bd (Nat.ble (off+len d.cts) (len cts))
  rv (←opt (HO d (eM cts cs off (len d.cts)) (Fv off (len d.cts) (len cts) cs)))
 |_=>M.fail
def K3:List CT->Option TypeId|[.sl e]=>some e|_=>none
def zX (T:Tys) (t:TypeId):V->M Eff
 |.pe b ver ix off nb=>do
  let d←opt (bj T t)
  match←bR b with
  |.arr v e es m=>do
   let de←opt (bj T e)
   bd (Nat.beq v ver)
   chk (sif nb (decide (0<=ix)) true)
   bd (Nat.beq m 2)
   let e'←opt (K3 d.cts)
   bd (az (dY d.agg) (match uA de.cts off with|some ct=>jg ct (.sl e')|none=>false))
   rv (.rf b ver ix off e')
  |_=>M.fail
 |_=>M.fail
def ldV (T:Tys) (t:TypeId) (p:V):M Eff:=match p with
 |.pe b ver ix off nb=>do
  match←bR b with
  |.arr _ _ _ m=>sif (Nat.beq m 2) (zX T t (.pe b ver ix off nb)) (AY T t (.pe b ver ix off nb))
  |_=>M.fail
 |p=>AY T t p
abbrev KE:=Nat×Nat×TypeId×List (List C)
def xf:List V->M (List KE)
 |[]=>M.ret []
 |.ow b ver::r=>do
  match←bR b with
  |.arr v t es m=>do
   bd (az (Nat.beq v ver) (Nat.blt m 2))
   let K←xf r
   M.ret ((b,v,t,es)::K)
  |_=>M.fail
 |_::r=>xf r
def ca:List KE->List (Nat×Box)
 |[]=>[]
 |(b,v,_,_)::r=>(b,.dead (v+1))::ca r
def oY (b v:Nat) (t:TypeId) (es:List (List C)):V->V
 |.ow b' v'=>sif (az (Nat.beq b' b) (Nat.beq v' v)) (.c (.sl t) (.l es)) (.ow b' v')
 |x=>x
def sI (b v:Nat) (t:TypeId) (es:List (List C)):List V->List V
 |[]=>[]
 |x::r=>oY b v t es x::sI b v t es r
def yU (b v:Nat) (t:TypeId) (es:List (List C)):V->V
 |.ag l o=>.ag (sI b v t es l) o
 |x=>oY b v t es x
def pQ:List KE->V->V
 |[],x=>x
 |(b,v,t,es)::r,x=>pQ r (yU b v t es x)
def uJ (K:List KE) (ρ:cu):cu:=match K with
 |[]=>ρ
 |K=>fun k=>pQ K (ρ k)
def bZ:List (Nat×Box)->List Nat|[]=>[]|(b,_)::r=>b::bZ r
def qI:List V->M Bool
 |[]=>M.ret true
 |.ow b _::r=>do
  match←bR b with
  |.arr _ _ _ m=>do let q←qI r;M.ret (az (Nat.beq m 1) q)
  |_=>M.fail
 |.c t _::r=>do let q←qI r;M.ret (az (bF [t]) q)
 |.nl::r=>qI r
 |.np::r=>qI r
 |_=>M.ret false
def pX (T:Tys) (t:TypeId) (x:V):V->M Eff
 |.pt b ver off=>do
  let d←opt (bj T t)
  match←bR b with
  |.var v t' cells=>do
   bd (Nat.beq v ver)
   bd (Nat.beq (len (bI x)) (len d.cts))
   bd (eN (bI x))
   bd (Nat.ble (off+len d.cts) (len cells))
   M.ret ⟨.un,[(b,.var v t' (tD cells off (bI x)))]⟩
  |_=>M.fail
 |.pe b ver ix off nb=>do
  let d←opt (bj T t)
  match←bR b with
  |.arr v e es m=>do
   let de←opt (bj T e)
   bd (Nat.beq v ver)
   chk (sif nb (decide (0<=ix)) true)
   bd (Nat.ble (off+len d.cts) (len de.cts))
   let q←qI (bI x)
   let K←xf (bI x)
   bd (bM (b::bZ (ca K)))
   bd (az (dY (Nat.beq m 3)) (orS (Nat.blt m 2) (bF (tak (len d.cts) (drp off de.cts)))))
   let xs←opt (ij (tak (len d.cts) (drp off de.cts)) (bI (pQ K x)))
   M.ret ⟨.un,app (ca K) [(b,.arr v e (es.set ix.toNat (aB (es.getD ix.toNat []) off xs)) (sif (bF (tak (len d.cts) (drp off de.cts))) m (sif (az (Nat.beq m 1) q) 1 0)))]⟩
  |_=>M.fail
 |_=>M.fail
def vh (T:Tys) (s:TypeId) (f:Nat):Option (Nat×TypeId):=
 match bj T s with
 |some ⟨.st fs,_,_⟩=>uA fs f
 |_=>none
def ey (T:Tys) (t:TypeId):Option TypeId:=
 match bj T t with
 |some ⟨.sl e,_,_⟩=>some e
 |_=>none
def qB:V->Option Int|.c (.int _) x=>some x.I|_=>none
def mZ (T:Tys) (s:TypeId) (f:Nat) (x:V):M Eff:=do
 let o←opt (vh T s f)
 let _←opt (bj T o.2)
 match x with
 |.pt b ver off=>do
  match←bR b with
  |.var v _ _=>do bd (Nat.beq v ver);rv (.pt b ver (off+o.1))
  |_=>M.fail
 |.pe b ver ix off nb=>do
  match←bR b with
  |.arr v _ _ _=>do bd (Nat.beq v ver);chk (sif nb (decide (0<=ix)) true);rv (.pe b ver ix (off+o.1) false)
  |_=>M.fail
 |.fa cts cs off=>rv (.fa cts cs (off+o.1))
 |_=>M.fail
def nG (T:Tys) (t:TypeId) (x i:V):M Eff:=do
 let e←opt (ey T t)
 let de←opt (bj T e)
 let ix←opt (qB i)
 match x with
 |.c (.sl e') y=>do
  bd (Nat.beq e e')
  chk (decide (0<=ix))
  chk (decide (ix<y.L.length))
  rv (.fa de.cts (y.L.getD ix.toNat []) 0)
 |.ow b ver=>do
  match←bR b with
  |.arr v e' es _=>do
   bd (az (Nat.beq v ver) (Nat.beq e e'))
   chk (decide (0<=ix))
   chk (decide (ix<es.length))
   rv (.pe b ver ix 0 false)
  |_=>M.fail
 |.vw b ver lo hi=>do
  match←bR b with
  |.arr v e' _ _=>do
   bd (az (Nat.beq v ver) (Nat.beq e e'))
   chk (decide (0<=ix))
   chk (decide (ix<hi-lo))
   rv (.pe b ver (lo+ix) 0 false)
  |_=>M.fail
 |_=>M.fail
def yb (T:Tys) (t:TypeId) (x i:V):M Eff:=
 match x with
 |.c .str y=>do
  bd (isStr T t)
  let ix←opt (qB i)
  chk (decide (0<=ix))
  chk (decide (ix<y.S.size))
  rv (.c (.int .u8) (.i ((y.S.data.getD ix.toNat 0).toNat)))
 |_=>M.fail
def jr (e:TypeId):V->M (List (List C))
 |.c (.sl e') y=>do bd (Nat.beq e e');M.ret y.L
 |.nl=>M.ret []
 |.ow b ver=>do
  match←bR b with
  |.arr v e' es m=>do bd (az (az (Nat.beq v ver) (Nat.beq e e')) (Nat.blt m 2));M.ret es
  |_=>M.fail
 |.vw b ver lo hi=>do
  match←bR b with
  |.arr v e' es m=>do bd (az (az (Nat.beq v ver) (Nat.beq e e')) (Nat.blt m 2));M.ret ((es.take hi.toNat).drop lo.toNat)
  |_=>M.fail
 |_=>M.fail
def E6 (T:Tys) (t:TypeId):V->M Eff
 |.c .str y=>do bd (isStr T t);rv (.c (.int .i64) (.i y.S.size))
 |.c (.sl _) y=>do bd (Ci T t);rv (.c (.int .i64) (.i y.L.length))
 |.nl=>do bd (Ci T t);rv (.c (.int .i64) (.i 0))
 |.ow b ver=>do
  bd (Ci T t)
  match←bR b with
  |.arr v _ es _=>do bd (Nat.beq v ver);rv (.c (.int .i64) (.i es.length))
  |_=>M.fail
 |.vw b ver lo hi=>do
  bd (Ci T t)
  match←bR b with
  |.arr v _ _ _=>do bd (Nat.beq v ver);rv (.c (.int .i64) (.i (hi-lo)))
  |_=>M.fail
 |.rf b ver ix off _=>do
  bd (Ci T t)
  match←bR b with
  |.arr v _ es m=>do bd (az (Nat.beq v ver) (Nat.beq m 2));rv (.c (.int .i64) (.i ((es.getD ix.toNat []).getD off .nil).L.length))
  |_=>M.fail
 |_=>M.fail
def me (d:Int):Option V->Option Int|none=>some d|some v=>qB v
def tP (T:Tys) (t:TypeId) (x:V) (lo hi:Option V):M Eff:=
 match x with
 |.c .str y=>do
  bd (isStr T t)
  let l←opt (me 0 lo)
  let h←opt (me y.S.size hi)
  chk (decide (0<=l));chk (decide (l<=h));chk (decide (h<=y.S.size))
  rv (.c .str (.s (y.S.extract l.toNat h.toNat)))
 |.c (.sl e) y=>do
  bd (match ey T t with|some e'=>Nat.beq e e'|none=>false)
  let l←opt (me 0 lo)
  let h←opt (me y.L.length hi)
  chk (decide (0<=l));chk (decide (l<=h));chk (decide (h<=y.L.length))
  rv (.c (.sl e) (.l ((y.L.take h.toNat).drop l.toNat)))
 |.ow b ver=>do
  match←bR b with
  |.arr v e es _=>do
   bd (Nat.beq v ver)
   bd (match ey T t with|some e'=>Nat.beq e e'|none=>false)
   let l←opt (me 0 lo)
   let h←opt (me es.length hi)
   chk (decide (0<=l));chk (decide (l<=h));chk (decide (h<=es.length))
   rv (.vw b ver l h)
  |_=>M.fail
 |.vw b ver lo' hi'=>do
  match←bR b with
  |.arr v e _ _=>do
   bd (Nat.beq v ver)
   bd (match ey T t with|some e'=>Nat.beq e e'|none=>false)
   let l←opt (me 0 lo)
   let h←opt (me (hi'-lo') hi)
   chk (decide (0<=l));chk (decide (l<=h));chk (decide (h<=hi'-lo'))
   rv (.vw b ver (lo'+l) (lo'+h))
  |_=>M.fail
 |.nl=>do
  bd (Ci T t)
  let l←opt (me 0 lo)
  let h←opt (me 0 hi)
  chk (decide (l=0));chk (decide (h=0))
  rv .nl
 |_=>M.fail
def oU (T:Tys):V->M Eff
 |.pt b ver off=>do
  match←bR b with
  |.var v _ _=>do bd (Nat.beq v ver);rv (.pt b ver off)
  |_=>M.fail
 |.pe b ver ix off nb=>do
  match←bR b with
  |.arr v _ _ _=>do bd (Nat.beq v ver);chk (sif nb (decide (0<=ix)) true);rv (.pe b ver ix off false)
  |_=>M.fail
 |.fa cts cs off=>rv (.fa cts cs off)
 |.c (.pt e) y=>do let d←opt (bj T e);chk y.isP;rv (.fa d.cts y.P 0)
 |.fn f l=>rv (.fn f l)
 |_=>M.fail
def w9 (T:Tys) (fs:List (Nat×TypeId)) (ρ:cu):List (Nat×Operand)->List V->Option (List V)
 |[],cs=>some cs
 |(i,x)::r,cs=>match uA fs i with
  |some (o,t)=>match bj T t with
   |some d=>sif (az (eN (bI (bX ρ x))) (az (Nat.beq (len (bI (bX ρ x))) (len d.cts)) (Nat.ble (o+len d.cts) (len cs)))) (w9 T fs ρ r (tD cs o (bI (bX ρ x)))) none
   |none=>none
  |none=>none
def BG (T:Tys):List (Nat×TypeId)->Bool|[]=>true|(_,t)::r=>match bj T t with|some _=>BG T r|none=>false
def wD (T:Tys) (t:TypeId) (ρ:cu) (ps:List (Nat×Operand)):M Eff:=do
 match←opt (bj T t) with
 |⟨.st fs,cts,_⟩=>do
  bd (BG T fs)
  let cs←opt (w9 T fs ρ ps (cts.map ya))
  rv (.ag cs none)
 |_=>M.fail
def EJ {α:Type}:List α->Nat->α->List α|[],_,_=>[]|_::r,0,y=>y::r|x::r,n+1,y=>x::EJ r n y
def JI {α:Type}:Nat->α->List α|0,_=>[]|n+1,x=>x::JI n x
def sM (cts:List CT) (ρ:cu):List (Nat×Operand)->List (List C)->Option (List (List C))
 |[],es=>some es
 |(i,x)::r,es=>match ij cts (bI (bX ρ x)) with
  |some xs=>sif (Nat.blt i (len es)) (sM cts ρ r (EJ es i xs)) none
  |none=>none
def xd (ρ:cu):List (Nat×Operand)->List V
 |[]=>[]
 |(_,x)::r=>app (bI (bX ρ x)) (xd ρ r)
def one {α:Type}:List α->Bool|[]=>true|[_]=>true|_=>false
def j6 (T:Tys) (t:TypeId) (n:Nat) (d:Nat) (ρ:cu) (ps:List (Nat×Operand)):M Eff:=do
 let e←opt (ey T t)
 let de←opt (bj T e)
 let q←qI (xd ρ ps)
 let K←xf (xd ρ ps)
 bd (bM (d::bZ (ca K)))
 let es←opt (sM de.cts (uJ K ρ) ps (JI n (de.cts.map ir)))
 bd (Nat.ble (n*len de.cts) 16777216)
 let ver←dq d
 M.ret ⟨.ow d ver,app (ca K) [(d,.arr ver e es (sif (orS (bF de.cts) (az (one ps) q)) 1 0))]⟩
def nA (T:Tys) (t:TypeId) (d:Nat) (n c:V):M Eff:=do
 let e←opt (ey T t)
 let de←opt (bj T e)
 let l←opt (qB n)
 let m←opt (qB c)
 chk (decide (l=m));chk (decide (0<=l));chk (decide (l<=4294967296))
 bd (Nat.ble de.bytes 16384)
 let ver←dq d
 M.ret ⟨.ow d ver,[(d,.arr ver e (List.replicate l.toNat (de.cts.map ir)) 1)]⟩
def yc (T:Tys) (s:TypeId) (f:Nat) (x:V):M Eff:=do
 let o←opt (vh T s f)
 let d←opt (bj T o.2)
 match x with
 |.ag l _=>do bd (Nat.ble (o.1+len d.cts) (len l));rv (←opt (mkV d (tak (len d.cts) (drp o.1 l))))
 |_=>M.fail
def mF (d:TD):Nat:=sif (bF d.cts) 1 0
def mvK (X:Cx) (x:V):M (List KE×Bool):=match x with
 |.ow b ver=>sif (cZ X.mv b) (do
  let q←qI [.ow b ver]
  let K←xf [.ow b ver]
  M.ret (K,q)) (M.ret ([],false))
 |_=>M.ret ([],false)
def uS (X:Cx) (t:TypeId) (d:Nat) (s x:V):M Eff:=do
 let e←opt (ey X.T t)
 let de←opt (bj X.T e)
 bd (Nat.ble de.bytes 16384)
 let src←jr e x
 let K←mvK X x
 match s with
 |.nl=>do
  chk (decide (src.length<=4294967296))
  let ver←dq d
  bd (bM (d::bZ (ca K.1)))
  M.ret ⟨.ow d ver,app (ca K.1) [(d,.arr ver e src (sif (orS (bF de.cts) K.2) 1 0))]⟩
 |.ow b ver=>do
  match←bR b with
  |.arr v e' es m=>do
   bd (az (az (Nat.beq v ver) (Nat.beq e e')) (Nat.blt m 2))
   chk (decide (es.length+src.length<=4294967296))
   bd (bM (b::bZ (ca K.1)))
   M.ret ⟨.ow b (v+1),app (ca K.1) [(b,.arr (v+1) e (es++src) (sif (orS (bF de.cts) (az (Nat.beq m 1) K.2)) 1 0))]⟩
  |_=>M.fail
 |.vw b ver lo hi=>do
  match←bR b with
  |.arr v e' es m=>do
   bd (az (az (Nat.beq v ver) (Nat.beq e e')) (Nat.blt m 2))
   chk (decide (lo=0∨lo<hi))
   chk (decide (((es.take hi.toNat).drop lo.toNat).length+src.length<=4294967296))
   bd (isNil K.1)
   M.ret ⟨.ow b (v+1+1),[(b,.arr (v+1+1) e (((es.take hi.toNat).drop lo.toNat)++src) (mF de))]⟩
  |_=>M.fail
 |_=>M.fail
def xI (X:Cx) (t:TypeId) (d:Nat) (b ver:Nat) (ix:Int) (off:Nat) (e0:TypeId) (x:V):M Eff:=do
 let e←opt (ey X.T t)
 let de←opt (bj X.T e)
 bd (Nat.ble de.bytes 16384)
 let src←jr e x
 match←bR b with
 |.arr v te es m=>do
  bd (az (az (Nat.beq v ver) (Nat.beq m 2)) (az (az (Nat.beq e e0) (bF de.cts)) (dY (Nat.beq b d))))
  chk (decide (((es.getD ix.toNat []).getD off .nil).L.length+src.length<=4294967296))
  let vd←dq d
  M.ret ⟨.ow d (vd+1),[(b,.arr v te (es.set ix.toNat (aB (es.getD ix.toNat []) off [.nil])) 3),(d,.arr (vd+1) e (((es.getD ix.toNat []).getD off .nil).L++src) 1)]⟩
 |_=>M.fail
def EL (X:Cx) (t:TypeId) (d:Nat) (s x:V):M Eff:=match s with
 |.rf b ver ix off e=>xI X t d b ver ix off e x
 |s=>uS X t d s x
def rQ:List CT->List C->Bool
 |.sl _::ts,.l _::cs=>rQ ts cs
 |.sl _::_,_::_=>false
 |_::ts,_::cs=>rQ ts cs
 |_,_=>true
def xT (T:Tys) (t:TypeId) (b2 v2 b ver:Nat) (ix:Int) (off:Nat) (nb:Bool):M Eff:=do
 let d←opt (bj T t)
 let e←opt (K3 d.cts)
 let dn←opt (bj T e)
 match←bR b with
 |.arr v te es m=>do
  let de←opt (bj T te)
  match←bR b2 with
  |.arr v2' e2 rows m2=>do
   bd (az (az (Nat.beq v ver) (Nat.beq v2' v2)) (az (orS (Nat.beq m 2) (Nat.beq m 3)) (az (Nat.beq e e2) (Nat.beq m2 1))))
   bd (az (bF dn.cts) (az (dY d.agg) (dY (Nat.beq b b2))))
   bd (match uA de.cts off with|some ct=>jg ct (.sl e)|none=>false)
   chk (sif nb (decide (0<=ix)) true)
   chk (List.all (es.set ix.toNat (aB (es.getD ix.toNat []) off [.l rows])) (rQ de.cts))
   M.ret ⟨.un,[(b2,.dead (v2'+1)),(b,.arr v te (es.set ix.toNat (aB (es.getD ix.toNat []) off [.l rows])) 4)]⟩
  |_=>M.fail
 |_=>M.fail
def IM (T:Tys) (t:TypeId) (x y:V):M Eff:=match x,y with
 |.ow b2 v2,.pe b ver ix off nb=>do
  match←bR b with
  |.arr _ _ _ m=>sif (Nat.ble 2 m) (xT T t b2 v2 b ver ix off nb) (pX T t (.ow b2 v2) (.pe b ver ix off nb))
  |_=>M.fail
 |x,y=>pX T t x y
def rI (T:Tys) (src dst:TypeId) (x:V):M Eff:=do
 match←opt (bj T dst) with
 |⟨.int k,_,_⟩=>do let n←opt (qB x);let _←opt (bj T src);rv (.c (.int k) (.i (k.wrap n)))
 |_=>M.fail
def Lw (d:TD):Bool:=match d.dv with|.int .u8=>true|_=>false
def lJ (l:List (List C)):ByteArray:=⟨(l.map fun r=>UInt8.ofNat (r.getD 0 .nil).I.toNat).toArray⟩
def FG (T:Tys) (src dst:TypeId) (x:V):M Eff:=sif (isStr T dst) (do
  let e←opt (ey T src)
  let de←opt (bj T e)
  bd (Lw de)
  let l←jr e x
  rv (.c .str (.s (lJ l)))) (rI T src dst x)
def mmV (mx:Bool):V->List V->M Eff
 |v,[]=>rv v
 |.c (.int k) x,.c (.int k') y::r=>do
  bd (yh k k')
  mmV mx (.c (.int k) (.i (sif mx (if y.I>x.I then y.I else x.I) (if y.I<x.I then y.I else x.I)))) r
 |_,_=>M.fail
def wO (T:Tys) (t:TypeId) (x:V):M Eff:=do
 let e←opt (ey T t)
 let de←opt (bj T e)
 match x with
 |.vw b ver lo hi=>do
  match←bR b with
  |.arr v e' es m=>do
   bd (az (az (Nat.beq v ver) (Nat.beq e e')) (Nat.blt m 2))
   M.ret ⟨.tu [],[(b,.arr v e (es.take lo.toNat++List.replicate (hi-lo).toNat (de.cts.map ir)++es.drop (lo.toNat+(hi-lo).toNat)) (mF de))]⟩
  |_=>M.fail
 |_=>M.fail
def pd (d:Nat) (j:Nat):Nat:=4096*(d+1)+j
def qe (ip:List Nat) (r:Ren) (out:List (Nat×BSk)) (bx:Bxs) (d:Nat):Nm:=fun n=>sif (bL out n) (
 match r.find n with
 |some (some b)=>match bx b with
  |some x=>(b,sif (cZ ip n) x.ver (x.ver+1))
  |none=>(b,0)
 |_=>(pd d n,match bx (pd d n) with|some x=>x.ver+1|none=>0)) (0,0)
def rY (tr:Bool) (m:Nat):Nat:=sif (az tr (Nat.beq m 1)) 2 m
def j3 (tr:Nat->Bool) (nm:Nm) (xs:List C):List (Nat×BSk)->Nat->List (Nat×Box)
 |[],_=>[]
 |(b,.var t cells)::r,p=>((nm b).1,.var (nm b).2 t (Sk.insts nm xs cells p).1)::j3 tr nm xs r (Sk.insts nm xs cells p).2
 |(b,.arr t m)::r,p=>((nm b).1,.arr (nm b).2 t (xs.getD p .nil).L (rY (tr t) m))::j3 tr nm xs r (p+1)
 |(b,.mp t)::r,p=>((nm b).1,.mp (nm b).2 t (xs.getD p .nil).L)::j3 tr nm xs r (p+1)
def na (bx:Bxs) (out:List (Nat×BSk)):Ren->List (Nat×Box)
 |[]=>[]
 |(n,some b)::r=>sif (bL out n) (na bx out r) ((b,.dead ((match bx b with|some x=>x.ver|none=>0)+1))::na bx out r)
 |(_,none)::r=>na bx out r
mutual
def Sk.flat:Sk->Bool
 |.st ts=>bF ts
 |.d (.int _)=>true|.d .bool=>true|.d .str=>true|.un=>true|.ag l=>Sk.tT l|.tu l=>Sk.tT l|_=>false
def Sk.tT:List Sk->Bool
 |[]=>true
 |k::r=>az k.flat (Sk.tT r)
end
mutual
def Sk.ym:Sk->Bool
 |.un=>true|.d t=>bF [t]|.st ts=>bF ts|.ow _=>true|.ag l=>Sk.s7 l|.tu l=>Sk.s7 l|_=>false
def Sk.s7:List Sk->Bool
 |[]=>true
 |k::r=>az k.ym (Sk.s7 r)
end
def vI:List (Nat×BSk)->Bool|[]=>true|(_,.arr _ m)::r=>az (Nat.beq m 1) (vI r)|_=>false
def lI (tr:Nat->Bool):List (Nat×BSk)->Bool|[]=>true|(_,.arr t m)::r=>az (dY (az (tr t) (Nat.beq m 1))) (lI tr r)|_::r=>lI tr r
def Er:Nat->Bool:=fun _=>true
def Tm.pure (t:Tm):Bool:=az (vI t.bx) (match t.sl with|[(_,k)]=>k.ym|_=>false)
def Tm.flat (t:Tm):Bool:=az (match t.bx with|[]=>true|_=>false) (match t.sl with|[(_,k)]=>k.flat|_=>false)
def slotsOf (vs:List V):cu:=nth .un vs
def im (o:Option (List C)) (K:List C->R):R:=match o with|some ys=>K ys|none=>none
def dD (tr:Nat->Bool) (fs:FS) (d:Nat) (r:Ren) (bx:Bxs) (ys:List C):List (Nat×Box):=
 app (j3 tr (qe fs.ip r fs.outT.bx bx d) ys fs.outT.bx (cy (qe fs.ip r fs.outT.bx bx d) ys fs.outT.sl 0 fun _=>.un).2) (na bx fs.outT.bx r)
def lz:BSk->BSk->Bool
 |.var t _,.var t' _=>Nat.beq t t'
 |.arr t m,.arr t' m'=>az (Nat.beq t t') (sif (Nat.beq m 2) (Nat.beq m' 2) (dY (Nat.beq m' 2)))
 |.mp t,.mp t'=>Nat.beq t t'
 |_,_=>false
def typed (n:Nat) (k:BSk):List (Nat×BSk)->Bool|[]=>true|(m,k')::r=>az (orS (dY (Nat.beq m n)) (lz k k')) (typed n k r)
def Bk (inB:List (Nat×BSk)) (ip:List Nat):List (Nat×BSk)->Bool
 |[]=>true
 |(n,k)::r=>az (orS (dY (cZ ip n)) (typed n k inB)) (Bk inB ip r)
def mR (l:List (Nat×BSk)):List Nat->Bool|[]=>true|n::r=>az (bL l n) (mR l r)
def vj (fs:FS) (d:Nat) (r:Ren) (bx:Bxs) (ys:List C):V:=(cy (qe fs.ip r fs.outT.bx bx d) ys fs.outT.sl 0 fun _=>.un).1 0
def ipM (bx:Bxs) (r:Ren):List Nat->Bool
 |[]=>true
 |n::q=>az (match r.find n with|some (some b)=>(match bx b with|some x=>dY (Nat.beq x.m 4)|none=>true)|_=>true) (ipM bx r q)
def Bu (T:Tys) (tr:Nat->Bool) (fs:FS) (d:Nat) (vs:List V):M Eff:=fun bx k=>
 match sif (Nat.beq (len vs) fs.n) (fs.inT.ext T [] ⟨slotsOf vs,bx⟩) none with
 |none=>none
 |some e=>sif (az (orS (az (isNil e.fz) (lI tr fs.outT.bx)) (orS fs.outT.flat (az fs.outT.pure (orS (lI tr fs.outT.bx) (az (isNil fs.ip) (lI Er fs.inT.bx)))))) (az (Bk fs.inT.bx fs.ip fs.outT.bx) (az (mR fs.inT.bx fs.ip) (ipM bx e.r fs.ip)))) (
   im (fs.F (rev e.xs [])) fun ys=>sif (bM (bZ (dD tr fs d e.r bx ys)))
    (k ⟨vj fs d e.r bx ys,dD tr fs d e.r bx ys⟩ (app (names e.r) (app e.fz (bZ (dD tr fs d e.r bx ys))))) none) none
def y6:List (Nat×Sk)->Nat->Bool|[],_=>true|(d,k)::r,i=>az (Nat.beq d i) (az k.flat (y6 r (i+1)))
def La (fs:FS) (e:TypeId):Bool:=match fs.inT,fs.outT,fs.ip with
 |⟨(0,.ow n)::q,[(n1,.arr t1 2)]⟩,⟨[(0,k)],[(n2,.arr t2 2)]⟩,[n3]=>az (az (az (Nat.beq n n1) (Nat.beq n n2)) (az (Nat.beq n n3) (az (Nat.beq t1 e) (Nat.beq t2 e)))) (az k.flat (y6 q 1))
 |_,_,_=>false
def Co (T:Tys) (fs:FS) (b ver:Nat) (ix:Int) (off:Nat) (e:TypeId) (vs:List V):M Eff:=do
 match←bR b with
 |.arr v t es m=>do
  bd (az (Nat.beq v ver) (az (Nat.beq m 2) (La fs e)))
  bd (Nat.beq (len vs+1) fs.n)
  let _←opt (bj T e)
  let x←opt (rB T ⟨fun k=>match k with|0=>.un|k+1=>nth .un vs k,fun _=>none⟩ (drp 1 fs.inT.sl) ⟨[],[],[]⟩)
  fun bx k=>im (fs.F (rev (((es.getD ix.toNat []).getD off .nil)::x.xs) [])) fun ys=>
   k ⟨match fs.outT.sl with|[(_,q)]=>(q.inst nm0 ys 0).1|_=>.un,[(b,.arr v t (es.set ix.toNat (aB (es.getD ix.toNat []) off [.l (ys.getD (match fs.outT.sl with|[(_,q)]=>(q.inst nm0 ys 0).2|_=>0) .nil).L])) 2)]⟩ []
 |_=>M.fail
def y0 (T:Tys) (tr:Nat->Bool) (fs:FS) (d:Nat) (vs:List V):M Eff:=match vs with
 |.rf b ver ix off e::r=>Co T fs b ver ix off e r
 |vs=>Bu T tr fs d vs
def L0 (tr:Nat->Bool) (fs:FS):Bool:=orS (lI tr fs.outT.bx) (orS fs.outT.flat (az fs.outT.pure (az (isNil fs.ip) (lI Er fs.inT.bx))))
def trX (X:Cx) (t:Nat):Bool:=az X.tree (dY (cZ X.nt t))
def Ld (X:Cx) (fs:FS) (t:Nat):Bool:=az (trX X t) (L0 (trX X) fs)
def jh (ρ:cu):List Operand->List V|[]=>[]|x::r=>bX ρ x::jh ρ r
def mO:Option Tmp->Nat|some d=>d|none=>0
def zh (ρ:cu):Option Operand->Option V|none=>none|some x=>some (bX ρ x)
def isNone {α:Type}:Option α->Bool|none=>true|_=>false
def HC (T:Tys) (t:TypeId) (v:V):V:=match v with
 |.fa cts cs 0=>match bj T t with
  |some ⟨.pt e,_,_⟩=>match bj T e with
   |some d=>sif (qn cts d.cts) (.c (.pt e) (.p cs)) (.fa cts cs 0)
   |none=>.fa cts cs 0
  |_=>.fa cts cs 0
 |v=>v
def oB (T:Tys):List TypeId->List V->List V
 |t::ts,v::vs=>HC T t v::oB T ts vs
 |_,vs=>vs
def lE (X:Cx) (dst:Option Tmp) (ρ:cu) (c:Call):M Eff:=
 match c.callee with
 |.builtin .len=>match c.args.toList,c.argTypes.toList with|[x],[t]=>E6 X.T t (bX ρ x)|_,_=>M.fail
 |.builtin .append=>match c.args.toList,c.argTypes.toList with|[s,x],[t,t']=>do bd (Nat.beq t t');EL X t (mO dst) (bX ρ s) (bX ρ x)|_,_=>M.fail
 |.builtin .clear=>match c.args.toList,c.argTypes.toList with|[x],[t]=>wO X.T t (bX ρ x)|_,_=>M.fail
 |.builtin .min=>match jh ρ c.args.toList with|v::r=>mmV false v r|[]=>M.fail
 |.builtin .max=>match jh ρ c.args.toList with|v::r=>mmV true v r|[]=>M.fail
 |.value f=>match bX ρ f with
  |.fn g caps=>do let fs←opt (X.Φ g dst);y0 X.T (Ld X fs) fs (mO dst) (app (oB X.T c.argTypes.toList (jh ρ c.args.toList)) caps)
  |_=>M.fail
 |_=>M.fail
def asC:V->Option (CT×C)|.c t x=>some (t,x)|_=>none
def FI (t:CT) (q:Bool) (y z:C):C:=match t with
 |.int _=>.i (cond q y.I z.I)|.bool=>.b (cond q y.B z.B)|.str=>.s (cond q y.S z.S)|.sl _=>.l (cond q y.L z.L)|.pt _=>cond q y z|.fn=>cond q y z
def Dm (x:C) (a b:V):M Eff:=
 match asC a,asC b with
 |some (t,y),some (t',z)=>do bd (jg t t');rv (.c t (FI t x.B y z))
 |_,_=>fun bx k=>cond x.B (rv a bx k) (rv b bx k)
def Bf (T:Tys) (v:V):M V:=match v with
 |.c (.pt e) y=>do let d←opt (bj T e);chk y.isP;M.ret (.fa d.cts y.P 0)
 |v=>M.ret v
def j7 (z:C) (k:ByteArray):List (List C)->C
 |[]=>z
 |r::es=>cond (k.toList==(r.getD 0 .nil).S.toList) (r.getD 1 .nil) (j7 z k es)
def pN (k:ByteArray):List (List C)->Bool
 |[]=>false
 |r::es=>cond (k.toList==(r.getD 0 .nil).S.toList) true (pN k es)
def l8 (k:ByteArray) (v:C):List (List C)->List (List C)
 |[]=>[[.s k,v]]
 |r::es=>cond (k.toList==(r.getD 0 .nil).S.toList) ([.s k,v]::es) (r::l8 k v es)
def zg:List (Nat×Nat)->Nat->Option Nat
 |[],_=>none
 |(n,e)::r,t=>sif (Nat.beq n t) (some e) (zg r t)
def sP (d:TD):Option CT:=match d.dv,d.cts with
 |.int _,[.int k]=>some (.int k)|.bool,[.bool]=>some .bool|.str,[.str]=>some .str|_,_=>none
def xL (X:Cx) (t:TypeId) (m k:V) (ok:Bool):M Eff:=match m,k with
 |.mp b ver,.c .str key=>do
  let et←opt (zg X.mps t)
  let d←opt (bj X.T et)
  let ct←opt (sP d)
  match←bR b with
  |.mp v et' es=>do
   bd (az (Nat.beq v ver) (Nat.beq et et'))
   rv (sif ok (.tu [.c ct (j7 (ir ct) key.S es),.c .bool (.b (pN key.S es))]) (.c ct (j7 (ir ct) key.S es)))
  |_=>M.fail
 |_,_=>M.fail
def qd (X:Cx) (t:TypeId) (m k x:V):M Eff:=match m,k,x with
 |.mp b ver,.c .str key,.c ct' y=>do
  let et←opt (zg X.mps t)
  let d←opt (bj X.T et)
  let ct←opt (sP d)
  match←bR b with
  |.mp v et' es=>do
   bd (az (az (Nat.beq v ver) (Nat.beq et et')) (jg ct ct'))
   M.ret ⟨.un,[(b,.mp v et (l8 key.S y es))]⟩
  |_=>M.fail
 |_,_,_=>M.fail
def yD (X:Cx) (t:TypeId) (b:Nat):M Eff:=do
 let et←opt (zg X.mps t)
 let d←opt (bj X.T et)
 let _←opt (sP d)
 let ver←dq b
 M.ret ⟨.mp b ver,[(b,.mp ver et [])]⟩
def evalOp (X:Cx) (dst:Option Tmp) (ρ:cu):Op->M Eff
 |.move x=>rv (bX ρ x)
 |.assign x=>rv (bX ρ x)
 |.pick c a b=>
  match bX ρ c with
  |.c .bool x=>Dm x (bX ρ a) (bX ρ b)
  |_=>M.fail
 |.alloc t=>do
  let d←opt (bj X.T t)
  let ver←dq (mO dst)
  M.ret ⟨.pt (mO dst) ver 0,[(mO dst,.var ver t (d.cts.map ya))]⟩
 |.box t x=>do
  let d←opt (bj X.T t)
  let ver←dq (mO dst)
  bd (Nat.beq (len (bI (bX ρ x))) (len d.cts))
  bd (eN (bI (bX ρ x)))
  M.ret ⟨.pt (mO dst) ver 0,[(mO dst,.var ver t (bI (bX ρ x)))]⟩
 |.build t ps=>wD X.T t ρ ps.toList
 |.buildSlice t n ps=>j6 X.T t n (mO dst) ρ ps.toList
 |.load t a=>do let p←Bf X.T (bX ρ a);ldV X.T t p
 |.store t a x=>IM X.T t (bX ρ x) (bX ρ a)
 |.nilCheck x=>oU X.T (bX ρ x)
 |.binOp op t x y _=>HP X op t (bX ρ x) (bX ρ y)
 |.unOp op _ x=>
  match op,bX ρ x with
  |.not,.c .bool y=>rv (.c .bool (.b (!y.B)))
  |.neg,.c (.int k) y=>rv (.c (.int k) (.i (k.wrap (0-y.I))))
  |_,_=>M.fail
 |.convert s d x=>FG X.T s d (bX ρ x)
 |.makeFunc (.func f) first caps=>do bd (isNil first.toList);rv (.fn f (jh ρ caps.toList))
 |.makeSlice t l c=>nA X.T t (mO dst) (bX ρ l) (bX ρ c)
 |.slice t x lo hi mx=>do bd (isNone mx);tP X.T t (bX ρ x) (zh ρ lo) (zh ρ hi)
 |.fieldAddr s x f=>do let p←Bf X.T (bX ρ x);mZ X.T s f p
 |.field s x f=>yc X.T s f (bX ρ x)
 |.indexAddr t x i=>nG X.T t (bX ρ x) (bX ρ i)
 |.makeMap t none=>yD X t (mO dst)
 |.lookup t m k ok=>xL X t (bX ρ m) (bX ρ k) ok
 |.mapUpdate t m k x=>qd X t (bX ρ m) (bX ρ k) (bX ρ x)
 |.index t x i=>yb X.T t (bX ρ x) (bX ρ i)
 |.extract x i=>match bX ρ x with|.tu l=>do rv (←opt (uA l i))|_=>M.fail
 |.call c=>lE X dst ρ c
 |_=>M.fail
def dL (f:Bxs):List (Nat×Box)->Bxs
 |[]=>f
 |(b,x)::r=>dL (upd f b (some x)) r
def uC (f:cu) (d:Option Tmp) (v:V):cu:=match d with|some d=>upd f d v|none=>f
def BH (σ:St) (dst:Option Tmp) (e:Eff):St:=⟨uC σ.sl dst e.v,dL σ.bx e.up⟩
structure Lg where
 rd:List Nat
 wr:List Nat
def meets (a b:List Nat):Bool:=match a with|[]=>false|x::r=>orS (cZ b x) (meets r b)
def Lg.xg (a b:Lg):Bool:=orS (meets a.wr b.rd) (orS (meets a.wr b.wr) (meets b.wr a.rd))
def guardOf (ops:List Oper) (o:Oper):Option (Option Tmp×Bool):=
 match o.guard with
 |none=>none
 |some (g,want)=>some (match uA ops g with|some q=>q.dst|none=>none,want)
def Bg (n:Nat):Option Tmp->Bool|none=>true|some d=>Nat.blt d n
def rU:List Operand->List Nat|[]=>[]|.tmp t::r=>t::rU r|_::r=>rU r
def looks (ops:List Oper) (o:Oper):List Nat:=
 app (rU o.op.operands.toList) (match guardOf ops o with|some (some g,_)=>[g]|_=>[])
def kJ (e:Edge):Bool:=Region.binds .any e
def Gm:List Nat->List Nat->List Nat|[],m=>m|a::r,m=>sif (cZ m a) (Gm r m) (a::Gm r m)
def uni (l m:List Nat):List Nat:=match m with|[]=>l|m=>Gm l m
def anc:List Oper->List (List Nat)->List (List Nat)
 |[],acc=>acc
 |o::r,acc=>anc r (app acc [o.after.toList.foldl (fun s e=>sif (kJ e) (sif (cZ s e.on) s (e.on::uni (nth [] acc e.on) s)) s) []])
def pZ (ops:List Oper) (x y:Oper):Bool:=
 az (match x.dst with|some d=>az (dY (cZ (looks ops y) d)) (match y.dst with|some d'=>dY (Nat.beq d d')|none=>true)|none=>true)
 (match y.dst with|some d=>dY (cZ (looks ops x) d)|none=>true)
def nL (ops:List Oper) (an:List Nat) (o:Oper) (g:Lg):List (Oper×Lg)->Nat->Bool
 |[],_=>true
 |(q,h)::r,j=>az (orS (cZ an j) (az (pZ ops q o) (dY (Lg.xg h g)))) (nL ops an o g r (j+1))
def oP:V->V|.c .bool x=>.c .bool (.b x.B)|v=>v
def BN (n:Nat) (o:Oper):Bool:=match o.guard with|none=>true|some (g,_)=>Nat.blt g n
def uQ (n:Nat) (e:Edge):Bool:=orS (dY (kJ e)) (Nat.blt e.on n)
def I9 {α:Type} (f:α->Bool):List α->Bool|[]=>true|x::r=>az (f x) (I9 f r)
def pG:List Oper->Nat->Bool|[],_=>true|o::r,n=>az (I9 (uQ n) o.after.toList) (pG r (n+1))
def kL (X:Cx) (draw:Bool) (ops:List Oper) (an:List (List Nat)) (κ:St->R):List Oper->List (Oper×Lg)->St->R
 |[],_,σ=>κ σ
 |o::r,lg,σ=>
  sif (az (Bg X.n o.dst) (BN (len lg) o)) (
  match guardOf ops o with
  |none=>evalOp X o.dst σ.sl o.op σ.bx fun e rd=>
    sif (orS (dY draw) (nL ops (nth [] an (len lg)) o ⟨rd,bZ e.up⟩ lg 0))
     (e.v.force fun v=>wu e.up fun up=>kL X draw ops an κ r (app lg [(o,⟨rd,bZ e.up⟩)]) (BH σ o.dst ⟨oP v,up⟩)) none
  |some (some gd,want)=>match σ.sl gd with
   |.c .bool x=>cond (sif want x.B (!x.B))
     (evalOp X o.dst (upd σ.sl gd (.c .bool (.b want))) o.op σ.bx fun e rd=>
      sif (orS (dY draw) (nL ops (nth [] an (len lg)) o ⟨rd,bZ e.up⟩ lg 0))
       (e.v.force fun v=>wu e.up fun up=>kL X draw ops an κ r (app lg [(o,⟨rd,bZ e.up⟩)]) (BH ⟨upd σ.sl gd (.c .bool (.b want)),σ.bx⟩ o.dst ⟨oP v,up⟩)) none)
     (sif (orS (dY draw) (nL ops (nth [] an (len lg)) o ⟨[],[]⟩ lg 0))
      (kL X draw ops an κ r (app lg [(o,⟨[],[]⟩)]) ⟨uC (upd σ.sl gd (.c .bool (.b (dY want)))) o.dst .ud,σ.bx⟩) none)
   |.ud=>sif (orS (dY draw) (nL ops (nth [] an (len lg)) o ⟨[],[]⟩ lg 0))
      (kL X draw ops an κ r (app lg [(o,⟨[],[]⟩)]) ⟨uC σ.sl o.dst .ud,σ.bx⟩) none
   |_=>none
  |some (none,_)=>none) none
inductive Ann where
 |leaf|seq (a b:Ann)|cond (a b:Ann)|block (t:Tm) (a:Ann)|loop (t:Tm) (a:Ann)|join (t:Tm) (a:Ann)|frz (bs:List Nat) (a:Ann)|skip (a:Ann)|cut (d:Nat) (a:Ann)|cutc (n i:Nat) (a:Ann)|scp (l:Nat) (t:Tm) (a b:Ann)
def ah (id:Nat) (r:R) (K:List C->R):R:=
 match r with
 |some (.brk j xs)=>sif (Nat.beq j id) (K xs) (some (.brk j xs))
 |r=>r
def aZ (r:R) (K:List C->R):R:=
 match r with
 |some (.nrm xs)=>K xs
 |r=>r
def iter (body:List C->R):Nat->List C->R
 |0,_=>none
 |k+1,xs=>match body xs with
  |some (.again ys)=>iter body k ys
  |r=>r
open Classical in
noncomputable def lim (body:List C->R) (xs:List C):R:=
 if h:∃k,(iter body k xs).isSome then iter body (Classical.choose h) xs else none
def AM (bs:List Nat):List Nat->Bool
 |[]=>true
 |b::r=>az (cZ bs b) (AM bs r)
mutual
def V.frz (T:Tys) (bx:Bxs) (bs:List Nat):V->V
 |.ow b ver=>sif (cZ bs b) (match bx b with
  |some (.arr v t es m)=>sif (az (Nat.beq v ver) (dY (Nat.beq m 3))) (.c (.sl t) (.l es)) .un
  |_=>.un) (.ow b ver)
 |.vw b ver lo hi=>sif (cZ bs b) (match bx b with
  |some (.arr v t es m)=>sif (az (Nat.beq v ver) (dY (Nat.beq m 3))) (.c (.sl t) (.l ((es.take hi.toNat).drop lo.toNat))) .un
  |_=>.un) (.vw b ver lo hi)
 |.rf b ver ix off e=>sif (cZ bs b) .un (.rf b ver ix off e)
 |.pe b ver ix off nb=>sif (cZ bs b) (match bx b with
  |some (.arr v t es m)=>sif (az (az (Nat.beq v ver) (dY (Nat.beq m 3))) (dY nb)) (match bj T t with|some d=>.fa d.cts (es.getD ix.toNat []) off|none=>.un) .un
  |_=>.un) (.pe b ver ix off nb)
 |.pt b ver off=>sif (cZ bs b) (match bx b with
  |some (.var v t cells)=>sif (Nat.beq v ver) (match bj T t with
   |some d=>match j9 bx d.cts cells with
    |some (cs,f)=>sif (AM bs f) (match off with|0=>.c (.pt t) (.p cs)|off=>.fa d.cts cs off) .un
    |none=>.un
   |none=>.un) .un
  |_=>.un) (.pt b ver off)
 |.mp b ver=>sif (cZ bs b) .un (.mp b ver)
 |.ag l o=>.ag (V.yN T bx bs l) o
 |.tu l=>.tu (V.yN T bx bs l)
 |.fn f l=>.fn f (V.yN T bx bs l)
 |.un=>.un|.ud=>.ud|.c q x=>.c q x|.nl=>.nl|.np=>.np|.fa x y z=>.fa x y z
def V.yN (T:Tys) (bx:Bxs) (bs:List Nat):List V->List V
 |[]=>[]
 |v::r=>v.frz T bx bs::V.yN T bx bs r
end
def Box.frz (T:Tys) (bx:Bxs) (bs:List Nat):Box->Box
 |.var v t cells=>.var v t (V.yN T bx bs cells)
 |x=>x
def St.frz (T:Tys) (bs:List Nat) (σ:St):St:=
 ⟨fun k=>(σ.sl k).frz T σ.bx bs,
  fun b=>match σ.bx b with
   |some x=>some (sif (cZ bs b) (.dead (x.ver+1)) (x.frz T σ.bx bs))
   |none=>none⟩
def mT (T:Tys) (t:TypeId):Nat:=match bj T t with|some d=>mF d|none=>0
def St.cut (T:Tys) (d:Nat) (σ:St):St:=match σ.sl d with
 |.vw b ver lo hi=>match σ.bx b with
  |some (.arr v t es m)=>sif (az (Nat.beq v ver) (Nat.blt m 2)) (match lo with
   |.ofNat 0=>⟨upd σ.sl d (.ow b (v+1)),upd σ.bx b (some (.arr (v+1) t (es.take hi.toNat) (mT T t)))⟩
   |lo=>⟨upd σ.sl d (.ow b (v+1)),upd σ.bx b (some (.arr (v+1) t ((es.take hi.toNat).drop lo.toNat) (mT T t)))⟩) σ
  |_=>σ
 |_=>σ
def St.Ej (d:Nat) (σ:St):Bool:=match σ.sl d with
 |.vw _ _ lo hi=>(match lo with|.ofNat 0=>true|lo=>decide (lo<hi))
 |_=>true
def St.Ie (T:Tys) (n i:Nat) (σ:St):St:=match σ.bx n with
 |some (.var w t cells)=>match uA cells i with
  |some (.vw b ver lo hi)=>match σ.bx b with
   |some (.arr v te es m)=>sif (az (Nat.beq v ver) (Nat.blt m 2)) (match lo with
    |.ofNat 0=>⟨σ.sl,upd (upd σ.bx b (some (.arr (v+1) te (es.take hi.toNat) (mT T te)))) n (some (.var w t (EJ cells i (.ow b (v+1)))))⟩
    |lo=>⟨σ.sl,upd (upd σ.bx b (some (.arr (v+1) te ((es.take hi.toNat).drop lo.toNat) (mT T te)))) n (some (.var w t (EJ cells i (.ow b (v+1)))))⟩) σ
   |_=>σ
  |_=>σ
 |_=>σ
def St.yY (n i:Nat) (σ:St):Bool:=match σ.bx n with
 |some (.var _ _ cells)=>match uA cells i with
  |some (.vw _ _ lo hi)=>(match lo with|.ofNat 0=>true|lo=>decide (lo<hi))
  |_=>true
 |_=>true
def BI (T:Tys) (σ:St):ResultVar->Option V
 |.tmp t=>some (σ.sl t)
 |.cell a t=>match bj T t,σ.sl a with
  |some d,.pt b ver off=>match σ.bx b with
   |some (.var v _ cells)=>sif (az (Nat.beq v ver) (Nat.ble (off+len d.cts) (len cells))) (mkV d (tak (len d.cts) (drp off cells))) none
   |_=>none
  |_,_=>none
def wN (T:Tys) (σ:St):List ResultVar->Option (List V)
 |[]=>some []
 |r::rs=>match BI T σ r with
  |some v=>match wN T σ rs with|some vs=>some (v::vs)|none=>none
  |none=>none
def Li (T:Tys) (σ:St) (rs:List ResultVar):Option V:=
 match wN T σ rs with
 |some [v]=>some v
 |some vs=>some (.tu vs)
 |none=>none
def xZ:List Nat->Ren|[]=>[]|n::r=>(n,some n)::xZ r
def E7 (bx:Bxs):List Nat->Bool
 |[]=>true
 |n::r=>az (match bx n with|some x=>az (Nat.beq x.ver 0) (dY (Nat.beq x.m 4))|none=>false) (E7 bx r)
def rh (X:Cx) (σ:St):R:=
 match Li X.T σ X.res with
 |some v=>sif (az (E7 σ.bx X.ip) (mR X.inT.bx X.ip)) (match X.outT.ext X.T (xZ X.ip) ⟨upd (fun _=>.un) 0 v,σ.bx⟩ with
  |some e=>sif (isNil e.fz) (some (.ret (rev e.xs []))) none
  |none=>none) none
 |none=>none
abbrev Jn:=List (Nat×Tm)
def rj:Jn->Nat->Option Tm
 |[],_=>none
 |(n,t)::r,i=>sif (Nat.beq n i) (some t) (rj r i)
def vU (i:Nat):Jn->Jn|[]=>[]|(n,t)::r=>sif (Nat.beq n i) (vU i r) ((n,t)::vU i r)
def wP (X:Cx) (t:Tm) (σ:St):Bool:=az (E7 σ.bx X.ip) (az (mR t.bx X.ip) (mR X.inT.bx X.ip))
def qx (X:Cx) (t:Tm) (σ:St) (f:List C->Out):R:=sif (wP X t σ) (match t.data X.T (xZ X.ip) σ with|some xs=>some (f xs)|none=>none) none
def wrap (X:Cx) (f:Ann->(St->R)->St->R):Ann->(St->R)->St->R
 |.frz bs a,κ,σ=>wrap X f a κ (σ.frz X.T bs)
 |.cut d a,κ,σ=>cond (σ.Ej d) (wrap X f a κ (σ.cut X.T d)) none
 |.cutc n i a,κ,σ=>cond (σ.yY n i) (wrap X f a κ (σ.Ie X.T n i)) none
 |.join t a,κ,σ=>aZ (wrap X f a (fun σ'=>qx X t σ' .nrm) σ) fun xs=>t.qQ xs κ
 |a,κ,σ=>f a κ σ
noncomputable def ev (X:Cx):Code->Jn->Ann->(St->R)->St->R
 |.skip,_=>wrap X fun _ κ σ=>κ σ
 |.region _ ops draw,_=>wrap X fun _ κ σ=>sif (orS (dY draw) (pG ops.toList 0)) (kL X draw ops.toList (sif draw (anc ops.toList []) []) κ ops.toList [] σ) none
 |.seq a b,J=>wrap X fun n κ σ=>match n with
  |.seq x y=>ev X a J x (fun σ=>ev X b J y κ σ) σ
  |_=>ev X a J .leaf (fun σ=>ev X b J .leaf κ σ) σ
 |.cond q a b,J=>wrap X fun n κ σ=>match bX σ.sl q with
  |.c .bool z=>match n with
   |.cond x y=>cond z.B (ev X a J x κ σ) (ev X b J y κ σ)
   |_=>cond z.B (ev X a J .leaf κ σ) (ev X b J .leaf κ σ)
  |_=>none
 |.label _,_=>wrap X fun _ κ σ=>κ σ
 |.goto l,J=>wrap X fun _ _ σ=>match rj J (Nat.add 1000000 l) with
  |some t=>qx X t σ (.brk (Nat.add 1000000 l))
  |none=>none
 |.block id a,J=>wrap X fun n κ σ=>sif (Nat.ble id 999999) (match n with
  |.block t x=>ah id (ev X a ((id,t)::J) x (fun σ'=>qx X t σ' (.brk id)) σ) fun xs=>t.qQ xs κ
  |.skip x=>ev X a (vU id J) x κ σ
  |_=>ev X a (vU id J) .leaf κ σ) none
 |.loop a,J=>wrap X fun n _ σ=>match n with
  |.loop t x=>sif (wP X t σ) (match t.data X.T (xZ X.ip) σ with
   |some xs=>lim (fun xs=>t.qQ xs (ev X a J x fun σ'=>qx X t σ' .again)) xs
   |none=>none) none
  |_=>none
 |.exit id,J=>wrap X fun _ _ σ=>sif (Nat.ble id 999999) (match rj J id with
  |some t=>qx X t σ (.brk id)
  |none=>none) none
 |.ret,_=>wrap X fun _ _ σ=>rh X σ
 |_,_=>fun _ _ _=>none
def aU:R->Option (List C)|some (.ret ys)=>some ys|_=>none
def goA (g:Nat) (r:R):R:=match r with
 |some (.brk j ys)=>sif (Nat.beq j g) (some (.again ys)) none
 |r=>r
noncomputable def Cz (g:Nat) (r:R) (f:List C->R):R:=match r with
 |some (.brk j ys)=>sif (Nat.beq j g) (lim (fun xs=>goA g (f xs)) ys) none
 |r=>r
noncomputable def evS (X:Cx) (l:Nat) (t:Tm) (x y:Ann) (c:Code) (σ:St):R:=match findLabel c l with
 |some c'=>Cz (Nat.add 1000000 l) (ev X c [(Nat.add 1000000 l,t)] x (fun σ=>rh X σ) σ) fun xs=>t.qQ xs (ev X c' [(Nat.add 1000000 l,t)] y fun σ=>rh X σ)
 |none=>none
noncomputable def evT (X:Cx) (a:Ann) (c:Code):St->R:=match a,c with
 |.seq x (.scp l t y z),.seq b (.scope c)=>ev X b [] x fun σ=>evS X l t y z c σ
 |a,c=>ev X c [] a fun σ=>rh X σ
noncomputable def evF (X:Cx) (c:Code) (a:Ann) (xs:List C):Option (List C):=aU (X.inT.qQ xs (evT X a c))
end Go.Ev
namespace Go.Ev
section
variable {α:Type}
theorem dA (l:List α):len l=l.length:=by induction l<;>simp[len, *]
theorem sZ (d:α) (l:List α) (n:Nat):nth d l n=l.getD n d:=by
 induction l generalizing n with
 |nil=>simp[nth]
 |cons x r ih=>cases n<;>simp[nth,ih]
theorem nU (l:List α) (n:Nat):uA l n=l[n]?:=by
 induction l generalizing n with
 |nil=>simp[uA]
 |cons x r ih=>cases n<;>simp[uA,ih]
theorem qC (n:Nat) (l:List α):tak n l=l.take n:=by
 induction n generalizing l with
 |zero=>cases l<;>simp[tak]
 |succ n ih=>cases l<;>simp[tak,ih]
theorem rz (n:Nat) (l:List α):drp n l=l.drop n:=by
 induction n generalizing l with
 |zero=>cases l<;>simp[drp]
 |succ n ih=>cases l<;>simp[drp,ih]
theorem fP (l m:List α):app l m=l++m:=by induction l<;>simp[app, *]
theorem rev_eq (l m:List α):rev l m=l.reverse++m:=by induction l generalizing m<;>simp[rev, *]
theorem Jd (n:Nat) (x:α):JI n x=List.replicate n x:=by induction n<;>simp[JI,List.replicate_succ, *]
theorem xG (l:List α) (i:Nat) (x:α):EJ l i x=l.set i x:=by
 induction l generalizing i with
 |nil=>simp[EJ]
 |cons y r ih=>cases i<;>simp[EJ,ih]
end
theorem ai {α:Type} (a b:α):sif true a b=a:=rfl
theorem aX {α:Type} (a b:α):sif false a b=b:=rfl
theorem ao (a b:Bool):az a b=(a&&b):=by cases a<;>rfl
theorem kN (a b:Bool):orS a b=(a||b):=by cases a<;>rfl
theorem cX (a:Bool):dY a=!a:=by cases a<;>rfl
theorem nP {a b:IntKind} (h:yh a b=true):a=b:=by cases a<;>cases b<;>first|rfl|exact absurd h (by decide)
theorem gI {a b:CT} (h:jg a b=true):a=b:=by
 cases a<;>cases b<;>simp only[jg] at h<;>first|rfl|(rw[nP h])|(rw[Mi h])|exact absurd h (by decide)
theorem cN (l:List Nat) (a:Nat):cZ l a=true↔a∈l:=by
 induction l with
 |nil=>simp[cZ]
 |cons b r ih=>
  simp only[cZ,kN,MX,ih,Mw]
  refine or_congr ⟨fun h=>(Mi h).symm,fun h=>?_⟩ Iff.rfl
  subst h
  exact Nat.beq_refl _
theorem ar {α:Type} (f:Nat->α) (d:Nat) (v:α):upd f d v d=v:=by simp[upd,sif]
theorem aY {α:Type} (f:Nat->α) {d k:Nat} (v:α) (h:k≠d):upd f d v k=f k:=by
 have:Nat.beq k d=false:=by
  cases hb:Nat.beq k d with
  |false=>rfl
  |true=>exact absurd (Mi hb) h
 simp[upd,this,sif]
theorem sj {α:Type} (f:Nat->α) (d:Nat) (v:α) (k:Nat):upd f d v k=if k=d then v else f k:=by
 split
 ·rename_i h;subst h;exact ar _ _ _
 ·rename_i h;exact aY _ _ h
mutual
theorem force_eq {β:Type}:∀(v:V) (k:V->β),v.force k=k v
 |.un,_=>rfl|.ud,_=>rfl|.c _ _,_=>rfl|.nl,_=>rfl|.np,_=>rfl|.ow _ _,_=>rfl|.mp _ _,_=>rfl|.vw _ _ _ _,_=>rfl|.pt _ _ _,_=>rfl
 |.pe _ _ _ _ _,_=>rfl|.rf _ _ _ _ _,_=>rfl|.fa _ _ _,_=>rfl
 |.ag l _,k=>mH l _
 |.tu l,k=>mH l _
 |.fn _ l,k=>mH l _
theorem mH {β:Type}:∀(l:List V) (k:List V->β),V.qT l k=k l
 |[],_=>rfl
 |v::r,k=>by
  show v.force _=_
  rw[force_eq v,mH r]
end
theorem DW {β:Type} (x:Box) (k:Box->β):x.force k=k x:=by
 cases x with
 |var v t cells=>exact mH cells _
 |arr v t es m=>rfl
 |mp v t es=>rfl
 |dead v=>rfl
theorem Bx {β:Type}:∀(l:List (Nat×Box)) (k:List (Nat×Box)->β),wu l k=k l
 |[],_=>rfl
 |(b,x)::r,k=>by
  show x.force _=_
  rw[DW,Bx r]
def dT (fs:List Field):List (Nat×TypeId):=fs.map fun f=>(f.offset,f.type)
def eo:TypeDesc->DV
 |.bool=>.bool|.int k=>.int k|.string=>.str|.slice e=>.sl e|.pointer e=>.pt e
 |.struct fs=>.st (dT fs.toList)
 |.func _ _ _=>.fn
 |_=>.other
def cd:CT->Value
 |.int k=>.int k 0|.bool=>.bool false|.str=>.string ⟨#[]⟩|.sl _=>.slice none 0 0|.pt _=>.pointer none|.fn=>.nilFunc
def zeroOf (d:TD):Value:=if d.agg then .agg (d.cts.map cd).toArray else match d.cts with|[t]=>cd t|_=>undef
structure mz (P:Program) (T:Tys) (t:TypeId) (d:TD):Prop where
 info:∃i,P.info? t=some i/\i.zero=some (zeroOf d)/\i.size=d.cts.length/\i.bytes=d.bytes
 desc:∃u,P.underlying t=some u/\eo u=d.dv
 pos:0<d.cts.length
 leaf:match d.dv with
  |.bool=>d.cts=[.bool]|.int k=>d.cts=[.int k]|.str=>d.cts=[.str]|.sl e=>d.cts=[.sl e]|.pt e=>d.cts=[.pt e]|.fn=>d.cts=[.fn]
  |.st fs=>∀o f,(o,f)∈fs->∀df,bj T f=some df->(d.cts.drop o).take df.cts.length=df.cts
  |.other=>False
def TOk (P:Program) (T:Tys):Prop:=∀t d,bj T t=some d->mz P T t d
inductive cE (T:Tys) (F:Nat->Prop) (w:World):CT->C->Value->Prop
 |int (k n):cE T F w (.int k) (.i n) (.int k n)
 |bool (x):cE T F w .bool (.b x) (.bool x)
 |str (x):cE T F w .str (.s x) (.string x)
 |sl0 (e a cap):cE T F w (.sl e) (.l []) (.slice a 0 cap)
 |sl (e:TypeId) (d:TD) (es:List (List C)) (g o cap:Nat) (cv:Nat->Nat->Value) (hd:bj T e=some d) (hF:F g) (hcap:es.length<=cap)
   (hlen:∀(i:Nat) (cs:List C),es[i]?=some cs->cs.length=d.cts.length)
   (hc:∀(i:Nat) (cs:List C) (j:Nat) (c:C),es[i]?=some cs->cs[j]?=some c->w.cell? ⟨g,o+(i*d.cts.length+j),none⟩=some (cv i j))
   (hr:∀(i:Nat) (cs:List C) (j:Nat) (c:C) (t:CT),es[i]?=some cs->cs[j]?=some c->d.cts[j]?=some t->cE T F w t c (cv i j)):
   cE T F w (.sl e) (.l es) (.slice (some ⟨g,o,none⟩) es.length cap)
 |pt0 (e):cE T F w (.pt e) .nil (.pointer none)
 |fn0:cE T F w .fn .nil .nilFunc
 |pt (e:TypeId) (d:TD) (cs:List C) (g o:Nat) (cv:Nat->Value) (hd:bj T e=some d) (hF:F g) (hlen:cs.length=d.cts.length)
   (hc:∀(j:Nat) (c:C),cs[j]?=some c->w.cell? ⟨g,o+j,none⟩=some (cv j))
   (hr:∀(j:Nat) (c:C) (t:CT),cs[j]?=some c->d.cts[j]?=some t->cE T F w t c (cv j)):
   cE T F w (.pt e) (.p cs) (.pointer (some ⟨g,o,none⟩))
theorem fZ {w w':World} {g:Nat} (h:w'.heap[g]?=w.heap[g]?) (k:Nat):w'.cell? ⟨g,k,none⟩=w.cell? ⟨g,k,none⟩:=by
 simp only[World.cell?,h]
theorem cE.mv {T:Tys} {F F':Nat->Prop} {w w':World} {t:CT} {c:C} {v:Value} (h:cE T F w t c v)
  (hF:∀k,F k->F' k) (hw:∀k,F k->w'.heap[k]?=w.heap[k]?):cE T F' w' t c v:=by
 induction h with
 |int k n=>exact .int k n
 |bool x=>exact .bool x
 |str x=>exact .str x
 |sl0 e a cap=>exact .sl0 e a cap
 |sl e d es g o cap cv hd hg hcap hlen hc hr ih=>
  exact .sl e d es g o cap cv hd (hF _ hg) hcap hlen (fun i cs j c h1 h2=>by rw[fZ (hw _ hg)];exact hc i cs j c h1 h2) ih
 |pt0 e=>exact .pt0 e
 |fn0=>exact .fn0
 |pt e d cs g o cv hd hg hlen hc hr ih=>
  exact .pt e d cs g o cv hd (hF _ hg) hlen (fun j c h1=>by rw[fZ (hw _ hg)];exact hc j c h1) ih
def CT.flat:CT->Bool|.int _=>true|.bool=>true|.str=>true|_=>false
theorem cE.flat {T:Tys} {F F':Nat->Prop} {w w':World} {t:CT} {c:C} {v:Value} (h:cE T F w t c v) (ht:t.flat=true):cE T F' w' t c v:=by
 cases h with
 |int k n=>exact .int k n
 |bool x=>exact .bool x
 |str x=>exact .str x
 |sl0=>simp[CT.flat] at ht
 |sl=>simp[CT.flat] at ht
 |pt0=>simp[CT.flat] at ht
 |fn0=>simp[CT.flat] at ht
 |pt=>simp[CT.flat] at ht
theorem cH:∀ {ts:List CT},bF ts=true->∀(i:Nat) (t:CT),ts[i]?=some t->t.flat=true
 |[],_,i,t,h=>by simp at h
 |c::r,hk,i,t,h=>by
  have hr:c.flat=true/\bF r=true:=by cases c<;>simp_all [bF,CT.flat]
  cases i with
  |zero=>simp at h;rw[←h];exact hr.1
  |succ i=>exact cH hr.2 i t (by simpa using h)
def cM (T:Tys) (w:World) (t:TypeId) (es:List (List C)) (v:Value) (i j:Nat) (ct:CT) (c:C) (u:Value):Prop:=
 ∃d g o n cap cs,bj T t=some d/\v=.slice (some ⟨g,o,none⟩) n cap/\es[i]?=some cs/\cs[j]?=some c/\d.cts[j]?=some ct/\w.cell? ⟨g,o+(i*d.cts.length+j),none⟩=some u
inductive InT (T:Tys) (w:World):CT->C->Value->Nat->Prop
 |root (e es g o n cap):InT T w (.sl e) (.l es) (.slice (some ⟨g,o,none⟩) n cap) g
 |sub (e es v i j ct c u k) (h:cM T w e es v i j ct c u) (hk:InT T w ct c u k):InT T w (.sl e) (.l es) v k
def Nst (T:Tys) (w:World) (t:TypeId) (es:List (List C)) (v:Value) (k:Nat):Prop:=∃i j ct c u,cM T w t es v i j ct c u/\InT T w ct c u k
def HX (T:Tys) (w:World) (t:TypeId) (es:List (List C)) (v:Value):Prop:=
 ∀i j ct c u i' j' ct' c' u' k,cM T w t es v i j ct c u->cM T w t es v i' j' ct' c' u'->InT T w ct c u k->InT T w ct' c' u' k->i=i'/\j=j'
inductive ji (T:Tys) (w:World):CT->C->Value->Prop
 |base (t c v) (h:cE T (fun _=>False) w t c v) (hb:∀e,t=.sl e->v=.slice none 0 0):ji T w t c v
 |sl (e d es g o cap arr) (hd:bj T e=some d) (hg:w.heap[g]?=some (.cells arr e (0,0))) (hs:arr.size=o+cap*d.cts.length) (hc:es.length<=cap/\cap<=maxLen)
   (hlen:∀(i:Nat) (cs:List C),es[i]?=some cs->cs.length=d.cts.length)
   (hr:∀i j ct c u,cM T w e es (.slice (some ⟨g,o,none⟩) es.length cap) i j ct c u->ji T w ct c u)
   (hn:¬Nst T w e es (.slice (some ⟨g,o,none⟩) es.length cap) g) (hj:HX T w e es (.slice (some ⟨g,o,none⟩) es.length cap)):ji T w (.sl e) (.l es) (.slice (some ⟨g,o,none⟩) es.length cap)
theorem cM.mv {T:Tys} {w w':World} {t:TypeId} {es:List (List C)} {v:Value} {i j:Nat} {ct:CT} {c:C} {u:Value} (h:cM T w t es v i j ct c u) (hh:∀g o n cap,v=.slice (some ⟨g,o,none⟩) n cap->w'.heap[g]?=w.heap[g]?):cM T w' t es v i j ct c u:=by
 obtain ⟨d,g,o,n,cap,cs,h1,rfl,h3,h4,h5,h6⟩:=h
 exact ⟨d,g,o,n,cap,cs,h1,rfl,h3,h4,h5,by rw[fZ (hh _ _ _ _ rfl)];exact h6⟩
theorem InT.mv {T:Tys} {w w':World} {t:CT} {c:C} {v:Value} {k:Nat} (h:InT T w t c v k) (hh:∀k,InT T w t c v k->w'.heap[k]?=w.heap[k]?):InT T w' t c v k:=by
 induction h with
 |root e es g o n cap=>exact .root e es g o n cap
 |sub e es v i j ct c u k h hk ih=>
  exact .sub e es v i j ct c u k (h.mv fun g o n cap e1=>by subst e1;exact hh g (.root _ _ _ _ _ _)) (ih fun k hk=>hh k (.sub _ _ _ _ _ _ _ _ _ h hk))
theorem cM.mv' {T:Tys} {w w':World} {t:TypeId} {es:List (List C)} {v:Value} {i j:Nat} {ct:CT} {c:C} {u:Value} (h:cM T w' t es v i j ct c u) (hh:∀g o n cap,v=.slice (some ⟨g,o,none⟩) n cap->w'.heap[g]?=w.heap[g]?):cM T w t es v i j ct c u:=
 h.mv fun g o n cap e=>(hh g o n cap e).symm
theorem InT.mv' {T:Tys} {w w':World} {t:CT} {c:C} {v:Value} {k:Nat} (h:InT T w' t c v k) (hh:∀k,InT T w t c v k->w'.heap[k]?=w.heap[k]?):InT T w t c v k:=by
 induction h with
 |root e es g o n cap=>exact .root e es g o n cap
 |sub e es v i j ct c u k h hk ih=>
  have h1:cM T w e es v i j ct c u:=h.mv' fun g o n cap e1=>by subst e1;exact hh g (.root _ _ _ _ _ _)
  exact .sub e es v i j ct c u k h1 (ih fun k hk=>hh k (.sub _ _ _ _ _ _ _ _ _ h1 hk))
theorem ji.mv {T:Tys} {w w':World} {t:CT} {c:C} {v:Value} (h:ji T w t c v) (hh:∀k,InT T w t c v k->w'.heap[k]?=w.heap[k]?):ji T w' t c v:=by
 induction h with
 |base t c v h hb=>exact .base t c v (h.mv (fun _ h=>h) fun _ h=>h.elim) hb
 |sl e d es g o cap arr hd hg hs hc hlen hr hn hj ih=>
  have hr0:∀g' o' n cap',(Value.slice (some ⟨g,o,none⟩) es.length cap)=.slice (some ⟨g',o',none⟩) n cap'->w'.heap[g']?=w.heap[g']?:=fun g' o' n cap' e1=>by
   simp only[ML,Mj,Addr.mk.injEq] at e1
   obtain ⟨⟨rfl,_⟩,_⟩:=e1
   exact hh _ (.root _ _ _ _ _ _)
  have back:∀i j ct c u,cM T w' e es (.slice (some ⟨g,o,none⟩) es.length cap) i j ct c u->cM T w e es (.slice (some ⟨g,o,none⟩) es.length cap) i j ct c u:=fun i j ct c u h=>h.mv' hr0
  have bi:∀i j ct c u k,cM T w e es (.slice (some ⟨g,o,none⟩) es.length cap) i j ct c u->InT T w' ct c u k->InT T w ct c u k:=fun i j ct c u k h hk=>hk.mv' fun k hk=>hh k (.sub _ _ _ _ _ _ _ _ _ h hk)
  refine .sl e d es g o cap arr hd (by rw[hh g (.root _ _ _ _ _ _)];exact hg) hs hc hlen (fun i j ct c u h=>ih i j ct c u (back _ _ _ _ _ h) fun k hk=>hh k (.sub _ _ _ _ _ _ _ _ _ (back _ _ _ _ _ h) hk)) ?_ ?_
  ·rintro ⟨i,j,ct,c,u,h1,h2⟩
   exact hn ⟨i,j,ct,c,u,back _ _ _ _ _ h1,bi _ _ _ _ _ _ (back _ _ _ _ _ h1) h2⟩
  ·intro i j ct c u i' j' ct' c' u' k h1 h2 h3 h4
   exact hj _ _ _ _ _ _ _ _ _ _ k (back _ _ _ _ _ h1) (back _ _ _ _ _ h2) (bi _ _ _ _ _ _ (back _ _ _ _ _ h1) h3) (bi _ _ _ _ _ _ (back _ _ _ _ _ h2) h4)
theorem cE.rl {T:Tys} {F:Nat->Prop} {w:World} {t:CT} {c:C} {v:Value} (h:cE T F w t c v) (hf:t.flat=true):ji T w t c v:=.base _ _ _ (h.flat hf) (by rintro e rfl;simp[CT.flat] at hf)
theorem ji.IW {T:Tys} {w:World} {t:CT} {c:C} {v:Value} (h:ji T w t c v) {F:Nat->Prop} (hF:∀k,InT T w t c v k->F k):cE T F w t c v:=by
 induction h with
 |base t c v h _=>exact h.mv (fun _ h=>h.elim) fun _ h=>rfl
 |sl e d es g o cap arr hd hg hs hc hlen hr hn hj ih=>
  by_cases he:es=[]
  ·subst he;exact .sl0 _ _ _
  have key:∀(i:Nat) (cs:List C) (j:Nat) (c:C),es[i]?=some cs->cs[j]?=some c->o+(i*d.cts.length+j)<arr.size:=fun i cs j c h1 h2=>by
   have hi:i<es.length:=(Ml.1 h1).1
   have hj':j<d.cts.length:=by rw[←hlen i cs h1];exact (Ml.1 h2).1
   have h3:(i+1)*d.cts.length<=cap*d.cts.length:=MA _ (by omega)
   rw[Nat.succ_mul] at h3
   omega
  have cell:∀(i:Nat) (cs:List C) (j:Nat) (c:C),es[i]?=some cs->cs[j]?=some c->w.cell? ⟨g,o+(i*d.cts.length+j),none⟩=some (arr.getD (o+(i*d.cts.length+j)) undef):=fun i cs j c h1 h2=>by
   have:=key i cs j c h1 h2
   simp[World.cell?,hg,Array.getD,this]
  refine .sl e d es g o cap (fun i j=>arr.getD (o+(i*d.cts.length+j)) undef) hd (hF _ (.root _ _ _ _ _ _)) hc.1 hlen cell fun i cs j c ct h1 h2 h3=>?_
  have h4:cM T w e es (.slice (some ⟨g,o,none⟩) es.length cap) i j ct c _:=⟨d,g,o,_,cap,cs,hd,rfl,h1,h2,h3,cell i cs j c h1 h2⟩
  exact ih i j ct c _ h4 fun k hk=>hF k (.sub _ _ _ _ _ _ _ _ _ h4 hk)
def FN (l:List V) (x:C):Prop:=∃cs,x=.p cs/\l.length=cs.length/\∀(i:Nat) (v:V),l[i]?=some v->∃t,v=.c t (cs.getD i .nil)
theorem w8 {l:List V} (x:C) (h:(none:Option C)=some x):FN l x:=by simp at h
inductive aj (T:Tys) (F:Nat->Prop) (w:World) (bx:Bxs) (θ:Nat->Value):V->Value->Prop
 |un (v):aj T F w bx θ .un v
 |ud:aj T F w bx θ .ud undef
 |c (t x v) (h:cE T F w t x v):aj T F w bx θ (.c t x) v
 |nl:aj T F w bx θ .nl (.slice none 0 0)
 |np:aj T F w bx θ .np (.pointer none)
 |ow (b ver:Nat) (v:Value) (x:Box) (hb:bx b=some x) (hv:ver<=x.ver) (hs:∃A n c,v=.slice A n c) (h:ver=x.ver->∃t es m,x=.arr ver t es m/\v=θ b):aj T F w bx θ (.ow b ver) v
 |mp (b ver:Nat) (v:Value) (x:Box) (hb:bx b=some x) (hv:ver<=x.ver) (hs:∃a,v=.map a) (h:ver=x.ver->∃t es,x=.mp ver t es/\v=θ b):aj T F w bx θ (.mp b ver) v
 |vw (b ver:Nat) (lo hi:Int) (v:Value) (x:Box) (hb:bx b=some x) (hv:ver<=x.ver) (hs:∃A n c,v=.slice A n c)
   (h:ver=x.ver->∃t es m d A c,x=.arr ver t es m/\bj T t=some d/\0<=lo/\lo<=hi/\hi<=es.length/\v=.slice A (hi-lo).toNat c/\(hi-lo).toNat<=c/\
    (lo<hi->∃g o,θ b=.slice (some ⟨g,o,none⟩) es.length (c+lo.toNat)/\A=some ⟨g,o+lo.toNat*d.cts.length,none⟩)/\(lo=0->θ b=.slice A es.length c)):aj T F w bx θ (.vw b ver lo hi) v
 |pt (b ver off:Nat) (v:Value) (x:Box) (hb:bx b=some x) (hv:ver<=x.ver) (hs:∃a,v=.pointer a)
   (h:ver=x.ver->∃t cells g,x=.var ver t cells/\θ b=.pointer (some ⟨g,0,none⟩)/\v=.pointer (some ⟨g,off,none⟩)):aj T F w bx θ (.pt b ver off) v
 |pe (b ver:Nat) (ix:Int) (off:Nat) (nb:Bool) (v:Value) (x:Box) (hb:bx b=some x) (hv:ver<=x.ver) (hs:∃a,v=.pointer a)
   (h:ver=x.ver->∃t es m d,x=.arr ver t es m/\bj T t=some d/\
    ((nb=true/\ix<0/\v=.pointer none)∨
     (0<=ix/\ix<es.length/\∃g o cap,θ b=.slice (some ⟨g,o,none⟩) es.length cap/\v=.pointer (some ⟨g,o+(ix.toNat*d.cts.length+off),none⟩)))):
   aj T F w bx θ (.pe b ver ix off nb) v
 |rf (b ver:Nat) (ix:Int) (off:Nat) (e:TypeId) (v:Value) (x:Box) (hb:bx b=some x) (hv:ver<=x.ver) (hs:∃A n c,v=.slice A n c)
   (h:ver=x.ver->x.m=2->∃t es d g o cap,x=.arr ver t es 2/\bj T t=some d/\0<=ix/\ix<es.length/\θ b=.slice (some ⟨g,o,none⟩) es.length cap/\d.cts[off]?=some (.sl e)/\
    w.cell? ⟨g,o+(ix.toNat*d.cts.length+off),none⟩=some v):aj T F w bx θ (.rf b ver ix off e) v
 |fa (cts:List CT) (cs:List C) (off g o:Nat) (cv:Nat->Value) (hF:F g) (hlen:cs.length=cts.length)
   (hc:∀(j:Nat) (c:C),cs[j]?=some c->w.cell? ⟨g,o+j,none⟩=some (cv j))
   (hr:∀(j:Nat) (c:C) (t:CT),cs[j]?=some c->cts[j]?=some t->cE T F w t c (cv j)):aj T F w bx θ (.fa cts cs off) (.pointer (some ⟨g,o+off,none⟩))
 |ag (l:List V) (o:Option C) (vs:List Value) (hl:vs.length=l.length) (ho:∀x,o=some x->FN l x) (h:∀(i:Nat) (x:V) (v:Value),l[i]?=some x->vs[i]?=some v->aj T F w bx θ x v):aj T F w bx θ (.ag l o) (.agg vs.toArray)
 |tu (l:List V) (vs:List Value) (hl:vs.length=l.length) (h:∀(i:Nat) (x:V) (v:Value),l[i]?=some x->vs[i]?=some v->aj T F w bx θ x v):aj T F w bx θ (.tu l) (.tuple vs.toArray)
 |fn (f:FuncId) (l:List V) (vs:List Value) (hl:vs.length=l.length) (h:∀(i:Nat) (x:V) (v:Value),l[i]?=some x->vs[i]?=some v->aj T F w bx θ x v):aj T F w bx θ (.fn f l) (.func (.func f) #[] vs.toArray)
def Box.same:Box->Box->Prop
 |.var _ _ c,.var _ _ c'=>c.length=c'.length
 |.arr _ t es _,.arr _ t' es' _=>t=t'/\es.length=es'.length
 |.mp _ t _,.mp _ t' _=>t=t'
 |.dead _,.dead _=>True
 |_,_=>False
def Hdr (w w':World) (v:Value):Prop:=∀g o n cap,v=.slice (some ⟨g,o,none⟩) n cap->∀p A l c,w.cell? ⟨g,p,none⟩=some (.slice A l c)->w'.cell? ⟨g,p,none⟩=some (.slice A l c)
structure Mv (F:Nat->Prop) (w:World) (bx:Bxs) (θ:Nat->Value) (F':Nat->Prop) (w':World) (bx':Bxs) (θ':Nat->Value):Prop where
 sub:∀k,F k->F' k
 heap:∀k,F k->w'.heap[k]?=w.heap[k]?
 box:∀b x,bx b=some x->∃x',bx' b=some x'/\x.ver<=x'.ver/\(x.ver=x'.ver->x.same x'/\θ' b=θ b/\(x'.m=2->x.m=2/\Hdr w w' (θ b)))
theorem Box.kI (x:Box):x.same x:=by cases x<;>simp[Box.same]
theorem Mv.refl (F:Nat->Prop) (w:World) (bx:Bxs) (θ:Nat->Value):Mv F w bx θ F w bx θ:=
 ⟨fun _ h=>h,fun _ _=>rfl,fun _ x h=>⟨x,h,Mp _,fun _=>⟨x.kI,rfl,fun h=>⟨h,fun _ _ _ _ _ _ _ _ _ h=>h⟩⟩⟩⟩
theorem Box.ED {x y z:Box} (h:x.same y) (h':y.same z):x.same z:=by
 cases x<;>cases y<;>cases z<;>simp_all [Box.same]
theorem Mv.trans {F F' F'':Nat->Prop} {w w' w'':World} {bx bx' bx'':Bxs} {θ θ' θ'':Nat->Value} (h:Mv F w bx θ F' w' bx' θ') (h':Mv F' w' bx' θ' F'' w'' bx'' θ''):
  Mv F w bx θ F'' w'' bx'' θ'':=by
 refine ⟨fun k hk=>h'.sub _ (h.sub _ hk),fun k hk=>(h'.heap _ (h.sub _ hk)).trans (h.heap _ hk),fun b x hx=>?_⟩
 obtain ⟨x',hx',hv,hs⟩:=h.box b x hx
 obtain ⟨x'',hx'',hv',hs'⟩:=h'.box b x' hx'
 refine ⟨x'',hx'',MR hv hv',fun e=>?_⟩
 have e1:x.ver=x'.ver:=by omega
 have e2:x'.ver=x''.ver:=by omega
 refine ⟨Box.ED (hs e1).1 (hs' e2).1,((hs' e2).2.1).trans (hs e1).2.1,fun hm=>?_⟩
 obtain ⟨hx,d⟩:=(hs' e2).2.2 hm
 obtain ⟨a0,b⟩:=(hs e1).2.2 hx
 exact ⟨a0,fun g o n cap e p A l q h=>d g o n cap (by rw[(hs e1).2.1];exact e) p A l q (b g o n cap e p A l q h)⟩
theorem aj.mv {T:Tys} {F F':Nat->Prop} {w w':World} {bx bx':Bxs} {θ θ':Nat->Value} {x:V} {v:Value} (h:aj T F w bx θ x v)
  (m:Mv F w bx θ F' w' bx' θ'):aj T F' w' bx' θ' x v:=by
 induction h with
 |un v=>exact .un v
 |ud=>exact .ud
 |c t x v h=>exact .c t x v (h.mv m.sub m.heap)
 |nl=>exact .nl
 |np=>exact .np
 |ow b ver v x hb hv hsh h=>
  obtain ⟨x',hx',hv',hs⟩:=m.box b x hb
  refine .ow b ver v x' hx' (MR hv hv') hsh fun e=>?_
  obtain ⟨t,es,m1,rfl,rfl⟩:=h (by omega)
  obtain ⟨hsm,hth,_⟩:=hs (by omega)
  cases x' with
  |arr ver' t' es' m2=>simp only[Box.ver] at e;subst e;exact ⟨t',es',m2,rfl,hth.symm⟩
  |_=>exact hsm.elim
 |mp b ver v x hb hv hsh h=>
  obtain ⟨x',hx',hv',hs⟩:=m.box b x hb
  refine .mp b ver v x' hx' (MR hv hv') hsh fun e=>?_
  obtain ⟨t,es,rfl,rfl⟩:=h (by omega)
  obtain ⟨hsm,hth,_⟩:=hs (by omega)
  cases x' with
  |mp ver' t' es'=>simp only[Box.ver] at e;subst e;exact ⟨t',es',rfl,hth.symm⟩
  |_=>exact hsm.elim
 |vw b ver lo hi v x hb hv hsh h=>
  obtain ⟨x',hx',hv',hs⟩:=m.box b x hb
  refine .vw b ver lo hi v x' hx' (MR hv hv') hsh fun e=>?_
  obtain ⟨t,es,m1,d,A,c,rfl,hd,h0,h1,h2,hvv,hcc,hA,hZ⟩:=h (by omega)
  obtain ⟨hsm,hth,_⟩:=hs (by omega)
  cases x' with
  |arr ver' t' es' m2=>
   simp only[Box.ver] at e;subst e
   obtain ⟨rfl,hl⟩:=hsm
   exact ⟨t,es',m2,d,A,c,rfl,hd,h0,h1,by omega,hvv,hcc,fun hlt=>by obtain ⟨g,o,e1,e2⟩:=hA hlt;exact ⟨g,o,by rw[hth,e1,hl],e2⟩,fun hz=>by rw[hth,hZ hz,hl]⟩
  |_=>exact hsm.elim
 |pt b ver off v x hb hv hsh h=>
  obtain ⟨x',hx',hv',hs⟩:=m.box b x hb
  refine .pt b ver off v x' hx' (MR hv hv') hsh fun e=>?_
  obtain ⟨t,cells,g,rfl,e1,e2⟩:=h (by omega)
  obtain ⟨hsm,hth,_⟩:=hs (by omega)
  cases x' with
  |var ver' t' cells'=>simp only[Box.ver] at e;subst e;exact ⟨t',cells',g,rfl,by rw[hth,e1],e2⟩
  |_=>exact hsm.elim
 |pe b ver ix off nb v x hb hv hsh h=>
  obtain ⟨x',hx',hv',hs⟩:=m.box b x hb
  refine .pe b ver ix off nb v x' hx' (MR hv hv') hsh fun e=>?_
  obtain ⟨t,es,m1,d,rfl,hd,h⟩:=h (by omega)
  obtain ⟨hsm,hth,_⟩:=hs (by omega)
  cases x' with
  |arr ver' t' es' m2=>
   simp only[Box.ver] at e;subst e
   obtain ⟨rfl,hl⟩:=hsm
   refine ⟨t,es',m2,d,rfl,hd,h.imp id ?_⟩
   rintro ⟨h0,h1,g,o,cap,e1,e2⟩
   exact ⟨h0,by omega,g,o,cap,by rw[hth,e1,hl],e2⟩
  |_=>exact hsm.elim
 |rf b ver ix off e v x hb hv hsh h=>
  obtain ⟨x',hx',hv',hs⟩:=m.box b x hb
  refine .rf b ver ix off e v x' hx' (MR hv hv') hsh fun e1 h6=>?_
  obtain ⟨hsm,hth,h5⟩:=hs (by omega)
  obtain ⟨h6',h7⟩:=h5 h6
  obtain ⟨t,es,d,g,o,cap,rfl,hd,h0,h1,h2,h3,h4⟩:=h (by omega) h6'
  cases x' with
  |arr ver' t' es' m2=>
   simp only[Box.ver] at e1;subst e1
   obtain rfl:m2=2:=h6
   obtain ⟨rfl,hl⟩:=hsm
   obtain ⟨A,n,c,rfl⟩:=hsh
   exact ⟨t,es',d,g,o,cap,rfl,hd,h0,by omega,by rw[hth,h2,hl],h3,h7 g o _ _ h2 _ _ _ _ h4⟩
  |_=>exact hsm.elim
 |fa cts cs off g o cv hF hlen hc hr=>
  exact .fa cts cs off g o cv (m.sub _ hF) hlen (fun j c h=>by rw[fZ (m.heap _ hF)];exact hc j c h) fun j c t h1 h2=>(hr j c t h1 h2).mv m.sub m.heap
 |ag l o vs hl ho h ih=>exact .ag l o vs hl ho ih
 |tu l vs hl h ih=>exact .tu l vs hl ih
 |fn f l vs hl h ih=>exact .fn f l vs hl ih
def bJ:Value->Option Nat
 |.pointer (some a)=>some a.block
 |.slice (some a) _ _=>some a.block
 |.map (some r)=>some r
 |_=>none
def iR:CT->C->Value->Prop
 |.int k,.i n,v=>v=.int k n
 |.bool,.b x,v=>v=.bool x
 |.str,.s x,v=>v=.string x
 |_,_,_=>False
inductive kv (ct:CT):List (List C)->List MapEntry->Prop
 |nil:kv ct [] []
 |cons (k:ByteArray) (c:C) (e:MapEntry) (es:List (List C)) (l:List MapEntry) (hk:e.key=.string k) (hv:iR ct c e.val) (h:kv ct es l):kv ct ([.s k,c]::es) (e::l)
def Box.live:Box->Bool|.dead _=>false|_=>true
def Ek:CT->C->Prop|.sl _,.nil=>True|_,_=>False
def CR (T:Tys) (F:Nat->Prop) (w:World) (m:Nat) (t:CT) (c:C) (v:Value):Prop:=match m with|0=>cE T F w t c v|1=>cE T F w t c v|3=>ji T w t c v∨Ek t c|_=>ji T w t c v
def iZ (T:Tys) (F:Nat->Prop) (w:World) (bx:Bxs) (θ:Nat->Value) (b:Nat):Box->Prop
 |.var _ t cells=>∃g cs e d,θ b=.pointer (some ⟨g,0,none⟩)/\w.heap[g]?=some (.cells cs e (0,0))/\cs.size=cells.length/\
   bj T t=some d/\cells.length=d.cts.length/\∀(i:Nat) (x:V) (v:Value),cells[i]?=some x->cs[i]?=some v->aj T F w bx θ x v
 |.arr _ t es m=>∃d A cap,bj T t=some d/\θ b=.slice A es.length cap/\
   (∀(i:Nat) (c:List C),es[i]?=some c->c.length=d.cts.length)/\
   ((A=none/\es=[]/\cap=0)∨∃g o cs,A=some ⟨g,o,none⟩/\w.heap[g]?=some (.cells cs t (0,0))/\cs.size=o+cap*d.cts.length/\(es.length<=cap/\cap<=maxLen)/\
    ∀(i:Nat) (c:List C) (j:Nat) (x:C) (ct:CT) (v:Value),es[i]?=some c->c[j]?=some x->d.cts[j]?=some ct->cs[o+(i*d.cts.length+j)]?=some v->CR T F w m ct x v)
 |.mp _ t es=>∃r arr clk d ct,θ b=.map (some r)/\w.heap[r]?=some (.map arr clk)/\bj T t=some d/\sP d=some ct/\kv ct es arr.toList
 |.dead _=>True
structure Fr where
 w0:World
 wr:Nat->Prop
 F0:Nat->Prop
 θ0:Nat->Value
 st:List Nat
 nl:Nat->Prop:=fun _=>False
structure E2 (fr:Fr) (w:World):Prop where
 os:w.os=fr.w0.os
 tape:w.tape=fr.w0.tape
 output:w.output=fr.w0.output/\fr.w0.drawn<=w.drawn
 size:fr.w0.heap.size<=w.heap.size
 old:∀k,k<fr.w0.heap.size->¬fr.wr k->w.heap[k]?=fr.w0.heap[k]?
def Box.nst (T:Tys) (w:World) (v:Value) (x:Box) (k:Nat):Prop:=match x with|.arr _ t es m=>m≠0/\Nst T w t es v k|_=>False
structure qu (T:Tys) (w:World) (t:TypeId) (es:List (List C)) (v:Value):Prop where
 rel:∀i j ct c u,cM T w t es v i j ct c u->ji T w ct c u
 dj:HX T w t es v
structure Ji (T:Tys) (w:World) (t:TypeId) (es:List (List C)) (v:Value):Prop where
 rel:∀i j ct c u,cM T w t es v i j ct c u->ji T w ct c u∨Ek ct c
 dj:HX T w t es v
def HJ (T:Tys) (w:World) (m:Nat) (t:TypeId) (es:List (List C)) (v:Value):Prop:=(m≠3->qu T w t es v)/\(m=3->Ji T w t es v)
def Box.lin (T:Tys) (w:World) (v:Value) (x:Box):Prop:=match x with|.arr _ t es m=>m≠0->HJ T w m t es v|_=>True
structure WR (T:Tys) (fr:Fr) (F:Nat->Prop) (w:World) (bx:Bxs) (θ:Nat->Value):Prop where
 box:∀b x,bx b=some x->iZ T F w bx θ b x
 disj:∀b b' x x' g,bx b=some x->bx b'=some x'->x.live=true->x'.live=true->bJ (θ b)=some g->bJ (θ b')=some g->b=b'
 out:∀b x g,bx b=some x->x.live=true->bJ (θ b)=some g->¬F g/\g<w.heap.size/\(fr.w0.heap.size<=g∨fr.wr g)
 lt:∀k,F k->k<w.heap.size
 keep:E2 fr w
 sub:∀k,fr.F0 k->F k
 new:∀k,F k->fr.F0 k∨fr.w0.heap.size<=k∨fr.wr k∨fr.nl k
 stay:∀n,n∈fr.st->∃x,bx n=some x/\(x.ver=0->θ n=fr.θ0 n/\(x.m=2->Hdr fr.w0 w (θ n)))
 lin:∀b x,bx b=some x->x.lin T w (θ b)
 own:∀b x k,bx b=some x->x.nst T w (θ b) k->k<w.heap.size/\(2<=x.m->¬F k)/\(¬2<=x.m->F k)/\(fr.w0.heap.size<=k∨fr.wr k∨fr.nl k)/\∀b' x',bx b'=some x'->x'.live=true->bJ (θ b')≠some k
 odj:∀b b' x x' k,bx b=some x->bx b'=some x'->x.nst T w (θ b) k->x'.nst T w (θ b') k->b=b'
 nlF:∀k,fr.nl k->F k
structure SlR (T:Tys) (F:Nat->Prop) (w:World) (bx:Bxs) (θ:Nat->Value) (n:Nat) (ρ:cu) (a:Act):Prop where
 sl:∀k,aj T F w bx θ (ρ k) (a.tmps.getD k undef)
 n:a.tmps.size=n
 defers:a.defers=[]
structure Sim (T:Tys) (fr:Fr) (n:Nat) (σ:St) (a:Act) (w:World):Prop where
 ex:∃F θ,WR T fr F w σ.bx θ/\SlR T F w σ.bx θ n σ.sl a
end Go.Ev
namespace Go.Ev
def OpR (P:Program) (o:Oper) (a:Act) (w:World) (Rr:Value->World->Prop):Prop:=
 ∀(K:Act->World->Prop) (Q:Exit->Act->World->Prop),(∀v w',Rr v w'->K (a.put o.dst v) w')->o.wp P a w K Q
theorem OpR.value {P:Program} {o:Oper} {a:Act} {w w':World} {v:Value} {Rr:Value->World->Prop} (h:(execOp a.eval o).run P w=.ok (.value v) w') (hr:Rr v w'):OpR P o a w Rr:=by
 intro K Q hk
 unfold Oper.wp
 rw[h]
 exact hk v w' hr
theorem OpR.skip {P:Program} {o:Oper} {a:Act} {w w':World} {Rr:Value->World->Prop} (h:(execOp a.eval o).run P w=.ok .skip w') (hr:Rr undef w'):OpR P o a w Rr:=by
 intro K Q hk
 unfold Oper.wp
 rw[h]
 exact hk undef w' hr
theorem OpR.enter {P:Program} {o:Oper} {a:Act} {w w':World} {f:FuncId} {args:Array Value} {Rr:Value->World->Prop} (h:(execOp a.eval o).run P w=.ok (.enter f args) w')
  (hr:Calls P f args w' fun e w''=>∃v,e=.returned v/\Rr v w''):OpR P o a w Rr:=by
 intro K Q hk
 unfold Oper.wp
 rw[h]
 refine Calls.mono hr ?_
 rintro e w'' ⟨v,rfl,hv⟩
 exact hk v w'' hv
theorem OpR.mono {P:Program} {o:Oper} {a:Act} {w:World} {R1 R2:Value->World->Prop} (h:OpR P o a w R1) (hr:∀v w',R1 v w'->R2 v w'):OpR P o a w R2:=
 fun K Q hk=>h K Q fun v w' hv=>hk v w' (hr v w' hv)
theorem bnd {α β:Type} (m:M α) (f:α->M β) (bx:Bxs) (k:β->List Nat->R):(m>>= f) bx k=m bx fun a r=>f a bx fun b r'=>k b (app r r'):=rfl
theorem xO {α:Type} {o:Option α} {bx:Bxs} {k:α->List Nat->R} {r:Out} (h:opt o bx k=some r):∃a,o=some a/\k a []=some r:=by
 cases o with
 |none=>exact absurd h (by simp[opt])
 |some a=>exact ⟨a,rfl,h⟩
theorem FX {p:Bool} {bx:Bxs} {k:Unit->List Nat->R} {r:Out} (h:chk p bx k=some r):p=true/\k () []=some r:=by
 cases p with
 |false=>exact absurd h (by simp[chk])
 |true=>exact ⟨rfl,h⟩
theorem D3 {p:Bool} {bx:Bxs} {k:Unit->List Nat->R} {r:Out} (h:bd p bx k=some r):p=true/\k () []=some r:=by
 cases p with
 |false=>exact absurd h (by simp[bd,sif])
 |true=>exact ⟨rfl,h⟩
theorem AF {b:Nat} {bx:Bxs} {k:Box->List Nat->R} {r:Out} (h:bR b bx k=some r):∃x,bx b=some x/\k x [b]=some r:=by
 unfold bR at h
 split at h
 ·rename_i x hx;exact ⟨x,hx,h⟩
 ·exact absurd h (by simp)
theorem kO {α β:Type} {o:Option α} {f:α->M β} {bx:Bxs} {k:β->List Nat->R} {r:Out} (h:(opt o>>= f) bx k=some r):∃a,o=some a/\f a bx (fun b r'=>k b (app [] r'))=some r:=
 xO (show opt o bx (fun a r=>f a bx fun c r'=>k c (app r r'))=some r from h)
theorem kC {β:Type} {p:Bool} {f:Unit->M β} {bx:Bxs} {k:β->List Nat->R} {r:Out} (h:(chk p>>= f) bx k=some r):p=true/\f () bx (fun b r'=>k b (app [] r'))=some r:=
 FX (show chk p bx (fun a r=>f a bx fun c r'=>k c (app r r'))=some r from h)
theorem kS {β:Type} {p:Bool} {f:Unit->M β} {bx:Bxs} {k:β->List Nat->R} {r:Out} (h:(bd p>>= f) bx k=some r):p=true/\f () bx (fun b r'=>k b (app [] r'))=some r:=
 D3 (show bd p bx (fun a r=>f a bx fun c r'=>k c (app r r'))=some r from h)
theorem kR {β:Type} {b:Nat} {f:Box->M β} {bx:Bxs} {k:β->List Nat->R} {r:Out} (h:(bR b>>= f) bx k=some r):∃x,bx b=some x/\f x bx (fun c r'=>k c (app [b] r'))=some r:=
 AF (show bR b bx (fun a r=>f a bx fun c r'=>k c (app r r'))=some r from h)
def fY (bx:Bxs) (b:Nat):Nat:=match bx b with|some x=>x.ver+1|none=>0
theorem lp (b:Nat) (bx:Bxs) (k:Nat->List Nat->R):dq b bx k=k (fY bx b) [b]:=rfl
theorem aC {α:Type} {bx:Bxs} {k:α->List Nat->R} {r:Out} (h:(M.fail:M α) bx k=some r):False:=by simp[M.fail] at h
theorem dW (v:V) (bx:Bxs) (k:Eff->List Nat->R):rv v bx k=k ⟨v,[]⟩ []:=rfl
theorem cC {P:Program} {T:Tys} (hT:TOk P T) {t:TypeId} {d:TD} (h:bj T t=some d):mz P T t d:=hT t d h
section
variable {P:Program} {T:Tys} {t:TypeId} {d:TD}
theorem mz.run_sizeOf (h:mz P T t d) (w:World):(sizeOf t).run P w=.ok d.cts.length w:=by
 obtain ⟨i,hi,_,hs,_⟩:=h.info
 simp[sizeOf,typeInfo,hi,hs]
theorem mz.oL (h:mz P T t d) (w:World):(isAgg t).run P w=.ok d.agg w:=by
 obtain ⟨u,hu,hd⟩:=h.desc
 have hl:=h.leaf
 cases u<;>simp only[eo] at hd<;>first
  |(simp[isAgg,run_underlying hu,TD.agg,←hd];done)
  |(rw[←hd] at hl;exact hl.elim)
theorem mz.one (h:mz P T t d) (ha:d.agg=false):d.cts.length=1:=by
 have hl:=h.leaf
 unfold TD.agg at ha
 split at hl<;>first|exact hl.elim|(rw[hl];rfl)|(rename_i hd;simp[hd] at ha;done)
theorem mz.yG (h:mz P T t d) (w:World):(zeroValue t).run P w=.ok (zeroOf d) w:=by
 obtain ⟨i,hi,hz,_,_⟩:=h.info
 simp[zeroValue,typeInfo,hi,hz]
theorem mz.pV (h:mz P T t d):(zeroOf d).cells=(d.cts.map cd).toArray:=by
 unfold zeroOf
 cases ha:d.agg with
 |true=>simp[Value.cells]
 |false=>
  have:=h.one ha
  match hc:d.cts,this with
  |[c],_=>cases c<;>simp[cd,Value.cells]
def oK (d:TD) (vs:List Value):Value:=if d.agg then .agg vs.toArray else vs.headD undef
theorem mz.nO (h:mz P T t d) {w:World} {g o:Nat} {vs:List Value} (hl:vs.length=d.cts.length) (hc:∀(j:Nat) (v:Value),vs[j]?=some v->w.cell? ⟨g,o+j,none⟩=some v):
  (loadVar t ⟨g,o,none⟩).run P w=.ok (oK d vs) w:=by
 have hs:=run_loadCells_list (P:=P) w ⟨g,o,none⟩ vs (fun j v hj=>by rw[Addr.add_lit];exact hc j v hj)
 rw[hl] at hs
 cases ha:d.agg with
 |true=>simp[loadVar,h.oL,ha,h.run_sizeOf,hs,oK]
 |false=>
  have h1:=h.one ha
  match vs,hl with
  |[v],_=>
   have:=hc 0 v rfl
   simp only[Nat.add_zero] at this
   simp[loadVar,h.oL,ha,oK,this]
  |[],hl=>simp at hl;omega
  |_::_::_,hl=>simp at hl;omega
end
theorem CA {P:Program} {T:Tys} {t:TypeId} {d:TD} (h:mz P T t d) {F:Nat->Prop} {w:World} {bx:Bxs} {θ:Nat->Value} {cells:List V} {o:Option C} {x:V} (hx:HO d cells o=some x)
  {vs:List Value} (hl:vs.length=cells.length) (ho:∀x,o=some x->FN cells x) (hr:∀(i:Nat) (x:V) (v:Value),cells[i]?=some x->vs[i]?=some v->aj T F w bx θ x v):aj T F w bx θ x (oK d vs):=by
 unfold HO at hx
 cases ha:d.agg with
 |true=>
  simp only[ha,ai,Mj] at hx
  subst hx
  simp only[oK,ha,if_true]
  exact .ag _ _ _ hl ho hr
 |false=>
  simp only[ha,aX] at hx
  split at hx
  ·rename_i y
   simp only[Mj] at hx
   subst hx
   match vs,hl with
   |[v],_=>simpa [oK,ha] using hr 0 y v rfl rfl
  ·exact absurd hx (by simp)
theorem E9 {P:Program} {T:Tys} {t:TypeId} {d:TD} (h:mz P T t d) {F:Nat->Prop} {w:World} {bx:Bxs} {θ:Nat->Value} {cells:List V} {x:V} (hx:mkV d cells=some x)
  {vs:List Value} (hl:vs.length=cells.length) (hr:∀(i:Nat) (x:V) (v:Value),cells[i]?=some x->vs[i]?=some v->aj T F w bx θ x v):aj T F w bx θ x (oK d vs):=CA h hx hl w8 hr
theorem yV {T:Tys} {F:Nat->Prop} {w:World} {bx:Bxs} {θ:Nat->Value}:∀(l:List Value),l.length=(gr l).length/\∀(i:Nat) (x:V) (v:Value),(gr l)[i]?=some x->l[i]?=some v->aj T F w bx θ x v
 |[]=>⟨rfl,fun i x v h _=>by simp[gr] at h⟩
 |y::r=>by
  obtain ⟨hl,hr⟩:=yV (T:=T) (F:=F) (w:=w) (bx:=bx) (θ:=θ) r
  have key:∀z,aj T F w bx θ z y->(y::r).length=(z::gr r).length/\∀(i:Nat) (x:V) (v:Value),(z::gr r)[i]?=some x->(y::r)[i]?=some v->aj T F w bx θ x v:=by
   intro z hz
   refine ⟨by simp[hl],fun i x v h1 h2=>?_⟩
   cases i with
   |zero=>simp at h1 h2;subst h1;subst h2;exact hz
   |succ i=>exact hr i x v (by simpa using h1) (by simpa using h2)
  unfold gr
  split<;>rename_i heq<;>first
   |(simp at heq;done)
   |(simp only[List.cons.injEq] at heq;obtain ⟨rfl,rfl⟩:=heq;refine key _ ?_;first|exact .nl|exact .np|exact .c _ _ _ (.int _ _)|exact .c _ _ _ (.bool _)|exact .c _ _ _ (.str _)|exact .un _)
theorem GD {T:Tys} {F:Nat->Prop} {w:World} {bx:Bxs} {θ:Nat->Value} (v:Value):aj T F w bx θ (tc v) v:=by
 unfold tc
 split
 ·exact .c _ _ _ (.int _ _)
 ·exact .c _ _ _ (.bool _)
 ·exact .c _ _ _ (.str _)
 ·exact .nl
 ·exact .np
 ·rename_i cs
  obtain ⟨hl,hr⟩:=yV (T:=T) (F:=F) (w:=w) (bx:=bx) (θ:=θ) cs.toList
  have:=aj.ag (T:=T) (F:=F) (w:=w) (bx:=bx) (θ:=θ) (gr cs.toList) none cs.toList hl w8 hr
  simpa using this
 ·exact .un _
theorem FV {T:Tys} {F:Nat->Prop} {w:World} {bx:Bxs} {θ:Nat->Value} {ρ:cu} {a:Act} (h:∀k,aj T F w bx θ (ρ k) (a.tmps.getD k undef)) (x:Operand):
  aj T F w bx θ (bX ρ x) (a.eval x):=by
 cases x with
 |tmp t=>exact h t
 |const v=>exact GD v
 |global g=>exact .un _
 |func f=>exact .fn f [] [] rfl (fun i x v h _=>by simp at h)
theorem E2.next {fr:Fr} {w w':World} (h:E2 fr w) (hos:w'.os=w.os) (ht:w'.tape=w.tape) (ho:w'.output=w.output/\w.drawn<=w'.drawn) (hs:w.heap.size<=w'.heap.size)
  (hh:∀k,k<fr.w0.heap.size->¬fr.wr k->w'.heap[k]?=w.heap[k]?):E2 fr w':=
 ⟨hos.trans h.os,ht.trans h.tape,⟨ho.1.trans h.output.1,MR h.output.2 ho.2⟩,MR h.size hs,fun k h1 h2=>(hh k h1 h2).trans (h.old k h1 h2)⟩
theorem rE {T:Tys} {F:Nat->Prop} {w:World} {m:Nat} {t:CT} {c:C} {v:Value} (hm:¬2<=m):CR T F w m t c v=cE T F w t c v:=by
 match m,hm with
 |0,_=>rfl
 |1,_=>rfl
 |m+2,h=>omega
theorem C0 {T:Tys} {F:Nat->Prop} {w:World} {m:Nat} {t:CT} {c:C} {v:Value} (hm:2<=m) (h3:m≠3):CR T F w m t c v=ji T w t c v:=by
 match m,hm with
 |2,_=>rfl
 |3,_=>exact absurd rfl h3
 |m+4,_=>rfl
theorem CR.mv {T:Tys} {F F':Nat->Prop} {w w':World} {m:Nat} {t:CT} {c:C} {v:Value} (h:CR T F w m t c v) (hF:∀k,F k->F' k) (hw:∀k,F k->w'.heap[k]?=w.heap[k]?) (hn:2<=m->∀k,InT T w t c v k->w'.heap[k]?=w.heap[k]?):CR T F' w' m t c v:=by
 by_cases hm:2<=m
 ·by_cases h3:m=3
  ·subst h3
   exact Or.imp (fun h=>ji.mv h (hn hm)) id h
  ·rw[C0 hm h3] at h⊢
   exact ji.mv h (hn hm)
 ·rw[rE hm] at h⊢
  exact h.mv hF hw
theorem qu.mv {T:Tys} {w w':World} {t:TypeId} {es:List (List C)} {v:Value} (h:qu T w t es v) (hr:∀g o n cap,v=.slice (some ⟨g,o,none⟩) n cap->w'.heap[g]?=w.heap[g]?) (hh:∀k,Nst T w t es v k->w'.heap[k]?=w.heap[k]?):qu T w' t es v:=by
 refine ⟨fun i j ct c u hc=>?_,fun i j ct c u i' j' ct' c' u' k h1 h2 h3 h4=>?_⟩
 ·have h1:=hc.mv' hr
  exact (h.rel i j ct c u h1).mv fun k hk=>hh k ⟨i,j,ct,c,u,h1,hk⟩
 ·have a1:=h1.mv' hr
  have a2:=h2.mv' hr
  exact h.dj _ _ _ _ _ _ _ _ _ _ k a1 a2 (h3.mv' fun k hk=>hh k ⟨_,_,_,_,_,a1,hk⟩) (h4.mv' fun k hk=>hh k ⟨_,_,_,_,_,a2,hk⟩)
theorem Ji.mv {T:Tys} {w w':World} {t:TypeId} {es:List (List C)} {v:Value} (h:Ji T w t es v) (hr:∀g o n cap,v=.slice (some ⟨g,o,none⟩) n cap->w'.heap[g]?=w.heap[g]?) (hh:∀k,Nst T w t es v k->w'.heap[k]?=w.heap[k]?):Ji T w' t es v:=by
 refine ⟨fun i j ct c u hc=>?_,fun i j ct c u i' j' ct' c' u' k h1 h2 h3 h4=>?_⟩
 ·have h1:=hc.mv' hr
  exact (h.rel i j ct c u h1).imp (fun h=>h.mv fun k hk=>hh k ⟨i,j,ct,c,u,h1,hk⟩) id
 ·have a1:=h1.mv' hr
  have a2:=h2.mv' hr
  exact h.dj _ _ _ _ _ _ _ _ _ _ k a1 a2 (h3.mv' fun k hk=>hh k ⟨_,_,_,_,_,a1,hk⟩) (h4.mv' fun k hk=>hh k ⟨_,_,_,_,_,a2,hk⟩)
theorem Nst.mv {T:Tys} {w w':World} {t:TypeId} {es:List (List C)} {v:Value} {k:Nat} (h:Nst T w' t es v k) (hr:∀g o n cap,v=.slice (some ⟨g,o,none⟩) n cap->w'.heap[g]?=w.heap[g]?) (hh:∀k,Nst T w t es v k->w'.heap[k]?=w.heap[k]?):Nst T w t es v k:=by
 obtain ⟨i,j,ct,c,u,h1,h2⟩:=h
 have a1:=h1.mv' hr
 exact ⟨i,j,ct,c,u,a1,h2.mv' fun k hk=>hh k ⟨i,j,ct,c,u,a1,hk⟩⟩
theorem CH {T:Tys} {w w':World} {v:Value} {x:Box} {k:Nat} (h:x.nst T w' v k) (hr:∀g,bJ v=some g->w'.heap[g]?=w.heap[g]?) (hh:∀k,x.nst T w v k->w'.heap[k]?=w.heap[k]?):x.nst T w v k:=by
 cases x with
 |arr ver t es m=>exact ⟨h.1,h.2.mv (fun g o n cap e=>hr g (by rw[e];rfl)) fun k hk=>hh k ⟨h.1,hk⟩⟩
 |_=>exact h.elim
theorem BE {T:Tys} {w w':World} {v:Value} {x:Box} (h:x.lin T w v) (hr:∀g,bJ v=some g->w'.heap[g]?=w.heap[g]?) (hh:∀k,x.nst T w v k->w'.heap[k]?=w.heap[k]?):x.lin T w' v:=by
 cases x with
 |arr ver t es m=>exact fun hm=>⟨fun h3=>((h hm).1 h3).mv (fun g o n cap e=>hr g (by rw[e];rfl)) fun k hk=>hh k ⟨hm,hk⟩,fun h3=>((h hm).2 h3).mv (fun g o n cap e=>hr g (by rw[e];rfl)) fun k hk=>hh k ⟨hm,hk⟩⟩
 |_=>trivial
theorem iZ.mv {T:Tys} {F F':Nat->Prop} {w w':World} {bx bx':Bxs} {θ θ':Nat->Value} {b:Nat} {x:Box} (h:iZ T F w bx θ b x) (m:Mv F w bx θ F' w' bx' θ')
  (hθ:θ' b=θ b) (hb:∀g,bJ (θ b)=some g->w'.heap[g]?=w.heap[g]?) (hn:∀k,x.nst T w (θ b) k->w'.heap[k]?=w.heap[k]?):iZ T F' w' bx' θ' b x:=by
 cases x with
 |var ver t cells=>
  obtain ⟨g,cs,e,d,h1,h2,h3,h4,h5,h6⟩:=h
  exact ⟨g,cs,e,d,hθ.trans h1,(hb g (by rw[h1];rfl)).trans h2,h3,h4,h5,fun i x v a b=>(h6 i x v a b).mv m⟩
 |arr ver t es md=>
  obtain ⟨d,A,cap,h1,h2,h3,h4⟩:=h
  refine ⟨d,A,cap,h1,hθ.trans h2,h3,h4.imp id ?_⟩
  rintro ⟨g,o,cs,rfl,h5,h6,h7,h8⟩
  refine ⟨g,o,cs,rfl,(hb g (by rw[h2];rfl)).trans h5,h6,h7,fun i c j x ct v a1 a2 a3 a4=>(h8 i c j x ct v a1 a2 a3 a4).mv m.sub m.heap fun hm k hk=>hn k ⟨by omega,i,j,ct,x,v,⟨d,g,o,_,cap,c,h1,h2,a1,a2,a3,?_⟩,hk⟩⟩
  simp[World.cell?,h5,a4]
 |mp ver t es=>
  obtain ⟨r,arr,clk,d,ct,h1,h2,h3,h4,h5⟩:=h
  exact ⟨r,arr,clk,d,ct,hθ.trans h1,(hb r (by rw[h1];rfl)).trans h2,h3,h4,h5⟩
 |dead ver=>trivial
def Fre (fr:Fr) (T:Tys) (w:World) (bx:Bxs) (θ:Nat->Value) (b k:Nat):Prop:=
 k<w.heap.size/\(fr.w0.heap.size<=k∨fr.wr k∨fr.nl k)/\(∀b' y,bx b'=some y->y.live=true->bJ (θ b')≠some k)/\∀b' y,b'≠b->bx b'=some y->¬y.nst T w (θ b') k
theorem xU {T:Tys} {fr:Fr} {F:Nat->Prop} {w:World} {bx:Bxs} {θ:Nat->Value} (hw:WR T fr F w bx θ) {b:Nat} {x:Box} (hx:bx b=some x) {k:Nat} (h:x.nst T w (θ b) k):Fre fr T w bx θ b k:=by
 obtain ⟨h1,_,_,h2,h3⟩:=hw.own b x k hx h
 exact ⟨h1,h2,h3,fun b' y hne hy hn=>hne (hw.odj b' b y x k hy hx hn h)⟩
theorem sw {F F':Nat->Prop} {w w':World} {bx bx':Bxs} {θ θ':Nat->Value} {st:List Nat} {θ0:Nat->Value} {w0:World} (h:∀n,n∈st->∃x,bx n=some x/\(x.ver=0->θ n=θ0 n/\(x.m=2->Hdr w0 w (θ n)))) (m:Mv F w bx θ F' w' bx' θ'):
  ∀n,n∈st->∃x,bx' n=some x/\(x.ver=0->θ' n=θ0 n/\(x.m=2->Hdr w0 w' (θ' n))):=by
 intro n hn
 obtain ⟨x,h1,h2⟩:=h n hn
 obtain ⟨y,h3,h4,h5⟩:=m.box n x h1
 refine ⟨y,h3,fun e=>?_⟩
 obtain ⟨q1,q2,q3⟩:=h5 (by omega)
 obtain ⟨p1,p2⟩:=h2 (by omega)
 refine ⟨by rw[q2];exact p1,fun hm g o l cap e p A a q hq=>?_⟩
 obtain ⟨r1,r3⟩:=q3 hm
 rw[q2] at e
 exact r3 g o l cap e p A a q (p2 r1 g o l cap e p A a q hq)
theorem WR.Hq {T:Tys} {fr:Fr} {F:Nat->Prop} {w:World} {bx:Bxs} {θ:Nat->Value} (hw:WR T fr F w bx θ) (b:Nat) (x':Box) (val:Value) (w':World)
  (hx:∀x,bx b=some x->x.ver<x'.ver∨(x.ver=x'.ver/\x.same x'/\val=θ b/\(x'.m=2->x.m=2/\Hdr w w' (θ b))))
  (hh:∀k,k<w.heap.size->w'.heap[k]?=w.heap[k]?∨(∃x,bx b=some x/\x.live=true/\bJ (θ b)=some k))
  (hsz:w.heap.size<=w'.heap.size) (hos:w'.os=w.os) (htp:w'.tape=w.tape) (hou:w'.output=w.output/\w.drawn<=w'.drawn)
  (hval:∀g,bJ val=some g->(w.heap.size<=g/\g<w'.heap.size)∨(∃x,bx b=some x/\x.live=true/\bJ (θ b)=some g))
  (hN:∀k,x'.nst T w' val k->(2<=x'.m->¬F k)/\(¬2<=x'.m->F k)/\Fre fr T w bx θ b k) (hL:x'.lin T w' val)
  (hB:Mv F w bx θ F w' (upd bx b (some x')) (upd θ b val)->iZ T F w' (upd bx b (some x')) (upd θ b val) b x'):
  WR T fr F w' (upd bx b (some x')) (upd θ b val)/\Mv F w bx θ F w' (upd bx b (some x')) (upd θ b val):=by
 have hout:=hw.out
 have hFh:∀k,F k->w'.heap[k]?=w.heap[k]?:=by
  intro k hk
  rcases hh k (hw.lt k hk) with h|⟨x,h1,h2,h3⟩
  ·exact h
  ·exact absurd hk (hout b x k h1 h2 h3).1
 have hblk:∀c y g,c≠b->bx c=some y->y.live=true->bJ (θ c)=some g->w'.heap[g]?=w.heap[g]?:=by
  intro c y g hc hy hl hg
  rcases hh g (hout c y g hy hl hg).2.1 with h|⟨x,h1,h2,h3⟩
  ·exact h
  ·exact absurd (hw.disj c b y x g hy h1 hl h2 hg h3) hc
 have hnst:∀c y k,c≠b->bx c=some y->y.nst T w (θ c) k->w'.heap[k]?=w.heap[k]?:=by
  intro c y k hc hy hk
  obtain ⟨q1,_,_,_,q2⟩:=hw.own c y k hy hk
  rcases hh k q1 with h|⟨x,h1,h2,h3⟩
  ·exact h
  ·exact absurd h3 (q2 b x h1 h2)
 have hback:∀c y k,c≠b->bx c=some y->y.nst T w' (θ c) k->y.nst T w (θ c) k:=fun c y k hc hy hk=>by
  cases hl:y.live with
  |true=>exact CH hk (fun g hg=>hblk c y g hc hy hl hg) fun k hk=>hnst c y k hc hy hk
  |false=>cases y<;>first|exact hk.elim|simp[Box.live] at hl
 have m:Mv F w bx θ F w' (upd bx b (some x')) (upd θ b val):=by
  refine ⟨fun _ h=>h,hFh,fun c y hy=>?_⟩
  by_cases hc:c=b
  ·subst hc
   refine ⟨x',ar _ _ _,?_⟩
   rcases hx y hy with h|⟨h1,h2,h3,h4⟩
   ·exact ⟨Nat.le_of_lt h,fun e=>by omega⟩
   ·exact ⟨Nat.le_of_eq h1,fun _=>⟨h2,by rw[ar];exact h3,h4⟩⟩
  ·refine ⟨y,by rw[aY _ _ hc];exact hy,Mp _,fun _=>⟨y.kI,by rw[aY _ _ hc],fun hm=>⟨hm,fun g o n cap e p A l q hq=>?_⟩⟩⟩
   rw[fZ (hblk c y g hc hy (by cases y<;>first|rfl|simp[Box.m] at hm) (by rw[e];rfl))]
   exact hq
 have hstay:=sw hw.stay m
 refine ⟨⟨?_,?_,?_,?_,?_,hw.sub,hw.new,hstay,?_,?_,?_,hw.nlF⟩,m⟩
 ·intro c y hy
  by_cases hc:c=b
  ·subst hc
   rw[ar] at hy
   obtain rfl:=Mh hy
   exact hB m
  ·rw[aY _ _ hc] at hy
   cases hyl:y.live with
   |true=>exact (hw.box c y hy).mv m (aY _ _ hc) (fun g hg=>hblk c y g hc hy hyl hg) fun k hk=>hnst c y k hc hy hk
   |false=>cases y<;>first|trivial|simp[Box.live] at hyl
 ·intro c c' y y' g hy hy' hl hl' hg hg'
  by_cases hc:c=b
  ·by_cases hc':c'=b
   ·exact hc.trans hc'.symm
   ·subst hc
    rw[ar] at hg
    rw[aY _ _ hc'] at hg' hy'
    rcases hval g hg with ⟨h1,_⟩|⟨x,h1,h2,h3⟩
    ·have:=(hout c' y' g hy' hl' hg').2.1;omega
    ·exact absurd (hw.disj c' c y' x g hy' h1 hl' h2 hg' h3) hc'
  ·by_cases hc':c'=b
   ·subst hc'
    rw[ar] at hg'
    rw[aY _ _ hc] at hg hy
    rcases hval g hg' with ⟨h1,_⟩|⟨x,h1,h2,h3⟩
    ·have:=(hout c y g hy hl hg).2.1;omega
    ·exact absurd (hw.disj c c' y x g hy h1 hl h2 hg h3) hc
   ·rw[aY _ _ hc] at hg hy
    rw[aY _ _ hc'] at hg' hy'
    exact hw.disj c c' y y' g hy hy' hl hl' hg hg'
 ·intro c y g hy hl hg
  by_cases hc:c=b
  ·subst hc
   rw[ar] at hg
   rcases hval g hg with ⟨h1,h2⟩|⟨x,h1,h2,h3⟩
   ·exact ⟨fun hF=>by have:=hw.lt g hF;omega,h2,.inl (MR hw.keep.size h1)⟩
   ·obtain ⟨h4,h5,h6⟩:=hout c x g h1 h2 h3
    exact ⟨h4,by omega,h6⟩
  ·rw[aY _ _ hc] at hg hy
   obtain ⟨h4,h5,h6⟩:=hout c y g hy hl hg
   exact ⟨h4,by omega,h6⟩
 ·exact fun k hk=>MS (hw.lt k hk) hsz
 ·refine hw.keep.next hos htp hou hsz fun k h1 h2=>?_
  rcases hh k (MS h1 hw.keep.size) with h|⟨x,h3,h4,h5⟩
  ·exact h
  ·rcases (hout b x k h3 h4 h5).2.2 with h|h
   ·omega
   ·exact absurd h h2
 ·intro c y hy
  by_cases hc:c=b
  ·subst hc
   rw[ar] at hy⊢
   obtain rfl:=Mh hy
   exact hL
  ·rw[aY _ _ hc] at hy⊢
   cases hl:y.live with
   |true=>exact BE (hw.lin c y hy) (fun g hg=>hblk c y g hc hy hl hg) fun k hk=>hnst c y k hc hy hk
   |false=>cases y<;>first|trivial|simp[Box.live] at hl
 ·intro c y k hy hk
  have root:∀c',k<w.heap.size->(∀b' x',bx b'=some x'->x'.live=true->bJ (θ b')≠some k)->∀x'',upd bx b (some x') c'=some x''->x''.live=true->bJ (upd θ b val c')≠some k:=by
   intro c' hk hq x'' hx'' hl hg
   by_cases hc:c'=b
   ·subst hc
    rw[ar] at hg
    rcases hval k hg with ⟨h1,_⟩|⟨x,h1,h2,h3⟩
    ·omega
    ·exact hq c' x h1 h2 h3
   ·rw[aY _ _ hc] at hg hx''
    exact hq c' x'' hx'' hl hg
  by_cases hc:c=b
  ·subst hc
   rw[ar] at hy hk
   obtain rfl:=Mh hy
   obtain ⟨q1,q2,q3,q4,q5,q6⟩:=hN k hk
   exact ⟨by omega,q1,q2,q4,fun c'=>root c' q3 q5⟩
  ·rw[aY _ _ hc] at hy hk
   obtain ⟨q1,q2,q3,q4,q5⟩:=hw.own c y k hy (hback c y k hc hy hk)
   exact ⟨by omega,q2,q3,q4,fun c'=>root c' q1 q5⟩
 ·intro c c' y y' k hy hy' hk hk'
  by_cases hc:c=b
  ·by_cases hc':c'=b
   ·exact hc.trans hc'.symm
   ·subst hc
    rw[ar] at hy hk
    rw[aY _ _ hc'] at hy' hk'
    obtain rfl:=Mh hy
    obtain ⟨_,_,_,_,_,q6⟩:=hN k hk
    exact absurd (hback c' y' k hc' hy' hk') (q6 c' y' hc' hy')
  ·by_cases hc':c'=b
   ·subst hc'
    rw[ar] at hy' hk'
    rw[aY _ _ hc] at hy hk
    obtain rfl:=Mh hy'
    obtain ⟨_,_,_,_,_,q6⟩:=hN k hk'
    exact absurd (hback c y k hc hy hk) (q6 c y hc hy)
   ·rw[aY _ _ hc] at hy hk
    rw[aY _ _ hc'] at hy' hk'
    exact hw.odj c c' y y' k hy hy' (hback c y k hc hy hk) (hback c' y' k hc' hy' hk')
theorem WR.put {T:Tys} {fr:Fr} {F:Nat->Prop} {w:World} {bx:Bxs} {θ:Nat->Value} (hw:WR T fr F w bx θ) (b:Nat) (x':Box) (val:Value) (w':World)
  (hx:∀x,bx b=some x->x.ver<x'.ver∨(x.ver=x'.ver/\x.same x'/\val=θ b/\(x'.m=2->x.m=2/\Hdr w w' (θ b))))
  (hh:∀k,k<w.heap.size->w'.heap[k]?=w.heap[k]?∨(∃x,bx b=some x/\x.live=true/\bJ (θ b)=some k))
  (hsz:w.heap.size<=w'.heap.size) (hos:w'.os=w.os) (htp:w'.tape=w.tape) (hou:w'.output=w.output/\w.drawn<=w'.drawn)
  (hval:∀g,bJ val=some g->(w.heap.size<=g/\g<w'.heap.size)∨(∃x,bx b=some x/\x.live=true/\bJ (θ b)=some g))
  (hN:∀k,¬x'.nst T w' val k) (hL:x'.lin T w' val)
  (hB:Mv F w bx θ F w' (upd bx b (some x')) (upd θ b val)->iZ T F w' (upd bx b (some x')) (upd θ b val) b x'):
  WR T fr F w' (upd bx b (some x')) (upd θ b val)/\Mv F w bx θ F w' (upd bx b (some x')) (upd θ b val):=
 hw.Hq b x' val w' hx hh hsz hos htp hou hval (fun k h=>absurd h (hN k)) hL hB
end Go.Ev
namespace Go.Ev
section
variable {P:Program} {T:Tys} {fr:Fr} {F:Nat->Prop} {w:World} {bx:Bxs} {θ:Nat->Value}
def Reads (P:Program) (T:Tys) (F:Nat->Prop) (w:World) (bx:Bxs) (θ:Nat->Value) (s:Sem Value) (k:Eff->List Nat->R) (r:Out):Prop:=
 ∃x rd v,k ⟨x,[]⟩ rd=some r/\s.run P w=.ok v w/\aj T F w bx θ x v
theorem qL {b ver m:Nat} {t:TypeId} {es:List (List C)} (hw:WR T fr F w bx θ) (hb:bx b=some (.arr ver t es m)) (hm:¬2<=m):iZ T F w bx θ b (.arr ver t es 0):=by
 obtain ⟨d,A,cap,h1,h2,h3,h4⟩:=hw.box b _ hb
 refine ⟨d,A,cap,h1,h2,h3,h4.imp id ?_⟩
 rintro ⟨g,o,cs,q1,q2,q3,q4,q5⟩
 exact ⟨g,o,cs,q1,q2,q3,q4,fun i c j x ct v a1 a2 a3 a4=>by have:=q5 i c j x ct v a1 a2 a3 a4;rw[rE hm] at this;exact this⟩
theorem lv {m:Nat} (h:Nat.blt m 2=true):¬2<=m:=by
 have:m+1<=2:=MJ h
 omega
theorem kY (cts:List CT) (cs:List C):∀(n off:Nat),(eM cts cs off n).length=n/\∀i,i<n->(eM cts cs off n)[i]?=some (.c (cts.getD (off+i) .bool) (cs.getD (off+i) .nil))
 |0,off=>⟨rfl,fun i h=>absurd h (by omega)⟩
 |n+1,off=>by
  obtain ⟨h1,h2⟩:=kY cts cs n (off+1)
  refine ⟨by simp[eM,h1],fun i hi=>?_⟩
  cases i with
  |zero=>simp[eM,sZ]
  |succ i=>
   have:=h2 i (by omega)
   rw[show off+(i+1)=off+1+i from by omega]
   simp only[eM,M4,this]
theorem ze {cts:List CT} {cs:List C} (hlen:cs.length=cts.length) (cv:Nat->Value) (hr:∀(j:Nat) (c:C) (t:CT),cs[j]?=some c->cts[j]?=some t->cE T F w t c (cv j))
  {off n:Nat} (hn:off+n<=cts.length):
  ((List.range n).map fun i=>cv (off+i)).length=(eM cts cs off n).length/\
  ∀(i:Nat) (x:V) (v:Value),(eM cts cs off n)[i]?=some x->((List.range n).map fun i=>cv (off+i))[i]?=some v->aj T F w bx θ x v:=by
 obtain ⟨h1,h2⟩:=kY cts cs n off
 refine ⟨by simp[h1],fun i x v hx hv=>?_⟩
 have hi:i<n:=by
  rcases Nat.lt_or_ge i n with h|h
  ·exact h
  ·rw[M7 (by omega)] at hx;simp at hx
 rw[h2 i hi] at hx
 simp only[Mj] at hx
 subst hx
 simp[List.getElem?_range hi] at hv
 subst hv
 have c1:cs[off+i]?=some (cs.getD (off+i) .nil):=by rw[Mm,Mg (by omega)];rfl
 have c2:cts[off+i]?=some (cts.getD (off+i) .bool):=by rw[Mm,Mg (by omega)];rfl
 exact .c _ _ _ (hr _ _ _ c1 c2)
theorem C4 {cts:List CT} {cs:List C} {off n m:Nat} (hl:cs.length=m):∀x,Fv off n m cs=some x->FN (eM cts cs off n) x:=by
 intro x hx
 unfold Fv at hx
 cases hc:az (Nat.beq off 0) (Nat.beq n m) with
 |false=>rw[hc,aX] at hx;simp at hx
 |true=>
  rw[hc,ai] at hx
  simp only[ao,Mk] at hc
  have e1:=Mi hc.1;subst e1
  have e2:=Mi hc.2;subst e2
  obtain ⟨h1,h2⟩:=kY cts cs n 0
  refine ⟨cs,(Mh hx).symm,by rw[h1,hl],fun i v hv=>?_⟩
  have hi:i<n:=by rw[←h1];exact (Ml.1 hv).1
  rw[h2 i hi,My] at hv
  exact ⟨_,(Mh hv).symm⟩
theorem Dg (hT:TOk P T) (hw:WR T fr F w bx θ) {t:TypeId} {x:V} {v:Value} (hx:aj T F w bx θ x v) {k:Eff->List Nat->R} {r:Out} (h:AY T t x bx k=some r):
  Reads P T F w bx θ (Instr.loadAt t v) k r:=by
 unfold AY at h
 split at h
 ·rename_i b ver off
  replace h:=kO h;obtain ⟨d,hd,h⟩:=h
  have hd':=cC hT hd
  replace h:=kR h;obtain ⟨y,hy,h⟩:=h
  split at h
  ·rename_i ver' t' cells
   replace h:=kS h;obtain ⟨h1,h⟩:=h
   replace h:=kS h;obtain ⟨h2,h⟩:=h
   replace h:=kO h;obtain ⟨z,hz,h⟩:=h
   have hk:=h;rw[dW] at hk;clear h
   have e1:=Mi h1;subst e1
   have h2:=MJ h2
   simp only[dA] at h2
   obtain ⟨g,cs,e,d2,hth,hg,hsz,hd2,hl,hrel⟩:=hw.box b _ hy
   cases hx with
   |pt b ver off v y' hb hv hsh hp=>
    rw[hy] at hb;obtain rfl:=Mh hb
    obtain ⟨t2,c2,g2,e2,e3,e4⟩:=hp rfl
    rw[hth] at e3
    simp only[Value.pointer.injEq,Mj,Addr.mk.injEq,and_true] at e3
    subst e3
    subst e4
    let vs:=(cs.toList.drop off).take d.cts.length
    have hvl:vs.length=d.cts.length:=by simp[vs];omega
    refine ⟨z,_,oK d vs,hk,?_,?_⟩
    ·have:=hd'.nO (w:=w) (g:=g) (o:=off) (vs:=vs) hvl (fun j v hj=>by
      simp only[World.cell?,hg]
      simp only[vs,List.getElem?_take] at hj
      split at hj
      ·rw[MB] at hj;simpa using hj
      ·simp at hj)
     simp[Instr.loadAt,Instr.sureAddr,this]
    ·refine E9 hd' hz (by rw[qC,rz,dA];simp;omega) fun i x v hx hv=>?_
     rw[qC,rz,dA] at hx
     simp only[vs,List.getElem?_take,MB] at hx hv
     split at hx
     ·rename_i hlt
      simp only[hlt,if_true] at hv
      exact hrel _ x v hx (by simpa using hv)
     ·simp at hx
  ·exact (aC h).elim
 ·rename_i b ver ix off nb
  replace h:=kO h;obtain ⟨d,hd,h⟩:=h
  have hd':=cC hT hd
  replace h:=kR h;obtain ⟨y,hy,h⟩:=h
  split at h
  ·rename_i ver' e es m
   replace h:=kO h;obtain ⟨de,hde,h⟩:=h
   replace h:=kS h;obtain ⟨h1,h⟩:=h
   replace h:=kC h;obtain ⟨h2,h⟩:=h
   replace h:=kS h;obtain ⟨h3,h⟩:=h
   replace h:=kS h;obtain ⟨hm,h⟩:=h
   replace h:=kO h;obtain ⟨z,hz,h⟩:=h
   have hk:=h;rw[dW] at hk;clear h
   have e1:=Mi h1;subst e1
   have h3:=MJ h3
   simp only[dA] at h3
   obtain ⟨d2,A,cap,hd2,hth,hl,hA⟩:=qL hw hy (lv hm)
   rw[hde] at hd2;obtain rfl:=Mh hd2
   cases hx with
   |pe b ver ix off nb v y' hb hv hsh hp=>
    rw[hy] at hb;obtain rfl:=Mh hb
    obtain ⟨t2,es2,m2,d3,e2,hd3,hp⟩:=hp rfl
    simp only[Box.arr.injEq,true_and] at e2
    obtain ⟨rfl,rfl,rfl⟩:=e2
    rw[hde] at hd3;obtain rfl:=Mh hd3
    rcases hp with ⟨hnb,hneg,_⟩|⟨h0,hlt,g,o,cap',e4,e5⟩
    ·subst hnb
     simp only[ai,Ms] at h2
     omega
    ·subst e5
     rw[hth] at e4
     simp only[ML,true_and] at e4
     obtain ⟨rfl,rfl⟩:=e4
     rcases hA with ⟨hn,_⟩|⟨g',o',cs,hAe,hg,hsz,hcap,hrel⟩
     ·exact absurd hn (by simp)
     ·simp only[Mj,Addr.mk.injEq,and_true] at hAe
      obtain ⟨rfl,rfl⟩:=hAe
      have hix:ix.toNat<es.length:=by omega
      have hes:es[ix.toNat]?=some (es.getD ix.toNat []):=by rw[Mm,Mg hix];rfl
      have hcl:=hl _ _ hes
      have hb1:o+(ix.toNat*de.cts.length+de.cts.length)<=cs.size:=by
       rw[hsz]
       have:(ix.toNat+1)*de.cts.length<=cap*de.cts.length:=MA _ (by omega)
       rw[Nat.add_mul,Nat.one_mul] at this
       exact Nat.add_le_add_left this o
      let cv:Nat->Value:=fun j=>cs.getD (o+(ix.toNat*de.cts.length+j)) undef
      have hr:∀(j:Nat) (c:C) (t:CT),(es.getD ix.toNat [])[j]?=some c->de.cts[j]?=some t->cE T F w t c (cv j):=by
       intro j c t hc ht
       have hj:j<de.cts.length:=(Ml.1 ht).1
       exact hrel _ _ j c t _ hes hc ht (by simp only[cv];rw[M6,M5 (by omega)];rfl)
      obtain ⟨r1,r2⟩:=ze (bx:=bx) (θ:=θ) hcl cv hr (off:=off) (n:=d.cts.length) h3
      refine ⟨z,_,oK d ((List.range d.cts.length).map fun i=>cv (off+i)),hk,?_,?_⟩
      ·have:=hd'.nO (w:=w) (g:=g) (o:=o+(ix.toNat*de.cts.length+off)) (vs:=(List.range d.cts.length).map fun i=>cv (off+i)) (by simp) (fun j v hj=>by
        have hj':j<d.cts.length:=by
         rcases Nat.lt_or_ge j d.cts.length with h|h
         ·exact h
         ·rw[M7 (by simpa using h)] at hj;simp at hj
        simp[List.getElem?_range hj',cv] at hj
        simp only[World.cell?,hg,Nf,Bool.false_eq_true,if_false]
        rw[←hj,show o+(ix.toNat*de.cts.length+off)+j=o+(ix.toNat*de.cts.length+(off+j)) from by omega,M5 (by omega)];rfl)
       simp[Instr.loadAt,Instr.sureAddr,this]
      ·exact CA hd' hz (by simpa [dA] using r1) (by rw[dA,dA];exact C4 hcl) (by simpa [dA] using r2)
  ·exact (aC h).elim
 ·rename_i cts cs off
  replace h:=kO h;obtain ⟨d,hd,h⟩:=h
  have hd':=cC hT hd
  replace h:=kS h;obtain ⟨h3,h⟩:=h
  replace h:=kO h;obtain ⟨z,hz,h⟩:=h
  have hk:=h;rw[dW] at hk;clear h
  have h3:=MJ h3
  simp only[dA] at h3
  cases hx with
  |fa cts cs off g o cv hF hlen hc hr=>
   obtain ⟨r1,r2⟩:=ze (bx:=bx) (θ:=θ) hlen cv hr (off:=off) (n:=d.cts.length) h3
   refine ⟨z,_,oK d ((List.range d.cts.length).map fun i=>cv (off+i)),hk,?_,?_⟩
   ·have:=hd'.nO (w:=w) (g:=g) (o:=o+off) (vs:=(List.range d.cts.length).map fun i=>cv (off+i)) (by simp) (fun j v hj=>by
      have hj':j<d.cts.length:=by
       rcases Nat.lt_or_ge j d.cts.length with h|h
       ·exact h
       ·rw[M7 (by simpa using h)] at hj;simp at hj
      simp[List.getElem?_range hj'] at hj
      rw[show o+off+j=o+(off+j) from by omega,←hj]
      exact hc _ (cs.getD (off+j) .nil) (by rw[Mm,Mg (by omega)];rfl))
    simp[Instr.loadAt,Instr.sureAddr,this]
   ·exact CA hd' hz (by simpa [dA] using r1) (by rw[dA,dA];exact C4 hlen) (by simpa [dA] using r2)
 ·exact (aC h).elim
end
end Go.Ev
namespace Go.Ev
section
variable {P:Program} {T:Tys} {fr:Fr} {F:Nat->Prop} {w:World} {bx:Bxs} {θ:Nat->Value}
theorem Dy (hT:TOk P T) {s:TypeId} {f o:Nat} {t:TypeId} (h:vh T s f=some (o,t)):
  ∃farr fd ds,P.underlying s=some (.struct farr)/\farr[f]?=some fd/\fd.offset=o/\fd.type=t/\bj T s=some ds/\∀d,bj T t=some d->(ds.cts.drop o).take d.cts.length=d.cts:=by
 unfold vh at h
 split at h
 ·rename_i fs cts by_ hd
  have hs:=cC hT hd
  obtain ⟨u,hu,hv⟩:=hs.desc
  rw[nU] at h
  cases u with
  |struct farr=>
   simp only[eo,DV.st.injEq] at hv
   subst hv
   simp only[dT,No,Option.map_eq_some_iff] at h
   obtain ⟨fd,hfd,he⟩:=h
   simp only[MG] at he
   refine ⟨farr,fd,_,hu,by simpa using hfd,he.1,he.2,hd,fun d hd'=>?_⟩
   have:=hs.leaf
   exact this o t (by
    have:=M8 hfd
    simp only[dT,MT]
    exact ⟨fd,this,by simp[he.1,he.2]⟩) d hd'
  |_=>simp[eo] at hv
 ·exact absurd h (by simp)
theorem D5 (hT:TOk P T) {s:TypeId} {f o:Nat} {t:TypeId} {d:TD} (h:vh T s f=some (o,t)) (hd:bj T t=some d) (g q:Nat):
  (Instr.fieldAt s (.pointer (some ⟨g,q,none⟩)) f).run P w=.ok (.pointer (some ⟨g,q+o,none⟩)) w:=by
 obtain ⟨farr,fd,ds,hu,hf,ho,ht,_,_⟩:=Dy hT h
 have hs:=(cC hT hd).run_sizeOf w
 have hp:=(cC hT hd).pos
 have hne:d.cts.length≠0:=by omega
 subst ho;subst ht
 simp[Instr.fieldAt,run_underlying hu,hf,Instr.sureAddr,fieldPlace,hs,hne,Addr.add_lit]
theorem y7 {b ver off ver':Nat} {t:TypeId} {cells:List V} {v:Value} (hx:aj T F w bx θ (.pt b ver off) v) (hy:bx b=some (.var ver' t cells)) (hv:Nat.beq ver' ver=true):
  ∃g,θ b=.pointer (some ⟨g,0,none⟩)/\v=.pointer (some ⟨g,off,none⟩)/\ver'=ver:=by
 have e:=Mi hv
 subst e
 cases hx with
 |pt b ver off v y' hb hv hsh hp=>
  rw[hy] at hb;obtain rfl:=Mh hb
  obtain ⟨t2,c2,g2,e2,e3,e4⟩:=hp rfl
  exact ⟨g2,e3,e4,rfl⟩
theorem s9 {b ver off ver':Nat} {ix:Int} {nb:Bool} {t:TypeId} {es:List (List C)} {v:Value} (hx:aj T F w bx θ (.pe b ver ix off nb) v) {m:Nat} (hy:bx b=some (.arr ver' t es m)) (hv:Nat.beq ver' ver=true):
  ver'=ver/\∃d,bj T t=some d/\((nb=true/\ix<0/\v=.pointer none)∨
   (0<=ix/\ix<es.length/\∃g o cap,θ b=.slice (some ⟨g,o,none⟩) es.length cap/\v=.pointer (some ⟨g,o+(ix.toNat*d.cts.length+off),none⟩))):=by
 have e:=Mi hv
 subst e
 cases hx with
 |pe b ver ix off nb v y' hb hv hsh hp=>
  rw[hy] at hb;obtain rfl:=Mh hb
  obtain ⟨t2,es2,m2,d,e2,e3,e4⟩:=hp rfl
  simp only[Box.arr.injEq,true_and] at e2
  obtain ⟨rfl,rfl,rfl⟩:=e2
  exact ⟨rfl,d,e3,e4⟩
theorem oC {b ver ver':Nat} {t:TypeId} {es:List (List C)} {v:Value} (hx:aj T F w bx θ (.ow b ver) v) {m:Nat} (hy:bx b=some (.arr ver' t es m)) (hv:Nat.beq ver' ver=true):ver'=ver/\v=θ b:=by
 have e:=Mi hv
 subst e
 cases hx with
 |ow b ver v y' hb hv hsh hp=>
  rw[hy] at hb;obtain rfl:=Mh hb
  obtain ⟨t2,es2,m2,e2,e3⟩:=hp rfl
  exact ⟨rfl,e3⟩
theorem tx {b ver ver':Nat} {lo hi:Int} {t:TypeId} {es:List (List C)} {v:Value} (hx:aj T F w bx θ (.vw b ver lo hi) v) {m:Nat} (hy:bx b=some (.arr ver' t es m)) (hv:Nat.beq ver' ver=true):
  ver'=ver/\∃d A c,bj T t=some d/\0<=lo/\lo<=hi/\hi<=es.length/\v=.slice A (hi-lo).toNat c/\(hi-lo).toNat<=c/\
   (lo<hi->∃g o,θ b=.slice (some ⟨g,o,none⟩) es.length (c+lo.toNat)/\A=some ⟨g,o+lo.toNat*d.cts.length,none⟩)/\(lo=0->θ b=.slice A es.length c):=by
 have e:=Mi hv
 subst e
 cases hx with
 |vw b ver lo hi v y' hb hv hsh hp=>
  rw[hy] at hb;obtain rfl:=Mh hb
  obtain ⟨t2,es2,m2,d,A,c,e2,e3,e4⟩:=hp rfl
  simp only[Box.arr.injEq,true_and] at e2
  obtain ⟨rfl,rfl,rfl⟩:=e2
  exact ⟨rfl,d,A,c,e3,e4⟩
theorem Ay (hT:TOk P T) {s:TypeId} {f:Nat} {x:V} {v:Value} (hx:aj T F w bx θ x v) {k:Eff->List Nat->R} {r:Out}
  (h:mZ T s f x bx k=some r):Reads P T F w bx θ (Instr.fieldAt s v f) k r:=by
 unfold mZ at h
 rw[bnd] at h;obtain ⟨⟨o,t⟩,ho,h_⟩:=xO h;clear h;have h:=h_;clear h_
 replace h:=kO h;obtain ⟨d,hd,h⟩:=h
 have hrun:=D5 (w:=w) hT ho hd
 split at h
 ·rename_i b ver off
  replace h:=kR h;obtain ⟨y,hy,h⟩:=h
  split at h
  ·replace h:=kS h;obtain ⟨h1,hk⟩:=h
   rw[dW] at hk
   obtain ⟨g,e1,rfl,rfl⟩:=y7 hx hy h1
   refine ⟨_,_,_,hk,hrun g off,.pt b _ _ _ _ hy (Mp _) ⟨_,rfl⟩ fun _=>⟨_,_,g,rfl,e1,rfl⟩⟩
  ·exact (aC h).elim
 ·rename_i b ver ix off nb
  replace h:=kR h;obtain ⟨y,hy,h⟩:=h
  split at h
  ·rename_i v' t' es m
   replace h:=kS h;obtain ⟨h1,h⟩:=h
   replace h:=kC h;obtain ⟨h2,hk⟩:=h
   rw[dW] at hk
   obtain ⟨rfl,de,hde,hp⟩:=s9 hx hy h1
   rcases hp with ⟨rfl,hneg,_⟩|⟨h0,hlt,g,og,cap,e1,rfl⟩
   ·simp only[ai,Ms] at h2;omega
   ·refine ⟨_,_,_,hk,hrun g _,.pe b _ _ _ _ _ _ hy (Mp _) ⟨_,rfl⟩ fun _=>⟨_,_,_,de,rfl,hde,.inr ⟨h0,hlt,g,og,cap,e1,?_⟩⟩⟩
    rw[Nat.add_assoc,Nat.add_assoc]
  ·exact (aC h).elim
 ·rename_i cts cs off
  have hk:=h;rw[dW] at hk;clear h
  cases hx with
  |fa cts cs off g q cv hF hlen hc hr=>
   refine ⟨_,_,_,hk,hrun g _,?_⟩
   rw[Nat.add_assoc]
   exact .fa cts cs (off+o) g q cv hF hlen hc hr
 ·exact (aC h).elim
theorem fV (hT:TOk P T) {t e:TypeId} (h:ey T t=some e):P.underlying t=some (.slice e):=by
 unfold ey at h
 split at h
 ·rename_i e' cts by_ hd
  obtain rfl:=Mh h
  obtain ⟨u,hu,hv⟩:=(cC hT hd).desc
  cases u<;>simp[eo] at hv
  subst hv;exact hu
 ·exact absurd h (by simp)
theorem uy (hT:TOk P T) {t:TypeId} (h:isStr T t=true):P.underlying t=some .string:=by
 unfold isStr at h
 split at h
 ·rename_i cts by_ hd
  obtain ⟨u,hu,hv⟩:=(cC hT hd).desc
  cases u<;>simp[eo] at hv
  exact hu
 ·exact absurd h (by simp)
theorem Hh (hT:TOk P T) {t:TypeId} (h:isBool T t=true):P.underlying t=some .bool:=by
 unfold isBool at h
 split at h
 ·rename_i cts by_ hd
  obtain ⟨u,hu,hv⟩:=(cC hT hd).desc
  cases u<;>simp[eo] at hv
  exact hu
 ·exact absurd h (by simp)
theorem uB (hT:TOk P T) {t:TypeId} (h:Ci T t=true):∃e,P.underlying t=some (.slice e):=by
 unfold Ci at h
 split at h
 ·rename_i e cts by_ hd
  obtain ⟨u,hu,hv⟩:=(cC hT hd).desc
  cases u<;>simp[eo] at hv
  exact ⟨_,hu⟩
 ·exact absurd h (by simp)
theorem xV (hT:TOk P T) {t:TypeId} (h:Hp T t=true):∃e,P.underlying t=some (.pointer e):=by
 unfold Hp at h
 split at h
 ·rename_i e cts by_ hd
  obtain ⟨u,hu,hv⟩:=(cC hT hd).desc
  cases u<;>simp[eo] at hv
  exact ⟨_,hu⟩
 ·exact absurd h (by simp)
theorem o6 {x:V} {v:Value} {n:Int} (hx:aj T F w bx θ x v) (h:qB x=some n):∃k,v=.int k n:=by
 unfold qB at h
 split at h
 ·rename_i k y
  cases hx with
  |c t x v hc=>
   cases hc with
   |int k n'=>simp only[C.I,Mj] at h;subst h;exact ⟨k,rfl⟩
 ·exact absurd h (by simp)
theorem rS (hT:TOk P T) {t e:TypeId} {de:TD} (he:ey T t=some e) (hde:bj T e=some de) {g o len cap:Nat} {k:IntKind} {i:Int} (h0:0<=i) (h1:i<len):
  (Instr.indexAt t (.slice (some ⟨g,o,none⟩) len cap) (.int k i)).run P w=.ok (.pointer (some ⟨g,o+i.toNat*de.cts.length,none⟩)) w:=by
 simp[Instr.indexAt,run_underlying (fV hT he),asIntOf,h0,h1,(cC hT hde).run_sizeOf w,Addr.add_lit]
theorem Av (hT:TOk P T) (hw:WR T fr F w bx θ) {t:TypeId} {x i:V} {v vi:Value} (hx:aj T F w bx θ x v) (hi:aj T F w bx θ i vi) {k:Eff->List Nat->R} {r:Out}
  (h:nG T t x i bx k=some r):Reads P T F w bx θ (Instr.indexAt t v vi) k r:=by
 unfold nG at h
 replace h:=kO h;obtain ⟨e,he,h⟩:=h
 replace h:=kO h;obtain ⟨de,hde,h⟩:=h
 replace h:=kO h;obtain ⟨ix,hix,h⟩:=h
 obtain ⟨ki,rfl⟩:=o6 hi hix
 split at h
 ·rename_i e' y
  replace h:=kS h;obtain ⟨h1,h⟩:=h
  replace h:=kC h;obtain ⟨h2,h⟩:=h
  replace h:=kC h;obtain ⟨h3,hk⟩:=h
  rw[dW] at hk
  have e1:=Mi h1
  simp only[Ms] at h2 h3
  cases hx with
  |c t' x' v' hc=>
   cases hc with
   |sl0 e2 a cap=>simp only[C.L,Mo] at h3;omega
   |sl e2 d es g o cap cv hd hF hcap hlen hc hr=>
    simp only[C.L] at h3 hk
    rw[←e1,hde] at hd;obtain rfl:=Mh hd
    have hes:es[ix.toNat]?=some (es.getD ix.toNat []):=by rw[Mm,Mg (by omega)];rfl
    refine ⟨_,_,_,hk,rS hT he hde h2 h3,?_⟩
    have:=aj.fa (T:=T) (F:=F) (w:=w) (bx:=bx) (θ:=θ) de.cts (es.getD ix.toNat []) 0 g (o+ix.toNat*de.cts.length) (cv ix.toNat) hF (hlen _ _ hes)
     (fun j c hj=>by rw[Nat.add_assoc];exact hc _ _ _ _ hes hj) (fun j c t hj ht=>hr _ _ _ _ _ hes hj ht)
    simpa using this
 ·rename_i b ver
  replace h:=kR h;obtain ⟨y,hy,h⟩:=h
  split at h
  ·rename_i v' e' es m
   replace h:=kS h;obtain ⟨h1,h⟩:=h
   replace h:=kC h;obtain ⟨h2,h⟩:=h
   replace h:=kC h;obtain ⟨h3,hk⟩:=h
   rw[dW] at hk
   simp only[ao,Mk] at h1
   simp only[Ms] at h2 h3
   have e1:=Mi h1.2;subst e1
   obtain ⟨rfl,rfl⟩:=oC hx hy h1.1
   obtain ⟨d,A,cap,hd,hth,hl,hA⟩:=hw.box b _ hy
   rw[hde] at hd;obtain rfl:=Mh hd
   rcases hA with ⟨rfl,hnil,_⟩|⟨g,o,cs,rfl,_⟩
   ·subst hnil;simp at h3;omega
   ·refine ⟨_,_,_,hk,by rw[hth];exact rS hT he hde h2 h3,.pe b _ _ _ _ _ _ hy (Mp _) ⟨_,rfl⟩ fun _=>⟨_,_,_,de,rfl,hde,.inr ⟨h2,h3,g,o,cap,hth,?_⟩⟩⟩
    simp
  ·exact (aC h).elim
 ·rename_i b ver lo hi'
  replace h:=kR h;obtain ⟨y,hy,h⟩:=h
  split at h
  ·rename_i v' e' es m
   replace h:=kS h;obtain ⟨h1,h⟩:=h
   replace h:=kC h;obtain ⟨h2,h⟩:=h
   replace h:=kC h;obtain ⟨h3,hk⟩:=h
   rw[dW] at hk
   simp only[ao,Mk] at h1
   simp only[Ms] at h2 h3
   have e1:=Mi h1.2;subst e1
   obtain ⟨rfl,d,A,c,hd,q0,q1,q2,rfl,hcc,hA,_⟩:=tx hx hy h1.1
   rw[hde] at hd;obtain rfl:=Mh hd
   obtain ⟨g,o,hth,rfl⟩:=hA (by omega)
   refine ⟨_,_,_,hk,rS hT he hde h2 (by omega),.pe b _ _ _ _ _ _ hy (Mp _) ⟨_,rfl⟩ fun _=>⟨_,_,_,de,rfl,hde,.inr ⟨by omega,by omega,g,o,_,hth,?_⟩⟩⟩
   rw[show (lo+ix).toNat=lo.toNat+ix.toNat from by omega,Nat.add_mul,Nat.add_zero,Nat.add_assoc]
  ·exact (aC h).elim
 ·exact (aC h).elim
theorem Gx (hT:TOk P T) {t:TypeId} {x i:V} {v vi:Value} (hx:aj T F w bx θ x v) (hi:aj T F w bx θ i vi) {k:Eff->List Nat->R} {r:Out}
  (h:yb T t x i bx k=some r):Reads P T F w bx θ (Instr.index t v vi) k r:=by
 unfold yb at h
 split at h
 ·rename_i y
  replace h:=kS h;obtain ⟨h1,h⟩:=h
  replace h:=kO h;obtain ⟨ix,hix,h⟩:=h
  obtain ⟨ki,rfl⟩:=o6 hi hix
  replace h:=kC h;obtain ⟨h2,h⟩:=h
  replace h:=kC h;obtain ⟨h3,hk⟩:=h
  rw[dW] at hk
  simp only[Ms] at h2 h3
  cases hx with
  |c t' x' v' hc=>
   cases hc with
   |str s=>
    simp only[C.S] at h3 hk
    refine ⟨_,_,.int .u8 ((s.data.getD ix.toNat 0).toNat),hk,?_,.c _ _ _ (.int _ _)⟩
    have hlt:ix.toNat<s.size:=by omega
    have hg:s[ix.toNat]?=some (s.data.getD ix.toNat 0):=by
     rw[getElem?_pos s ix.toNat hlt]
     congr 1
     simp only[M6]
     have hlt':ix.toNat<s.data.size:=hlt
     rw[M5 hlt'];rfl
    simp[Instr.index,run_underlying (uy hT h1),asIntOf,h2,hg]
 ·exact (aC h).elim
end
end Go.Ev
namespace Go.Ev
section
variable {P:Program} {T:Tys} {fr:Fr} {F:Nat->Prop} {w:World} {bx:Bxs} {θ:Nat->Value}
theorem vL {x:C} {v:Value} (h:aj T F w bx θ (.c .str x) v):v=.string x.S:=by
 cases h with
 |c t x v h=>cases h with|str s=>rfl
theorem mm {x:C} {v:Value} (h:aj T F w bx θ (.c .bool x) v):v=.bool x.B:=by
 cases h with
 |c t x v h=>cases h with|bool s=>rfl
theorem tA {k:IntKind} {x:C} {v:Value} (h:aj T F w bx θ (.c (.int k) x) v):v=.int k x.I:=by
 cases h with
 |c t x v h=>cases h with|int k n=>rfl
theorem Kb {e:TypeId} {x:C} {v:Value} (h:aj T F w bx θ (.c (.sl e) x) v):∃A c,v=.slice A x.L.length c:=by
 cases h with
 |c t x v h=>cases h with
  |sl0 e a cap=>exact ⟨a,cap,rfl⟩
  |sl e d es g o cap cv=>exact ⟨_,cap,rfl⟩
theorem sA (k:IntKind) (n:Int):aj T F w bx θ (.c (.int k) (.i n)) (.int k n):=.c _ _ _ (.int k n)
theorem sY (x:Bool):aj T F w bx θ (.c .bool (.b x)) (.bool x):=.c _ _ _ (.bool x)
theorem Ly (x:ByteArray):aj T F w bx θ (.c .str (.s x)) (.string x):=.c _ _ _ (.str x)
theorem Iw {e:TypeId} {c:C} {u:Value} (h:ji T w (.sl e) c u):∃A cap,u=.slice A c.L.length cap:=by
 cases h with
 |base _ _ _ hb hs=>
  obtain rfl:=hs e rfl
  generalize hv:Value.slice none 0 0=v at hb
  cases hb with
  |sl0 e a cap=>exact ⟨_,_,rfl⟩
  |sl _ _ _ _ _ _ _ _ hF=>exact hF.elim
 |sl=>exact ⟨_,_,rfl⟩
theorem IL (hw:WR T fr F w bx θ) {b ver ver' off:Nat} {ix:Int} {e t:TypeId} {v:Value} {es:List (List C)} (hx:aj T F w bx θ (.rf b ver ix off e) v) (hy:bx b=some (.arr ver' t es 2)) (hv:Nat.beq ver' ver=true):
  ver'=ver/\∃d g o cap row c0,bj T t=some d/\0<=ix/\ix.toNat<es.length/\es[ix.toNat]?=some row/\row[off]?=some c0/\θ b=.slice (some ⟨g,o,none⟩) es.length cap/\d.cts[off]?=some (.sl e)/\
   w.cell? ⟨g,o+(ix.toNat*d.cts.length+off),none⟩=some v/\row.length=d.cts.length/\(es.getD ix.toNat []).getD off .nil=c0/\cM T w t es (θ b) ix.toNat off (.sl e) c0 v/\ji T w (.sl e) c0 v:=by
 have e:=Mi hv
 subst e
 cases hx with
 |rf _ _ _ _ _ _ y' hb' hv hs hh=>
  rw[hy] at hb';obtain rfl:=Mh hb'
  obtain ⟨t2,es2,d,gb,ob,capb,e1,hd,h0,hlt,hth,hoff,hcell⟩:=hh rfl rfl
  simp only[Box.arr.injEq,true_and,and_true] at e1
  obtain ⟨rfl,rfl⟩:=e1
  have hix:ix.toNat<es.length:=by omega
  obtain ⟨d2,A,cap,hd2,hth2,hrl,_⟩:=hw.box b _ hy
  rw[hd] at hd2;obtain rfl:=Mh hd2
  have hes:es[ix.toNat]?=some es[ix.toNat]:=Mg hix
  have hoff':off<d.cts.length:=(Ml.1 hoff).1
  have hrow:=hrl _ _ hes
  have hro:off<es[ix.toNat].length:=by omega
  have hc0:es[ix.toNat][off]?=some (es[ix.toNat][off]):=Mg hro
  have hgd:(es.getD ix.toNat []).getD off .nil=es[ix.toNat][off]:=by
   rw[Mm,Mm,hes]
   show (es[ix.toNat][off]?).getD .nil=_
   rw[hc0];rfl
  have hat:cM T w t es (θ b) ix.toNat off (.sl e) es[ix.toNat][off] v:=⟨d,gb,ob,_,_,_,hd,hth,hes,hc0,hoff,hcell⟩
  exact ⟨rfl,d,gb,ob,capb,_,_,hd,h0,hix,hes,hc0,hth,hoff,hcell,hrow,hgd,hat,((hw.lin b _ hy (by decide)).1 (by decide)).rel _ _ _ _ _ hat⟩
theorem Jc (hT:TOk P T) (hw:WR T fr F w bx θ) {t:TypeId} {x:V} {v:Value} (hx:aj T F w bx θ x v) {k:Eff->List Nat->R} {r:Out}
  (h:E6 T t x bx k=some r) (ty:TypeId):Reads P T F w bx θ (Builtin.len_ #[t] ty #[v]) k r:=by
 unfold E6 at h
 split at h
 ·replace h:=kS h;obtain ⟨h1,hk⟩:=h
  rw[dW] at hk
  obtain rfl:=vL hx
  exact ⟨_,_,_,hk,by simp[Builtin.len_,run_underlying (uy hT h1),goInt],sA _ _⟩
 ·replace h:=kS h;obtain ⟨h1,hk⟩:=h
  rw[dW] at hk
  obtain ⟨A,c,rfl⟩:=Kb hx
  obtain ⟨e,he⟩:=uB hT h1
  exact ⟨_,_,_,hk,by simp[Builtin.len_,run_underlying he,goInt],sA _ _⟩
 ·replace h:=kS h;obtain ⟨h1,hk⟩:=h
  rw[dW] at hk
  cases hx
  obtain ⟨e,he⟩:=uB hT h1
  exact ⟨_,_,_,hk,by simp[Builtin.len_,run_underlying he,goInt],sA _ _⟩
 ·replace h:=kS h;obtain ⟨h1,h⟩:=h
  replace h:=kR h;obtain ⟨y,hy,h⟩:=h
  split at h
  ·replace h:=kS h;obtain ⟨h2,hk⟩:=h
   rw[dW] at hk
   obtain ⟨rfl,rfl⟩:=oC hx hy h2
   obtain ⟨d,A,cap,hd,hth,_⟩:=hw.box _ _ hy
   obtain ⟨e,he⟩:=uB hT h1
   exact ⟨_,_,_,hk,by rw[hth];simp[Builtin.len_,run_underlying he,goInt],sA _ _⟩
  ·exact (aC h).elim
 ·replace h:=kS h;obtain ⟨h1,h⟩:=h
  replace h:=kR h;obtain ⟨y,hy,h⟩:=h
  split at h
  ·rename_i b ver lo hi y v' t' es m
   replace h:=kS h;obtain ⟨h2,hk⟩:=h
   rw[dW] at hk
   obtain ⟨rfl,d,A,c,hd,q0,q1,q2,rfl,_⟩:=tx hx hy h2
   obtain ⟨e,he⟩:=uB hT h1
   refine ⟨_,_,.int .i64 (hi-lo),hk,?_,sA _ _⟩
   simp[Builtin.len_,run_underlying he,goInt]
   omega
  ·exact (aC h).elim
 ·replace h:=kS h;obtain ⟨h1,h⟩:=h
  replace h:=kR h;obtain ⟨y,hy,h⟩:=h
  split at h
  ·rename_i b ver ix off e0 y v' t' es m
   replace h:=kS h;obtain ⟨h2,hk⟩:=h
   rw[dW] at hk
   rw[ao,Mk] at h2
   obtain rfl:=Mi h2.2
   obtain ⟨_,d,g,o,cap,row,c0,_,_,_,_,_,_,_,_,_,hg,_,hrel⟩:=IL hw hx hy h2.1
   obtain ⟨A,cp,rfl⟩:=Iw hrel
   obtain ⟨e,he⟩:=uB hT h1
   rw[hg] at hk
   exact ⟨_,_,_,hk,by simp[Builtin.len_,run_underlying he,goInt],sA _ _⟩
  ·exact (aC h).elim
 ·exact (aC h).elim
theorem BL (hT:TOk P T) (hw:WR T fr F w bx θ) {x:V} {v:Value} (hx:aj T F w bx θ x v) {k:Eff->List Nat->R} {r:Out}
  (h:oU T x bx k=some r):∃y rd,k ⟨y,[]⟩ rd=some r/\((∃a,v=.pointer (some a))∨∃f c,v=.func (.func f) #[] c)/\aj T F w bx θ y v:=by
 unfold oU at h
 split at h
 ·replace h:=kR h;obtain ⟨y,hy,h⟩:=h
  split at h
  ·replace h:=kS h;obtain ⟨h1,hk⟩:=h
   rw[dW] at hk
   obtain ⟨g,e1,rfl,rfl⟩:=y7 hx hy h1
   exact ⟨_,_,hk,.inl ⟨_,rfl⟩,hx⟩
  ·exact (aC h).elim
 ·replace h:=kR h;obtain ⟨y,hy,h⟩:=h
  split at h
  ·replace h:=kS h;obtain ⟨h1,h⟩:=h
   replace h:=kC h;obtain ⟨h2,hk⟩:=h
   rw[dW] at hk
   obtain ⟨rfl,de,hde,hp⟩:=s9 hx hy h1
   rcases hp with ⟨rfl,hneg,_⟩|⟨h0,hlt,g,og,cap,e1,rfl⟩
   ·simp only[ai,Ms] at h2;omega
   ·exact ⟨_,_,hk,.inl ⟨_,rfl⟩,.pe _ _ _ _ _ _ _ hy (Mp _) ⟨_,rfl⟩ fun _=>⟨_,_,_,de,rfl,hde,.inr ⟨h0,hlt,g,og,cap,e1,rfl⟩⟩⟩
  ·exact (aC h).elim
 ·have hk:=h;rw[dW] at hk;clear h
  cases hx with
  |fa cts cs off g q cv hF hlen hc hr=>exact ⟨_,_,hk,.inl ⟨_,rfl⟩,.fa _ _ _ g q cv hF hlen hc hr⟩
 ·rename_i e y
  replace h:=kO h;obtain ⟨d,hd,h⟩:=h
  replace h:=kC h;obtain ⟨h1,h⟩:=h
  have hk:=h;rw[dW] at hk;clear h
  cases hx with
  |c t x v hc=>
   cases hc with
   |pt0 e=>simp[C.isP] at h1
   |pt e d' cs g o cv hd' hF hlen hc hr=>
    rw[hd] at hd';obtain rfl:=Mh hd'
    have:=aj.fa (T:=T) (F:=F) (w:=w) (bx:=bx) (θ:=θ) d.cts cs 0 g o cv hF hlen hc hr
    exact ⟨_,_,hk,.inl ⟨_,rfl⟩,by simpa [C.P] using this⟩
 ·have hk:=h;rw[dW] at hk;clear h
  have hx':=hx
  cases hx with
  |fn=>exact ⟨_,_,hk,.inr ⟨_,_,rfl⟩,hx'⟩
 ·exact (aC h).elim
theorem mz.HU {t:TypeId} {d:TD} (h:mz P T t d) {cs:Array Value} {off:Nat} (hl:off+d.cts.length<=cs.size):
  (part t cs off).run P w=.ok (oK d ((cs.toList.drop off).take d.cts.length)) w:=by
 unfold oK
 cases ha:d.agg with
 |true=>
  have:cs.extract off (off+d.cts.length)=((cs.toList.drop off).take d.cts.length).toArray:=by
   apply Array.ext'
   simp[List.take_drop]
  simp[part,h.oL,ha,h.run_sizeOf,this]
 |false=>
  have h1:=h.one ha
  have hlt:off<cs.size:=by omega
  have:cs[off]?=some cs[off]:=M5 hlt
  simp only[part,Sem.run_bind,h.oL,ha,Result.andThen_ok,this,h1]
  simp[List.take_one,List.head?_drop,this]
theorem G6 (hT:TOk P T) {s:TypeId} {f:Nat} {x:V} {v:Value} (hx:aj T F w bx θ x v) {k:Eff->List Nat->R} {r:Out}
  (h:yc T s f x bx k=some r):Reads P T F w bx θ (Instr.field s v f) k r:=by
 unfold yc at h
 rw[bnd] at h;obtain ⟨⟨o,t⟩,ho,h_⟩:=xO h;clear h;have h:=h_;clear h_
 replace h:=kO h;obtain ⟨d,hd,h⟩:=h
 obtain ⟨farr,fd,ds,hu,hf,rfl,rfl,_,_⟩:=Dy hT ho
 split at h
 ·rename_i l
  replace h:=kS h;obtain ⟨h1,h⟩:=h
  replace h:=kO h;obtain ⟨z,hz,h⟩:=h
  rw[dW] at h
  have h1:=MJ h1
  simp only[dA] at h1
  cases hx with
  |ag l _ vs hl _ hr=>
   have hp:=(cC hT hd).HU (w:=w) (cs:=vs.toArray) (off:=fd.offset) (by simpa [hl] using h1)
   refine ⟨z,_,oK d ((vs.drop fd.offset).take d.cts.length),h,?_,?_⟩
   ·simp[Instr.field,run_underlying hu,hf,asAgg] at hp⊢
    exact hp
   ·refine E9 (cC hT hd) hz (by rw[qC,rz,dA];simp[hl]) fun i x v hx hv=>?_
    rw[qC,rz,dA] at hx
    simp only[List.getElem?_take,MB] at hx hv
    split at hx
    ·rename_i hlt
     simp only[hlt,if_true] at hv
     exact hr _ x v hx hv
    ·simp at hx
 ·exact (aC h).elim
theorem Da (hT:TOk P T) {s d:TypeId} {x:V} {v:Value} (hx:aj T F w bx θ x v) {k:Eff->List Nat->R} {r:Out}
  (h:rI T s d x bx k=some r):Reads P T F w bx θ (convert s d v) k r:=by
 unfold rI at h
 replace h:=kO h;obtain ⟨dd,hd,h⟩:=h
 split at h
 ·rename_i kk cts by_
  replace h:=kO h;obtain ⟨n,hn,h⟩:=h
  replace h:=kO h;obtain ⟨ds,hs,h⟩:=h
  rw[dW] at h
  obtain ⟨k',rfl⟩:=o6 hx hn
  obtain ⟨u,hu,hv⟩:=(cC hT hd).desc
  obtain ⟨us,hus,_⟩:=(cC hT hs).desc
  cases u<;>simp[eo] at hv
  subst hv
  refine ⟨_,_,_,h,?_,sA _ _⟩
  have:=run_convert_int (P:=P) (w:=w) s d k' n (by simp[hus])
  simp[convert,run_underlying hus,run_underlying hu,Conv.intToInt]
 ·exact (aC h).elim
theorem DI {a:V} {t:CT} {y:C} (h:asC a=some (t,y)):a=.c t y:=by
 unfold asC at h
 split at h
 ·simp only[Mj,MG] at h;obtain ⟨rfl,rfl⟩:=h;rfl
 ·exact absurd h (by simp)
theorem CV {t:CT} {y:C} {v:Value} (h:aj T F w bx θ (.c t y) v):(∀z,aj T F w bx θ (.c t (FI t true y z)) v)/\∀z,aj T F w bx θ (.c t (FI t false z y)) v:=by
 have key:∀c,c=y->aj T F w bx θ (.c t c) v:=fun c e=>by rw[e];exact h
 refine ⟨fun z=>key _ ?_,fun z=>key _ ?_⟩<;>
 ·cases h with
  |c t y v hr=>cases hr<;>rfl
theorem JG {a b:V} {x:C} {vc va vb:Value} (hc:aj T F w bx θ (.c .bool x) vc) (ha:aj T F w bx θ a va) (hb:aj T F w bx θ b vb) {k:Eff->List Nat->R} {r:Out}
  (h:Dm x a b bx k=some r):
  ∃y rd,k ⟨y,[]⟩ rd=some r/\vc=.bool x.B/\aj T F w bx θ y (if x.B then va else vb):=by
 have hvc:=mm hc
 have other:(cond x.B (rv a bx k) (rv b bx k))=some r->∃y rd,k ⟨y,[]⟩ rd=some r/\vc=.bool x.B/\aj T F w bx θ y (if x.B then va else vb):=by
  intro h
  cases hx:x.B with
  |true=>rw[hx] at h;exact ⟨_,_,h,by rw[hvc,hx],by simpa using ha⟩
  |false=>rw[hx] at h;exact ⟨_,_,h,by rw[hvc,hx],by simpa using hb⟩
 unfold Dm at h
 cases ea:asC a with
 |none=>rw[ea] at h;exact other h
 |some p=>
  cases eb:asC b with
  |none=>rw[ea,eb] at h;exact other h
  |some q=>
   obtain ⟨t,y⟩:=p
   obtain ⟨t',z⟩:=q
   rw[ea,eb] at h
   obtain rfl:=DI ea
   obtain rfl:=DI eb
   have h:(do bd (jg t t');rv (.c t (FI t x.B y z)):M Eff) bx k=some r:=h
   replace h:=kS h;obtain ⟨h1,hk⟩:=h
   rw[dW] at hk
   have e:=gI h1;subst e
   refine ⟨_,_,hk,hvc,?_⟩
   cases x.B
   ·rw[if_neg (by simp)];exact (CV hb).2 y
   ·rw[if_pos rfl];exact (CV ha).1 z
theorem Ke {e:TypeId} {c:C} {u:Value} (h:ji T w (.sl e) c u):∃A n c,u=.slice A n c:=by
 cases h with
 |base _ _ _ hb=>cases hb<;>exact ⟨_,_,_,rfl⟩
 |sl=>exact ⟨_,_,_,rfl⟩
theorem He (hT:TOk P T) (hw:WR T fr F w bx θ) {t:TypeId} {x:V} {v:Value} (hx:aj T F w bx θ x v) {k:Eff->List Nat->R} {r:Out} (h:zX T t x bx k=some r):
  Reads P T F w bx θ (Instr.loadAt t v) k r:=by
 unfold zX at h
 split at h
 ·rename_i b ver ix off nb
  replace h:=kO h;obtain ⟨d,hd,h⟩:=h
  have hd':=cC hT hd
  replace h:=kR h;obtain ⟨y,hy,h⟩:=h
  split at h
  ·rename_i ver' e es m
   replace h:=kO h;obtain ⟨de,hde,h⟩:=h
   replace h:=kS h;obtain ⟨h1,h⟩:=h
   replace h:=kC h;obtain ⟨h2,h⟩:=h
   replace h:=kS h;obtain ⟨h3,h⟩:=h
   obtain rfl:=Mi h3
   obtain ⟨rfl,de',hde',hp⟩:=s9 hx hy h1
   rw[hde] at hde';obtain rfl:=Mh hde'
   replace h:=kO h;obtain ⟨e',hdc,h⟩:=h
   replace h:=kS h;obtain ⟨h4,hk⟩:=h
   rw[ao,cX,Mk,MM] at h4
   obtain ⟨hag,h4⟩:=h4
   ·rw[dW] at hk
    have hoff:de.cts[off]?=some (.sl e'):=by
     rw[nU] at h4
     cases hn:de.cts[off]? with
     |none=>rw[hn] at h4;simp at h4
     |some ct=>rw[hn] at h4;rw[gI h4]
    rcases hp with ⟨rfl,hneg,_⟩|⟨h0,hlt,g,o,cap,e1,rfl⟩
    ·simp only[ai,Ms] at h2;omega
    ·obtain ⟨d2,A,cap',hd2,hth,hl,hA⟩:=hw.box b _ hy
     rw[hde] at hd2;obtain rfl:=Mh hd2
     rw[hth] at e1
     simp only[ML,true_and] at e1
     obtain ⟨rfl,rfl⟩:=e1
     rcases hA with ⟨hn,_⟩|⟨g',o',cs,hAe,hg,hsz,hcap,hrel⟩
     ·simp at hn
     simp only[Mj,Addr.mk.injEq,and_true] at hAe
     obtain ⟨rfl,rfl⟩:=hAe
     have hj:off<de.cts.length:=(Ml.1 hoff).1
     have hix:ix.toNat<es.length:=by omega
     have hlt2:o+(ix.toNat*de.cts.length+off)<cs.size:=by
      have:=MA de.cts.length (show ix.toNat+1<=cap' by omega)
      rw[Nat.succ_mul] at this
      omega
     have hcell:w.cell? ⟨g,o+(ix.toNat*de.cts.length+off),none⟩=some cs[o+(ix.toNat*de.cts.length+off)]:=by simp[World.cell?,hg,hlt2]
     have hes:es[ix.toNat]?=some es[ix.toNat]:=Mg hix
     have hrl:=hl _ _ hes
     have hc:es[ix.toNat][off]?=some (es[ix.toNat][off]'(by omega)):=Mg _
     have hsl:∃A n c,cs[o+(ix.toNat*de.cts.length+off)]=.slice A n c:=by
      have:=hrel ix.toNat _ off _ (.sl e') _ hes hc hoff (M5 hlt2)
      exact Ke this
     refine ⟨_,_,cs[o+(ix.toNat*de.cts.length+off)],hk,?_,.rf b _ ix off e' _ _ hy (Mp _) hsl fun _ _=>⟨e,es,de,g,o,cap',rfl,hde,h0,hlt,hth,hoff,hcell⟩⟩
     simp[Instr.loadAt,Instr.sureAddr,loadVar,hd'.oL,hag,hcell]
  ·exact (aC h).elim
 ·exact (aC h).elim
theorem KZ (hT:TOk P T) (hw:WR T fr F w bx θ) {t:TypeId} {x:V} {v:Value} (hx:aj T F w bx θ x v) {k:Eff->List Nat->R} {r:Out} (h:ldV T t x bx k=some r):
  Reads P T F w bx θ (Instr.loadAt t v) k r:=by
 unfold ldV at h
 split at h
 ·rename_i b ver ix off nb
  replace h:=kR h;obtain ⟨y,hy,h⟩:=h
  split at h
  ·rename_i v' e es m
   cases hm:Nat.beq m 2 with
   |true=>rw[hm,ai] at h;obtain ⟨x,rd,u,h1,h2⟩:=He hT hw hx h;exact ⟨x,_,u,h1,h2⟩
   |false=>rw[hm,aX] at h;obtain ⟨x,rd,u,h1,h2⟩:=Dg hT hw hx h;exact ⟨x,_,u,h1,h2⟩
  ·exact (aC h).elim
 ·exact Dg hT hw hx h
end
end Go.Ev
namespace Go.Ev
section
variable {P:Program} {T:Tys} {fr:Fr} {F:Nat->Prop} {w:World} {bx:Bxs} {θ:Nat->Value}
def JE (T:Tys) (F:Nat->Prop) (w:World) (bx:Bxs) (θ:Nat->Value):Option V->Option Value->Prop
 |none,none=>True
 |some x,some v=>aj T F w bx θ x v
 |_,_=>False
theorem fR {d n:Int} {o:Option V} {vo:Option Value} (h:me d o=some n) (ho:JE T F w bx θ o vo):(vo=none/\n=d)∨∃k,vo=some (.int k n):=by
 cases o with
 |none=>cases vo with
  |none=>simp only[me,Mj] at h;exact .inl ⟨rfl,h.symm⟩
  |some v=>exact ho.elim
 |some x=>cases vo with
  |none=>exact ho.elim
  |some v=>
   obtain ⟨k,rfl⟩:=o6 ho h
   exact .inr ⟨k,rfl⟩
theorem iQ {b:Bool} {n cap:Nat} {lo hi:Option Value} {l h:Int} (hl:(lo=none/\l=0)∨∃k,lo=some (.int k l)) (hh:(hi=none/\h=n)∨∃k,hi=some (.int k h))
  (h0:0<=l) (h1:l<=h) (h2:h<=cap):(Instr.sliceBounds b n cap lo hi none).run P w=.ok (l.toNat,h.toNat,cap) w:=by
 have e:((h.toNat:Nat):Int)=h:=by omega
 rcases hl with ⟨rfl,rfl⟩|⟨kl,rfl⟩
 ·rcases hh with ⟨rfl,rfl⟩|⟨kh,rfl⟩
  ·simp[Instr.sliceBounds]
  ·have:0<=h:=by omega
   simp[Instr.sliceBounds,Instr.sliceBound,asIntOf,this,h2]
 ·rcases hh with ⟨rfl,rfl⟩|⟨kh,rfl⟩
  ·have:l<=(n:Int):=h1
   simp[Instr.sliceBounds,Instr.sliceBound,asIntOf,h0,this]
  ·have h3:0<=h:=by omega
   simp[Instr.sliceBounds,Instr.sliceBound,asIntOf,h3,h2,h0]
   omega
theorem run_sliceAt_slice (hT:TOk P T) {t e:TypeId} {de:TD} (he:P.underlying t=some (.slice e)) (hde:bj T e=some de) {A:Option Addr} {n cap:Nat} {lo hi:Option Value} {l h:Int}
  (hl:(lo=none/\l=0)∨∃k,lo=some (.int k l)) (hh:(hi=none/\h=n)∨∃k,hi=some (.int k h)) (h0:0<=l) (h1:l<=h) (h2:h<=cap):
  (Instr.sliceAt t (.slice A n cap) lo hi none).run P w=.ok (.slice (if cap=l.toNat then A else A.map (·.add (l.toNat*de.cts.length))) (h.toNat-l.toNat) (cap-l.toNat)) w:=by
 simp[Instr.sliceAt,Instr.slice,run_underlying he,iQ hl hh h0 h1 h2,(cC hT hde).run_sizeOf w]
theorem slT {t e:TypeId} (h:(match ey T t with|some e'=>Nat.beq e e'|none=>false)=true):ey T t=some e:=by
 split at h
 ·rename_i e' he;rw[he,Mi h]
 ·exact absurd h (by simp)
theorem wy {t e:TypeId} (he:P.underlying t=some (.slice e)) (hi':(P.info? e).isSome=true) {A:Option Addr} {cap:Nat} {lo hi:Option Value}
  (hl:(lo=none/\(0:Int)=0)∨∃k,lo=some (.int k 0)) (hh:(hi=none/\(0:Int)=(0:Nat))∨∃k,hi=some (.int k 0)):
  ∃A',(Instr.sliceAt t (.slice A 0 cap) lo hi none).run P w=.ok (.slice A' 0 cap) w:=by
 obtain ⟨i,hi2⟩:=Option.isSome_iff_exists.1 hi'
 have:=iQ (P:=P) (w:=w) (b:=true) (n:=0) (cap:=cap) hl hh (by omega) (by omega) (by omega)
 exact ⟨_,by simp[Instr.sliceAt,Instr.slice,run_underlying he,this,sizeOf,typeInfo,hi2];rfl⟩
theorem EW (hT:TOk P T) (hE:∀t e,ey T t=some e->(P.info? e).isSome=true) (hw:WR T fr F w bx θ) {t:TypeId} {x:V} {v:Value} (hx:aj T F w bx θ x v)
  {lo hi:Option V} {vlo vhi:Option Value} (hlo:JE T F w bx θ lo vlo) (hhi:JE T F w bx θ hi vhi)
  {k:Eff->List Nat->R} {r:Out} (h:tP T t x lo hi bx k=some r):Reads P T F w bx θ (Instr.sliceAt t v vlo vhi none) k r:=by
 unfold tP at h
 split at h
 ·rename_i y
  replace h:=kS h;obtain ⟨h1,h⟩:=h
  replace h:=kO h;obtain ⟨l,hl,h⟩:=h
  replace h:=kO h;obtain ⟨hh,hhh,h⟩:=h
  replace h:=kC h;obtain ⟨c1,h⟩:=h
  replace h:=kC h;obtain ⟨c2,h⟩:=h
  replace h:=kC h;obtain ⟨c3,hk⟩:=h
  rw[dW] at hk
  simp only[Ms] at c1 c2 c3
  obtain rfl:=vL hx
  have b:=iQ (P:=P) (w:=w) (b:=false) (n:=y.S.size) (cap:=y.S.size) (fR hl hlo) (fR hhh hhi) c1 c2 c3
  exact ⟨_,_,_,hk,by simp[Instr.sliceAt,Instr.slice,run_underlying (uy hT h1),b],Ly _⟩
 ·rename_i e y
  replace h:=kS h;obtain ⟨h1,h⟩:=h
  replace h:=kO h;obtain ⟨l,hl,h⟩:=h
  replace h:=kO h;obtain ⟨hh,hhh,h⟩:=h
  replace h:=kC h;obtain ⟨c1,h⟩:=h
  replace h:=kC h;obtain ⟨c2,h⟩:=h
  replace h:=kC h;obtain ⟨c3,hk⟩:=h
  rw[dW] at hk
  simp only[Ms] at c1 c2 c3
  have he:=slT h1
  have hu:=fV hT he
  cases hx with
  |c t' x' v' hc=>
   cases hc with
   |sl0 e2 a cap=>
    simp only[C.L,Mo] at c3 hhh
    have e1:l=0:=by omega
    have e2:hh=0:=by omega
    subst e1;subst e2
    obtain ⟨A',hr⟩:=wy (P:=P) (w:=w) hu (hE _ _ he) (A:=a) (cap:=cap) (fR hl hlo) (fR hhh hhi)
    refine ⟨_,_,_,hk,hr,.c _ _ _ ?_⟩
    simpa [C.L] using cE.sl0 e A' cap
   |sl e2 d es g o cap cv hd hF hcap hlen hc hr=>
    simp only[C.L] at c3 hhh hk
    have hrun:=run_sliceAt_slice (P:=P) (w:=w) hT hu hd (A:=some ⟨g,o,none⟩) (n:=es.length) (cap:=cap) (fR hl hlo) (fR hhh hhi) c1 c2 (by omega)
    refine ⟨_,_,_,hk,hrun,.c _ _ _ ?_⟩
    by_cases hz:l=hh
    ·have e0:(es.take hh.toNat).drop l.toNat=[]:=by apply List.drop_eq_nil_of_le;rw[ME];omega
     have e1:hh.toNat-l.toNat=0:=by omega
     rw[e0,e1]
     exact .sl0 _ _ _
    ·have hne:¬cap=l.toNat:=by omega
     have hl2:hh.toNat-l.toNat=((es.take hh.toNat).drop l.toNat).length:=by simp;omega
     rw[if_neg hne,hl2]
     simp only[Nn,Addr.add_lit]
     have gi:∀(i:Nat) (cs:List C),((es.take hh.toNat).drop l.toNat)[i]?=some cs->es[l.toNat+i]?=some cs:=by
      intro i cs hi
      rw[MB,List.getElem?_take] at hi
      split at hi
      ·exact hi
      ·simp at hi
     refine .sl e d _ g (o+l.toNat*d.cts.length) _ (fun i j=>cv (l.toNat+i) j) hd hF (by simp;omega) (fun i cs hi=>hlen _ _ (gi i cs hi)) (fun i cs j c hi hj=>?_) (fun i cs j c t hi hj ht=>hr _ _ _ _ _ (gi i cs hi) hj ht)
     rw[←hc _ _ _ _ (gi i cs hi) hj,Nat.add_mul]
     congr 2
     omega
 ·rename_i b ver
  replace h:=kR h;obtain ⟨y,hy,h⟩:=h
  split at h
  ·rename_i v' e es m
   replace h:=kS h;obtain ⟨hv,h⟩:=h
   replace h:=kS h;obtain ⟨h1,h⟩:=h
   replace h:=kO h;obtain ⟨l,hl,h⟩:=h
   replace h:=kO h;obtain ⟨hh,hhh,h⟩:=h
   replace h:=kC h;obtain ⟨c1,h⟩:=h
   replace h:=kC h;obtain ⟨c2,h⟩:=h
   replace h:=kC h;obtain ⟨c3,hk⟩:=h
   rw[dW] at hk
   simp only[Ms] at c1 c2 c3
   have he:=slT h1
   have hu:=fV hT he
   obtain ⟨rfl,rfl⟩:=oC hx hy hv
   obtain ⟨d,A,cap,hd,hth,hlen,hA⟩:=hw.box b _ hy
   have hcap:es.length<=cap:=by
    rcases hA with ⟨_,rfl,rfl⟩|⟨g,o,cs,_,_,_,h,_⟩
    ·simp
    ·exact h.1
   have hrun:=run_sliceAt_slice (P:=P) (w:=w) hT hu hd (A:=A) (n:=es.length) (cap:=cap) (fR hl hlo) (fR hhh hhi) c1 c2 (by omega)
   refine ⟨_,_,_,hk,by rw[hth];exact hrun,.vw _ _ _ _ _ _ hy (Mp _) ⟨_,_,_,rfl⟩ fun _=>⟨_,_,_,d,if cap=l.toNat then A else A.map (·.add (l.toNat*d.cts.length)),cap-l.toNat,rfl,hd,c1,c2,c3,?_,?_,?_,?_⟩⟩
   ·rw[show (hh-l).toNat=hh.toNat-l.toNat from by omega]
   ·omega
   ·intro hlt
    have hne:¬cap=l.toNat:=by omega
    rcases hA with ⟨_,rfl,rfl⟩|⟨g,o,cs,rfl,_⟩
    ·simp at c3;omega
    ·exact ⟨g,o,by rw[hth];congr 1;omega,by rw[if_neg hne];simp[Addr.add_lit]⟩
   ·rintro rfl
    rw[hth]
    rcases hA with ⟨rfl,_,_⟩|⟨g,o,cs,rfl,_⟩
    ·simp
    ·simp[Addr.add_lit]
  ·exact (aC h).elim
 ·rename_i b ver lo' hi'
  replace h:=kR h;obtain ⟨y,hy,h⟩:=h
  split at h
  ·rename_i v' e es m
   replace h:=kS h;obtain ⟨hv,h⟩:=h
   replace h:=kS h;obtain ⟨h1,h⟩:=h
   replace h:=kO h;obtain ⟨l,hl,h⟩:=h
   replace h:=kO h;obtain ⟨hh,hhh,h⟩:=h
   replace h:=kC h;obtain ⟨c1,h⟩:=h
   replace h:=kC h;obtain ⟨c2,h⟩:=h
   replace h:=kC h;obtain ⟨c3,hk⟩:=h
   rw[dW] at hk
   simp only[Ms] at c1 c2 c3
   have he:=slT h1
   have hu:=fV hT he
   obtain ⟨rfl,d,A,c,hd,q0,q1,q2,rfl,hcc,hA,hZ⟩:=tx hx hy hv
   have e1:hi'-lo'=((hi'-lo').toNat:Nat):=by omega
   rw[e1] at hhh
   have hrun:=run_sliceAt_slice (P:=P) (w:=w) hT hu hd (A:=A) (n:=(hi'-lo').toNat) (cap:=c) (fR hl hlo) (fR hhh hhi) c1 c2 (by omega)
   refine ⟨_,_,_,hk,hrun,.vw _ _ _ _ _ _ hy (Mp _) ⟨_,_,_,rfl⟩ fun _=>⟨_,_,_,d,if c=l.toNat then A else A.map (·.add (l.toNat*d.cts.length)),c-l.toNat,rfl,hd,by omega,by omega,by omega,?_,?_,?_,?_⟩⟩
   ·rw[show (lo'+hh-(lo'+l)).toNat=hh.toNat-l.toNat from by omega]
   ·omega
   ·intro hlt
    have hne:¬c=l.toNat:=by omega
    obtain ⟨g,o,hth,rfl⟩:=hA (by omega)
    refine ⟨g,o,by rw[hth];congr 1;omega,?_⟩
    rw[if_neg hne]
    simp only[Nn,Addr.add_lit]
    rw[show (lo'+l).toNat=lo'.toNat+l.toNat from by omega,Nat.add_mul,Nat.add_assoc]
   ·intro hz
    have hl0:l=0:=by omega
    have hlo0:lo'=0:=by omega
    subst hl0
    have hth:=hZ hlo0
    obtain ⟨d2,A2,cap2,_,hth2,_,hA2⟩:=hw.box b _ hy
    rw[hth] at hth2
    simp only[ML,true_and] at hth2
    obtain ⟨rfl,rfl⟩:=hth2
    rw[hth]
    rcases hA2 with ⟨rfl,_,_⟩|⟨g,o,cs,rfl,_⟩
    ·simp
    ·simp[Addr.add_lit]
  ·exact (aC h).elim
 ·replace h:=kS h;obtain ⟨h1,h⟩:=h
  replace h:=kO h;obtain ⟨l,hl,h⟩:=h
  replace h:=kO h;obtain ⟨hh,hhh,h⟩:=h
  replace h:=kC h;obtain ⟨c1,h⟩:=h
  replace h:=kC h;obtain ⟨c2,h⟩:=h
  rw[dW] at h
  simp only[Ms] at c1 c2
  subst c1;subst c2
  cases hx
  have hsl:∃e,ey T t=some e:=by
   unfold Ci at h1
   split at h1
   ·rename_i e cts by_ hd;exact ⟨e,by simp[ey,hd]⟩
   ·exact absurd h1 (by simp)
  obtain ⟨e,he⟩:=hsl
  obtain ⟨i,hi2⟩:=Option.isSome_iff_exists.1 (hE _ _ he)
  have b:=iQ (P:=P) (w:=w) (b:=true) (n:=0) (cap:=0) (fR hl hlo) (fR hhh hhi) (by omega) (by omega) (by omega)
  exact ⟨_,_,.slice none 0 0,h,by simp[Instr.sliceAt,Instr.slice,run_underlying (fV hT he),b,sizeOf,typeInfo,hi2],.nl⟩
 ·exact (aC h).elim
end
end Go.Ev
namespace Go.Ev
section
variable {P:Program} {T:Tys} {fr:Fr} {F:Nat->Prop} {w:World} {bx:Bxs} {θ:Nat->Value}
def fy (op:BinOp) (t:TypeId) (x y:Operand) (a b:Value):Sem Value:=do eqGuard op t x y a b;binOp op t a b
theorem iK (op:BinOp) (t:TypeId) (x y:Operand) (k k':IntKind) (a b:Int):(eqGuard op t x y (.int k a) (.int k' b)).run P w=.ok () w:=by
 cases op<;>simp[eqGuard]
theorem wS (op:BinOp) (t:TypeId) (x y:Operand) (a b:ByteArray):(eqGuard op t x y (.string a) (.string b)).run P w=.ok () w:=by
 cases op<;>simp[eqGuard]
theorem uM (op:BinOp) (t:TypeId) (x y:Operand) (a b:Bool):(eqGuard op t x y (.bool a) (.bool b)).run P w=.ok () w:=by
 cases op<;>simp[eqGuard]
theorem wQ (op:BinOp) (t:TypeId) (x y:Operand) (a b:Option Addr):(eqGuard op t x y (.pointer a) (.pointer b)).run P w=.ok () w:=by
 cases op<;>simp[eqGuard]
theorem nT {t e:TypeId} (h:P.underlying t=some (.pointer e)) (a:Option Addr) (x y:Operand):
  (fy .eql t x y (.pointer a) (.pointer none)).run P w=.ok (.bool a.isNone) w/\(fy .neq t x y (.pointer a) (.pointer none)).run P w=.ok (.bool (!a.isNone)) w:=by
 have hi:∀(d:Nat) (a:Option Addr),(Op.equalIn (d+1) t (.pointer a) (.pointer none)).run P w=.ok a.isNone w:=by
  intro d a
  cases a<;>simp[Op.equalIn,run_underlying h]
 have he:∀a:Option Addr,(Op.equal t (.pointer a) (.pointer none)).run P w=.ok a.isNone w:=fun a=>hi 9999 a
 constructor
 ·simp[fy,wQ,binOp,he]
 ·simp[fy,wQ,binOp,he]
theorem JW {op:BinOp} {k:IntKind} {a b:Int} {z:V} (h:Jx op k a b=some z) (t:TypeId) (x y:Operand):
  ∃v,(fy op t x y (.int k a) (.int k b)).run P w=.ok v w/\aj T F w bx θ z v:=by
 cases op<;>simp only[Jx,Mj] at h<;>first
  |(subst h;refine ⟨_,?_,sA _ _⟩;simp[fy,iK,binOp,Op.intArith,Op.intCmp];done)
  |(subst h;refine ⟨_,?_,sY _⟩;simp[fy,iK,binOp,Op.intArith,Op.intCmp];done)
  |(subst h;refine ⟨_,?_,sA _ _⟩;simp only[fy,Sem.run_bind,iK,Result.andThen_ok];simp only[binOp,ne_eq,not_true_eq_false,if_false,Op.intBits,Sem.run_pure];done)
  |exact absurd h (by simp)
theorem J6 {op:BinOp} {a b:ByteArray} {z:V} (h:KL op a b=some z) (t:TypeId) (x y:Operand):
  ∃v,(fy op t x y (.string a) (.string b)).run P w=.ok v w/\aj T F w bx θ z v:=by
 cases op<;>simp only[KL,Mj] at h<;>first
  |(subst h;refine ⟨_,?_,sY _⟩;simp[fy,wS,binOp,Op.stringOp];done)
  |exact absurd h (by simp)
def th (P:Program) (f:TypeId):CT->Prop|.int k=>P.underlying f=some (.int k)|.bool=>P.underlying f=some .bool|.str=>P.underlying f=some .string|_=>False
structure Hv (P:Program) (T:Tys) (t:TypeId):Prop where
 fs:P.underlying t=some (.struct (P.fieldsOf t))
 held:P.stoodInHeld t=false
 guard:P.eqGuardType P.depth t=false
 fld:∀d,bj T t=some d->(P.fieldsOf t).toList.length=d.cts.length/\∀(i:Nat) (f:Field) (ct:CT),(P.fieldsOf t).toList[i]?=some f->d.cts[i]?=some ct->f.name≠ "_" /\f.offset=i/\th P f.type ct
theorem sL {t:TypeId} {cs:Array Value} {i:Nat} {v:Value} {ct:CT} (ht:th P t ct) (h:cs[i]?=some v):
  (part t cs i).run P w=.ok v w:=by
 have ha:(isAgg t).run P w=.ok false w:=by
  cases ct<;>simp only[th] at ht
  all_goals first|exact ht.elim|simp[isAgg,run_underlying ht]
 simp[part,ha,h]
theorem Ge {d:Nat}:∀(fs:List Field) (cts:List CT) (l m:List V) (xs ys:Array Value) (j:Nat) (b:Bool),
  fs.length=cts.length->(∀(i:Nat) (f:Field) (ct:CT),fs[i]?=some f->cts[i]?=some ct->f.name≠ "_" /\f.offset=j+i/\th P f.type ct)->
  (∀(i:Nat) (x:V),l[i]?=some x->∃v,xs[j+i]?=some v/\aj T F w bx θ x v)->(∀(i:Nat) (x:V),m[i]?=some x->∃v,ys[j+i]?=some v/\aj T F w bx θ x v)->
  Js cts l m=some b->(Op.eqFields (d+1) xs ys fs).run P w=.ok b w
 |fs,cts,l,m,xs,ys,j,b,hc,hf,hx,hy,h=>by
  unfold Js at h
  split at h
  ·simp only[Mo,List.length_eq_zero_iff] at hc
   subst hc
   simp only[Mj] at h;subst h;simp[Op.eqFields]
  ·rename_i q s t1 c1 r1 t2 c2 r2
   cases fs with
   |nil=>simp at hc
   |cons f fs=>
    split at h
    ·rename_i a' b' ha hb
     simp only[Mj] at h
     subst h
     obtain ⟨v,hv,hvr⟩:=hx 0 _ rfl
     obtain ⟨u,hu,hur⟩:=hy 0 _ rfl
     simp only[Nat.add_zero] at hv hu
     obtain ⟨f1,f2,f3⟩:=hf 0 f q rfl rfl
     simp only[Nat.add_zero] at f2
     have ih:=Ge (d:=d) fs s r1 r2 xs ys (j+1) b' (by simpa using hc) (fun i g ct hg hct=>by
       obtain ⟨a1,a2,a3⟩:=hf (i+1) g ct (by simpa using hg) (by simpa using hct)
       exact ⟨a1,by omega,a3⟩)
      (fun i z hz=>by have:=hx (i+1) z (by simpa using hz);rwa [show j+(i+1)=j+1+i by omega] at this)
      (fun i z hz=>by have:=hy (i+1) z (by simpa using hz);rwa [show j+(i+1)=j+1+i by omega] at this) hb
     cases hc:az (jg q t1) (jg q t2) with
     |false=>rw[hc,aX] at ha;simp at ha
     |true=>
      rw[hc,ai] at ha
      simp only[ao,Mk] at hc
      have e1:=gI hc.1;subst e1
      have e2:=gI hc.2;subst e2
      have p1:=sL (P:=P) (w:=w) f3 hv
      have p2:=sL (P:=P) (w:=w) f3 hu
      have key:(Op.equalIn (d+1) f.type v u).run P w=.ok a' w:=by
       cases q with
       |int k=>
        obtain rfl:=tA hvr
        obtain rfl:=tA hur
        simp only[eqC,Mj] at ha
        subst ha
        exact run_equalIn_int w d f.type k k _ _ f3
       |bool=>
        obtain rfl:=mm hvr
        obtain rfl:=mm hur
        simp only[eqC,Mj] at ha
        subst ha
        exact run_equalIn_bool' w d f.type _ _ f3
       |str=>
        obtain rfl:=vL hvr
        obtain rfl:=vL hur
        simp only[eqC,Mj] at ha
        subst ha
        exact run_equalIn_string w d f.type _ _ f3
       |_=>simp[eqC] at ha
      simp only[Op.eqFields,if_pos f1,Sem.run_bind,f2,p1,p2,key,Result.andThen_ok]
      cases a' with
      |false=>simp
      |true=>simpa using ih
    ·simp at h
  ·simp at h
theorem JN {X:Cx} (hQ:∀t,cZ X.eqT t=true->Hv P X.T t) (hw:WR X.T fr F w bx θ) {op:BinOp} {t:TypeId} {l m:List V} {oa ob:Option C} {a b:Value} (hx:aj X.T F w bx θ (.ag l oa) a) (hy:aj X.T F w bx θ (.ag m ob) b)
  {k:Eff->List Nat->R} {r:Out} (h:JK X op t l m bx k=some r) (ox oy:Operand):Reads P X.T F w bx θ (fy op t ox oy a b) k r:=by
 unfold JK at h
 replace h:=kS h;obtain ⟨h1,h⟩:=h
 replace h:=kO h;obtain ⟨d,hd,h⟩:=h
 replace h:=kO h;obtain ⟨z,hz,h⟩:=h
 have hq:=hQ t h1
 obtain ⟨g1,g2⟩:=hq.fld d hd
 cases hx with
 |ag _ _ xs hlx _ hrx=>cases hy with
  |ag _ _ ys hly _ hry=>
   have he:(Op.equalIn 10000 t (.agg xs.toArray) (.agg ys.toArray)).run P w=.ok z w:=by
    rw[show 10000=9999+1 from rfl,run_equalIn_agg w 9999 t _ _ hq.fs hq.held]
    refine Ge (d:=9998) (T:=X.T) (F:=F) (bx:=bx) (θ:=θ) _ d.cts l m _ _ 0 z g1 (fun i f ct a1 a2=>by have:=g2 i f ct a1 a2;simpa using this) (fun i x hi=>?_) (fun i x hi=>?_) hz
    ·have:i<xs.length:=by rw[hlx];exact (Ml.1 hi).1
     exact ⟨xs[i],by simp[this],hrx i x _ hi (Mg this)⟩
    ·have:i<ys.length:=by rw[hly];exact (Ml.1 hi).1
     exact ⟨ys[i],by simp[this],hry i x _ hi (Mg this)⟩
   split at h
   ·rw[dW] at h
    exact ⟨_,_,_,h,by simp[fy,run_eqGuard_agg w _ _ _ _ _ _ hq.guard,run_eql_struct,he],sY _⟩
   ·rw[dW] at h
    exact ⟨_,_,_,h,by simp[fy,run_eqGuard_agg w _ _ _ _ _ _ hq.guard,run_neq_struct,he],sY _⟩
   ·exact (aC h).elim
theorem Jf (hT:TOk P T) (hw:WR T fr F w bx θ) {op:BinOp} {t:TypeId} {x y:V} {a b:Value} (hx:aj T F w bx θ x a) (hy:aj T F w bx θ y b) {k:Eff->List Nat->R} {r:Out}
  (h:Gw T op t x y bx k=some r) (ox oy:Operand):Reads P T F w bx θ (fy op t ox oy a b) k r:=by
 unfold Gw at h
 split at h
 ·rename_i k1 c1 k2 c2
  obtain rfl:=tA hx
  obtain rfl:=tA hy
  have gen:∀(hop:(do bd (yh k1 k2);rv (←opt (Jx op k1 c1.I c2.I)):M Eff) bx k=some r),Reads P T F w bx θ (fy op t ox oy (.int k1 c1.I) (.int k2 c2.I)) k r:=by
   intro h
   replace h:=kS h;obtain ⟨h1,h⟩:=h
   replace h:=kO h;obtain ⟨z,hz,hk⟩:=h
   rw[dW] at hk
   have e:=nP h1;subst e
   obtain ⟨v,h2,h3⟩:=JW (P:=P) (T:=T) (F:=F) (w:=w) (bx:=bx) (θ:=θ) hz t ox oy
   exact ⟨_,_,_,hk,h2,h3⟩
  split at h
  ·replace h:=kC h;obtain ⟨h2,hk⟩:=h
   rw[dW] at hk
   simp only[Ms] at h2
   have h3:¬c2.I<0:=by omega
   exact ⟨_,_,_,hk,by simp[fy,iK,binOp,Op.shift,h3],sA _ _⟩
  ·replace h:=kC h;obtain ⟨h2,hk⟩:=h
   rw[dW] at hk
   simp only[Ms] at h2
   have h3:¬c2.I<0:=by omega
   exact ⟨_,_,_,hk,by simp[fy,iK,binOp,Op.shift,h3],sA _ _⟩
  ·replace h:=kS h;obtain ⟨h1,h⟩:=h
   replace h:=kC h;obtain ⟨h2,hk⟩:=h
   rw[dW] at hk
   have e:=nP h1;subst e
   simp only[bne_iff_ne,ne_eq] at h2
   exact ⟨_,_,_,hk,by simp[fy,iK,binOp,Op.intDiv,h2],sA _ _⟩
  ·replace h:=kS h;obtain ⟨h1,h⟩:=h
   replace h:=kC h;obtain ⟨h2,hk⟩:=h
   rw[dW] at hk
   have e:=nP h1;subst e
   simp only[bne_iff_ne,ne_eq] at h2
   exact ⟨_,_,_,hk,by simp[fy,iK,binOp,Op.intDiv,h2],sA _ _⟩
  ·exact gen h
 ·rename_i c1 c2
  obtain rfl:=vL hx
  obtain rfl:=vL hy
  split at h
  ·replace h:=kC h;obtain ⟨h1,hk⟩:=h
   rw[dW] at hk
   simp only[Ms] at h1
   have h2:=run_string_add_sum (P:=P) w c1.S c2.S (by omega)
   exact ⟨_,_,.string (c1.S++c2.S),hk,by simp[fy,wS,binOp,h2],Ly _⟩
  ·replace h:=kO h;obtain ⟨z,hz,hk⟩:=h
   rw[dW] at hk
   obtain ⟨v,h2,h3⟩:=J6 (P:=P) (T:=T) (F:=F) (w:=w) (bx:=bx) (θ:=θ) hz t ox oy
   exact ⟨_,_,_,hk,h2,h3⟩
 ·rename_i c1 c2
  obtain rfl:=mm hx
  obtain rfl:=mm hy
  replace h:=kS h;obtain ⟨h1,h⟩:=h
  have he:=run_equal_bool (P:=P) w t c1.B c2.B (Hh hT h1)
  split at h
  ·have hk:=h;rw[dW] at hk
   exact ⟨_,_,_,hk,by simp[fy,uM,binOp,he],sY _⟩
  ·have hk:=h;rw[dW] at hk
   exact ⟨_,_,_,hk,by simp[fy,uM,binOp,he],sY _⟩
  ·exact (aC h).elim
 ·replace h:=kS h;obtain ⟨h1,h⟩:=h
  obtain ⟨e,he⟩:=xV hT h1
  cases hx;cases hy
  obtain ⟨p1,p2⟩:=nT (P:=P) (w:=w) he none ox oy
  split at h
  ·exact ⟨_,_,_,h,p1,sY _⟩
  ·exact ⟨_,_,_,h,p2,sY _⟩
  ·exact (aC h).elim
 ·replace h:=kS h;obtain ⟨h1,h⟩:=h
  obtain ⟨e,he⟩:=xV hT h1
  cases hy
  replace h:=kR h;obtain ⟨z,hz,h⟩:=h
  split at h
  ·replace h:=kS h;obtain ⟨h2,h⟩:=h
   obtain ⟨g,e1,rfl,rfl⟩:=y7 hx hz h2
   obtain ⟨p1,p2⟩:=nT (P:=P) (w:=w) he (some ⟨g,_,none⟩) ox oy
   split at h
   ·exact ⟨_,_,_,h,p1,sY _⟩
   ·exact ⟨_,_,_,h,p2,sY _⟩
   ·exact (aC h).elim
  ·exact (aC h).elim
 ·rename_i b' ver ix off nb
  replace h:=kS h;obtain ⟨h1,h⟩:=h
  obtain ⟨e,he⟩:=xV hT h1
  cases hy
  replace h:=kR h;obtain ⟨z,hz,h⟩:=h
  split at h
  ·replace h:=kS h;obtain ⟨h2,h⟩:=h
   obtain ⟨rfl,de,hde,hp⟩:=s9 hx hz h2
   have hval:∃pa,a=.pointer pa/\pa.isNone=sif nb (decide (ix<0)) false:=by
    rcases hp with ⟨rfl,hneg,rfl⟩|⟨h0,hlt,g,og,cap,e1,rfl⟩
    ·exact ⟨none,rfl,by simp[ai,hneg]⟩
    ·refine ⟨_,rfl,?_⟩
     cases nb
     ·rfl
     ·simp[ai];omega
   obtain ⟨pa,rfl,hpa⟩:=hval
   obtain ⟨p1,p2⟩:=nT (P:=P) (w:=w) he pa ox oy
   rw[hpa] at p1 p2
   split at h
   ·exact ⟨_,_,_,h,p1,sY _⟩
   ·exact ⟨_,_,_,h,p2,sY _⟩
   ·exact (aC h).elim
  ·exact (aC h).elim
 ·rename_i e' c1
  replace h:=kS h;obtain ⟨h1,h⟩:=h
  obtain ⟨e,he⟩:=xV hT h1
  cases hy
  have hval:∃pa,a=.pointer pa/\pa.isNone=!c1.isP:=by
   cases hx with
   |c t x v hc=>
    cases hc with
    |pt0 e=>exact ⟨none,rfl,rfl⟩
    |pt e d cs g o cv=>exact ⟨_,rfl,rfl⟩
  obtain ⟨pa,rfl,hpa⟩:=hval
  obtain ⟨p1,p2⟩:=nT (P:=P) (w:=w) he pa ox oy
  rw[hpa] at p1 p2
  simp only[Bool.not_not] at p2
  split at h
  ·exact ⟨_,_,_,h,p1,sY _⟩
  ·exact ⟨_,_,_,h,p2,sY _⟩
  ·exact (aC h).elim
 ·exact (aC h).elim
theorem Ii (mx:Bool):∀(l:List V) (vs:List Value) (x:V) (v:Value) (hx:aj T F w bx θ x v) (hl:vs.length=l.length)
  (hr:∀(i:Nat) (y:V) (u:Value),l[i]?=some y->vs[i]?=some u->aj T F w bx θ y u) {k:Eff->List Nat->R} {r:Out} (h:mmV mx x l bx k=some r),
  ∃y rd u,k ⟨y,[]⟩ rd=some r/\(vs.foldlM (if mx then Builtin.max2 else Builtin.min2) v).run P w=.ok u w/\aj T F w bx θ y u:=by
 intro l
 induction l with
 |nil=>
  intro vs x v hx hl hr k r h
  have hk:k ⟨x,[]⟩ []=some r:=by
   have h:rv x bx k=some r:=by cases x<;>exact h
   exact h
  obtain rfl:=List.eq_nil_of_length_eq_zero hl
  exact ⟨x,_,v,hk,by simp,hx⟩
 |cons y l ih=>
  intro vs x v hx hl hr k r h
  cases vs with
  |nil=>simp at hl
  |cons u vs=>
   have hu:=hr 0 y u rfl rfl
   have key:∀(k1:IntKind) (c1:C) (k2:IntKind) (c2:C),x=.c (.int k1) c1->y=.c (.int k2) c2->
     ∃y rd u',k ⟨y,[]⟩ rd=some r/\((u::vs).foldlM (if mx then Builtin.max2 else Builtin.min2) v).run P w=.ok u' w/\aj T F w bx θ y u':=by
    rintro k1 c1 k2 c2 rfl rfl
    have hq:(do bd (yh k1 k2);mmV mx (.c (.int k1) (.i (sif mx (if c2.I>c1.I then c2.I else c1.I) (if c2.I<c1.I then c2.I else c1.I)))) l:M Eff) bx k=some r:=h
    clear h
    replace hq:=kS hq;obtain ⟨h1,h⟩:=hq
    have e:=nP h1;subst e
    obtain rfl:=tA hx
    obtain rfl:=tA hu
    cases mx with
    |true=>
     obtain ⟨z,rd,uu,hk,hrun,hz⟩:=ih vs _ (.int k1 (if c2.I>c1.I then c2.I else c1.I)) (sA _ _) (by simpa using hl) (fun i y u h1 h2=>hr (i+1) y u (by simpa using h1) (by simpa using h2)) h
     refine ⟨z,_,uu,hk,?_,hz⟩
     simpa [List.foldlM_cons,Builtin.max2] using hrun
    |false=>
     obtain ⟨z,rd,uu,hk,hrun,hz⟩:=ih vs _ (.int k1 (if c2.I<c1.I then c2.I else c1.I)) (sA _ _) (by simpa using hl) (fun i y u h1 h2=>hr (i+1) y u (by simpa using h1) (by simpa using h2)) h
     refine ⟨z,_,uu,hk,?_,hz⟩
     simpa [List.foldlM_cons,Builtin.min2] using hrun
   cases x with
   |c t c1=>cases t with
    |int k1=>cases y with
     |c t2 c2=>cases t2 with
      |int k2=>exact key k1 c1 k2 c2 rfl rfl
      |_=>exact (aC h).elim
     |_=>exact (aC h).elim
    |_=>cases y<;>first|exact (aC h).elim|(rename_i t2 c2;cases t2<;>exact (aC h).elim)
   |_=>cases y<;>first|exact (aC h).elim|(rename_i t2 c2;cases t2<;>exact (aC h).elim)
end
end Go.Ev
namespace Go.Ev
section
variable {P:Program} {T:Tys} {fr:Fr} {F:Nat->Prop} {w:World} {bx:Bxs} {θ:Nat->Value}
theorem cE.one {t:CT} {c:C} {v:Value} (h:cE T F w t c v):v.oneCell'=true:=by cases h<;>rfl
structure Rws (RR:CT->C->Value->Prop) (d:TD) (es:List (List C)) (vs:List Value):Prop where
 len:∀(i:Nat) (c:List C),es[i]?=some c->c.length=d.cts.length
 rel:∀(i:Nat) (c:List C) (j:Nat) (x:C) (ct:CT) (v:Value),es[i]?=some c->c[j]?=some x->d.cts[j]?=some ct->vs[i*d.cts.length+j]?=some v->RR ct x v
theorem Rws.at {RR:CT->C->Value->Prop} {d:TD} {es:List (List C)} {vs:List Value} (h:Rws RR d es vs) (hpos:0<d.cts.length) {m:Nat} (hm:m<es.length*d.cts.length) {v:Value} (hv:vs[m]?=some v):
  ∃x ct,RR ct x v:=by
 have hi:m/d.cts.length<es.length:=(Nat.div_lt_iff_lt_mul hpos).2 hm
 have hj:m%d.cts.length<d.cts.length:=Nat.mod_lt _ hpos
 have e1:es[m/d.cts.length]?=some es[m/d.cts.length]:=Mg hi
 have hl:=h.len _ _ e1
 have e2:es[m/d.cts.length][m%d.cts.length]?=some (es[m/d.cts.length][m%d.cts.length]'(by omega)):=Mg _
 have e3:d.cts[m%d.cts.length]?=some (d.cts[m%d.cts.length]'hj):=Mg _
 refine ⟨_,_,h.rel _ _ _ _ _ v e1 e2 e3 ?_⟩
 have:m/d.cts.length*d.cts.length+m%d.cts.length=m:=by rw[Nat.mul_comm];exact Nat.div_add_mod m _
 rw[this];exact hv
theorem Rws.one {d:TD} {es:List (List C)} {vs:List Value} (h:Rws (cE T F w) d es vs) (hpos:0<d.cts.length) (hl:vs.length=es.length*d.cts.length):∀u∈vs,u.oneCell'=true:=by
 intro u hu
 obtain ⟨m,hm,rfl⟩:=List.mem_iff_getElem.1 hu
 obtain ⟨x,ct,hr⟩:=h.at hpos (m:=m) (by omega) (Mg hm)
 exact hr.one
theorem Rws.nil {RR:CT->C->Value->Prop} (d:TD) (vs:List Value):Rws RR d [] vs:=⟨fun i c h=>by simp at h,fun i c j x ct v h=>by simp at h⟩
theorem Rws.mv {d:TD} {es:List (List C)} {vs:List Value} {F':Nat->Prop} {w':World} (h:Rws (cE T F w) d es vs) (hF:∀k,F k->F' k) (hw:∀k,F k->w'.heap[k]?=w.heap[k]?):Rws (cE T F' w') d es vs:=
 ⟨h.len,fun i c j x ct v a b e g=>(h.rel i c j x ct v a b e g).mv hF hw⟩
theorem kK {k i n j:Nat} (hi:i<n) (hj:j<k):i*k+j<n*k:=by
 calc i*k+j<i*k+k:=by omega
  _=(i+1)*k:=by rw[Nat.succ_mul]
  _<=n*k:=MA _ hi
theorem Rws.app {RR:CT->C->Value->Prop} {d:TD} {es fs:List (List C)} {us vs ws:List Value} (h:Rws RR d es us) (hl:us.length=es.length*d.cts.length) (h':Rws RR d fs vs) (hl':vs.length=fs.length*d.cts.length):Rws RR d (es++fs) (us++vs++ws):=by
 refine ⟨fun i c hc=>?_,fun i c j x ct v hc hx ht hv=>?_⟩
 ·rw[List.getElem?_append] at hc
  split at hc
  ·exact h.len _ _ hc
  ·exact h'.len _ _ hc
 ·have hj:j<d.cts.length:=(Ml.1 ht).1
  rw[List.getElem?_append] at hc
  split at hc
  ·rename_i hi
   have:=kK hi hj
   rw[M0,MV (by omega)] at hv
   exact h.rel i c j x ct v hc hx ht hv
  ·rename_i hi
   have hi2:i-es.length<fs.length:=(Ml.1 hc).1
   have:=kK hi2 hj
   have e:i*d.cts.length+j-us.length=(i-es.length)*d.cts.length+j:=by
    rw[hl,Nat.sub_mul]
    have:es.length*d.cts.length<=i*d.cts.length:=MA _ (by omega)
    omega
   have:us.length<=i*d.cts.length+j:=by
    rw[hl]
    have:es.length*d.cts.length<=i*d.cts.length:=MA _ (by omega)
    omega
   rw[M0,MW this,e,MV (by omega)] at hv
   exact h'.rel _ c j x ct v hc hx ht hv
theorem Rws.wM {RR:CT->C->Value->Prop} {d:TD} {es:List (List C)} {us vs:List Value} (h:Rws RR d es us) (he:vs.take (es.length*d.cts.length)=us.take (es.length*d.cts.length)):Rws RR d es vs:=by
 refine ⟨h.len,fun i c j x ct v hc hx ht hv=>h.rel i c j x ct v hc hx ht ?_⟩
 have hi:i<es.length:=(Ml.1 hc).1
 have hj:j<d.cts.length:=(Ml.1 ht).1
 have:=kK hi hj
 have e1:(vs.take (es.length*d.cts.length))[i*d.cts.length+j]?=some v:=by rw[List.getElem?_take_of_lt this];exact hv
 rw[he,List.getElem?_take_of_lt this] at e1
 exact e1
theorem Rws.part {RR:CT->C->Value->Prop} {d:TD} {es:List (List C)} {us:List Value} (h:Rws RR d es us) (lo hi:Nat):Rws RR d ((es.take hi).drop lo) ((us.take (hi*d.cts.length)).drop (lo*d.cts.length)):=by
 have key:∀i c,((es.take hi).drop lo)[i]?=some c->lo+i<hi/\es[lo+i]?=some c:=by
  intro i c hc
  rw[MB,List.getElem?_take] at hc
  split at hc
  ·rename_i h;exact ⟨h,hc⟩
  ·simp at hc
 refine ⟨fun i c hc=>h.len _ _ (key i c hc).2,fun i c j x ct v hc hx ht hv=>?_⟩
 obtain ⟨h1,h2⟩:=key i c hc
 have hj:j<d.cts.length:=(Ml.1 ht).1
 refine h.rel _ c j x ct v h2 hx ht ?_
 rw[MB,List.getElem?_take] at hv
 split at hv
 ·rw[Nat.add_mul,Nat.add_assoc];exact hv
 ·simp at hv
def Src (T:Tys) (F:Nat->Prop) (w:World) (d:TD) (src:List (List C)) (v:Value):Prop:=
 ∃A c news,v=.slice A src.length c/\news.length=src.length*d.cts.length/\Rws (cE T F w) d src news/\(src=[]∨∃a,A=some a/\∀j u,news[j]?=some u->w.cell? (a.add j)=some u)
theorem Src.mt {d:TD} (A:Option Addr) (c:Nat):Src T F w d [] (.slice A 0 c):=⟨A,c,[],rfl,by simp,Rws.nil d [],.inl rfl⟩
theorem oN {b ver:Nat} {t:TypeId} {es:List (List C)} {d:TD} (h:iZ T F w bx θ b (.arr ver t es 0)) (hd:bj T t=some d):
  ∃A cap us,θ b=.slice A es.length cap/\us.length=es.length*d.cts.length/\Rws (cE T F w) d es us/\
   ((A=none/\es=[]/\cap=0)∨∃g o cs,A=some ⟨g,o,none⟩/\w.heap[g]?=some (.cells cs t (0,0))/\cs.size=o+cap*d.cts.length/\(es.length<=cap/\cap<=maxLen)/\us=(cs.toList.drop o).take (es.length*d.cts.length)):=by
 obtain ⟨d',A,cap,hd',hth,hlen,hA⟩:=h
 rw[hd] at hd';obtain rfl:=Mh hd'
 rcases hA with ⟨rfl,rfl,rfl⟩|⟨g,o,cs,rfl,h1,h2,h3,h4⟩
 ·exact ⟨none,0,[],hth,by simp,Rws.nil d [],.inl ⟨rfl,rfl,rfl⟩⟩
 ·refine ⟨_,cap,(cs.toList.drop o).take (es.length*d.cts.length),hth,?_,?_,.inr ⟨g,o,cs,rfl,h1,h2,h3,rfl⟩⟩
  ·have:es.length*d.cts.length<=cap*d.cts.length:=MA _ h3.1
   simp;omega
  ·have h5:Rws (cE T F w) d es (cs.toList.drop o):=⟨hlen,fun i c j x ct v a1 a2 a3 a4=>h4 i c j x ct v a1 a2 a3 (by rw[MB] at a4;simpa using a4)⟩
   exact h5.wM (by rw[List.take_take,Nat.min_self])
theorem zf {α:Type} {es:List α} {lo hi:Int} (h0:0<=lo) (h1:lo<=hi) (h2:hi<=es.length):((es.take hi.toNat).drop lo.toNat).length=(hi-lo).toNat:=by
 rw[MQ,ME];omega
theorem toNat_sub' {lo hi:Int} (h0:0<=lo) (h1:lo<=hi):(hi-lo).toNat=hi.toNat-lo.toNat:=by omega
theorem ri (hT:TOk P T) (hw:WR T fr F w bx θ) {e:TypeId} {de:TD} (hde:bj T e=some de) {x:V} {v:Value} (hx:aj T F w bx θ x v) {k:List (List C)->List Nat->R} {r:Out}
  (h:jr e x bx k=some r):∃src rd,k src rd=some r/\Src T F w de src v:=by
 have hpos:=(cC hT hde).pos
 unfold jr at h
 split at h
 ·rename_i e' y
  replace h:=kS h;obtain ⟨h1,hk⟩:=h
  have e1:=Mi h1;subst e1
  refine ⟨_,_,hk,?_⟩
  cases hx with
  |c t x v hc=>
   cases hc with
   |sl0 e a cap=>exact Src.mt a cap
   |sl e d es g o cap cv hd hg hcap hlen hc hr=>
    rw[hde] at hd;obtain rfl:=Mh hd
    have key:∀m u,((List.range (es.length*de.cts.length)).map fun m=>cv (m/de.cts.length) (m%de.cts.length))[m]?=some u->m<es.length*de.cts.length/\u=cv (m/de.cts.length) (m%de.cts.length):=by
     intro m u hu
     rcases Nat.lt_or_ge m (es.length*de.cts.length) with h|h
     ·simp[List.getElem?_range h] at hu;exact ⟨h,hu.symm⟩
     ·rw[M7 (by simpa using h)] at hu;simp at hu
    refine ⟨_,cap,(List.range (es.length*de.cts.length)).map fun m=>cv (m/de.cts.length) (m%de.cts.length),rfl,by simp[C.L],⟨hlen,?_⟩,.inr ⟨_,rfl,?_⟩⟩
    ·intro i c j x ct v a1 a2 a3 a4
     have hj:j<de.cts.length:=(Ml.1 a3).1
     obtain ⟨_,rfl⟩:=key _ _ a4
     rw[Nat.mul_comm,Nat.mul_add_div hpos,Nat.mul_add_mod,Nat.div_eq_of_lt hj,Nat.mod_eq_of_lt hj,Nat.add_zero]
     exact hr i c j x ct a1 a2 a3
    ·intro j u hu
     obtain ⟨hm,rfl⟩:=key _ _ hu
     have hi:j/de.cts.length<es.length:=(Nat.div_lt_iff_lt_mul hpos).2 hm
     have hj:j%de.cts.length<de.cts.length:=Nat.mod_lt _ hpos
     have e1:es[j/de.cts.length]?=some es[j/de.cts.length]:=Mg hi
     have hl:=hlen _ _ e1
     have e2:es[j/de.cts.length][j%de.cts.length]?=some (es[j/de.cts.length][j%de.cts.length]'(by omega)):=Mg _
     have:=hc _ _ _ _ e1 e2
     rw[Addr.add_lit]
     have e3:j/de.cts.length*de.cts.length+j%de.cts.length=j:=by rw[Nat.mul_comm];exact Nat.div_add_mod j _
     rw[e3] at this
     exact this
 ·cases hx
  exact ⟨_,_,h,Src.mt none 0⟩
 ·rename_i b ver
  replace h:=kR h;obtain ⟨y,hy,h⟩:=h
  split at h
  ·rename_i v' e' es m
   replace h:=kS h;obtain ⟨h1,hk⟩:=h
   rw[ao,Mk] at h1
   obtain ⟨h1,hm⟩:=h1
   rw[ao,Mk] at h1
   have e1:=Mi h1.2;subst e1
   obtain ⟨rfl,rfl⟩:=oC hx hy h1.1
   refine ⟨_,_,hk,?_⟩
   obtain ⟨A,cap,us,hth,hul,hrw,hA⟩:=oN (qL hw hy (lv hm)) hde
   rcases hA with ⟨rfl,rfl,rfl⟩|⟨g,o,cs,rfl,h1,h2,h3,rfl⟩
   ·rw[hth];exact Src.mt none 0
   ·rw[hth]
    refine ⟨_,cap,_,rfl,hul,hrw,.inr ⟨_,rfl,fun j u hu=>?_⟩⟩
    rw[Addr.add_lit]
    rw[List.getElem?_take] at hu
    split at hu
    ·rw[MB] at hu
     simp[World.cell?,h1];simpa using hu
    ·simp at hu
  ·exact (aC h).elim
 ·rename_i b ver lo hi
  replace h:=kR h;obtain ⟨y,hy,h⟩:=h
  split at h
  ·rename_i v' e' es m
   replace h:=kS h;obtain ⟨h1,hk⟩:=h
   rw[ao,Mk] at h1
   obtain ⟨h1,hm⟩:=h1
   rw[ao,Mk] at h1
   have e1:=Mi h1.2;subst e1
   obtain ⟨rfl,d,A',c',hd',h0,hlh,hhi,rfl,hcc,hblk,_⟩:=tx hx hy h1.1
   rw[hde] at hd';obtain rfl:=Mh hd'
   refine ⟨_,_,hk,?_⟩
   obtain ⟨A,cap,us,hth,hul,hrw,hA⟩:=oN (qL hw hy (lv hm)) hde
   have hsl:=zf h0 hlh hhi
   rcases Int.lt_or_eq_of_le hlh with hlt|rfl
   ·obtain ⟨g,og,e2,rfl⟩:=hblk hlt
    refine ⟨_,c',_,by rw[hsl],?_,hrw.part lo.toNat hi.toNat,.inr ⟨_,rfl,fun j u hu=>?_⟩⟩
    ·have a1:hi.toNat*de.cts.length<=es.length*de.cts.length:=MA _ (by omega)
     rw[hsl,MQ,ME,hul,Nat.min_eq_left a1,toNat_sub' h0 hlh,Nat.sub_mul]
    ·rw[Addr.add_lit]
     rcases hA with ⟨rfl,rfl,rfl⟩|⟨g',o',cs,rfl,h1,h2,h3,rfl⟩
     ·simp at hhi;omega
     ·rw[hth] at e2
      simp only[ML,Mj,Addr.mk.injEq,true_and] at e2
      obtain ⟨⟨rfl,rfl,_⟩,_⟩:=e2
      rw[MB,List.getElem?_take] at hu
      split at hu
      ·rw[List.getElem?_take] at hu
       split at hu
       ·rw[MB] at hu
        simp[World.cell?,h1];simpa [Nat.add_assoc] using hu
       ·simp at hu
      ·simp at hu
   ·have:((es.take lo.toNat).drop lo.toNat)=[]:=by simp
    rw[this]
    have:(lo-lo).toNat=0:=by omega
    rw[this]
    exact Src.mt A' c'
  ·exact (aC h).elim
 ·exact (aC h).elim
end
end Go.Ev
namespace Go.Ev
section
variable {P:Program} {T:Tys} {fr:Fr} {F:Nat->Prop} {w:World} {bx:Bxs} {θ:Nat->Value}
def Aft (T:Tys) (fr:Fr) (F:Nat->Prop) (w:World) (bx:Bxs) (θ:Nat->Value) (e:Eff) (v:Value) (w':World):Prop:=
 ∃F' θ',WR T fr F' w' (dL bx e.up) θ'/\Mv F w bx θ F' w' (dL bx e.up) θ'/\aj T F' w' (dL bx e.up) θ' e.v v
def Chg (P:Program) (T:Tys) (fr:Fr) (F:Nat->Prop) (w:World) (bx:Bxs) (θ:Nat->Value) (s:Sem Value) (k:Eff->List Nat->R) (r:Out):Prop:=
 ∃e rd v w',k e rd=some r/\s.run P w=.ok v w'/\Aft T fr F w bx θ e v w'
theorem Reads.chg {s:Sem Value} {k:Eff->List Nat->R} {r:Out} (hw:WR T fr F w bx θ) (h:Reads P T F w bx θ s k r):Chg P T fr F w bx θ s k r:=by
 obtain ⟨x,rd,v,h1,h2,h3⟩:=h
 exact ⟨_,rd,v,w,h1,h2,F,θ,hw,Mv.refl _ _ _ _,h3⟩
theorem aj.one {x:V} {v:Value} (h:aj T F w bx θ x v) (hc:il x=true):v.oneCell'=true/\v.cells= #[v]:=by
 cases h with
 |un=>simp[il] at hc
 |ud=>simp[il] at hc
 |c t x v h=>cases h<;>exact ⟨rfl,rfl⟩
 |nl=>exact ⟨rfl,rfl⟩
 |np=>exact ⟨rfl,rfl⟩
 |ow b ver v x hb hv hs h=>obtain ⟨A,n,c,rfl⟩:=hs;exact ⟨rfl,rfl⟩
 |mp b ver v x hb hv hs h=>obtain ⟨A,rfl⟩:=hs;exact ⟨rfl,rfl⟩
 |vw b ver lo hi v x hb hv hs h=>obtain ⟨A,n,c,rfl⟩:=hs;exact ⟨rfl,rfl⟩
 |pt b ver off v x hb hv hs h=>obtain ⟨A,rfl⟩:=hs;exact ⟨rfl,rfl⟩
 |pe b ver ix off nb v x hb hv hs h=>obtain ⟨A,rfl⟩:=hs;exact ⟨rfl,rfl⟩
 |rf b ver ix off e v x hb hv hs h=>obtain ⟨A,n,c,rfl⟩:=hs;exact ⟨rfl,rfl⟩
 |fa=>exact ⟨rfl,rfl⟩
 |ag=>simp[il] at hc
 |tu=>simp[il] at hc
 |fn=>exact ⟨rfl,rfl⟩
theorem tG {l:List V} (h:eN l=true):∀(i:Nat) (x:V),l[i]?=some x->il x=true:=by
 induction l with
 |nil=>intro i x hx;simp at hx
 |cons y r ih=>
  simp only[eN,ao,Mk] at h
  intro i x hx
  cases i with
  |zero=>simp at hx;subst hx;exact h.1
  |succ i=>exact ih h.2 i x (by simpa using hx)
theorem qD {x:V} {v:Value} (h:aj T F w bx θ x v) (hc:eN (bI x)=true):
  v.cells.size=(bI x).length/\(∀u∈v.cells.toList,u.oneCell'=true)/\∀(i:Nat) (y:V) (u:Value),(bI x)[i]?=some y->v.cells[i]?=some u->aj T F w bx θ y u:=by
 have one:∀(hi:il x=true) (he:bI x=[x]),v.cells.size=(bI x).length/\(∀u∈v.cells.toList,u.oneCell'=true)/\∀(i:Nat) (y:V) (u:Value),(bI x)[i]?=some y->v.cells[i]?=some u->aj T F w bx θ y u:=by
  intro hi he
  obtain ⟨h1,h2⟩:=h.one hi
  rw[he,h2]
  refine ⟨rfl,by simpa using h1,fun i y u a b=>?_⟩
  cases i with
  |zero=>simp at a b;subst a;subst b;exact h
  |succ i=>simp at a
 cases x with
 |ag l o=>
  cases h with
  |ag l _ vs hl _ hr=>
   simp only[bI] at hc⊢
   simp only[Value.cells]
   refine ⟨by simpa using hl,fun u hu=>?_,fun i y u a b=>hr i y u a (by simpa using b)⟩
   obtain ⟨i,hi,rfl⟩:=List.mem_iff_getElem.1 (show u∈vs by simpa using hu)
   have e1:l[i]?=some (l[i]'(by omega)):=Mg _
   exact (aj.one (hr i _ _ e1 (Mg hi)) (tG hc i _ e1)).1
 |un=>simp[bI,eN,il,ao] at hc
 |ud=>simp[bI,eN,il,ao] at hc
 |tu l=>simp[bI,eN,il,ao] at hc
 |_=>exact one rfl rfl
theorem pq (w:World) (o:Obj):(w.alloc o).os=w.os/\(w.alloc o).tape=w.tape/\((w.alloc o).output=w.output/\w.drawn<=(w.alloc o).drawn)/\(w.alloc o).heap.size=w.heap.size+1:=⟨rfl,rfl,⟨rfl,Mp _⟩,by simp⟩
theorem ph {bx:Bxs} {b:Nat} {x:Box} (h:bx b=some x):x.ver<fY bx b:=by simp[fY,h]
theorem AO (hw:WR T fr F w bx θ) {t:TypeId} {d:TD} (hd:bj T t=some d) (b:Nat) {cells:List V} {vs:Array Value} (hl:cells.length=d.cts.length) (hs:vs.size=cells.length)
  (hr:∀(i:Nat) (x:V) (v:Value),cells[i]?=some x->vs[i]?=some v->aj T F w bx θ x v):
  Aft T fr F w bx θ ⟨.pt b (fY bx b) 0,[(b,.var (fY bx b) t cells)]⟩ (.pointer (some ⟨w.heap.size,0,none⟩)) (w.alloc (.cells vs t)):=by
 obtain ⟨f1,f2,f3,f4⟩:=pq w (.cells vs t)
 have:=hw.put b (.var (fY bx b) t cells) (.pointer (some ⟨w.heap.size,0,none⟩)) (w.alloc (.cells vs t)) (fun x hx=>.inl (ph hx))
  (fun k hk=>.inl (heap_alloc_old w _ hk)) (by omega) f1 f2 f3 (fun g hg=>by simp[bJ] at hg;subst hg;exact .inl ⟨Mp _,by omega⟩) (fun _ h=>h) trivial
  (fun m=>⟨w.heap.size,vs,t,d,ar _ _ _,heap_alloc_new w _,hs,hd,hl,fun i x v a1 a2=>(hr i x v a1 a2).mv m⟩)
 refine ⟨F,_,this.1,this.2,.pt b _ 0 _ _ (ar _ _ _) (Mp _) ⟨_,rfl⟩ fun _=>⟨t,cells,w.heap.size,rfl,ar _ _ _,rfl⟩⟩
theorem AI (t:CT):aj T F w bx θ (ya t) (cd t):=by
 cases t with
 |int k=>exact .c _ _ _ (.int _ _)
 |bool=>exact .c _ _ _ (.bool _)
 |str=>exact .c _ _ _ (.str _)
 |sl e=>exact .nl
 |pt e=>exact .np
 |fn=>exact .c _ _ _ .fn0
theorem Hk (hT:TOk P T) (hw:WR T fr F w bx θ) {t:TypeId} {b:Nat} {k:Eff->List Nat->R} {r:Out}
  (h:(do let d←opt (bj T t);let ver←dq b;M.ret ⟨.pt b ver 0,[(b,.var ver t (d.cts.map ya))]⟩:M Eff) bx k=some r):
  Chg P T fr F w bx θ (Instr.alloc t true (.tuple #[])) k r:=by
 replace h:=kO h;obtain ⟨d,hd,h⟩:=h
 rw[bnd,lp] at h
 have ht:=cC hT hd
 refine ⟨_,_,_,_,h,?_,AO hw hd b (vs:=(zeroOf d).cells) (by simp) (by simp[ht.pV]) ?_⟩
 ·simp[Instr.alloc,ht.yG,newVar,newRow]
 ·intro i x v h1 h2
  rw[ht.pV] at h2
  simp only[No,Option.map_eq_some_iff] at h1
  obtain ⟨c,hc,rfl⟩:=h1
  simp[No,hc] at h2
  subst h2
  exact AI c
theorem JY (hT:TOk P T) (hw:WR T fr F w bx θ) {t:TypeId} {b:Nat} {x:V} {v:Value} (hx:aj T F w bx θ x v) {k:Eff->List Nat->R} {r:Out}
  (h:(do let d←opt (bj T t);let ver←dq b;bd (Nat.beq (len (bI x)) (len d.cts));bd (eN (bI x));M.ret ⟨.pt b ver 0,[(b,.var ver t (bI x))]⟩:M Eff) bx k=some r):
  Chg P T fr F w bx θ (Instr.box t v) k r:=by
 replace h:=kO h;obtain ⟨d,hd,h⟩:=h
 rw[bnd,lp] at h
 replace h:=kS h;obtain ⟨c1,h⟩:=h
 replace h:=kS h;obtain ⟨c2,h⟩:=h
 have e1:=Mi c1
 rw[dA,dA] at e1
 obtain ⟨g1,g2,g3⟩:=qD hx c2
 refine ⟨_,_,_,_,h,?_,AO hw hd b (vs:=v.cells) e1 g1 g3⟩
 simp[Instr.box,newVar,newRow]
theorem mI {α:Type} (l:List α) (off:Nat) (m:List α):tD l off m=l.take off++m++l.drop (off+m.length):=by
 simp[tD,fP,qC,rz,dA]
theorem eQ {α:Type} {l:List α} {off:Nat} {m:List α} (hl:off+m.length<=l.length) (i:Nat):
  (l.take off++m++l.drop (off+m.length))[i]?=if off<=i/\i<off+m.length then m[i-off]? else l[i]?:=by
 have h1:(l.take off).length=off:=by rw[ME];omega
 by_cases a:i<off
 ·rw[M0,MV (by omega),List.getElem?_take_of_lt a,if_neg (by omega)]
 ·by_cases b:i<off+m.length
  ·rw[MV (by rw[MP];omega),MW (by omega),h1,if_pos ⟨by omega,b⟩]
  ·rw[MW (by rw[MP];omega),MB,MP,h1,if_neg (by omega)]
   congr 1;omega
theorem eC {α:Type} {l:List α} {off:Nat} {m:List α} (hl:off+m.length<=l.length):(l.take off++m++l.drop (off+m.length)).length=l.length:=by
 simp only[MP,ME,MQ];omega
theorem mz.pE {t:TypeId} {d:TD} (h:mz P T t d) {g off:Nat} {cs:Array Value} {e:TypeId} (hg:w.heap[g]?=some (.cells cs e (0,0))) {v:Value} (hs:v.cells.size=d.cts.length)
  (h1:∀u∈v.cells.toList,u.oneCell'=true) (hl:off+d.cts.length<=cs.size):
  (storeVar t ⟨g,off,none⟩ v).run P w=.ok () (w.setRow g (cs.toList.take off++v.cells.toList++cs.toList.drop (off+v.cells.toList.length)).toArray):=by
 have hst:=run_storeCells_at P g off e v.cells.toList 0 cs w hg (by simp;omega) h1
 simp only[Nat.add_zero] at hst
 unfold storeVar
 simp[h.run_sizeOf,hs]
 simpa [hs] using hst
def ub (P:Program) (T:Tys) (fr:Fr) (F:Nat->Prop) (w:World) (bx:Bxs) (θ:Nat->Value) (s:Sem Unit) (k:Eff->List Nat->R) (r:Out):Prop:=
 ∃e rd w',k e rd=some r/\s.run P w=.ok () w'/\Aft T fr F w bx θ e undef w'
theorem je (w:World) (g:Nat) (cs:Array Value):(w.setRow g cs).os=w.os/\(w.setRow g cs).tape=w.tape/\((w.setRow g cs).output=w.output/\w.drawn<=(w.setRow g cs).drawn)/\(w.setRow g cs).heap.size=w.heap.size:=⟨rfl,rfl,⟨rfl,Mp _⟩,by simp⟩
theorem EO (hT:TOk P T) (hw:WR T fr F w bx θ) {t:TypeId} {x:V} {v:Value} (hx:aj T F w bx θ x v) {b ver off:Nat} {va:Value} (ha:aj T F w bx θ (.pt b ver off) va) {k:Eff->List Nat->R} {r:Out}
  (h:pX T t x (.pt b ver off) bx k=some r):ub P T fr F w bx θ (Instr.storeAt t va v) k r:=by
 simp only[pX] at h
 replace h:=kO h;obtain ⟨d,hd,h⟩:=h
 replace h:=kR h;obtain ⟨y,hy,h⟩:=h
 have ht:=cC hT hd
 split at h
 ·rename_i ver' t' cells
  replace h:=kS h;obtain ⟨c1,h⟩:=h
  replace h:=kS h;obtain ⟨c2,h⟩:=h
  replace h:=kS h;obtain ⟨c3,h⟩:=h
  replace h:=kS h;obtain ⟨c4,h⟩:=h
  have e2:=Mi c2
  have e4:=MJ c4
  simp only[dA] at e2 e4
  obtain ⟨g,hth,rfl,rfl⟩:=y7 ha hy c1
  obtain ⟨g1,g2,g3⟩:=qD hx c3
  obtain ⟨g',cs,e,d',q1,q2,q3,q4,q5,q6⟩:=hw.box b _ hy
  rw[hth] at q1
  simp only[Value.pointer.injEq,Mj,Addr.mk.injEq,and_true] at q1
  subst q1
  have hrun:=ht.pE (off:=off) q2 (v:=v) (by omega) g2 (by omega)
  obtain ⟨f1,f2,f3,f4⟩:=je w g (cs.toList.take off++v.cells.toList++cs.toList.drop (off+v.cells.toList.length)).toArray
  have hvl:v.cells.toList.length=(bI x).length:=by simpa using g1
  have hcl:cs.toList.length=cells.length:=by simpa using q3
  have hput:=hw.put b (.var ver' t' (tD cells off (bI x))) (θ b) (w.setRow g (cs.toList.take off++v.cells.toList++cs.toList.drop (off+v.cells.toList.length)).toArray)
   (fun z hz=>by
    rw[hy] at hz;obtain rfl:=Mh hz
    refine .inr ⟨rfl,?_,rfl,fun h=>by simp[Box.m] at h⟩
    show cells.length=_
    rw[mI,eC (by omega)])
   (fun q hq=>by
    by_cases hqg:q=g
    ·subst hqg;exact .inr ⟨_,hy,rfl,by rw[hth];rfl⟩
    ·exact .inl (setRow_other w g q _ hqg))
   (by omega) f1 f2 f3 (fun q hq=>.inr ⟨_,hy,rfl,hq⟩) (fun _ h=>h) trivial
   (fun m=>by
    refine ⟨g,_,e,d',by rw[ar];exact hth,setRow_heap w g _ _ e _ q2,?_,q4,?_,?_⟩
    ·rw[mI,eC (by omega)]
     simp only[List.size_toArray]
     rw[eC (by omega),hcl]
    ·rw[mI,eC (by omega)];exact q5
    ·intro i z u h1 h2
     rw[mI,eQ (by omega)] at h1
     simp only[List.getElem?_toArray] at h2
     rw[eQ (by omega),hvl] at h2
     split at h1
     ·rename_i hc
      rw[if_pos hc] at h2
      exact (g3 _ _ _ h1 (by simpa using h2)).mv m
     ·rename_i hc
      rw[if_neg hc] at h2
      exact (q6 _ _ _ h1 (by simpa using h2)).mv m)
  exact ⟨_,_,_,h,by simpa [Instr.storeAt,Instr.sureAddr] using hrun,F,_,hput.1,hput.2,.un _⟩
 ·exact (aC h).elim
end
end Go.Ev
namespace Go.Ev
section
variable {P:Program} {T:Tys} {fr:Fr} {F:Nat->Prop} {w:World} {bx:Bxs} {θ:Nat->Value}
theorem Im {t:CT} {x:V} {v:Value} {c:C} (h:wV t x=some c) (hx:aj T F w bx θ x v):cE T F w t c v/\il x=true:=by
 unfold wV at h
 split at h
 ·rename_i t' y
  cases hc:jg t t' with
  |false=>simp[hc,sif] at h
  |true=>
   have e:=gI hc;subst e
   simp[hc,sif] at h;subst h
   cases hx with
   |c t x v hr=>exact ⟨hr,rfl⟩
 ·simp at h;subst h;cases hx;exact ⟨.sl0 _ _ _,rfl⟩
 ·simp at h;subst h;cases hx;exact ⟨.pt0 _,rfl⟩
 ·simp at h
theorem yQ:∀ {ts:List CT} {l:List V} {xs:List C},ij ts l=some xs->xs.length=ts.length/\l.length=ts.length
 |[],[],xs,h=>by simp[ij] at h;subst h;exact ⟨rfl,rfl⟩
 |[],_::_,xs,h=>by simp[ij] at h
 |_::_,[],xs,h=>by simp[ij] at h
 |t::ts,v::vs,xs,h=>by
  simp only[ij] at h
  split at h
  ·split at h
   ·rename_i r hr
    simp at h;subst h
    obtain ⟨h1,h2⟩:=yQ hr
    exact ⟨by simp[h1],by simp[h2]⟩
   ·simp at h
  ·simp at h
theorem tg:∀ {ts:List CT} {l:List V} {xs:List C},ij ts l=some xs->∀(i:Nat) (c:C),xs[i]?=some c->∃t x,ts[i]?=some t/\l[i]?=some x/\wV t x=some c
 |[],[],xs,h,i,c,hc=>by simp[ij] at h;subst h;simp at hc
 |[],_::_,xs,h,_,_,_=>by simp[ij] at h
 |_::_,[],xs,h,_,_,_=>by simp[ij] at h
 |t::ts,v::vs,xs,h,i,c,hc=>by
  simp only[ij] at h
  split at h
  ·rename_i x hx
   split at h
   ·rename_i r hr
    simp at h;subst h
    cases i with
    |zero=>simp at hc;subst hc;exact ⟨t,v,rfl,rfl,hx⟩
    |succ i=>simpa using tg hr i c (by simpa using hc)
   ·simp at h
  ·simp at h
theorem Fb {t:CT} {x:V} {c:C} (h:wV t x=some c):il x=true:=by
 unfold wV at h
 split at h<;>first|rfl|simp at h
theorem B1 {ts:List CT} {l:List V} {xs:List C} (h:ij ts l=some xs):eN l=true:=by
 induction ts generalizing l xs with
 |nil=>cases l with
  |nil=>rfl
  |cons=>simp[ij] at h
 |cons t ts ih=>cases l with
  |nil=>rfl
  |cons v vs=>
   simp only[ij] at h
   split at h
   ·rename_i x hx
    split at h
    ·rename_i r hr
     simp[eN,ao,Fb hx,ih hr]
    ·simp at h
   ·simp at h
theorem tf {ts:List CT} {x:V} {v:Value} {xs:List C} (h:ij ts (bI x)=some xs) (hx:aj T F w bx θ x v):
  xs.length=ts.length/\v.cells.toList.length=ts.length/\(∀u∈v.cells.toList,u.oneCell'=true)/\∀(i:Nat) (c:C) (t:CT) (u:Value),xs[i]?=some c->ts[i]?=some t->v.cells.toList[i]?=some u->cE T F w t c u:=by
 obtain ⟨h1,h2⟩:=yQ h
 obtain ⟨g1,g2,g3⟩:=qD hx (B1 h)
 refine ⟨h1,by simpa [h2] using g1,g2,fun i c t u a b e=>?_⟩
 obtain ⟨t',y,q1,q2,q3⟩:=tg h i c a
 rw[b] at q1;obtain rfl:=Mh q1
 exact (Im q3 (g3 i y u q2 (by simpa using e))).1
theorem pr {F':Nat->Prop} {b ver:Nat} {t:TypeId} {es:List (List C)} (h:iZ T F w bx θ b (.arr ver t es 0)) (hF:∀k,F k->F' k) (hg:∀g,bJ (θ b)=some g->F' g):
  cE T F' w (.sl t) (.l es) (θ b):=by
 obtain ⟨d,A,cap,hd,hth,hlen,hA⟩:=h
 rcases hA with ⟨rfl,rfl,rfl⟩|⟨g,o,cs,rfl,h1,h2,h3,h4⟩
 ·rw[hth];exact .sl0 _ _ _
 ·rw[hth] at hg⊢
  have key:∀(i:Nat) (c:List C) (j:Nat) (x:C),es[i]?=some c->c[j]?=some x->o+(i*d.cts.length+j)<cs.size:=by
   intro i c j x a1 a2
   have hi:i<es.length:=(Ml.1 a1).1
   have hj:j<d.cts.length:=by rw[←hlen i c a1];exact (Ml.1 a2).1
   have:=kK (show i<cap by omega) hj
   omega
  refine .sl t d es g o cap (fun i j=>cs.getD (o+(i*d.cts.length+j)) undef) hd (hg g rfl) h3.1 hlen (fun i c j x a1 a2=>?_) (fun i c j x ct a1 a2 a3=>?_)
  ·have:=key i c j x a1 a2
   simp[World.cell?,h1,Array.getD,this]
  ·have:=key i c j x a1 a2
   have h5:cE T F w ct x _:=h4 i c j x ct (cs.getD (o+(i*d.cts.length+j)) undef) a1 a2 a3 (by simp[Array.getD,this])
   exact h5.mv hF fun _ _=>rfl
theorem LN (hw:WR T fr F w bx θ) {b v m:Nat} {t:TypeId} {es:List (List C)} (hb:bx b=some (.arr v t es m)) (hne:¬2<=m):
  ∃F',WR T fr F' w (upd bx b (some (.dead (v+1)))) θ/\Mv F w bx θ F' w (upd bx b (some (.dead (v+1)))) θ/\
   (∀x val,aj T F w bx θ x val->aj T F' w (upd bx b (some (.dead (v+1)))) θ (yU b v t es x) val)/\∀g,bJ (θ b)=some g->F' g:=by
 have hm:Mv F w bx θ (fun k=>F k∨bJ (θ b)=some k) w (upd bx b (some (.dead (v+1)))) θ:=by
  refine ⟨fun _ h=>.inl h,fun _ _=>rfl,fun b' x hx=>?_⟩
  by_cases he:b'=b
  ·subst he
   rw[hb] at hx;obtain rfl:=Mh hx
   exact ⟨_,ar _ _ _,by simp[Box.ver],fun h=>by simp[Box.ver] at h⟩
  ·exact ⟨x,by rw[aY _ _ he];exact hx,Mp _,fun _=>⟨x.kI,rfl,fun h=>⟨h,fun _ _ _ _ _ _ _ _ _ h=>h⟩⟩⟩
 have hc:cE T (fun k=>F k∨bJ (θ b)=some k) w (.sl t) (.l es) (θ b):=pr (qL hw hb hne) (fun _ h=>.inl h) fun g h=>.inr h
 have hget:∀b' x,upd bx b (some (Box.dead (v+1))) b'=some x->x.live=true->b'≠b/\bx b'=some x:=by
  intro b' x hx hl
  by_cases he:b'=b
  ·subst he
   rw[ar] at hx;obtain rfl:=Mh hx
   simp[Box.live] at hl
  ·rw[aY _ _ he] at hx;exact ⟨he,hx⟩
 have h0:∀x val,aj T F w bx θ x val->aj T (fun k=>F k∨bJ (θ b)=some k) w (upd bx b (some (.dead (v+1)))) θ (oY b v t es x) val:=by
  intro x val hx
  cases x with
  |ow b' v'=>
   show aj T _ w _ θ (sif (az (Nat.beq b' b) (Nat.beq v' v)) (.c (.sl t) (.l es)) (.ow b' v')) val
   cases hq:az (Nat.beq b' b) (Nat.beq v' v) with
   |false=>exact hx.mv hm
   |true=>
    simp only[ao,Mk] at hq
    have e1:=Mi hq.1;subst e1
    have e2:=Mi hq.2;subst e2
    rw[ai]
    obtain ⟨_,rfl⟩:=oC hx hb (Nat.beq_refl _)
    exact .c _ _ _ hc
  |_=>exact hx.mv hm
 have hget2:∀b' x k,upd bx b (some (Box.dead (v+1))) b'=some x->x.nst T w (θ b') k->b'≠b/\bx b'=some x:=by
  intro b' x k hx hk
  by_cases he:b'=b
  ·subst he
   rw[ar] at hx;obtain rfl:=Mh hx
   exact hk.elim
  ·rw[aY _ _ he] at hx;exact ⟨he,hx⟩
 refine ⟨_,⟨?_,?_,?_,?_,hw.keep,fun k hk=>.inl (hw.sub k hk),?_,sw hw.stay hm,?_,?_,?_,fun k hk=>.inl (hw.nlF k hk)⟩,hm,fun x val hx=>?_,fun g hg=>.inr hg⟩
 ·intro b' x hx
  by_cases he:b'=b
  ·subst he
   rw[ar] at hx;obtain rfl:=Mh hx
   trivial
  ·rw[aY _ _ he] at hx
   exact (hw.box b' x hx).mv hm rfl (fun _ _=>rfl) fun _ _=>rfl
 ·intro b1 b2 x1 x2 g h1 h2 l1 l2 g1 g2
  exact hw.disj b1 b2 x1 x2 g (hget _ _ h1 l1).2 (hget _ _ h2 l2).2 l1 l2 g1 g2
 ·intro b' x g h1 l1 g1
  obtain ⟨hne,hx⟩:=hget _ _ h1 l1
  obtain ⟨q1,q2⟩:=hw.out b' x g hx l1 g1
  refine ⟨?_,q2⟩
  rintro (h|h)
  ·exact q1 h
  ·exact hne (hw.disj b' b x _ g hx hb l1 rfl g1 h)
 ·rintro k (h|h)
  ·exact hw.lt k h
  ·exact (hw.out b _ k hb rfl h).2.1
 ·rintro k (h|h)
  ·exact hw.new k h
  ·exact .inr ((hw.out b _ k hb rfl h).2.2.imp id .inl)
 ·intro b' x hx
  by_cases he:b'=b
  ·subst he
   rw[ar] at hx;obtain rfl:=Mh hx
   trivial
  ·rw[aY _ _ he] at hx
   exact hw.lin b' x hx
 ·intro b' x k hx hk
  obtain ⟨hne,hx'⟩:=hget2 b' x k hx hk
  obtain ⟨q1,q2,q3,q4,q5⟩:=hw.own b' x k hx' hk
  refine ⟨q1,fun h2=>?_,fun h2=>.inl (q3 h2),q4,fun c y hy hl=>q5 c y (hget c y hy hl).2 hl⟩
  rintro (h|h)
  ·exact q2 h2 h
  ·exact q5 b _ hb rfl h
 ·intro b' b'' x x' k hx hx' hk hk'
  exact hw.odj b' b'' x x' k (hget2 _ _ _ hx hk).2 (hget2 _ _ _ hx' hk').2 hk hk'
 ·cases x with
  |ag l o=>
   show aj T _ w _ θ (.ag (sI b v t es l) o) val
   have hmap:∀l:List V,sI b v t es l=l.map (oY b v t es):=fun l=>by
    induction l with
    |nil=>rfl
    |cons x r ih=>simp[sI,ih]
   rw[hmap]
   cases hx with
   |ag l _ vs hl ho h=>
    refine .ag _ _ vs (by simpa using hl) (fun x hx=>by
     obtain ⟨cs,e1,e2,e3⟩:=ho x hx
     refine ⟨cs,e1,by simpa using e2,fun i v hv=>?_⟩
     rw[No] at hv
     obtain ⟨z,hz,rfl⟩:=Option.map_eq_some_iff.1 hv
     obtain ⟨t,rfl⟩:=e3 i z hz
     exact ⟨t,rfl⟩) fun i y u h1 h2=>?_
    rw[No] at h1
    obtain ⟨z,hz,rfl⟩:=Option.map_eq_some_iff.1 h1
    exact h0 z u (h i z u hz h2)
  |_=>exact h0 _ _ hx
theorem Fw:∀ {K:List KE} {F:Nat->Prop} {bx:Bxs},WR T fr F w bx θ->(∀b v t es,(b,v,t,es)∈K->∃m,bx b=some (.arr v t es m)/\¬2<=m)->bM (bZ (ca K))=true->
  ∃F',WR T fr F' w (dL bx (ca K)) θ/\Mv F w bx θ F' w (dL bx (ca K)) θ/\(∀x val,aj T F w bx θ x val->aj T F' w (dL bx (ca K)) θ (pQ K x) val)/\∀b v t es,(b,v,t,es)∈K->∀g,bJ (θ b)=some g->F' g
 |[],F,bx,hw,h,hn=>⟨F,hw,Mv.refl _ _ _ _,fun _ _ h=>h,fun _ _ _ _ h=>by simp at h⟩
 |(b,v,t,es)::K,F,bx,hw,h,hn=>by
  obtain ⟨md,hbm,hmd⟩:=h b v t es (by simp)
  obtain ⟨F1,w1,m1,r1,g1⟩:=LN hw hbm hmd
  have hn':cZ (bZ (ca K)) b=false/\bM (bZ (ca K))=true:=by
   have:bM (b::bZ (ca K))=true:=hn
   simpa [bM,ao,cX] using this
  obtain ⟨F2,w2,m2,r2,g2⟩:=Fw (K:=K) w1 (fun b' v' t' es' hm=>by
   have:b'≠b:=by
    rintro rfl
    have:b'∈bZ (ca K):=by
     clear hn h hn' r1 m1 w1
     induction K with
     |nil=>simp at hm
     |cons q K ih=>
      obtain ⟨b2,v2,t2,es2⟩:=q
      simp only[ca,bZ,Mw,MG] at hm⊢
      rcases hm with ⟨rfl,_⟩|hm
      ·exact .inl rfl
      ·exact .inr (ih hm)
    rw[(cN _ _).2 this] at hn'
    simp at hn'
   rw[aY _ _ this]
   exact h b' v' t' es' (by simp[hm])) hn'.2
  refine ⟨F2,w2,m1.trans m2,fun x val hx=>r2 _ _ (r1 _ _ hx),fun b' v' t' es' hm g hg=>?_⟩
  rcases Mw.1 hm with e|hm
  ·simp only[MG] at e
   obtain ⟨rfl,_⟩:=e
   exact m2.sub _ (g1 g hg)
  ·exact g2 _ _ _ _ hm g hg
def owN:List V->List Nat|[]=>[]|.ow b _::r=>b::owN r|_::r=>owN r
theorem oS:∀ {l:List V} {bx:Bxs} {k:List KE->List Nat->R} {r:Out},xf l bx k=some r->∃K rd,k K rd=some r/\(∀b v t es,(b,v,t,es)∈K->∃m,bx b=some (.arr v t es m)/\¬2<=m)/\(∀b ver,V.ow b ver∈l->∃t es,(b,ver,t,es)∈K)/\bZ (ca K)=owN l
 |[],bx,k,r,h=>⟨[],[],h,by simp,by simp,rfl⟩
 |x::l,bx,k,r,h=>by
  cases x with
  |ow b ver=>
   replace h:(do
    match←bR b with
    |.arr v t es m=>do
     bd (az (Nat.beq v ver) (Nat.blt m 2))
     let K←xf l
     M.ret ((b,v,t,es)::K)
    |_=>M.fail:M (List KE)) bx k=some r:=h
   replace h:=kR h;obtain ⟨y,hy,h⟩:=h
   split at h
   ·rename_i v t es m
    replace h:=kS h;obtain ⟨c1,h⟩:=h
    rw[ao,Mk] at c1
    obtain rfl:=Mi c1.1
    rw[bnd] at h
    obtain ⟨K,rd,h1,h2,h3,h4⟩:=oS h
    refine ⟨_,_,h1,fun b' v' t' es' hm=>?_,fun b' v' hm=>?_,by simp[ca,bZ,owN,h4]⟩
    rotate_left
    ·rcases Mw.1 hm with e|hm
     ·simp only[V.ow.injEq] at e
      obtain ⟨rfl,rfl⟩:=e
      exact ⟨t,es,Mz ..⟩
     ·obtain ⟨t',es',h5⟩:=h3 b' v' hm
      exact ⟨t',es',MF _ h5⟩
    rcases Mw.1 hm with e|hm
    ·simp only[MG] at e
     obtain ⟨rfl,rfl,rfl,rfl⟩:=e
     exact ⟨m,hy,lv c1.2⟩
    ·exact h2 _ _ _ _ hm
   ·exact (aC h).elim
  |_=>
   obtain ⟨K,rd,h1,h2,h3,h4⟩:=oS (l:=l) h
   exact ⟨K,rd,h1,h2,fun b v hm=>h3 b v (by simpa using hm),h4⟩
theorem r9 (K:List KE) (ρ:cu) (d:Nat):uJ K ρ d=pQ K (ρ d):=by cases K<;>rfl
theorem qG:∀ {l:List (Nat×Box)} {f:Bxs} {b:Nat},cZ (bZ l) b=false->dL f l b=f b
 |[],f,b,h=>rfl
 |(c,x)::l,f,b,h=>by
  have hc:b≠c/\cZ (bZ l) b=false:=by
   constructor
   ·rintro rfl
    rw[(cN _ _).2 (by simp[bZ])] at h;simp at h
   ·cases hq:cZ (bZ l) b with
    |false=>rfl
    |true=>
     rw[(cN _ _).2 (by simp[bZ,(cN _ _).1 hq])] at h;simp at h
  show dL (upd f c (some x)) l b=f b
  rw[qG hc.2,aY _ _ hc.1]
theorem kb:∀ {l m:List (Nat×Box)} {f:Bxs},dL f (app l m)=dL (dL f l) m
 |[],m,f=>rfl
 |(b,x)::l,m,f=>kb (l:=l)
theorem Il {k i j n off m:Nat} (hoff:off+m<=k) (hij:i≠n) (hj:j<k):¬(n*k+off<=i*k+j/\i*k+j<n*k+off+m):=by
 rintro ⟨h1,h2⟩
 rcases Nat.lt_or_gt_of_ne hij with h|h
 ·have:=MA k (show i+1<=n from h)
  rw[Nat.succ_mul] at this
  omega
 ·have:=MA k (show n+1<=i from h)
  rw[Nat.succ_mul] at this
  omega
theorem nw {ct:CT} {c:C} {u:Value} {k:Nat} (h:InT T w ct c u k):ct.flat=false:=by cases h<;>rfl
def AtU (d:TD) (es:List (List C)) (us:List Value) (i j:Nat) (ct:CT) (c:C) (u:Value):Prop:=∃cs,es[i]?=some cs/\cs[j]?=some c/\d.cts[j]?=some ct/\us[i*d.cts.length+j]?=some u
structure kB (T:Tys) (w:World) (d:TD) (es:List (List C)) (us:List Value):Prop where
 rel:∀i j ct c u,AtU d es us i j ct c u->ji T w ct c u
 dj:∀i j ct c u i' j' ct' c' u' k,AtU d es us i j ct c u->AtU d es us i' j' ct' c' u'->InT T w ct c u k->InT T w ct' c' u' k->i=i'/\j=j'
def jq (T:Tys) (w:World) (d:TD) (es:List (List C)) (us:List Value) (k:Nat):Prop:=∃i j ct c u,AtU d es us i j ct c u/\InT T w ct c u k
theorem dE {t:TypeId} {d:TD} {es:List (List C)} {g o n cap:Nat} {cs:Array Value} {i j:Nat} {ct:CT} {c:C} {u:Value} (hd:bj T t=some d) (hg:w.heap[g]?=some (.cells cs t (0,0))):
  cM T w t es (.slice (some ⟨g,o,none⟩) n cap) i j ct c u↔AtU d es (cs.toList.drop o) i j ct c u:=by
 constructor
 ·rintro ⟨d',g',o',n',cap',row,h1,h2,h3,h4,h5,h6⟩
  rw[hd] at h1;obtain rfl:=Mh h1
  simp only[ML,Mj,Addr.mk.injEq,true_and] at h2
  obtain ⟨⟨rfl,rfl,_⟩,rfl,rfl⟩:=h2
  refine ⟨row,h3,h4,h5,?_⟩
  rw[MB]
  simpa [World.cell?,hg] using h6
 ·rintro ⟨row,h3,h4,h5,h6⟩
  rw[MB] at h6
  exact ⟨d,g,o,n,cap,row,hd,rfl,h3,h4,h5,by simpa [World.cell?,hg] using h6⟩
theorem CD {t:TypeId} {d:TD} {es:List (List C)} {g o n cap:Nat} {cs:Array Value} {k:Nat} (hd:bj T t=some d) (hg:w.heap[g]?=some (.cells cs t (0,0))):
  Nst T w t es (.slice (some ⟨g,o,none⟩) n cap) k↔jq T w d es (cs.toList.drop o) k:=by
 constructor
 ·rintro ⟨i,j,ct,c,u,h1,h2⟩;exact ⟨i,j,ct,c,u,(dE hd hg).1 h1,h2⟩
 ·rintro ⟨i,j,ct,c,u,h1,h2⟩;exact ⟨i,j,ct,c,u,(dE hd hg).2 h1,h2⟩
theorem C7 {t:TypeId} {d:TD} {es:List (List C)} {g o n cap:Nat} {cs:Array Value} (hd:bj T t=some d) (hg:w.heap[g]?=some (.cells cs t (0,0))):
  qu T w t es (.slice (some ⟨g,o,none⟩) n cap)↔kB T w d es (cs.toList.drop o):=by
 constructor
 ·intro h
  exact ⟨fun i j ct c u h1=>h.rel i j ct c u ((dE hd hg).2 h1),fun i j ct c u i' j' ct' c' u' k h1 h2=>h.dj _ _ _ _ _ _ _ _ _ _ k ((dE hd hg).2 h1) ((dE hd hg).2 h2)⟩
 ·intro h
  exact ⟨fun i j ct c u h1=>h.rel i j ct c u ((dE hd hg).1 h1),fun i j ct c u i' j' ct' c' u' k h1 h2=>h.dj _ _ _ _ _ _ _ _ _ _ k ((dE hd hg).1 h1) ((dE hd hg).1 h2)⟩
theorem uc {t:TypeId} {es:List (List C)} {n cap k:Nat}:¬Nst T w t es (.slice none n cap) k:=by
 rintro ⟨i,j,ct,c,u,⟨d,g,o,n,cap,row,h1,h2,_⟩,_⟩
 simp at h2
theorem wI {t:TypeId} {es:List (List C)} {n cap:Nat}:qu T w t es (.slice none n cap):=by
 refine ⟨fun i j ct c u h=>?_,fun i j ct c u i' j' ct' c' u' k h=>?_⟩<;>
 ·obtain ⟨d,g,o,n,cap,row,h1,h2,_⟩:=h
  simp at h2
theorem si {d:TD} {es:List (List C)} {us:List Value} {k:Nat} (hf:bF d.cts=true):¬jq T w d es us k:=by
 rintro ⟨i,j,ct,c,u,⟨row,h1,h2,h3,h4⟩,h5⟩
 have:=cH hf _ _ h3
 rw[nw h5] at this;simp at this
theorem vT {d:TD} {es:List (List C)} {us:List Value} (hf:bF d.cts=true) (h:Rws (cE T F w) d es us):kB T w d es us:=by
 refine ⟨fun i j ct c u ⟨row,h1,h2,h3,h4⟩=>?_,fun i j ct c u i' j' ct' c' u' k h1 h2 h3=>absurd ⟨i,j,ct,c,u,h1,h3⟩ (si hf)⟩
 exact (h.rel i row j c ct u h1 h2 h3 h4).rl (cH hf _ _ h3)
theorem Fz {w':World} {d:TD} {es:List (List C)} {us:List Value} {k:Nat} (hh:∀k,jq T w d es us k->w'.heap[k]?=w.heap[k]?):jq T w' d es us k↔jq T w d es us k:=by
 constructor
 ·rintro ⟨i,j,ct,c,u,h1,h2⟩
  exact ⟨i,j,ct,c,u,h1,h2.mv' fun k hk=>hh k ⟨i,j,ct,c,u,h1,hk⟩⟩
 ·rintro ⟨i,j,ct,c,u,h1,h2⟩
  exact ⟨i,j,ct,c,u,h1,h2.mv fun k hk=>hh k ⟨i,j,ct,c,u,h1,hk⟩⟩
theorem kB.mv {w':World} {d:TD} {es:List (List C)} {us:List Value} (h:kB T w d es us) (hh:∀k,jq T w d es us k->w'.heap[k]?=w.heap[k]?):kB T w' d es us:=by
 refine ⟨fun i j ct c u h1=>(h.rel _ _ _ _ _ h1).mv fun k hk=>hh k ⟨_,_,_,_,_,h1,hk⟩,fun i j ct c u i' j' ct' c' u' k h1 h2 h3 h4=>?_⟩
 exact h.dj _ _ _ _ _ _ _ _ _ _ k h1 h2 (h3.mv' fun k hk=>hh k ⟨_,_,_,_,_,h1,hk⟩) (h4.mv' fun k hk=>hh k ⟨_,_,_,_,_,h2,hk⟩)
theorem xN {d:TD} {es fs:List (List C)} {us vs ws:List Value} (hl:us.length=es.length*d.cts.length) (hl':vs.length=fs.length*d.cts.length) {i j:Nat} {ct:CT} {c:C} {u:Value} (h:AtU d (es++fs) (us++vs++ws) i j ct c u):
  AtU d es us i j ct c u∨(es.length<=i/\AtU d fs vs (i-es.length) j ct c u):=by
 obtain ⟨row,h1,h2,h3,h4⟩:=h
 have hj:j<d.cts.length:=(Ml.1 h3).1
 rw[List.getElem?_append] at h1
 split at h1
 ·rename_i hi
  have:=kK hi hj
  rw[M0,MV (by omega)] at h4
  exact .inl ⟨row,h1,h2,h3,h4⟩
 ·rename_i hi
  have hi2:i-es.length<fs.length:=(Ml.1 h1).1
  have h5:=kK hi2 hj
  have h6:es.length*d.cts.length<=i*d.cts.length:=MA _ (by omega)
  have e:i*d.cts.length+j-us.length=(i-es.length)*d.cts.length+j:=by
   rw[hl,Nat.sub_mul];omega
  rw[M0,MW (by omega),e,MV (by omega)] at h4
  exact .inr ⟨by omega,row,h1,h2,h3,h4⟩
theorem I1 {d:TD} {es fs:List (List C)} {us vs ws:List Value} (hl:us.length=es.length*d.cts.length) (hl':vs.length=fs.length*d.cts.length) {k:Nat} (h:jq T w d (es++fs) (us++vs++ws) k):jq T w d es us k∨jq T w d fs vs k:=by
 obtain ⟨i,j,ct,c,u,h1,h2⟩:=h
 rcases xN hl hl' h1 with h|⟨_,h⟩
 ·exact .inl ⟨_,_,_,_,_,h,h2⟩
 ·exact .inr ⟨_,_,_,_,_,h,h2⟩
theorem kB.app {d:TD} {es fs:List (List C)} {us vs ws:List Value} (h:kB T w d es us) (hl:us.length=es.length*d.cts.length) (h':kB T w d fs vs) (hl':vs.length=fs.length*d.cts.length) (hd:∀k,jq T w d es us k->¬jq T w d fs vs k):kB T w d (es++fs) (us++vs++ws):=by
 refine ⟨fun i j ct c u h1=>?_,fun i j ct c u i' j' ct' c' u' k h1 h2 h3 h4=>?_⟩
 ·rcases xN hl hl' h1 with q|⟨_,q⟩
  ·exact h.rel _ _ _ _ _ q
  ·exact h'.rel _ _ _ _ _ q
 ·rcases xN hl hl' h1 with q|⟨e1,q⟩<;>rcases xN hl hl' h2 with q'|⟨e2,q'⟩
  ·exact h.dj _ _ _ _ _ _ _ _ _ _ k q q' h3 h4
  ·exact absurd ⟨_,_,_,_,_,q',h4⟩ (hd k ⟨_,_,_,_,_,q,h3⟩)
  ·exact absurd ⟨_,_,_,_,_,q,h3⟩ (hd k ⟨_,_,_,_,_,q',h4⟩)
  ·obtain ⟨a,b⟩:=h'.dj _ _ _ _ _ _ _ _ _ _ k q q' h3 h4
   exact ⟨by omega,b⟩
structure KJ (T:Tys) (w:World) (ts:List CT) (xs:List C) (vs:List Value):Prop where
 rel:∀(j:Nat) (ct:CT) (c:C) (u:Value),ts[j]?=some ct->xs[j]?=some c->vs[j]?=some u->ji T w ct c u
 dj:∀(j:Nat) (ct:CT) (c:C) (u:Value) (j':Nat) (ct':CT) (c':C) (u':Value) (k:Nat),ts[j]?=some ct->xs[j]?=some c->vs[j]?=some u->ts[j']?=some ct'->xs[j']?=some c'->vs[j']?=some u'->InT T w ct c u k->InT T w ct' c' u' k->j=j'
def JM (T:Tys) (w:World) (ts:List CT) (xs:List C) (vs:List Value) (k:Nat):Prop:=∃(j:Nat) (ct:CT) (c:C) (u:Value),ts[j]?=some ct/\xs[j]?=some c/\vs[j]?=some u/\InT T w ct c u k
theorem uw {d:TD} {es:List (List C)} {vs us:List Value} {xs:List C} {n off:Nat} (hrow:∀(i:Nat) (c:List C),es[i]?=some c->c.length=d.cts.length) (hl:es.length*d.cts.length<=vs.length) (hn:n<es.length) (hx:xs.length=us.length) (hoff:off+us.length<=d.cts.length) {i j:Nat} {ct:CT} {c:C} {u:Value}
  (h:AtU d (es.set n (aB (es.getD n []) off xs)) (vs.take (n*d.cts.length+off)++us++vs.drop (n*d.cts.length+off+us.length)) i j ct c u):
  (i=n/\off<=j/\j<off+us.length/\d.cts[off+(j-off)]?=some ct/\xs[j-off]?=some c/\us[j-off]?=some u)∨(AtU d es vs i j ct c u/\¬(i=n/\off<=j/\j<off+us.length)):=by
 obtain ⟨row,h1,h2,h3,h4⟩:=h
 have hj:j<d.cts.length:=(Ml.1 h3).1
 have hnn:es[n]?=some es[n]:=Mg hn
 have hg:es.getD n []=es[n]:=by rw[Mm,hnn];rfl
 have hrl:=hrow _ _ hnn
 have hfit:n*d.cts.length+off+us.length<=vs.length:=by
  have:=MA d.cts.length (show n+1<=es.length from hn)
  rw[Nat.succ_mul] at this
  omega
 rw[hg] at h1
 rw[eQ (by omega)] at h4
 rw[M9] at h1
 split at h1
 ·rename_i e;subst e
  simp[hn] at h1
  subst h1
  unfold aB at h2
  rw[eQ (by omega)] at h2
  split at h2
  ·rename_i hc
   rw[if_pos (by omega),show n*d.cts.length+j-(n*d.cts.length+off)=j-off from by omega] at h4
   exact .inl ⟨rfl,hc.1,by omega,by rw[show off+(j-off)=j from by omega];exact h3,h2,h4⟩
  ·rename_i hc
   rw[if_neg (by omega)] at h4
   exact .inr ⟨⟨_,hnn,h2,h3,h4⟩,by omega⟩
 ·rename_i hne
  rw[if_neg (Il hoff (Ne.symm hne) hj)] at h4
  exact .inr ⟨⟨row,h1,h2,h3,h4⟩,fun h=>hne h.1.symm⟩
theorem CY {d:TD} {es:List (List C)} {vs us:List Value} {xs:List C} {n off:Nat} {ts:List CT} (hrow:∀(i:Nat) (c:List C),es[i]?=some c->c.length=d.cts.length) (hl:es.length*d.cts.length<=vs.length) (hn:n<es.length) (hx:xs.length=us.length) (hoff:off+us.length<=d.cts.length) (hts:∀j,j<us.length->ts[j]?=d.cts[off+j]?) {k:Nat}
  (h:jq T w d (es.set n (aB (es.getD n []) off xs)) (vs.take (n*d.cts.length+off)++us++vs.drop (n*d.cts.length+off+us.length)) k):JM T w ts xs us k∨jq T w d es vs k:=by
 obtain ⟨i,j,ct,c,u,h1,h2⟩:=h
 rcases uw hrow hl hn hx hoff h1 with ⟨_,a1,a2,a3,a4,a5⟩|⟨q,_⟩
 ·exact .inl ⟨j-off,ct,c,u,by rw[hts _ (by omega)];exact a3,a4,a5,h2⟩
 ·exact .inr ⟨_,_,_,_,_,q,h2⟩
theorem kB.set {d:TD} {es:List (List C)} {vs us:List Value} {xs:List C} {n off:Nat} {ts:List CT} (h:kB T w d es vs) (hrow:∀(i:Nat) (c:List C),es[i]?=some c->c.length=d.cts.length) (hl:es.length*d.cts.length<=vs.length) (hn:n<es.length) (hx:xs.length=us.length) (hoff:off+us.length<=d.cts.length) (hts:∀j,j<us.length->ts[j]?=d.cts[off+j]?)
  (hc:KJ T w ts xs us) (hd:∀k,JM T w ts xs us k->¬jq T w d es vs k):
  kB T w d (es.set n (aB (es.getD n []) off xs)) (vs.take (n*d.cts.length+off)++us++vs.drop (n*d.cts.length+off+us.length)):=by
 refine ⟨fun i j ct c u h1=>?_,fun i j ct c u i' j' ct' c' u' k h1 h2 h3 h4=>?_⟩
 ·rcases uw hrow hl hn hx hoff h1 with ⟨_,a1,a2,a3,a4,a5⟩|⟨q,_⟩
  ·exact hc.rel (j-off) ct c u (by rw[hts _ (by omega)];exact a3) a4 a5
  ·exact h.rel _ _ _ _ _ q
 ·rcases uw hrow hl hn hx hoff h1 with ⟨e1,a1,a2,a3,a4,a5⟩|⟨q,_⟩<;>rcases uw hrow hl hn hx hoff h2 with ⟨e2,b1,b2,b3,b4,b5⟩|⟨q',_⟩
  ·have:=hc.dj (j-off) ct c u (j'-off) ct' c' u' k (by rw[hts _ (by omega)];exact a3) a4 a5 (by rw[hts _ (by omega)];exact b3) b4 b5 h3 h4
   exact ⟨by omega,by omega⟩
  ·exact absurd ⟨_,_,_,_,_,q',h4⟩ (hd k ⟨j-off,ct,c,u,by rw[hts _ (by omega)];exact a3,a4,a5,h3⟩)
  ·exact absurd ⟨_,_,_,_,_,q,h3⟩ (hd k ⟨j'-off,ct',c',u',by rw[hts _ (by omega)];exact b3,b4,b5,h4⟩)
  ·exact h.dj _ _ _ _ _ _ _ _ _ _ k q q' h3 h4
theorem Rws.cr {m:Nat} {d:TD} {es:List (List C)} {us:List Value} (hm:¬2<=m) (h:Rws (cE T F w) d es us):Rws (CR T F w m) d es us:=⟨h.len,fun i c j x ct v a1 a2 a3 a4=>by rw[rE hm];exact h.rel i c j x ct v a1 a2 a3 a4⟩
def Io (bx:Bxs) (x:V):Prop:=(∃t c,x=.c t c/\t.flat=true)∨x=.nl∨x=.np∨∃b ver v t es,x=.ow b ver/\bx b=some (.arr v t es 1)
theorem nh:∀ {l:List V} {bx:Bxs} {k:Bool->List Nat->R} {r:Out},qI l bx k=some r->∃q rd,k q rd=some r/\(q=true->∀x,x∈l->Io bx x)
 |[],bx,k,r,h=>⟨true,[],h,fun _ x hx=>by simp at hx⟩
 |x::l,bx,k,r,h=>by
  cases x with
  |ow b ver=>
   replace h:(do
    match←bR b with
    |.arr _ _ _ m=>do let q←qI l;M.ret (az (Nat.beq m 1) q)
    |_=>M.fail:M Bool) bx k=some r:=h
   replace h:=kR h;obtain ⟨y,hy,h⟩:=h
   split at h
   ·rename_i v t es m
    rw[bnd] at h
    obtain ⟨q,rd,h1,h2⟩:=nh h
    refine ⟨_,_,h1,fun hq x hx=>?_⟩
    rw[ao,Mk] at hq
    rcases Mw.1 hx with rfl|hx
    ·obtain rfl:=Mi hq.1
     exact .inr (.inr (.inr ⟨b,ver,v,t,es,rfl,hy⟩))
    ·exact h2 hq.2 x hx
   ·exact (aC h).elim
  |c t c=>
   replace h:(do let q←qI l;M.ret (az (bF [t]) q):M Bool) bx k=some r:=h
   rw[bnd] at h
   obtain ⟨q,rd,h1,h2⟩:=nh h
   refine ⟨_,_,h1,fun hq x hx=>?_⟩
   rw[ao,Mk] at hq
   rcases Mw.1 hx with rfl|hx
   ·exact .inl ⟨t,c,rfl,cH hq.1 0 t rfl⟩
   ·exact h2 hq.2 x hx
  |nl=>
   obtain ⟨q,rd,h1,h2⟩:=nh (l:=l) h
   refine ⟨_,_,h1,fun hq x hx=>?_⟩
   rcases Mw.1 hx with rfl|hx
   ·exact .inr (.inl rfl)
   ·exact h2 hq x hx
  |np=>
   obtain ⟨q,rd,h1,h2⟩:=nh (l:=l) h
   refine ⟨_,_,h1,fun hq x hx=>?_⟩
   rcases Mw.1 hx with rfl|hx
   ·exact .inr (.inr (.inl rfl))
   ·exact h2 hq x hx
  |_=>exact ⟨false,[],h,fun hq=>by simp at hq⟩
theorem B3 {l:List V} (h:∀y,y∈l->Io bx y):eN l=true:=by
 induction l with
 |nil=>rfl
 |cons x r ih=>
  have hx:il x=true:=by
   rcases h x (Mz ..) with ⟨t,c,rfl,_⟩|rfl|rfl|⟨b,ver,v,t,es,rfl,_⟩<;>rfl
  simp[eN,ao,hx,ih fun y hy=>h y (MF _ hy)]
theorem KG:∀ {K:List KE} {bx:Bxs} {b:Nat} {y:Box},dL bx (ca K) b=some y->(∃v,y=.dead v)∨(bx b=some y/\∀v t es,(b,v,t,es)∉K)
 |[],bx,b,y,h=>.inr ⟨h,fun _ _ _ h=>by simp at h⟩
 |(c,v,t,es)::K,bx,b,y,h=>by
  replace h:dL (upd bx c (some (.dead (v+1)))) (ca K) b=some y:=h
  rcases KG h with h1|⟨h1,h2⟩
  ·exact .inl h1
  ·by_cases hb:b=c
   ·subst hb
    rw[ar] at h1
    exact .inl ⟨_,(Mh h1).symm⟩
   ·rw[aY _ _ hb] at h1
    refine .inr ⟨h1,fun v' t' es' hm=>?_⟩
    rcases Mw.1 hm with e|hm
    ·simp only[MG] at e;exact hb e.1
    ·exact h2 _ _ _ hm
theorem qu.toM {m:Nat} {t:TypeId} {es:List (List C)} {v:Value} (h:qu T w t es v):HJ T w m t es v:=⟨fun _=>h,fun _=>⟨fun _ _ _ _ _ a=>.inl (h.rel _ _ _ _ _ a),h.dj⟩⟩
theorem tv (hw:WR T fr F w bx θ) {b v m:Nat} {t:TypeId} {es:List (List C)} (hb:bx b=some (.arr v t es m)) (hm:m≠0) (hm3:m≠3):
  ji T w (.sl t) (.l es) (θ b)/\∀k,InT T w (.sl t) (.l es) (θ b) k->bJ (θ b)=some k∨Nst T w t es (θ b) k:=by
 refine ⟨?_,fun k hk=>?_⟩
 ·obtain ⟨d,A,cap,h1,h2,h3,h4⟩:=hw.box b _ hb
  have hl:qu T w t es (θ b):=(hw.lin b _ hb hm).1 hm3
  rcases h4 with ⟨rfl,rfl,rfl⟩|⟨g,o,cs,rfl,q1,q2,q3,q4⟩
  ·rw[h2];exact .base _ _ _ (.sl0 _ _ _) fun _ _=>rfl
  ·have hn:¬Nst T w t es (θ b) g:=fun h=>(hw.own b _ g hb ⟨hm,h⟩).2.2.2.2 b _ hb rfl (by rw[h2];rfl)
   rw[h2] at hl hn⊢
   exact .sl t d es g o cap cs h1 q1 q2 q3 h3 hl.rel hn hl.dj
 ·generalize θ b=z at hk⊢
  cases hk with
  |root _ _ g o n cap=>exact .inl rfl
  |sub _ _ _ i j ct c u _ h hk=>exact .inr ⟨i,j,ct,c,u,h,hk⟩
theorem iX (hw:WR T fr F w bx θ) {b v:Nat} {t:TypeId} {es:List (List C)} (hb:bx b=some (.arr v t es 1)):
  ji T w (.sl t) (.l es) (θ b)/\∀k,InT T w (.sl t) (.l es) (θ b) k->bJ (θ b)=some k∨Nst T w t es (θ b) k:=tv hw hb (by decide) (by decide)
theorem zE (hw:WR T fr F w bx θ) {K:List KE} {b v:Nat} {t:TypeId} {es:List (List C)} (hm:(b,v,t,es)∈K) (hb:bx b=some (.arr v t es 1)) {k:Nat} (hk:InT T w (.sl t) (.l es) (θ b) k) (c:Nat):
  Fre fr T w (dL bx (ca K)) θ c k:=by
 have hk':=(iX hw hb).2 k hk
 have h1:k<w.heap.size/\(fr.w0.heap.size<=k∨fr.wr k∨fr.nl k):=by
  rcases hk' with h|h
  ·obtain ⟨_,a,c⟩:=hw.out b _ k hb rfl h
   exact ⟨a,c.imp id .inl⟩
  ·obtain ⟨a,_,_,c,_⟩:=hw.own b _ k hb ⟨by decide,h⟩
   exact ⟨a,c⟩
 refine ⟨h1.1,h1.2,fun b' y hy hl hg=>?_,fun b' y _ hy hn=>?_⟩
 ·rcases KG hy with ⟨v',rfl⟩|⟨hy,hno⟩
  ·simp[Box.live] at hl
  ·have hne:b'≠b:=fun e=>by subst e;exact hno _ _ _ hm
   rcases hk' with h|h
   ·exact hne (hw.disj b' b y _ k hy hb hl rfl hg h)
   ·exact (hw.own b _ k hb ⟨by decide,h⟩).2.2.2.2 b' y hy hl hg
 ·rcases KG hy with ⟨v',rfl⟩|⟨hy,hno⟩
  ·exact hn.elim
  ·have hne:b'≠b:=fun e=>by subst e;exact hno _ _ _ hm
   rcases hk' with h|h
   ·exact (hw.own b' y k hy hn).2.2.2.2 b _ hb rfl h
   ·exact hne (hw.odj b' b y _ k hy hb hn ⟨by decide,h⟩)
theorem vM {b v:Nat} {t:TypeId} {es:List (List C)}:∀ {K:List KE},(b,v,t,es)∈K->b∈bZ (ca K)
 |[],h=>by simp at h
 |(c,v',t',es')::K,h=>by
  simp only[ca,bZ,Mw,MG] at h⊢
  rcases h with ⟨rfl,_⟩|h
  ·exact .inl rfl
  ·exact .inr (vM h)
theorem Fc {t:CT} {c:C}:∀ {K:List KE},pQ K (.c t c)=.c t c
 |[]=>rfl
 |_::K=>Fc (K:=K)
theorem FA:∀ {K:List KE},pQ K .nl=.nl
 |[]=>rfl
 |_::K=>FA (K:=K)
theorem Fq:∀ {K:List KE},pQ K .np=.np
 |[]=>rfl
 |_::K=>Fq (K:=K)
theorem FB {b ver:Nat}:∀ {K:List KE} {t:TypeId} {es:List (List C)},bM (bZ (ca K))=true->(b,ver,t,es)∈K->pQ K (.ow b ver)=.c (.sl t) (.l es)
 |[],t,es,_,h=>by simp at h
 |(c,v,t',es')::K,t,es,hn,h=>by
  have hn':cZ (bZ (ca K)) c=false/\bM (bZ (ca K))=true:=by
   have:bM (c::bZ (ca K))=true:=hn
   simpa [bM,ao,cX] using this
  show pQ K (oY c v t' es' (.ow b ver))=_
  rcases Mw.1 h with e|hin
  ·simp only[MG] at e
   obtain ⟨rfl,rfl,rfl,rfl⟩:=e
   have:oY b ver t es (.ow b ver)=.c (.sl t) (.l es):=by simp[oY,ao,sif]
   rw[this,Fc]
  ·have hne:Nat.beq b c=false:=by
    cases hb:Nat.beq b c with
    |false=>rfl
    |true=>
     have:=Mi hb;subst this
     have hm:=vM hin
     rw[(cN _ _).2 hm] at hn';simp at hn'
   have:oY c v t' es' (.ow b ver)=.ow b ver:=by simp[oY,hne,ao,sif]
   rw[this]
   exact FB hn'.2 hin
theorem zI:∀ {K:List KE} {x:V} {j:Nat} {y:V},(bI x)[j]?=some y->il y=true->(bI (pQ K x))[j]?=some (pQ K y)
 |[],x,j,y,h,_=>h
 |(c,v,t,es)::K,x,j,y,h,hc=>by
  show (bI (pQ K (yU c v t es x)))[j]?=some (pQ K (yU c v t es y))
  have e1:yU c v t es y=oY c v t es y:=by cases y<;>first|rfl|simp[il] at hc
  have hc':il (oY c v t es y)=true:=by
   cases y with
   |ow b' v'=>
    show il (sif (az (Nat.beq b' c) (Nat.beq v' v)) (.c (.sl t) (.l es)) (.ow b' v'))=true
    cases az (Nat.beq b' c) (Nat.beq v' v)<;>rfl
   |_=>exact hc
  rw[e1]
  refine zI ?_ hc'
  have hmap:∀l:List V,sI c v t es l=l.map (oY c v t es):=fun l=>by
   induction l with
   |nil=>rfl
   |cons x r ih=>simp[sI,ih]
  cases x with
  |ag l o=>
   show (sI c v t es l)[j]?=_
   rw[hmap,No]
   replace h:l[j]?=some y:=h
   rw[h];rfl
  |_=>
   cases j with
   |zero=>
    simp only[bI,M3,Mj] at h
    subst h
    first
     |rfl
     |(rename_i b' v'
       show (bI (sif (az (Nat.beq b' c) (Nat.beq v' v)) (V.c (.sl t) (.l es)) (.ow b' v')))[0]?=some (sif (az (Nat.beq b' c) (Nat.beq v' v)) (V.c (.sl t) (.l es)) (.ow b' v'))
       cases az (Nat.beq b' c) (Nat.beq v' v)<;>rfl)
   |succ j=>simp[bI] at h
theorem IQ:∀ {l:List V},bM (owN l)=true->∀ {i j b v v':Nat},l[i]?=some (.ow b v)->l[j]?=some (.ow b v')->i=j
 |[],_,i,j,b,v,v',h,_=>by simp at h
 |x::l,hn,i,j,b,v,v',h,h'=>by
  have mem:∀ {l:List V} {i b v:Nat},l[i]?=some (V.ow b v)->b∈owN l:=by
   intro l
   induction l with
   |nil=>intro i b v h;simp at h
   |cons x l ih=>
    intro i b v h
    cases i with
    |zero=>simp at h;subst h;simp[owN]
    |succ i=>
     have:=ih (i:=i) (by simpa using h)
     cases x<;>simp[owN,this]
  have hn':bM (owN l)=true:=by
   cases x<;>first|exact hn|(simp only[owN,bM,ao,cX,Mk,MM] at hn;exact hn.2)
  cases i with
  |zero=>cases j with
   |zero=>rfl
   |succ j=>
    simp at h;subst h
    have:=mem (l:=l) (i:=j) (by simpa using h')
    simp only[owN,bM,ao,cX,Mk,MM] at hn
    rw[(cN _ _).2 this] at hn;simp at hn
  |succ i=>cases j with
   |zero=>
    simp at h';subst h'
    have:=mem (l:=l) (i:=i) (by simpa using h)
    simp only[owN,bM,ao,cX,Mk,MM] at hn
    rw[(cN _ _).2 this] at hn;simp at hn
   |succ j=>exact congrArg (·+1) (IQ hn' (i:=i) (j:=j) (by simpa using h) (by simpa using h'))
theorem yW (hw:WR T fr F w bx θ) {x:V} {v:Value} (hx:aj T F w bx θ x v) (hall:eN (bI x)=true) (hlin:∀y,y∈bI x->Io bx y) {K:List KE} (hn:bM (bZ (ca K))=true) (ho:bM (owN (bI x))=true)
  (hK:∀b v t es,(b,v,t,es)∈K->∃m,bx b=some (.arr v t es m)/\¬2<=m) (hO:∀b ver,V.ow b ver∈bI x->∃t es,(b,ver,t,es)∈K) {ts:List CT} {xs:List C} (hp:ij ts (bI (pQ K x))=some xs):
  KJ T w ts xs v.cells.toList/\∀k,JM T w ts xs v.cells.toList k->∃b v t es,(b,v,t,es)∈K/\bx b=some (.arr v t es 1)/\InT T w (.sl t) (.l es) (θ b) k:=by
 obtain ⟨g1,g2,g3⟩:=qD hx hall
 have key:∀(j:Nat) (ct:CT) (c:C) (u:Value),ts[j]?=some ct->xs[j]?=some c->v.cells.toList[j]?=some u->
   (ji T w ct c u/\∀k,¬InT T w ct c u k)∨∃b ver t es,(bI x)[j]?=some (.ow b ver)/\(b,ver,t,es)∈K/\bx b=some (.arr ver t es 1)/\ct=.sl t/\c=.l es/\u=θ b:=by
  intro j ct c u h1 h2 h3
  obtain ⟨ct',z,q1,q2,q3⟩:=tg hp j c h2
  rw[h1] at q1;obtain rfl:=Mh q1
  have hj:j<(bI x).length:=by rw[←g1];simpa using (Ml.1 h3).1
  have hy:(bI x)[j]?=some (bI x)[j]:=Mg hj
  have hcell:=tG hall j _ hy
  have hz:=zI (K:=K) hy hcell
  rw[q2] at hz;have hz:=Mh hz
  have hr:=g3 j _ u hy (by simpa using h3)
  generalize (bI x)[j]=y at hy hcell hz hr
  rcases hlin y (M8 hy) with ⟨t,c',rfl,hf⟩|rfl|rfl|⟨b,ver,v',t,es,rfl,hb⟩
  ·rw[Fc] at hz;subst hz
   replace q3:sif (jg ct t) (some c') none=some c:=by cases ct<;>exact q3
   cases hc:jg ct t with
   |false=>rw[hc,aX] at q3;simp at q3
   |true=>
    rw[hc,ai] at q3
    have:=gI hc;subst this
    obtain rfl:=Mh q3
    cases hr with
    |c _ _ _ hr=>exact .inl ⟨hr.rl hf,fun k hk=>by rw[nw hk] at hf;simp at hf⟩
  ·rw[FA] at hz;subst hz
   cases hr
   cases ct<;>simp[wV] at q3
   subst q3
   refine .inl ⟨.base _ _ _ (.sl0 _ _ _) fun _ _=>rfl,fun k hk=>?_⟩
   cases hk with
   |sub _ _ _ _ _ _ _ _ _ h _=>exact uc ⟨_,_,_,_,_,h,by assumption⟩
  ·rw[Fq] at hz;subst hz
   cases hr
   cases ct<;>simp[wV] at q3
   subst q3
   exact .inl ⟨.base _ _ _ (.pt0 _) (by simp),fun k hk=>by cases hk⟩
  ·obtain ⟨t',es',hm⟩:=hO b ver (M8 hy)
   obtain ⟨m,hb',_⟩:=hK _ _ _ _ hm
   rw[hb] at hb'
   simp only[Mj,Box.arr.injEq] at hb'
   obtain ⟨rfl,rfl,rfl,_⟩:=hb'
   rw[FB hn hm] at hz;subst hz
   obtain ⟨_,rfl⟩:=oC hr hb (Nat.beq_refl _)
   replace q3:sif (jg ct (.sl t)) (some (C.l es)) none=some c:=by cases ct<;>exact q3
   cases hc:jg ct (.sl t) with
   |false=>rw[hc,aX] at q3;simp at q3
   |true=>
    rw[hc,ai] at q3
    exact .inr ⟨b,v',t,es,hy,hm,hb,gI hc,(Mh q3).symm,rfl⟩
 refine ⟨⟨fun j ct c u h1 h2 h3=>?_,fun j ct c u j' ct' c' u' k h1 h2 h3 h1' h2' h3' hk hk'=>?_⟩,fun k ⟨j,ct,c,u,h1,h2,h3,hk⟩=>?_⟩
 ·rcases key j ct c u h1 h2 h3 with ⟨h,_⟩|⟨b,ver,t,es,_,_,hb,rfl,rfl,rfl⟩
  ·exact h
  ·exact (iX hw hb).1
 ·rcases key j ct c u h1 h2 h3 with ⟨_,h⟩|⟨b,ver,t,es,hy,_,hb,rfl,rfl,rfl⟩
  ·exact absurd hk (h k)
  rcases key j' ct' c' u' h1' h2' h3' with ⟨_,h⟩|⟨b',ver',t',es',hy',_,hb',rfl,rfl,rfl⟩
  ·exact absurd hk' (h k)
  have hbb:b=b':=by
   rcases (iX hw hb).2 k hk with a|a<;>rcases (iX hw hb').2 k hk' with a'|a'
   ·exact hw.disj _ _ _ _ k hb hb' rfl rfl a a'
   ·exact absurd a ((hw.own b' _ k hb' ⟨by decide,a'⟩).2.2.2.2 b _ hb rfl)
   ·exact absurd a' ((hw.own b _ k hb ⟨by decide,a⟩).2.2.2.2 b' _ hb' rfl)
   ·exact hw.odj _ _ _ _ k hb hb' ⟨by decide,a⟩ ⟨by decide,a'⟩
  subst hbb
  exact IQ ho hy hy'
 ·rcases key j ct c u h1 h2 h3 with ⟨_,h⟩|⟨b,ver,t,es,_,hm,hb,rfl,rfl,rfl⟩
  ·exact absurd hk (h k)
  ·exact ⟨b,ver,t,es,hm,hb,hk⟩
theorem Rws.set {RR:CT->C->Value->Prop} {d:TD} {es:List (List C)} {vs:List Value} (h:Rws RR d es vs) (hl:es.length*d.cts.length<=vs.length) {n off:Nat} {xs:List C} {us:List Value} (hn:n<es.length)
  (hx:xs.length=us.length) (hoff:off+us.length<=d.cts.length)
  (hr:∀(i:Nat) (c:C) (t:CT) (u:Value),xs[i]?=some c->d.cts[off+i]?=some t->us[i]?=some u->RR t c u):
  Rws RR d (es.set n (aB (es.getD n []) off xs)) (vs.take (n*d.cts.length+off)++us++vs.drop (n*d.cts.length+off+us.length)):=by
 have hnn:es[n]?=some es[n]:=Mg hn
 have hg:es.getD n []=es[n]:=by rw[Mm,hnn];rfl
 have hrl:=h.len _ _ hnn
 have hfit:n*d.cts.length+off+us.length<=vs.length:=by
  have:=MA d.cts.length (show n+1<=es.length from hn)
  rw[Nat.succ_mul] at this
  omega
 rw[hg]
 refine ⟨fun i c hc=>?_,fun i c j x ct v hc hx' ht hv=>?_⟩
 ·rw[M9] at hc
  split at hc
  ·rename_i e;subst e
   simp[hn] at hc
   subst hc
   unfold aB
   rw[eC (by omega),hrl]
  ·exact h.len i c hc
 ·have hj:j<d.cts.length:=(Ml.1 ht).1
  rw[eQ (by omega)] at hv
  rw[M9] at hc
  split at hc
  ·rename_i e;subst e
   simp[hn] at hc
   subst hc
   unfold aB at hx'
   rw[eQ (by omega)] at hx'
   split at hx'
   ·rename_i hc
    rw[if_pos (by omega),show n*d.cts.length+j-(n*d.cts.length+off)=j-off from by omega] at hv
    exact hr (j-off) x ct v hx' (by rw[show off+(j-off)=j from by omega];exact ht) hv
   ·rename_i hc
    rw[if_neg (by omega)] at hv
    exact h.rel n _ j x ct v hnn hx' ht hv
  ·rename_i hne
   rw[if_neg (Il hoff (Ne.symm hne) hj)] at hv
   exact h.rel i c j x ct v hc hx' ht hv
theorem yP {t:TypeId} {d:TD} {es:List (List C)} {b ver g o cap:Nat} {cs:Array Value} (hd:bj T t=some d) (hth:θ b=.slice (some ⟨g,o,none⟩) es.length cap) (hg:w.heap[g]?=some (.cells cs t (0,0)))
  (hs:cs.size=o+cap*d.cts.length) (hc:es.length<=cap/\cap<=maxLen) {m:Nat} (hr:Rws (CR T F w m) d es (cs.toList.drop o)):iZ T F w bx θ b (.arr ver t es m):=
 ⟨d,_,cap,hd,hth,hr.len,.inr ⟨g,o,cs,rfl,hg,hs,hc,fun i c j x ct v a1 a2 a3 a4=>hr.rel i c j x ct v a1 a2 a3 (by rw[MB];simpa using a4)⟩⟩
theorem iH {α:Type} (l us:List α) (o p:Nat) (h:o+p<=l.length):(l.take (o+p)++us++l.drop (o+p+us.length)).drop o=(l.drop o).take p++us++(l.drop o).drop (p+us.length):=by
 have hl:o<=(l.take (o+p)).length:=by rw[ME];omega
 rw[M0,List.drop_append_of_le_length hl,List.drop_take,List.drop_drop,←M0,Nat.add_sub_cancel_left,Nat.add_assoc]
theorem Ct {w':World} {t:TypeId} {d:TD} {es:List (List C)} {ver m g o n cap:Nat} {cs:Array Value} (hd:bj T t=some d) (hg:w'.heap[g]?=some (.cells cs t (0,0))) (h:m≠0->kB T w' d es (cs.toList.drop o)):(Box.arr ver t es m).lin T w' (.slice (some ⟨g,o,none⟩) n cap):=fun hm=>((C7 hd hg).2 (h hm)).toM
theorem FF {w':World} {t:TypeId} {d:TD} {es:List (List C)} {ver m g o n cap k:Nat} {cs:Array Value} (hd:bj T t=some d) (hg:w'.heap[g]?=some (.cells cs t (0,0))) (hk:(Box.arr ver t es m).nst T w' (.slice (some ⟨g,o,none⟩) n cap) k):m≠0/\jq T w' d es (cs.toList.drop o) k:=⟨hk.1,(CD hd hg).1 hk.2⟩
theorem GF {ct:CT} {x:C} {A:Option Addr} {n c:Nat} (h:ji T w ct x (.slice A n c)) (hf:ct.flat=true):False:=by
 cases h with
 |base _ _ _ h=>cases h<;>simp[CT.flat] at hf
 |sl=>simp[CT.flat] at hf
theorem ET (hT:TOk P T) (hw:WR T fr F w bx θ) {t:TypeId} {x:V} {v:Value} (hx:aj T F w bx θ x v) {b ver off:Nat} {ix:Int} {nb:Bool} {va:Value} (ha:aj T F w bx θ (.pe b ver ix off nb) va)
  {k:Eff->List Nat->R} {r:Out} (h:pX T t x (.pe b ver ix off nb) bx k=some r):ub P T fr F w bx θ (Instr.storeAt t va v) k r:=by
 simp only[pX] at h
 replace h:=kO h;obtain ⟨d,hd,h⟩:=h
 replace h:=kR h;obtain ⟨y,hy,h⟩:=h
 have ht:=cC hT hd
 split at h
 ·rename_i ver' e es md
  replace h:=kO h;obtain ⟨de,hde,h⟩:=h
  replace h:=kS h;obtain ⟨c1,h⟩:=h
  replace h:=kC h;obtain ⟨c2,h⟩:=h
  replace h:=kS h;obtain ⟨c3,h⟩:=h
  rw[bnd] at h;obtain ⟨q,rdq,h_,hq⟩:=nh h;clear h;have h:=h_;clear h_
  rw[bnd] at h;obtain ⟨K,rdk,h_,hK,hO,hN⟩:=oS h;clear h;have h:=h_;clear h_
  replace h:=kS h;obtain ⟨cn,h⟩:=h
  replace h:=kS h;obtain ⟨cm,h⟩:=h
  replace h:=kO h;obtain ⟨xs,hxs,h⟩:=h
  have e3:=MJ c3
  simp only[dA] at e3
  rw[qC,rz,dA] at hxs h cm
  have cn:cZ (bZ (ca K)) b=false/\bM (bZ (ca K))=true:=by simpa [bM,ao,cX] using cn
  obtain ⟨rfl,d',hd',hpe⟩:=s9 ha hy c1
  obtain ⟨F1,hw1,m1,r1,gK⟩:=Fw hw hK cn.2
  have hx1:=r1 x v hx
  have hy1:dL bx (ca K) b=some (.arr ver' e es md):=by rw[qG cn.1];exact hy
  have hds:d'=de:=by rw[hde] at hd';exact (Mh hd').symm
  subst hds
  obtain ⟨d2,A,cap,hd2,hth,hlen,hA⟩:=hw1.box b _ hy1
  rw[hde] at hd2;obtain rfl:=Mh hd2
  have hpos:=(cC hT hde).pos
  obtain ⟨p1,p2,p3,p4⟩:=tf hxs hx1
  have hlt:((d'.cts.drop off).take d.cts.length).length=d.cts.length:=by rw[ME,MQ];omega
  rw[hlt] at p1 p2
  rcases hpe with ⟨hnb,hneg,rfl⟩|⟨h0,hlt',g0,og,cap',e1,rfl⟩
  ·rw[hnb] at c2
   simp only[ai,Ms] at c2
   omega
  ·rcases hA with ⟨rfl,rfl,rfl⟩|⟨g,o,cs,rfl,q1,q2,q3,q4⟩
   ·simp at hlt';omega
   ·rw[hth] at e1
    simp only[ML,Mj,Addr.mk.injEq,true_and,and_true] at e1
    obtain ⟨⟨rfl,rfl⟩,rfl⟩:=e1
    have hn:ix.toNat<es.length:=by omega
    have hfit:o+(ix.toNat*d'.cts.length+d'.cts.length)<=cs.size:=by
     have:=MA d'.cts.length (show ix.toNat+1<=cap from by omega)
     rw[Nat.succ_mul] at this
     omega
    have hrun:=ht.pE (off:=o+(ix.toNat*d'.cts.length+off)) q1 (v:=v) (by simpa using p2) p3 (by omega)
    have hcsl:cs.toList.length=cs.size:=by simp
    have hdl:(cs.toList.drop o).length=cap*d'.cts.length:=by rw[MQ,hcsl];omega
    have hdl2:es.length*d'.cts.length<=(cs.toList.drop o).length:=by rw[hdl];exact MA _ q3.1
    have hfull:Rws (CR T F1 w md) d' es (cs.toList.drop o):=⟨hlen,fun i c j x ct u a1 a2 a3 a4=>q4 i c j x ct u a1 a2 a3 (by rw[MB] at a4;simpa using a4)⟩
    have hcell:∀(i:Nat) (c:C) (ct:CT) (u:Value),xs[i]?=some c->d'.cts[off+i]?=some ct->v.cells.toList[i]?=some u->cE T F1 w ct c u:=fun i c t u a1 a2 a3=>by
     refine p4 i c t u a1 ?_ a3
     have hi:i<d.cts.length:=by have:=(Ml.1 a1).1;omega
     rw[List.getElem?_take_of_lt hi,MB];exact a2
    generalize hsts:(d'.cts.drop off).take d.cts.length=sts at*
    have hts:∀j,j<v.cells.toList.length->sts[j]?=d'.cts[off+j]?:=fun j hj=>by
     rw[←hsts,List.getElem?_take_of_lt (by omega),MB]
    generalize hmd:sif (bF sts) md (sif (az (Nat.beq md 1) q) 1 0)=md' at*
    rw[ao,Mk] at cm
    have h3:md≠3:=by rintro rfl;simp[dY] at cm
    have cm:=cm.2
    have hmdE:2<=md->md'=md:=fun h=>by
     rw[←hmd]
     cases hf:bF sts with
     |true=>rw[ai]
     |false=>exact absurd h (lv (by rw[hf,kN] at cm;simpa using cm))
    have hmd2:2<=md'↔2<=md:=by
     refine ⟨fun h=>?_,fun h=>by rw[hmdE h];exact h⟩
     rw[←hmd] at h
     cases hf:bF sts with
     |true=>rw[hf,ai] at h;exact h
     |false=>
      rw[hf,aX] at h
      cases hq:az (Nat.beq md 1) q<;>rw[hq] at h<;>simp[sif] at h
    have hmd0:md'≠0->md≠0/\(bF sts=true∨(md=1/\q=true)):=by
     rw[←hmd]
     cases hf:bF sts with
     |true=>rw[ai];exact fun h=>⟨h,.inl rfl⟩
     |false=>
      rw[aX]
      cases hq:az (Nat.beq md 1) q with
      |false=>simp[sif]
      |true=>
       rw[ao,Mk] at hq
       have:=Mi hq.1
       exact fun _=>⟨by omega,.inr ⟨this,hq.2⟩⟩
    have hset:Rws (CR T F1 w md') d' (es.set ix.toNat (aB (es.getD ix.toNat []) off xs)) ((cs.toList.drop o).take (ix.toNat*d'.cts.length+off)++v.cells.toList++(cs.toList.drop o).drop (ix.toNat*d'.cts.length+off+v.cells.toList.length)):=by
     by_cases h2:2<=md
     ·rw[hmdE h2]
      refine hfull.set (n:=ix.toNat) (off:=off) (us:=v.cells.toList) (xs:=xs) hdl2 hn (by omega) (by omega) fun i c ct u a1 a2 a3=>?_
      have hff:bF sts=true:=((hmd0 (by rw[hmdE h2];omega)).2).resolve_right fun h=>by omega
      have hi:i<v.cells.toList.length:=(Ml.1 a3).1
      rw[C0 h2 h3]
      exact (hcell i c ct u a1 a2 a3).rl (cH hff i ct (by rw[hts i hi];exact a2))
     ·have h2':¬2<=md':=fun h=>h2 (hmd2.1 h)
      refine ⟨?_,fun i c j x ct u a1 a2 a3 a4=>?_⟩
      ·exact (hfull.set (n:=ix.toNat) (off:=off) (us:=v.cells.toList) (xs:=xs) hdl2 hn (by omega) (by omega) fun i c ct u a1 a2 a3=>by rw[rE h2];exact hcell i c ct u a1 a2 a3).len
      ·rw[rE h2',←rE h2]
       exact (hfull.set (n:=ix.toNat) (off:=off) (us:=v.cells.toList) (xs:=xs) hdl2 hn (by omega) (by omega) fun i c ct u a1 a2 a3=>by rw[rE h2];exact hcell i c ct u a1 a2 a3).rel i c j x ct u a1 a2 a3 a4
    obtain ⟨f1,f2,f3,f4⟩:=je w g (cs.toList.take (o+(ix.toNat*d'.cts.length+off))++v.cells.toList++cs.toList.drop (o+(ix.toNat*d'.cts.length+off)+v.cells.toList.length)).toArray
    have hrow:=setRow_heap w g cs (cs.toList.take (o+(ix.toNat*d'.cts.length+off))++v.cells.toList++cs.toList.drop (o+(ix.toNat*d'.cts.length+off)+v.cells.toList.length)).toArray e _ q1
    have hoth:=fun k hk=>setRow_other w g k (cs.toList.take (o+(ix.toNat*d'.cts.length+off))++v.cells.toList++cs.toList.drop (o+(ix.toNat*d'.cts.length+off)+v.cells.toList.length)).toArray hk
    have hdr:(cs.toList.take (o+(ix.toNat*d'.cts.length+off))++v.cells.toList++cs.toList.drop (o+(ix.toNat*d'.cts.length+off)+v.cells.toList.length)).toArray.toList.drop o=(cs.toList.drop o).take (ix.toNat*d'.cts.length+off)++v.cells.toList++(cs.toList.drop o).drop (ix.toNat*d'.cts.length+off+v.cells.toList.length):=iH _ _ _ _ (by omega)
    have hold:∀k,md≠0->jq T w d' es (cs.toList.drop o) k->Fre fr T w (dL bx (ca K)) θ b k/\k≠g/\(2<=md->¬F1 k)/\(¬2<=md->F1 k):=fun k hm hk=>by
     have hk':(Box.arr ver' e es md).nst T w (θ b) k:=⟨hm,by rw[hth];exact (CD hde q1).2 hk⟩
     obtain ⟨_,a2,a3,_,a5⟩:=hw1.own b _ k hy1 hk'
     exact ⟨xU hw1 hy1 hk',fun e=>a5 b _ hy1 rfl (by rw[hth];simp[bJ,e]),a2,a3⟩
    have hnew:∀k,md'≠0->JM T w sts xs v.cells.toList k->Fre fr T w (dL bx (ca K)) θ b k/\k≠g/\¬2<=md/\F1 k/\¬jq T w d' es (cs.toList.drop o) k:=fun k hm hk=>by
     rcases (hmd0 hm).2 with hf|⟨h1,h2⟩
     ·obtain ⟨j,ct,c,u,a1,a2,a3,a4⟩:=hk
      have:=cH hf _ _ a1
      rw[nw a4] at this;simp at this
     ·subst h1
      have hall:eN (bI x)=true:=B3 (hq h2)
      obtain ⟨_,hb2⟩:=yW hw hx hall (hq h2) cn.2 (by rw[←hN];exact cn.2) hK hO hxs
      obtain ⟨b',v',t',es',hm',hb',hk'⟩:=hb2 k hk
      have hfre:=zE hw hm' hb' hk' b
      refine ⟨hfre,fun e=>hfre.2.2.1 b _ hy1 rfl (by rw[hth];simp[bJ,e]),by decide,?_,fun hu=>?_⟩
      ·rcases (iX hw hb').2 k hk' with a|a
       ·exact gK _ _ _ _ hm' k a
       ·exact m1.sub _ ((hw.own b' _ k hb' ⟨by decide,a⟩).2.2.1 (by simp[Box.m]))
      ·have hbb:b≠b':=fun e=>by subst e;rw[(cN _ _).2 (vM hm')] at cn;simp at cn
       have hu':(Box.arr ver' e es 1).nst T w (θ b) k:=⟨by decide,by rw[hth];exact (CD hde q1).2 hu⟩
       rcases (iX hw hb').2 k hk' with a|a
       ·exact (hw.own b _ k hy hu').2.2.2.2 b' _ hb' rfl a
       ·exact hbb (hw.odj _ _ _ _ k hy hb' hu' ⟨by decide,a⟩)
    have hnst:∀k,md'≠0->jq T w d' (es.set ix.toNat (aB (es.getD ix.toNat []) off xs)) ((cs.toList.drop o).take (ix.toNat*d'.cts.length+off)++v.cells.toList++(cs.toList.drop o).drop (ix.toNat*d'.cts.length+off+v.cells.toList.length)) k->Fre fr T w (dL bx (ca K)) θ b k/\k≠g/\(2<=md'->¬F1 k)/\(¬2<=md'->F1 k):=fun k hm hk=>by
     rcases CY hlen hdl2 hn (by omega) (by omega) hts hk with h|h
     ·obtain ⟨a1,a2,a3,a4,_⟩:=hnew k hm h
      exact ⟨a1,a2,fun h=>absurd (hmd2.1 h) a3,fun _=>a4⟩
     ·obtain ⟨a1,a2,a3,a4⟩:=hold k (hmd0 hm).1 h
      exact ⟨a1,a2,fun h=>a3 (hmd2.1 h),fun h=>a4 fun e=>h (hmd2.2 e)⟩
    have hlin:md'≠0->kB T w d' (es.set ix.toNat (aB (es.getD ix.toNat []) off xs)) ((cs.toList.drop o).take (ix.toNat*d'.cts.length+off)++v.cells.toList++(cs.toList.drop o).drop (ix.toNat*d'.cts.length+off+v.cells.toList.length)):=fun hm=>by
     have hl0:kB T w d' es (cs.toList.drop o):=by
      have:=(hw1.lin b _ hy1 (hmd0 hm).1).1 h3
      rw[hth] at this
      exact (C7 hde q1).1 this
     have hlc:KJ T w sts xs v.cells.toList:=by
      rcases (hmd0 hm).2 with hf|⟨h1,h2⟩
      ·refine ⟨fun j ct c u a1 a2 a3=>(hcell j c ct u a2 (by rw[←hts j (Ml.1 a3).1];exact a1) a3).rl (cH hf _ _ a1),fun j ct c u j' ct' c' u' k a1 a2 a3 b1 b2 b3 hk _=>?_⟩
       have:=cH hf _ _ a1
       rw[nw hk] at this;simp at this
      ·exact (yW hw hx (B3 (hq h2)) (hq h2) cn.2 (by rw[←hN];exact cn.2) hK hO hxs).1
     exact hl0.set hlen hdl2 hn (by omega) (by omega) hts hlc fun k hk=>(hnew k hm hk).2.2.2.2
    have hput:=hw1.Hq b (.arr ver' e (es.set ix.toNat (aB (es.getD ix.toNat []) off xs)) md') (θ b) (w.setRow g (cs.toList.take (o+(ix.toNat*d'.cts.length+off))++v.cells.toList++cs.toList.drop (o+(ix.toNat*d'.cts.length+off)+v.cells.toList.length)).toArray)
     (fun z hz=>by
      rw[hy1] at hz;obtain rfl:=Mh hz
      refine .inr ⟨rfl,⟨rfl,by simp⟩,rfl,fun h2=>?_⟩
      have hm2:md=2:=(hmdE (hmd2.1 (Nat.le_of_eq (Eq.symm h2)))).symm.trans h2
      refine ⟨hm2,fun g' o' n' c' e' p A l c hc=>?_⟩
      rw[hth] at e'
      simp only[ML,Mj,Addr.mk.injEq] at e'
      obtain ⟨⟨rfl,_⟩,_⟩:=e'
      have hff:bF sts=true:=((hmd0 (by rw[show md'=2 from h2];decide)).2).resolve_right fun h=>by omega
      simp only[World.cell?,q1] at hc
      simp only[World.cell?,hrow,Nf,Bool.false_eq_true,if_false] at hc⊢
      rw[List.getElem?_toArray,eQ (by omega)]
      split
      ·rename_i hin
       exfalso
       have hjx:ix.toNat<es.length:=hn
       have hrl:=hlen _ _ (Mg hjx)
       have hj:p-(o+(ix.toNat*d'.cts.length+off))<v.cells.toList.length:=by omega
       have hjd:off+(p-(o+(ix.toNat*d'.cts.length+off)))<d'.cts.length:=by omega
       have hct:d'.cts[off+(p-(o+(ix.toNat*d'.cts.length+off)))]?=some (d'.cts[off+(p-(o+(ix.toNat*d'.cts.length+off)))]'hjd):=Mg _
       have hrel:=q4 ix.toNat _ (off+(p-(o+(ix.toNat*d'.cts.length+off)))) _ _ (.slice A l c) (Mg hjx) (Mg (by omega)) hct (by rw[show o+(ix.toNat*d'.cts.length+(off+(p-(o+(ix.toNat*d'.cts.length+off)))))=p by omega];simpa using hc)
       rw[hm2] at hrel
       exact GF hrel (cH hff _ _ (by rw[hts _ hj];exact hct))
      ·simpa using hc)
     (fun q hq=>by
      by_cases hqg:q=g
      ·subst hqg;exact .inr ⟨_,hy1,rfl,by rw[hth];rfl⟩
      ·exact .inl (hoth q hqg))
     (by omega) f1 f2 f3 (fun q hq=>.inr ⟨_,hy1,rfl,hq⟩)
     (fun k hk=>by
      rw[hth] at hk
      obtain ⟨hm,hk⟩:=FF hde hrow hk
      rw[hdr] at hk
      have hk:=(Fz (fun k hk=>hoth k (hnst k hm hk).2.1)).1 hk
      obtain ⟨a1,_,a3,a4⟩:=hnst k hm hk
      exact ⟨a3,a4,a1⟩)
     (by
      rw[hth]
      refine Ct hde hrow fun hm=>?_
      rw[hdr]
      exact (hlin hm).mv fun k hk=>hoth k (hnst k hm hk).2.1)
     (fun m=>yP (o:=o) hde (by rw[ar,hth,MI]) hrow
      (by rw[List.size_toArray,eC (by omega)];simpa using q2) (by simpa using q3) (by
       rw[hdr]
       refine ⟨hset.len,fun i c j x ct u a1 a2 a3 a4=>(hset.rel i c j x ct u a1 a2 a3 a4).mv m.sub m.heap fun h2 k hk=>hoth k (hnst k (by omega) ⟨i,j,ct,x,u,⟨c,a1,a2,a3,a4⟩,hk⟩).2.1⟩))
    have haft:Aft T fr F w bx θ ⟨.un,app (ca K) [(b,.arr ver' e (es.set ix.toNat (aB (es.getD ix.toNat []) off xs)) md')]⟩ undef (w.setRow g (cs.toList.take (o+(ix.toNat*d'.cts.length+off))++v.cells.toList++cs.toList.drop (o+(ix.toNat*d'.cts.length+off)+v.cells.toList.length)).toArray):=by
     refine ⟨F1,upd θ b (θ b),?_,?_,.un _⟩
     ·show WR T fr F1 _ (dL bx (app (ca K) [(b,.arr ver' e _ md')])) _
      rw[kb];exact hput.1
     ·show Mv F w bx θ F1 _ (dL bx (app (ca K) [(b,.arr ver' e _ md')])) _
      rw[kb];exact m1.trans hput.2
    exact ⟨_,_,_,h,by simpa [Instr.storeAt,Instr.sureAddr] using hrun,haft⟩
 ·exact (aC h).elim
theorem Bn (hT:TOk P T) (hw:WR T fr F w bx θ) {t:TypeId} {x:V} {v:Value} (hx:aj T F w bx θ x v) {y:V} {va:Value} (ha:aj T F w bx θ y va)
  {k:Eff->List Nat->R} {r:Out} (h:pX T t x y bx k=some r):ub P T fr F w bx θ (Instr.storeAt t va v) k r:=by
 cases y with
 |pt b ver off=>exact EO hT hw hx ha h
 |pe b ver ix off nb=>exact ET hT hw hx ha h
 |_=>exact (aC (show (M.fail:M Eff) bx k=some r from h)).elim
theorem uz {d:TD} (n:Nat) (hpos:0<d.cts.length):Rws (cE T F w) d (List.replicate n (d.cts.map ir)) (madeCells (d.cts.map cd).toArray (n*d.cts.length)).toList:=by
 refine ⟨fun i c hc=>?_,fun i c j x ct v hc hx ht hv=>?_⟩
 ·rw[List.getElem?_replicate] at hc
  split at hc
  ·simp at hc;subst hc;simp
  ·simp at hc
 ·rw[List.getElem?_replicate] at hc
  split at hc
  ·rename_i hi
   simp at hc;subst hc
   have hj:j<d.cts.length:=(Ml.1 ht).1
   have:=kK hi hj
   simp[madeCells,this] at hv
   have hm:(i*d.cts.length+j)%d.cts.length=j:=by rw[Nat.mul_comm,Nat.mul_add_mod,Nat.mod_eq_of_lt hj]
   rw[No,ht] at hx
   have hx:=Mh hx
   have e:d.cts[j]'hj=ct:=by rw[Mg hj] at ht;simpa using ht
   rw[Nat.mod_eq_of_lt hj,ht] at hv;simp at hv
   subst hx;subst hv
   cases ct with
   |int k=>exact .int _ _
   |bool=>exact .bool _
   |str=>exact .str _
   |sl e=>exact .sl0 _ _ _
   |pt e=>exact .pt0 _
   |fn=>exact .fn0
  ·simp at hc
theorem uj (hw:WR T fr F w bx θ) {b:Nat} {t:TypeId} {d:TD} {es:List (List C)} {ver g o cap m:Nat} {cs:Array Value} {w':World} (hd:bj T t=some d)
  (hv:∀x,bx b=some x->x.ver<ver) (hs:cs.size=o+cap*d.cts.length) (hc:es.length<=cap/\cap<=maxLen) (hg:w'.heap[g]?=some (.cells cs t (0,0)))
  (hh:∀k,k<w.heap.size->w'.heap[k]?=w.heap[k]?∨(k=g/\∃x,bx b=some x/\x.live=true/\bJ (θ b)=some g))
  (hfresh:(w.heap.size<=g/\g<w'.heap.size)∨∃x,bx b=some x/\x.live=true/\bJ (θ b)=some g)
  (hsz:w.heap.size<=w'.heap.size) (hos:w'.os=w.os) (htp:w'.tape=w.tape) (hou:w'.output=w.output/\w.drawn<=w'.drawn) (hm:¬2<=m)
  (hr:(∀k,F k->w'.heap[k]?=w.heap[k]?)->Rws (cE T F w') d es (cs.toList.drop o))
  (hl:m≠0->kB T w d es (cs.toList.drop o)) (hN:m≠0->∀k,jq T w d es (cs.toList.drop o) k->F k/\Fre fr T w bx θ b k):
  Aft T fr F w bx θ ⟨.ow b ver,[(b,.arr ver t es m)]⟩ (.slice (some ⟨g,o,none⟩) es.length cap) w':=by
 have hold:m≠0->∀k,jq T w d es (cs.toList.drop o) k->w'.heap[k]?=w.heap[k]?:=fun hm k hk=>by
  obtain ⟨_,a1,_,a3,_⟩:=hN hm k hk
  rcases hh k a1 with h|⟨rfl,x,h1,h2,h3⟩
  ·exact h
  ·exact absurd h3 (a3 b x h1 h2)
 have:=hw.Hq b (.arr ver t es m) (.slice (some ⟨g,o,none⟩) es.length cap) w' (fun x hx=>.inl (hv x hx))
  (fun k hk=>(hh k hk).imp id (by rintro ⟨rfl,h⟩;exact h)) hsz hos htp hou (fun q hq=>by simp[bJ] at hq;subst hq;exact hfresh)
  (fun k hk=>by
   obtain ⟨h0,hk⟩:=FF hd hg hk
   obtain ⟨a1,a2⟩:=hN h0 k ((Fz (hold h0)).1 hk)
   exact ⟨fun h=>absurd h hm,fun _=>a1,a2⟩)
  (Ct hd hg fun h0=>(hl h0).mv (hold h0))
  (fun mv=>yP hd (ar _ _ _) hg hs hc (Rws.cr hm (hr mv.heap)))
 exact ⟨F,_,this.1,this.2,.ow b _ _ _ (ar _ _ _) (Mp _) ⟨_,_,_,rfl⟩ fun _=>⟨t,es,m,rfl,(ar _ _ _).symm⟩⟩
theorem Bh (hw:WR T fr F w bx θ) {t:TypeId} {d:TD} (hd:bj T t=some d) (b:Nat) {es:List (List C)} {cs:Array Value} {cap m:Nat} (hs:cs.size=cap*d.cts.length) (hc:es.length<=cap/\cap<=maxLen) (hm:¬2<=m)
  (hr:Rws (cE T F w) d es cs.toList) (hl:m≠0->kB T w d es cs.toList) (hN:m≠0->∀k,jq T w d es cs.toList k->F k/\Fre fr T w bx θ b k):
  Aft T fr F w bx θ ⟨.ow b (fY bx b),[(b,.arr (fY bx b) t es m)]⟩ (.slice (some ⟨w.heap.size,0,none⟩) es.length cap) (w.alloc (.cells cs t)):=by
 obtain ⟨f1,f2,f3,f4⟩:=pq w (.cells cs t)
 exact uj (o:=0) (w':=w.alloc (.cells cs t)) hw hd (fun x hx=>ph hx) (by omega) hc (heap_alloc_new w _) (fun k hk=>.inl (heap_alloc_old w _ hk)) (.inl ⟨Mp _,by omega⟩) (by omega) f1 f2 f3 hm
  (fun h=>by rw[Nb];exact hr.mv (fun _ h=>h) h) (by rw[Nb];exact hl) (by rw[Nb];exact hN)
theorem wc {d:TD} (n:Nat) (hpos:0<d.cts.length):kB T w d (List.replicate n (d.cts.map ir)) (madeCells (d.cts.map cd).toArray (n*d.cts.length)).toList/\∀k,¬jq T w d (List.replicate n (d.cts.map ir)) (madeCells (d.cts.map cd).toArray (n*d.cts.length)).toList k:=by
 have key:∀i j ct c u,AtU d (List.replicate n (d.cts.map ir)) (madeCells (d.cts.map cd).toArray (n*d.cts.length)).toList i j ct c u->cE T (fun _=>False) w ct c u:=fun i j ct c u ⟨row,h1,h2,h3,h4⟩=>(uz (F:=fun _=>False) (w:=w) n hpos).rel i row j c ct u h1 h2 h3 h4
 have key2:∀i j ct c u,AtU d (List.replicate n (d.cts.map ir)) (madeCells (d.cts.map cd).toArray (n*d.cts.length)).toList i j ct c u->u=cd ct:=by
  rintro i j ct c u ⟨row,h1,h2,h3,h4⟩
  rw[List.getElem?_replicate] at h1
  split at h1
  ·rename_i hi
   have hj:j<d.cts.length:=(Ml.1 h3).1
   have:=kK hi hj
   simp[madeCells,this] at h4
   rw[Nat.mod_eq_of_lt hj,h3] at h4
   simp at h4
   exact h4.symm
  ·simp at h1
 have no:∀ct c u k,cE T (fun _=>False) w ct c u->u=cd ct->¬InT T w ct c u k:=fun ct c u k h hu hk=>by
  cases h with
  |sl0 e a cap=>
   simp only[cd,ML,true_and] at hu
   obtain ⟨rfl,rfl⟩:=hu
   cases hk with
   |sub _ _ _ _ _ _ _ _ _ h hk=>exact uc ⟨_,_,_,_,_,h,hk⟩
  |sl _ _ _ _ _ _ _ _ hF=>exact hF
  |pt _ _ _ _ _ _ _ hF=>exact hF
  |_=>cases hk
 exact ⟨⟨fun i j ct c u h=>.base _ _ _ (key _ _ _ _ _ h) (by rintro e rfl;exact key2 _ _ _ _ _ h),fun i j ct c u i' j' ct' c' u' k h1 h2 h3 h4=>absurd h3 (no _ _ _ _ (key _ _ _ _ _ h1) (key2 _ _ _ _ _ h1))⟩,fun k ⟨i,j,ct,c,u,h1,h2⟩=>no _ _ _ _ (key _ _ _ _ _ h1) (key2 _ _ _ _ _ h1) h2⟩
theorem mz.facts {t:TypeId} {d:TD} (h:mz P T t d):∃i z,P.info? t=some i/\i.zero=some z/\i.size=d.cts.length/\i.bytes=d.bytes/\z.cells=(d.cts.map cd).toArray:=by
 obtain ⟨i,h1,h2,h3,h4⟩:=h.info
 exact ⟨i,_,h1,h2,h3,h4,h.pV⟩
theorem Ar (hT:TOk P T) (hw:WR T fr F w bx θ) {t:TypeId} {b:Nat} {n c:V} {vn vc:Value} (hn:aj T F w bx θ n vn) (hc:aj T F w bx θ c vc) {k:Eff->List Nat->R} {r:Out}
  (h:nA T t b n c bx k=some r):Chg P T fr F w bx θ (Instr.makeSlice t vn vc) k r:=by
 unfold nA at h
 replace h:=kO h;obtain ⟨e,he,h⟩:=h
 replace h:=kO h;obtain ⟨de,hde,h⟩:=h
 replace h:=kO h;obtain ⟨l,hl,h⟩:=h
 replace h:=kO h;obtain ⟨m,hm,h⟩:=h
 replace h:=kC h;obtain ⟨c1,h⟩:=h
 replace h:=kC h;obtain ⟨c2,h⟩:=h
 replace h:=kC h;obtain ⟨c3,h⟩:=h
 replace h:=kS h;obtain ⟨c4,h⟩:=h
 rw[bnd,lp] at h
 simp only[Ms] at c1 c2 c3
 have c4:=MJ c4
 subst c1
 obtain ⟨k1,rfl⟩:=o6 hn hl
 obtain ⟨k2,rfl⟩:=o6 hc hm
 have ht:=cC hT hde
 obtain ⟨i,z,hi,hz,hs,hb,hzc⟩:=ht.facts
 have hbl:(i.bytes:Int)*l<=281474976710656:=by
  have h1:i.bytes*l.toNat<=16384*4294967296:=Nat.mul_le_mul (by omega) (by omega)
  have h2:((i.bytes*l.toNat:Nat):Int)=(i.bytes:Int)*l:=by rw[Int.natCast_mul,Int.toNat_of_nonneg c2]
  omega
 have hrun:=run_make (P:=P) w t e i z (fV hT he) hi hz k1 k2 l l c2 (Int.le_refl _) hbl (by omega)
 rw[hs,hzc] at hrun
 have hlen:(List.replicate l.toNat (de.cts.map ir)).length=l.toNat:=by simp
 have ha:=Bh (t:=e) hw hde b (es:=List.replicate l.toNat (de.cts.map ir)) (cs:=madeCells (de.cts.map cd).toArray (l.toNat*de.cts.length)) (cap:=l.toNat)
  (m:=1) (by rw[size_madeCells]) (by rw[hlen];simp only[maxLen];omega) (by decide) (uz l.toNat ht.pos) (fun _=>(wc l.toNat ht.pos).1) (fun _ k hk=>absurd hk ((wc l.toNat ht.pos).2 k))
 rw[hlen] at ha
 exact ⟨_,_,_,_,h,hrun,ha⟩
end
end Go.Ev
namespace Go.Ev
section
variable {P:Program} {T:Tys} {fr:Fr} {F:Nat->Prop} {w:World} {bx:Bxs} {θ:Nat->Value}
theorem uk (off:Nat):∀(l:List Value) (j:Nat) (cs:Array Value),off+j+l.length<=cs.size->
  ((l.zipIdx j).foldl (fun cs (x:Value×Nat)=>cs.setIfInBounds (off+x.2) x.1) cs).toList=cs.toList.take (off+j)++l++cs.toList.drop (off+j+l.length)
 |[],j,cs,h=>by simp
 |x::r,j,cs,h=>by
  simp only[Mn] at h
  rw[List.zipIdx_cons,List.foldl_cons,uk off r (j+1) _ (by simp;omega)]
  simp only[Array.toList_setIfInBounds,Mn]
  have hcl:cs.toList.length=cs.size:=by simp
  have hlt:off+j<cs.toList.length:=by omega
  rw[List.drop_set_of_lt (by omega),show off+(j+1)=off+j+1 from rfl,List.take_add_one,List.take_set_of_le (by omega),List.getElem?_set_self hlt]
  simp only[Option.toList_some,M0,List.singleton_append,List.cons_append,List.append_cancel_left_eq]
  rw[show off+j+1+r.length=off+j+(r.length+1) from by omega]
  rfl
theorem vP (place:Nat->Option (Nat×Nat)) (cs:Array Value) (i:Nat) (v:Value) (r:List (Nat×Value)) {off size:Nat} (hp:place i=some (off,size)) (hs:v.cells.size=size) (hf:off+size<=cs.size):
  Instr.fill place cs ((i,v)::r)=Instr.fill place (cs.toList.take off++v.cells.toList++cs.toList.drop (off+v.cells.toList.length)).toArray r:=by
 have hfold:=uk off v.cells.toList 0 cs (by simp;omega)
 simp only[Nat.add_zero] at hfold
 have e:v.cells.zipIdx.foldl (fun cs (x:Value×Nat)=>cs.setIfInBounds (off+x.2) x.1) cs=(cs.toList.take off++v.cells.toList++cs.toList.drop (off+v.cells.toList.length)).toArray:=by
  rw[←hfold,Array.toArray_toList,←Array.foldl_toList]
  simp
 conv=>lhs;unfold Instr.fill
 simp only[hp,hs]
 rw[if_neg (by simp;omega)]
 congr 1
theorem C8 {fs:List (Nat×TypeId)} {ρ:cu} {a:Act} (ho:∀x,aj T F w bx θ (bX ρ x) (a.eval x)) {place:Nat->Option (Nat×Nat)}
  (hp:∀(i o:Nat) (t:TypeId) (d:TD),fs[i]?=some (o,t)->bj T t=some d->place i=some (o,d.cts.length)):
  ∀(ps:List (Nat×Operand)) (cs:List V) (vs:Array Value) (cs':List V),vs.size=cs.length->(∀(i:Nat) (x:V) (v:Value),cs[i]?=some x->vs[i]?=some v->aj T F w bx θ x v)->
   w9 T fs ρ ps cs=some cs'->∃vs',Instr.fill place vs (ps.map fun p=>(p.1,a.eval p.2))=some vs'/\vs'.size=cs'.length/\∀(i:Nat) (x:V) (v:Value),cs'[i]?=some x->vs'[i]?=some v->aj T F w bx θ x v
 |[],cs,vs,cs',hl,hr,h=>by simp[w9] at h;subst h;exact ⟨vs,rfl,hl,hr⟩
 |(i,x)::r,cs,vs,cs',hl,hr,h=>by
  simp only[w9,nU] at h
  split at h
  ·rename_i o t hot
   split at h
   ·rename_i d hd
    cases hc:az (eN (bI (bX ρ x))) (az (Nat.beq (len (bI (bX ρ x))) (len d.cts)) (Nat.ble (o+len d.cts) (len cs))) with
    |false=>simp[hc,sif] at h
    |true=>
     rw[hc,ai] at h
     simp only[ao,Mk,dA] at hc
     obtain ⟨c1,c2,c3⟩:=hc
     have c2:=Mi c2
     have c3:=MJ c3
     obtain ⟨g1,g2,g3⟩:=qD (ho x) c1
     rw[MD,vP place vs i (a.eval x) _ (hp i o t d hot hd) (by omega) (by omega)]
     have hvl:(a.eval x).cells.toList.length=(bI (bX ρ x)).length:=by simpa using g1
     have hcl:vs.toList.length=cs.length:=by simpa using hl
     refine C8 ho hp r _ _ cs' ?_ ?_ h
     ·rw[mI,eC (by omega),List.size_toArray,eC (by omega),hcl]
     ·intro j z u h1 h2
      rw[mI,eQ (by omega)] at h1
      simp only[List.getElem?_toArray] at h2
      rw[eQ (by omega),hvl] at h2
      split at h1
      ·rename_i hc
       rw[if_pos hc] at h2
       exact g3 _ _ _ h1 (by simpa using h2)
      ·rename_i hc
       rw[if_neg hc] at h2
       exact hr _ _ _ h1 (by simpa using h2)
   ·simp at h
  ·simp at h
theorem Ba (hT:TOk P T):∀(fs:List Field),BG T (dT fs)=true->∃places:List (Nat×Nat),fs.mapM (fun f=>(P.info? f.type).map fun i=>(f.offset,i.size))=some places/\
  ∀(i o:Nat) (t:TypeId) (d:TD),(dT fs)[i]?=some (o,t)->bj T t=some d->places[i]?=some (o,d.cts.length)
 |[],_=>⟨[],by simp,fun i o t d h=>by simp[dT] at h⟩
 |f::fs,h=>by
  simp only[dT,MD,BG] at h
  split at h
  ·rename_i d hd
   obtain ⟨pl,h1,h2⟩:=Ba hT fs h
   obtain ⟨i,z,hi,hz,hs,hb,hzc⟩:=(cC hT hd).facts
   refine ⟨(f.offset,i.size)::pl,by simp[hi,h1],fun j o t d' hj hd'=>?_⟩
   cases j with
   |zero=>
    simp[dT] at hj
    obtain ⟨rfl,rfl⟩:=hj
    rw[hd] at hd';obtain rfl:=Mh hd'
    simp[hs]
   |succ j=>simpa using h2 j o t d' (by simpa [dT] using hj) hd'
  ·simp at h
theorem GA (hT:TOk P T) (hw:WR T fr F w bx θ) {t:TypeId} {ρ:cu} {a:Act} (ho:∀x,aj T F w bx θ (bX ρ x) (a.eval x)) {ps:Array (Nat×Operand)} {k:Eff->List Nat->R} {r:Out}
  (h:wD T t ρ ps.toList bx k=some r):Reads P T F w bx θ (Instr.build t (ps.map fun (i,x)=>(i,a.eval x))) k r:=by
 unfold wD at h
 replace h:=kO h;obtain ⟨d,hd,h⟩:=h
 have ht:=cC hT hd
 obtain ⟨u,hu,hdv⟩:=ht.desc
 split at h
 ·rename_i fs cts bytes
  replace h:=kS h;obtain ⟨c1,h⟩:=h
  replace h:=kO h;obtain ⟨cs,hcs,hk⟩:=h
  rw[dW] at hk
  cases u with
  |struct fields=>
   simp only[eo,DV.st.injEq] at hdv
   subst hdv
   obtain ⟨places,p1,p2⟩:=Ba hT fields.toList c1
   obtain ⟨i,z,hi,hz,hs,hb,hzc⟩:=ht.facts
   have hfill:=C8 ho (place:=(places.toArray[·]?)) (fun i o t d h1 h2=>by simpa using p2 i o t d h1 h2) ps.toList (cts.map ya) z.cells cs (by simp[hzc]) (fun j x v h1 h2=>by
    rw[hzc] at h2
    simp only[No,Option.map_eq_some_iff] at h1
    obtain ⟨c,hc,rfl⟩:=h1
    simp[No,hc] at h2
    subst h2
    exact AI c) hcs
   obtain ⟨vs',f1,f2,f3⟩:=hfill
   have hb:P.built t (ps.map fun (i,x)=>(i,a.eval x)).toList=some vs':=by
    unfold Program.built
    simp only[hi,hu,hz,p1]
    rw[←f1];simp
   refine ⟨_,_,_,hk,run_build (P:=P) w t _ vs' hb,?_⟩
   have:=aj.ag (T:=T) (F:=F) (w:=w) (bx:=bx) (θ:=θ) cs none vs'.toList (by simpa using f2) w8 (fun i x v h1 h2=>f3 i x v h1 (by simpa using h2))
   simpa using this
  |_=>simp[eo] at hdv
 ·exact (aC h).elim
theorem CP {de:TD} (hpos:0<de.cts.length) {ρ:cu} {a:Act} (ho:∀x,aj T F w bx θ (bX ρ x) (a.eval x)):
  ∀(ps:List (Nat×Operand)) (es:List (List C)) (vs:Array Value) (es':List (List C)),vs.size=es.length*de.cts.length->Rws (cE T F w) de es vs.toList->
   sM de.cts ρ ps es=some es'->∃vs',Instr.fill (fun i=>some (i*de.cts.length,de.cts.length)) vs (ps.map fun p=>(p.1,a.eval p.2))=some vs'/\es'.length=es.length/\vs'.size=vs.size/\Rws (cE T F w) de es' vs'.toList
 |[],es,vs,es',hl,hr,h=>by simp[sM] at h;subst h;exact ⟨vs,rfl,rfl,rfl,hr⟩
 |(i,x)::r,es,vs,es',hl,hr,h=>by
  simp only[sM] at h
  split at h
  ·rename_i xs hxs
   cases hc:Nat.blt i (len es) with
   |false=>simp[hc,sif] at h
   |true=>
    rw[hc,ai,xG] at h
    rw[dA] at hc
    have hi:i<es.length:=by have:=hc;simp[Nat.blt] at this;omega
    obtain ⟨p1,p2,p3,p4⟩:=tf hxs (ho x)
    have hfit:i*de.cts.length+de.cts.length<=vs.size:=by
     rw[hl,←Nat.succ_mul];exact MA _ hi
    have hset:=hr.set (n:=i) (off:=0) (xs:=xs) (us:=(a.eval x).cells.toList) (by simpa using Nat.le_of_eq hl.symm) hi (by omega) (by omega) (fun j c t u a1 a2 a3=>p4 j c t u a1 (by simpa using a2) a3)
    have hrow:=hr.len i es[i] (Mg hi)
    have hsc:aB (es.getD i []) 0 xs=xs:=by
     rw[Mm,Mg hi]
     simp[aB,List.drop_eq_nil_of_le (show es[i].length<=xs.length by omega)]
    rw[hsc] at hset
    rw[MD,vP _ vs i (a.eval x) _ rfl (by simpa using p2) (by omega)]
    have hsz:(vs.toList.take (i*de.cts.length)++(a.eval x).cells.toList++vs.toList.drop (i*de.cts.length+(a.eval x).cells.toList.length)).toArray.size=vs.size:=by
     rw[List.size_toArray,eC (by simp;simp at p2;omega)];simp
    obtain ⟨vs',q1,q2,q3,q4⟩:=CP hpos ho r (es.set i xs) _ es' (by rw[hsz,hl];simp) (by simpa using hset) h
    exact ⟨vs',q1,by rw[q2];simp,by rw[q3,hsz],q4⟩
  ·simp at h
theorem zp:∀(l:List Value) (b v:Nat),¬V.ow b v∈gr l
 |[],b,v,h=>by simp[gr] at h
 |x::r,b,v,h=>by
  have ih:=zp r b v
  unfold gr at h
  split at h<;>first|(simp at h;done)|(rename_i heq;simp only[List.cons.injEq] at heq;obtain ⟨rfl,rfl⟩:=heq;simp at h;exact ih h)
theorem Ha (u:Value) (b v:Nat):¬V.ow b v∈bI (tc u):=by
 intro h
 unfold tc at h
 split at h<;>simp[bI] at h
 exact zp _ b v h
theorem xM:∀ {K:List KE} {x:V},(∀y,y∈bI x->∀b v,y≠.ow b v)->pQ K x=x
 |[],x,h=>rfl
 |(c,v,t,es)::K,x,h=>by
  have h0:∀y,(∀b v,y≠.ow b v)->oY c v t es y=y:=fun y hy=>by
   cases y<;>first|rfl|exact absurd rfl (hy _ _)
  have:yU c v t es x=x:=by
   cases x with
   |ag l o=>
    show V.ag (sI c v t es l) o=.ag l o
    congr 1
    replace h:∀y,y∈l->∀b v,y≠.ow b v:=h
    clear h0
    induction l with
    |nil=>rfl
    |cons x r ih=>
     simp only[sI]
     rw[ih fun y hy=>h y (MF _ hy)]
     congr 1
     have:=h x (Mz ..)
     cases x<;>first|rfl|exact absurd rfl (this _ _)
   |ow b' v'=>exact absurd rfl (h (.ow b' v') (Mz ..) b' v')
   |_=>rfl
  show pQ K (yU c v t es x)=x
  rw[this]
  exact xM h
theorem zV (hT:TOk P T) (hw:WR T fr F w bx θ) {t:TypeId} {n b:Nat} {ρ:cu} {a:Act} (ho:∀x,aj T F w bx θ (bX ρ x) (a.eval x)) {ps:Array (Nat×Operand)} {k:Eff->List Nat->R} {r:Out}
  (h:j6 T t n b ρ ps.toList bx k=some r):Chg P T fr F w bx θ (Instr.buildSlice t n (ps.map fun (i,x)=>(i,a.eval x))) k r:=by
 unfold j6 at h
 replace h:=kO h;obtain ⟨e,he,h⟩:=h
 replace h:=kO h;obtain ⟨de,hde,h⟩:=h
 rw[bnd] at h;obtain ⟨q,rdq,h_,hq⟩:=nh h;clear h;have h:=h_;clear h_
 rw[bnd] at h;obtain ⟨K,rdk,h_,hK,hO,hN⟩:=oS h;clear h;have h:=h_;clear h_
 replace h:=kS h;obtain ⟨hnd,h⟩:=h
 have hnd:cZ (bZ (ca K)) b=false/\bM (bZ (ca K))=true:=by simpa [bM,ao,cX] using hnd
 obtain ⟨F1,hw1,m1,r1,gK⟩:=Fw hw hK hnd.2
 have ho1:∀x,aj T F1 w (dL bx (ca K)) θ (bX (uJ K ρ) x) (a.eval x):=fun x=>by
  cases x with
  |tmp d=>rw[show bX (uJ K ρ) (.tmp d)=pQ K (ρ d) from r9 K ρ d];exact r1 _ _ (ho (.tmp d))
  |const v=>exact (ho (.const v)).mv m1
  |func f=>exact (ho (.func f)).mv m1
  |global g=>exact .un _
 replace h:=kO h;obtain ⟨es,hes,h⟩:=h
 replace h:=kS h;obtain ⟨c1,h⟩:=h
 rw[bnd,lp] at h
 have c1:=MJ c1
 rw[dA] at c1
 have ht:=cC hT hde
 obtain ⟨i,z,hi,hz,hs,hb,hzc⟩:=ht.facts
 have h0':=uz (T:=T) (F:=F1) (w:=w) (d:=de) n ht.pos
 rw[Jd] at hes
 obtain ⟨vs',f1,f2,f3,f4⟩:=CP ht.pos ho1 ps.toList _ (madeCells (de.cts.map cd).toArray (n*de.cts.length)) es (by simp[size_madeCells]) h0' hes
 have hlen:es.length=n:=by simpa using f2
 generalize hmd:sif (orS (bF de.cts) (az (one ps.toList) q)) 1 0=md at*
 have hm2:¬2<=md:=by rw[←hmd];cases orS (bF de.cts) (az (one ps.toList) q)<;>decide
 have hone:md≠0->bF de.cts=true∨((ps.toList=[]∨∃p,ps.toList=[p])/\q=true):=fun h0=>by
  rw[←hmd] at h0
  cases hf:bF de.cts with
  |true=>exact .inl rfl
  |false=>
   rw[hf] at h0
   cases ho:az (one ps.toList) q with
   |false=>rw[ho] at h0;simp[orS,sif] at h0
   |true=>
    rw[ao,Mk] at ho
    refine .inr ⟨?_,ho.2⟩
    have:=ho.1
    rcases hp:ps.toList with _|⟨p,_|⟨p',l⟩⟩
    ·exact .inl rfl
    ·exact .inr ⟨p,rfl⟩
    ·simp[hp,one] at this
 have hz0:=wc (T:=T) (w:=w) (d:=de) n ht.pos
 have hlin:md≠0->kB T w de es vs'.toList/\∀k,jq T w de es vs'.toList k->F1 k/\Fre fr T w (dL bx (ca K)) θ b k:=fun h0=>by
  rcases hone h0 with hf|⟨hp|⟨⟨i,x⟩,hp⟩,hqt⟩
  ·exact ⟨vT hf f4,fun k hk=>absurd hk (si hf)⟩
  ·rw[hp] at hes f1
   simp only[sM,Mj] at hes
   simp only[MC,Instr.fill,Mj] at f1
   subst hes;subst f1
   exact ⟨hz0.1,fun k hk=>absurd hk (hz0.2 k)⟩
  ·rw[hp] at hes f1
   simp only[sM] at hes
   split at hes
   ·rename_i xs hxs
    cases hc:Nat.blt i (len (List.replicate n (de.cts.map ir))) with
    |false=>simp[hc,sif] at hes
    |true=>
     rw[hc,ai,xG] at hes
     obtain rfl:=Mh hes
     rw[dA] at hc
     have hi:i<(List.replicate n (de.cts.map ir)).length:=by have:=hc;simp[Nat.blt] at this;simp;omega
     have hk:xd ρ [(i,x)]=bI (bX ρ x):=by simp[xd,fP]
     rw[hp,hk] at hq hO hN
     have hox:bX (uJ K ρ) x=pQ K (bX ρ x):=by
      have hall:=B3 (hq hqt)
      cases x with
      |tmp d=>exact r9 K ρ d
      |const v=>
       have:∀y,y∈bI (tc v)->∀b v',y≠.ow b v':=fun y hy b v' e=>by
        subst e
        exact Ha v b _ hy
       exact (xM (x:=tc v) this).symm
      |func f=>exact (xM (x:=.fn f []) (fun y hy b v e=>by subst e;simp[bI] at hy)).symm
      |global g=>exact (xM (x:=.un) (fun y hy b v e=>by subst e;simp[bI] at hy)).symm
     rw[hox] at hxs
     obtain ⟨p1,p2,p3,p4⟩:=tf hxs (by rw[←hox];exact ho1 x)
     have hfit:i*de.cts.length+de.cts.length<=(madeCells (de.cts.map cd).toArray (n*de.cts.length)).size:=by
      rw[size_madeCells,←Nat.succ_mul];exact MA _ (by have:=hi;simp at this;omega)
     rw[MD,vP _ _ i (a.eval x) _ rfl (by simpa using p2) (by omega)] at f1
     simp only[MC,Instr.fill,Mj] at f1
     subst f1
     have hrow:∀(j:Nat) (c:List C),(List.replicate n (de.cts.map ir))[j]?=some c->c.length=de.cts.length:=h0'.len
     have hsc:aB ((List.replicate n (de.cts.map ir)).getD i []) 0 xs=xs:=by
      have hr:=hrow i _ (Mg hi)
      rw[Mm,Mg hi]
      simp only[aB,Nc,List.nil_append,My,Ng]
      rw[List.drop_eq_nil_of_le (by omega),M1]
     obtain ⟨c1,c2⟩:=yW hw (ho x) (B3 (hq hqt)) (hq hqt) hnd.2 (by rw[←hN];exact hnd.2) hK hO hxs
     have hml:(madeCells (de.cts.map cd).toArray (n*de.cts.length)).toList.length=n*de.cts.length:=by simp[size_madeCells]
     have hset:=hz0.1.set (n:=i) (off:=0) (us:=(a.eval x).cells.toList) (xs:=xs) (ts:=de.cts) hrow (by rw[hml];simp) hi (by omega) (by omega) (fun j _=>by rw[My]) c1 (fun k _=>hz0.2 k)
     rw[hsc] at hset
     refine ⟨by simpa using hset,fun k hk=>?_⟩
     have hk2:=CY (T:=T) (w:=w) (n:=i) (off:=0) (us:=(a.eval x).cells.toList) (xs:=xs) (ts:=de.cts) (vs:=(madeCells (de.cts.map cd).toArray (n*de.cts.length)).toList) hrow (by rw[hml];simp) hi (by omega) (by omega) (fun j _=>by rw[My]) (k:=k) (by rw[hsc];simpa using hk)
     rcases hk2 with h|h
     ·obtain ⟨b',v',t',es',hm',hb',hk'⟩:=c2 k h
      refine ⟨?_,zE hw hm' hb' hk' b⟩
      rcases (iX hw hb').2 k hk' with a|a
      ·exact gK _ _ _ _ hm' k a
      ·exact m1.sub _ ((hw.own b' _ k hb' ⟨by decide,a⟩).2.2.1 (by simp[Box.m]))
     ·exact absurd h (hz0.2 k)
   ·simp at hes
 have ha:=Bh (t:=e) (m:=md) hw1 hde b (es:=es) (cs:=vs') (cap:=n) (by rw[f3,size_madeCells]) (by
  have:n<=n*de.cts.length:=Nat.le_mul_of_pos_right _ ht.pos
  simp only[maxLen];omega) hm2 f4 (fun h=>(hlin h).1) (fun h=>(hlin h).2)
 rw[hlen] at ha
 have hvv:fY (dL bx (ca K)) b=fY bx b:=by unfold fY;rw[qG hnd.1]
 rw[hvv] at ha
 have ha2:Aft T fr F w bx θ ⟨.ow b (fY bx b),app (ca K) [(b,.arr (fY bx b) e es md)]⟩ (.slice (some ⟨w.heap.size,0,none⟩) n n) (w.alloc (.cells vs' e)):=by
  obtain ⟨F2,θ2,a1,a2,a3⟩:=ha
  refine ⟨F2,θ2,?_,?_,?_⟩
  ·show WR T fr F2 _ (dL bx (app (ca K) [(b,.arr (fY bx b) e es md)])) θ2
   rw[kb];exact a1
  ·show Mv F w bx θ F2 _ (dL bx (app (ca K) [(b,.arr (fY bx b) e es md)])) θ2
   rw[kb];exact m1.trans a2
  ·show aj T F2 _ (dL bx (app (ca K) [(b,.arr (fY bx b) e es md)])) θ2 _ _
   rw[kb];exact a3
 refine ⟨_,_,_,_,h,?_,ha2⟩
 have hno:¬(16777216<n*de.cts.length):=by omega
 have hf1:Instr.fill (fun i=>some (i*de.cts.length,de.cts.length)) (madeCells (de.cts.map cd).toArray (n*de.cts.length)) (ps.map fun (i,x)=>(i,a.eval x)).toList=some vs':=by
  rw[←f1];simp
 by_cases hz0:n*de.cts.length=0
 ·have hn0:n=0:=by
   rcases Nat.mul_eq_zero.1 hz0 with h|h
   ·exact h
   ·have:=ht.pos;omega
  subst hn0
  have:madeCells (de.cts.map cd).toArray (0*de.cts.length)= #[]:=by simp[madeCells]
  rw[this] at hf1
  simp at hf1
  simp[Instr.buildSlice,run_underlying (fV hT he),sizeOf,typeInfo,hi,hs,hz0,Array.range_zero',hf1,newRow]
 ·unfold madeCells at hf1
  simp at hf1
  simp[Instr.buildSlice,run_underlying (fV hT he),sizeOf,typeInfo,zeroValue,hi,hs,hz,hzc,hz0,hno,hf1,newRow]
end
end Go.Ev
