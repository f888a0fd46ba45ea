/- Proved here: the law FnExactPilotVictimsCard of the given program answers true at every input, and leaves the input as it was; no condition. This text: lemmas on the way (an evaluator of the program's code, sound once for all; the functions it prints; plain proofs on these). -/
import Derived.Test.YtkbmnjmgceabdaaGreatDoorP2
set_option linter.all false
set_option autoImplicit false
set_option maxRecDepth 100000
namespace Go.Ev
open Go.Proofs
noncomputable section
def s_l1Tree.d1 (a b c:C):R:=(bif b.B then (some (.ret [.b false])) else (some (.again [.i (w64 (a.I+1)),c])))
def s_l1Tree.d2 (a b c d e f g:C):R:=(bindNrm (bif b.B then (call1 (s_l1NameOk [e]) fun h=>(bif (!(!h.B)) then (bif (!b.B) then (bif (!(!(e.S.toList==(bs #[]).toList))) then (bif (d.I==2) then (call1 (s_l1NameOk [f]) fun i=>(bif (!(!i.B)) then (bif (d.I !=2) then (some (.nrm [a,.b (!(f.S.toList==(bs #[]).toList)),c])) else (some (.nrm [a,.b false,c]))) else (some (.nrm [a,.b true,c])))) else (bif (d.I !=2) then (some (.nrm [a,.b (!(f.S.toList==(bs #[]).toList)),c])) else (some (.nrm [a,.b false,c])))) else (some (.nrm [a,.b true,c]))) else (bif (d.I==2) then (call1 (s_l1NameOk [f]) fun j=>(bif (!(!j.B)) then (bif (d.I !=2) then (some (.nrm [a,.b (!(f.S.toList==(bs #[]).toList)),c])) else (some (.nrm [a,.b false,c]))) else (some (.nrm [a,.b true,c])))) else (bif (d.I !=2) then (some (.nrm [a,.b (!(f.S.toList==(bs #[]).toList)),c])) else (some (.nrm [a,.b false,c]))))) else (some (.nrm [a,.b true,c])))) else (bif (!b.B) then (bif (!(!(e.S.toList==(bs #[]).toList))) then (bif (d.I==2) then (call1 (s_l1NameOk [f]) fun k=>(bif (!(!k.B)) then (bif (d.I !=2) then (some (.nrm [a,.b (!(f.S.toList==(bs #[]).toList)),c])) else (some (.nrm [a,.b false,c]))) else (some (.nrm [a,.b true,c])))) else (bif (d.I !=2) then (some (.nrm [a,.b (!(f.S.toList==(bs #[]).toList)),c])) else (some (.nrm [a,.b false,c])))) else (some (.nrm [a,.b true,c]))) else (bif (d.I==2) then (call1 (s_l1NameOk [f]) fun l=>(bif (!(!l.B)) then (bif (d.I !=2) then (some (.nrm [a,.b (!(f.S.toList==(bs #[]).toList)),c])) else (some (.nrm [a,.b false,c]))) else (some (.nrm [a,.b true,c])))) else (bif (d.I !=2) then (some (.nrm [a,.b (!(f.S.toList==(bs #[]).toList)),c])) else (some (.nrm [a,.b false,c])))))) (ap3 s_l1Tree.d1))
def s_l1Tree.d3 (a b c d e f:C):R:=(bindNrm (bif (!(c.I==1)) then (some (.nrm [a,.b (c.I==2),b,c,d,e,f])) else (some (.nrm [a,.b true,b,c,d,e,f]))) (ap7 s_l1Tree.d2))
def s_l1Tree.d4 (a b:C):R:=(bif (decide (a.I<(b.L.length:Int))) then (bif (decide (0≤a.I)) then (bif (decide (a.I<(b.L.length:Int))) then (bindNrm (call1 (s_l1In [((b.L.getD a.I.toNat []).getD 0 .nil),.i 0,.i 5]) fun c=>(bif (!(!c.B)) then (bif (decide (0≤((b.L.getD a.I.toNat []).getD 0 .nil).I)) then (bif (decide (((b.L.getD a.I.toNat []).getD 0 .nil).I<((rows [[.i 0],[.i 0],[.i 0],[.i 1],[.i 2],[.i 2]]).length:Int))) then (bif (!(((b.L.getD a.I.toNat []).getD 3 .nil).I !=(((rows [[.i 0],[.i 0],[.i 0],[.i 1],[.i 2],[.i 2]]).getD (((b.L.getD a.I.toNat []).getD 0 .nil).I).toNat []).getD 0 .nil).I)) then (bif (((b.L.getD a.I.toNat []).getD 0 .nil).I==0) then (bif (decide ((b.L.length:Int)>1)) then (some (.ret [.b false])) else (some (.nrm [a,b,((b.L.getD a.I.toNat []).getD 0 .nil),((b.L.getD a.I.toNat []).getD 1 .nil),((b.L.getD a.I.toNat []).getD 2 .nil),((b.L.getD a.I.toNat []).getD 3 .nil)]))) else (some (.nrm [a,b,((b.L.getD a.I.toNat []).getD 0 .nil),((b.L.getD a.I.toNat []).getD 1 .nil),((b.L.getD a.I.toNat []).getD 2 .nil),((b.L.getD a.I.toNat []).getD 3 .nil)]))) else (some (.ret [.b false]))) else none) else none) else (some (.ret [.b false])))) (ap6 s_l1Tree.d3)) else none) else none) else (some (.brk 0 [])))
def s_l1Tree.d5:R:=(some (.ret [.b true]))
def s_l1Tree.d6 (a:C):R:=(bif (decide ((a.L.length:Int)>400)) then (some (.ret [.b false])) else (call2 (s_l1Kids [a]) fun b c=>(bif (!b.B) then (some (.ret [.b false])) else (bindBlk 0 (lim (ap2 s_l1Tree.d4) [.i 0,a]) (fun xs=>s_l1Tree.d5)))))
def s_l1Tree:List C→Option (List C):=fun xs=>finR (ap1 s_l1Tree.d6 xs)
def s_l1Tree_fs:FS:=⟨1,⟨[(0,(.ag [(zl 212)]))],[]⟩,⟨[(0,zo)],[]⟩,[],s_l1Tree⟩
theorem s_l1Tree_ok:FSOk Tryz.checked.prog T0 213 s_l1Tree_fs:=okOf base0 (fn:=Tryz.f213) (c:=Tryz.f213.body.getD .skip) s_l1Tree_fs (.seq .leaf (.seq .leaf (.seq .leaf (.seq .leaf (.seq (.seq .leaf (.block ⟨[],[]⟩ (.loop ⟨[(1,(.pt 1 0)),(5,zi)],[(1,.var 177 [(zl 212)])]⟩ (.seq .leaf (.seq (.skip (.seq .leaf (.seq (.join ⟨[(1,(.pt 1 0)),(5,zi),(6,(.pt 6 0))],[(1,.var 177 [(zl 212)]),(6,.var 212 [zi,zt,zt,zi])]⟩ .leaf) (.seq (.join ⟨[(1,(.pt 1 0)),(5,zi),(6,(.pt 6 0)),(7,zo)],[(1,.var 177 [(zl 212)]),(6,.var 212 [zi,zt,zt,zi])]⟩ .leaf) (.seq (.join ⟨[(1,(.pt 1 0)),(5,zi),(100,zo)],[(1,.var 177 [(zl 212)])]⟩ .leaf) .leaf))))) .leaf))))) .leaf))))) [(34,some 33,s_l1In_fs),(79,some 68,s_l1NameOk_fs),(79,some 87,s_l1NameOk_fs),(203,some 14,s_l1Kids_fs)] (.cons s_l1In_ok (.cons s_l1NameOk_ok (.cons s_l1NameOk_ok (.cons s_l1Kids_ok .nil)))) (by kernel_rfl) (by kernel_rfl) (by kernel_rfl) (fun xs=>by kernel_rfl)
def s_l1Nest.d1 (G0:List C→Option (List C)) (a b c d:C):R:=(bif (decide (0≤b.I)) then (bif (decide (b.I<(a.L.length:Int))) then (bif (decide (d.I<((((a.L.getD b.I.toNat []).getD 0 .nil).L).length:Int))) then (bif (decide (0≤b.I)) then (bif (decide (b.I<(a.L.length:Int))) then (bif (decide (0≤d.I)) then (bif (decide (d.I<((((a.L.getD b.I.toNat []).getD 0 .nil).L).length:Int))) then (call1 (G0 [a,(((((a.L.getD b.I.toNat []).getD 0 .nil).L).getD d.I.toNat []).getD 0 .nil)]) fun e=>(bif (decide ((w64 (e.I+1))>c.I)) then (some (.again [a,b,.i (w64 (e.I+1)),.i (w64 (d.I+1))])) else (some (.again [a,b,c,.i (w64 (d.I+1))])))) else none) else none) else none) else none) else (some (.brk 0 [c]))) else none) else none)
def s_l1Nest.d2 (G0:List C→Option (List C)) (a:C):R:=(some (.ret [a]))
def s_l1Nest.d3 (G0:List C→Option (List C)) (a b:C):R:=(bindBlk 0 (lim (ap4 (s_l1Nest.d1 G0)) [a,b,.i 0,.i 0]) (ap1 (s_l1Nest.d2 G0)))
def s_l1Nest.step (G0:List C→Option (List C)):List C→Option (List C):=fun xs=>finR (ap2 (s_l1Nest.d3 G0) xs)
def s_l1Nest_fs (G:List C→Option (List C)):FS:=⟨2,⟨[(0,(.d (.sl 113))),(1,(.d (.int .i64)))],[]⟩,⟨[(0,(.d (.int .i64)))],[]⟩,[],G⟩
theorem s_l1Nest_st {G0:List C→Option (List C)} (h0:FSOk Tryz.checked.prog T0 214 (s_l1Nest_fs G0)):FSOk Tryz.checked.prog T0 214 (s_l1Nest_fs (s_l1Nest.step G0)):=okOf base0 (fn:=Tryz.f214) (c:=Tryz.f214.body.getD .skip) (s_l1Nest_fs (s_l1Nest.step G0)) (.seq .leaf (.seq .leaf (.seq (.seq .leaf (.block ⟨[(5,(.d (.int .i64)))],[]⟩ (.loop ⟨[(0,(.d (.sl 113))),(1,(.d (.int .i64))),(5,(.d (.int .i64))),(6,(.d (.int .i64)))],[]⟩ .leaf))) .leaf))) [(214,some 25,(s_l1Nest_fs G0))] (.cons h0 .nil) (by kernel_rfl) (by kernel_rfl) (by kernel_rfl) (fun xs=>by kernel_rfl)
def s_l1Nest.g:Nat→Nat→List C→Option (List C)
 |0,_=>fun _=>none
 |k+1,0=>s_l1Nest.step (s_l1Nest.g k 0)
 |_,_=>fun _=>none
theorem s_l1Nest_rec:∀k:Nat,FSOk Tryz.checked.prog T0 214 (s_l1Nest_fs (s_l1Nest.g k 0))
 |0=>noneOk (fn:=Tryz.f214) (c:=Tryz.f214.body.getD .skip) (2) (⟨[(0,(.d (.sl 113))),(1,(.d (.int .i64)))],[]⟩) (⟨[(0,(.d (.int .i64)))],[]⟩) [] (by kernel_rfl) (by kernel_rfl) (by kernel_rfl)
 |k+1=>s_l1Nest_st (s_l1Nest_rec k)
def s_l1Nest:List C→Option (List C):=s_l1Nest.g FUEL 0
theorem s_l1Nest_ok:FSOk Tryz.checked.prog T0 214 (s_l1Nest_fs s_l1Nest):=s_l1Nest_rec FUEL
def s_l1Valid.d1 (a:C):R:=(call1 (s_l1Tree [a]) fun b=>(bif (!b.B) then (some (.ret [.b false])) else (call2 (s_l1Kids [a]) fun c d=>(call1 (s_l1Nest [.l d.L,.i (w64 ((a.L.length:Int)-1))]) fun e=>(some (.ret [.b (decide (e.I≤20))]))))))
def s_l1Valid:List C→Option (List C):=fun xs=>finR (ap1 s_l1Valid.d1 xs)
def s_l1Valid_fs:FS:=⟨1,⟨[(0,(.ag [(zl 212)]))],[]⟩,⟨[(0,zo)],[]⟩,[],s_l1Valid⟩
theorem s_l1Valid_ok:FSOk Tryz.checked.prog T0 183 s_l1Valid_fs:=okOf base0 (fn:=Tryz.f183) (c:=Tryz.f183.body.getD .skip) s_l1Valid_fs .leaf [(203,some 10,s_l1Kids_fs),(213,some 6,s_l1Tree_fs),(214,some 18,(s_l1Nest_fs s_l1Nest))] (.cons s_l1Kids_ok (.cons s_l1Tree_ok (.cons s_l1Nest_ok .nil))) (by kernel_rfl) (by kernel_rfl) (by kernel_rfl) (fun xs=>by kernel_rfl)
def s_PilotParse.d1 (a:C):R:=(bif (decide ((a.S.size:Int)>200)) then (some (.ret [.l nils,.i 1])) else (call2 (s_l1Tokens [a]) fun b c=>(bif (!b.B) then (some (.ret [.l nils,.i 2])) else (bif ((c.L.length:Int)==0) then (some (.ret [.l (rows [[.i 0,.s (bs #[]),.s (bs #[]),.i 0]]),.i 0])) else (call4 (s_l1Parser_or [.l c.L,.i 0,.b false]) fun d e f g=>(bif (!g.B) then (bif (decide (f.I<(c.L.length:Int))) then (some (.ret [.l nils,.i 2])) else (call1 (s_l1Valid [d]) fun h=>(bif (!h.B) then (some (.ret [.l nils,.i 3])) else (some (.ret [d,.i 0]))))) else (some (.ret [.l nils,.i 2]))))))))
def s_PilotParse:List C→Option (List C):=fun xs=>finR (ap1 s_PilotParse.d1 xs)
def s_PilotParse_fs:FS:=⟨1,⟨[(0,zt)],[]⟩,⟨[(0,(.tu [(.ag [(zl 212)]),zi]))],[]⟩,[],s_PilotParse⟩
theorem s_PilotParse_ok:FSOk Tryz.checked.prog T0 152 s_PilotParse_fs:=okOf base0 (fn:=Tryz.f152) (c:=Tryz.f152.body.getD .skip) s_PilotParse_fs (.seq .leaf (.seq .leaf (.seq .leaf (.seq .leaf (.seq (.seq .leaf (.cond (.seq .leaf (.frz [24] .leaf)) .leaf)) (.seq .leaf (.seq (.frz [64440] .leaf) .leaf))))))) [(181,some 14,s_l1Tokens_fs),(182,some 30,(s_l1Parser_or_fs s_l1Parser_or)),(183,some 47,s_l1Valid_fs)] (.cons s_l1Tokens_ok (.cons s_l1Parser_or_ok (.cons s_l1Valid_ok .nil))) (by kernel_rfl) (by kernel_rfl) (by kernel_rfl) (fun xs=>by kernel_rfl)
def s_l2SelectOk.d1 (a:C):R:=(call2 (s_PilotParse [a]) fun b c=>(some (.ret [.b (c.I==0)])))
def s_l2SelectOk:List C→Option (List C):=fun xs=>finR (ap1 s_l2SelectOk.d1 xs)
def s_l2SelectOk_fs:FS:=⟨1,⟨[(0,zt)],[]⟩,⟨[(0,zo)],[]⟩,[],s_l2SelectOk⟩
theorem s_l2SelectOk_ok:FSOk Tryz.checked.prog T0 124 s_l2SelectOk_fs:=okOf base0 (fn:=Tryz.f124) (c:=Tryz.f124.body.getD .skip) s_l2SelectOk_fs .leaf [(152,some 7,s_PilotParse_fs)] (.cons s_PilotParse_ok .nil) (by kernel_rfl) (by kernel_rfl) (by kernel_rfl) (fun xs=>by kernel_rfl)
def s_l2CopyOk.d1 (a b c d e f g h i j k l m:C):R:=(bif (decide (a.I<(i.L.length:Int))) then (bif (decide (0≤a.I)) then (bif (decide (a.I<(i.L.length:Int))) then (call1 (s_l2SelectOk [((i.L.getD a.I.toNat []).getD 0 .nil)]) fun n=>(bif (!(!n.B)) then (bif (decide (0≤a.I)) then (bif (decide (a.I<(i.L.length:Int))) then (call1 (s_l1In [((i.L.getD a.I.toNat []).getD 1 .nil),.i (-9),.i 9]) fun o=>(bif (!o.B) then (some (.ret [.b false])) else (some (.again [.i (w64 (a.I+1)),b,c,d,e,f,g,h,i,j,k,l,m])))) else none) else none) else (some (.ret [.b false])))) else none) else none) else (some (.brk 0 [])))
def s_l2CopyOk.d2:R:=(some (.ret [.b true]))
def s_l2CopyOk.d3 (a b c d e f g h i j k l m:C):R:=(bif a.B then (some (.ret [.b false])) else (bindBlk 0 (lim (ap13 s_l2CopyOk.d1) [.i 0,b,c,d,e,f,g,h,i,j,k,l,m]) (fun xs=>s_l2CopyOk.d2)))
def s_l2CopyOk.d4 (a b c d e f g h i j k l:C):R:=(call1 (s_l1NameOk [a]) fun m=>(bif (!(!m.B)) then (call1 (s_l1NameOk [b]) fun n=>(bif (!(!n.B)) then (call1 (s_l1In [c,.i 0,.i 100]) fun o=>(bif (!(!o.B)) then (call1 (s_l1In [d,.i 0,.i 1000000]) fun p=>(bif (!(!p.B)) then (call1 (s_l1In [e,.i 0,.i 1000]) fun q=>(bif (!(!q.B)) then (call1 (s_l1In [f,.i 0,.i 1000]) fun r=>(bif (!r.B) then (some (.ret [.b false])) else (bindNrm (call1 (s_l2SelectOk [g]) fun s=>(bif (!(!s.B)) then (bif (!(decide ((h.L.length:Int)>5))) then (call1 (s_l1In [i,.i 0,.i 2]) fun t=>(bif (!(!t.B)) then (bif (!(j.S.toList==(bs #[]).toList)) then (call1 (s_l1NameOk [j]) fun u=>(bif (!(!u.B)) then (bif (!(k.S.toList==(bs #[]).toList)) then (call1 (s_l1NameOk [k]) fun v=>(some (.nrm [.b (!v.B),a,b,c,d,e,f,g,h,i,j,k,l]))) else (some (.nrm [.b false,a,b,c,d,e,f,g,h,i,j,k,l]))) else (some (.nrm [.b true,a,b,c,d,e,f,g,h,i,j,k,l])))) else (bif (!(k.S.toList==(bs #[]).toList)) then (call1 (s_l1NameOk [k]) fun w=>(some (.nrm [.b (!w.B),a,b,c,d,e,f,g,h,i,j,k,l]))) else (some (.nrm [.b false,a,b,c,d,e,f,g,h,i,j,k,l])))) else (some (.nrm [.b true,a,b,c,d,e,f,g,h,i,j,k,l])))) else (some (.nrm [.b true,a,b,c,d,e,f,g,h,i,j,k,l]))) else (some (.nrm [.b true,a,b,c,d,e,f,g,h,i,j,k,l])))) (ap13 s_l2CopyOk.d3)))) else (some (.ret [.b false])))) else (some (.ret [.b false])))) else (some (.ret [.b false])))) else (some (.ret [.b false])))) else (some (.ret [.b false]))))
def s_l2CopyOk:List C→Option (List C):=fun xs=>finR (ap12 s_l2CopyOk.d4 xs)
def s_l2CopyOk_fs:FS:=⟨1,⟨[(0,z4)],[]⟩,⟨[(0,zo)],[]⟩,[],s_l2CopyOk⟩
theorem s_l2CopyOk_ok:FSOk Tryz.checked.prog T0 80 s_l2CopyOk_fs:=okOf base0 (fn:=Tryz.f80) (c:=Tryz.f80.body.getD .skip) s_l2CopyOk_fs (.seq .leaf (.seq .leaf (.seq (.seq (.join ⟨[(1,(.pt 1 0)),(75,zo)],[(1,z1)]⟩ .leaf) .leaf) (.seq (.seq .leaf (.block ⟨[],[]⟩ (.loop ⟨[(1,(.pt 1 0)),(3,zi)],[(1,z1)]⟩ .leaf))) .leaf)))) [(34,some 17,s_l1In_fs),(34,some 23,s_l1In_fs),(34,some 29,s_l1In_fs),(34,some 35,s_l1In_fs),(34,some 51,s_l1In_fs),(34,some 98,s_l1In_fs),(79,some 6,s_l1NameOk_fs),(79,some 11,s_l1NameOk_fs),(79,some 61,s_l1NameOk_fs),(79,some 72,s_l1NameOk_fs),(124,some 40,s_l2SelectOk_fs),(124,some 89,s_l2SelectOk_fs)] (.cons s_l1In_ok (.cons s_l1In_ok (.cons s_l1In_ok (.cons s_l1In_ok (.cons s_l1In_ok (.cons s_l1In_ok (.cons s_l1NameOk_ok (.cons s_l1NameOk_ok (.cons s_l1NameOk_ok (.cons s_l1NameOk_ok (.cons s_l2SelectOk_ok (.cons s_l2SelectOk_ok .nil)))))))))))) (by kernel_rfl) (by kernel_rfl) (by kernel_rfl) (fun xs=>by kernel_rfl)
def s_l2Service.d1 (a b c d e f:C):R:=(bif (decide (b.I<(e.L.length:Int))) then (bif (decide (0≤b.I)) then (bif (decide (b.I<(e.L.length:Int))) then (bif ((((e.L.getD b.I.toNat []).getD 0 .nil).S).toList==a.S.toList) then (some (.ret [b])) else (some (.again [a,.i (w64 (b.I+1)),c,d,e,f]))) else none) else none) else (some (.brk 0 [])))
def s_l2Service.d2:R:=(some (.ret [.i (-1)]))
def s_l2Service.d3 (a b c d e:C):R:=(bindBlk 0 (lim (ap6 s_l2Service.d1) [e,.i 0,a,b,c,d]) (fun xs=>s_l2Service.d2))
def s_l2Service:List C→Option (List C):=fun xs=>finR (ap5 s_l2Service.d3 xs)
def s_l2Service_fs:FS:=⟨2,⟨[(0,z3),(1,zt)],[]⟩,⟨[(0,zi)],[]⟩,[],s_l2Service⟩
theorem s_l2Service_ok:FSOk Tryz.checked.prog T0 81 s_l2Service_fs:=okOf base0 (fn:=Tryz.f81) (c:=Tryz.f81.body.getD .skip) s_l2Service_fs (.seq .leaf (.seq (.seq .leaf (.block ⟨[],[]⟩ (.loop ⟨[(1,zt),(2,(.pt 2 0)),(5,zi)],[(2,z0)]⟩ .leaf))) .leaf)) [] .nil (by kernel_rfl) (by kernel_rfl) (by kernel_rfl) (fun xs=>by kernel_rfl)
def s_PilotUsed.d1 (a b c d e f g h i:C):R:=(bif e.B then (bif (decide (0≤d.I)) then (bif (decide (d.I<(i.L.length:Int))) then (bif (decide (0≤d.I)) then (bif (decide (d.I<(i.L.length:Int))) then (some (.again [a,.i (w64 (b.I+((i.L.getD d.I.toNat []).getD 4 .nil).I)),.i (w64 (c.I+((i.L.getD d.I.toNat []).getD 5 .nil).I)),.i (w64 (d.I+1)),f,g,h,i])) else none) else none) else none) else none) else (some (.again [a,b,c,.i (w64 (d.I+1)),f,g,h,i])))
def s_PilotUsed.d2 (a b c d e f g h:C):R:=(bif (decide (d.I<(h.L.length:Int))) then (bindNrm (bif (!(a.S.toList==(bs #[]).toList)) then (bif (decide (0≤d.I)) then (bif (decide (d.I<(h.L.length:Int))) then (some (.nrm [a,b,c,d,.b ((((h.L.getD d.I.toNat []).getD 11 .nil).S).toList==a.S.toList),e,f,g,h])) else none) else none) else (some (.nrm [a,b,c,d,.b false,e,f,g,h]))) (ap9 s_PilotUsed.d1)) else (some (.brk 0 [b,c])))
def s_PilotUsed.d3 (a b:C):R:=(some (.ret [a,b]))
def s_PilotUsed.d4 (a b c d e:C):R:=(call1 (s_l2Berth [a,b,c,d,e]) fun f=>(bif (decide (f.I<0)) then (some (.ret [.i 0,.i 0])) else (bindBlk 0 (lim (ap8 s_PilotUsed.d2) [e,.i 0,.i 0,.i 0,a,b,c,d]) (ap2 s_PilotUsed.d3))))
def s_PilotUsed:List C→Option (List C):=fun xs=>finR (ap5 s_PilotUsed.d4 xs)
def s_PilotUsed_fs:FS:=⟨2,⟨[(0,z3),(1,zt)],[]⟩,⟨[(0,(.tu [zi,zi]))],[]⟩,[],s_PilotUsed⟩
theorem s_PilotUsed_ok:FSOk Tryz.checked.prog T0 82 s_PilotUsed_fs:=okOf base0 (fn:=Tryz.f82) (c:=Tryz.f82.body.getD .skip) s_PilotUsed_fs (.seq .leaf (.seq .leaf (.seq .leaf (.seq .leaf (.seq (.seq .leaf (.block ⟨[(6,zi),(7,zi)],[]⟩ (.loop ⟨[(1,zt),(2,(.pt 2 0)),(6,zi),(7,zi),(8,zi)],[(2,z0)]⟩ (.seq .leaf (.seq (.skip (.seq (.join ⟨[(1,zt),(2,(.pt 2 0)),(6,zi),(7,zi),(8,zi),(31,zo)],[(2,z0)]⟩ .leaf) .leaf)) .leaf))))) .leaf))))) [(73,some 11,s_l2Berth_fs)] (.cons s_l2Berth_ok .nil) (by kernel_rfl) (by kernel_rfl) (by kernel_rfl) (fun xs=>by kernel_rfl)
def s_l1Mark.d1 (a b:C):R:=(bif (decide (b.I<(a.S.size:Int))) then (bif (decide (0≤b.I)) then (bif (decide (b.I<(a.S.size:Int))) then (bif (((a.S.data.getD b.I.toNat 0).toNat:Int)==61) then (bif (decide (0≤b.I)) then (bif (decide (b.I≤(a.S.size:Int))) then (bif (decide (0≤(w64 (b.I+1)))) then (bif (decide ((w64 (b.I+1))≤(a.S.size:Int))) then (bif (decide ((a.S.size:Int)≤(a.S.size:Int))) then (bif (decide (0≤b.I)) then (bif (decide (b.I≤(a.S.size:Int))) then (call1 (s_l1NameOk [.s (a.S.extract 0 b.I.toNat)]) fun c=>(bif c.B then (bif (decide (0≤(w64 (b.I+1)))) then (bif (decide ((w64 (b.I+1))≤(a.S.size:Int))) then (bif (decide ((a.S.size:Int)≤(a.S.size:Int))) then (call1 (s_l1NameOk [.s (a.S.extract (w64 (b.I+1)).toNat (a.S.size:Int).toNat)]) fun d=>(some (.ret [.s (a.S.extract 0 b.I.toNat),.s (a.S.extract (w64 (b.I+1)).toNat (a.S.size:Int).toNat),.b d.B]))) else none) else none) else none) else (some (.ret [.s (a.S.extract 0 b.I.toNat),.s (a.S.extract (w64 (b.I+1)).toNat (a.S.size:Int).toNat),.b false])))) else none) else none) else none) else none) else none) else none) else none) else (some (.again [a,.i (w64 (b.I+1))]))) else none) else none) else (some (.brk 0 [a])))
def s_l1Mark.d2 (a:C):R:=(call1 (s_l1NameOk [a]) fun b=>(some (.ret [a,.s (bs #[]),.b b.B])))
def s_l1Mark.d3 (a:C):R:=(bindBlk 0 (lim (ap2 s_l1Mark.d1) [a,.i 0]) (ap1 s_l1Mark.d2))
def s_l1Mark:List C→Option (List C):=fun xs=>finR (ap1 s_l1Mark.d3 xs)
def s_l1Mark_fs:FS:=⟨1,⟨[(0,zt)],[]⟩,⟨[(0,(.tu [zt,zt,zo]))],[]⟩,[],s_l1Mark⟩
theorem s_l1Mark_ok:FSOk Tryz.checked.prog T0 153 s_l1Mark_fs:=okOf base0 (fn:=Tryz.f153) (c:=Tryz.f153.body.getD .skip) s_l1Mark_fs (.seq .leaf (.seq (.seq .leaf (.block ⟨[(0,zt)],[]⟩ (.loop ⟨[(0,zt),(5,zi)],[]⟩ .leaf))) .leaf)) [(79,some 26,s_l1NameOk_fs),(79,some 32,s_l1NameOk_fs),(79,some 36,s_l1NameOk_fs)] (.cons s_l1NameOk_ok (.cons s_l1NameOk_ok (.cons s_l1NameOk_ok .nil))) (by kernel_rfl) (by kernel_rfl) (by kernel_rfl) (fun xs=>by kernel_rfl)
def s_l2MarksOk.d1 (a b c d:C):R:=(bif (decide (d.I<b.I)) then (bif (decide (0≤d.I)) then (bif (decide (d.I<(a.L.length:Int))) then (call3 (s_l1Mark [((a.L.getD d.I.toNat []).getD 0 .nil)]) fun e f g=>(bif (e.S.toList==c.S.toList) then (some (.ret [.b false])) else (some (.again [a,b,c,.i (w64 (d.I+1))])))) else none) else none) else (some (.brk 2 [a,b,c])))
def s_l2MarksOk.d2 (a b c:C):R:=(some (.again [a,c,.i (w64 (b.I+1))]))
def s_l2MarksOk.d3 (a b c:C):R:=(bindBlk 2 (lim (ap4 s_l2MarksOk.d1) [a,b,c,.i 0]) (ap3 s_l2MarksOk.d2))
def s_l2MarksOk.d4 (a b c:C):R:=(bif (decide (c.I<(a.L.length:Int))) then (bif (decide (0≤c.I)) then (bif (decide (c.I<(a.L.length:Int))) then (call3 (s_l1Mark [((a.L.getD c.I.toNat []).getD 0 .nil)]) fun d e f=>(bindNrm (bif (!(!f.B)) then (bif (decide (c.I>0)) then (bif (decide (0≤(w64 (c.I-1)))) then (bif (decide ((w64 (c.I-1))<(a.L.length:Int))) then (bif (decide (0≤c.I)) then (bif (decide (c.I<(a.L.length:Int))) then (bif (!(!(Op.bytesLess (((a.L.getD (w64 (c.I-1)).toNat []).getD 0 .nil).S).toList (((a.L.getD c.I.toNat []).getD 0 .nil).S).toList))) then (bif (d.S.toList==b.S.toList) then (some (.ret [.b false])) else (some (.nrm [a,c,d]))) else (some (.ret [.b false]))) else none) else none) else none) else none) else (some (.nrm [a,c,d]))) else (some (.ret [.b false]))) (ap3 s_l2MarksOk.d3))) else none) else none) else (some (.brk 0 [])))
def s_l2MarksOk.d5:R:=(some (.ret [.b true]))
def s_l2MarksOk.d6 (a:C):R:=(bif (decide ((a.L.length:Int)>10)) then (some (.ret [.b false])) else (bindBlk 0 (lim (ap3 s_l2MarksOk.d4) [a,.s (bs #[]),.i 0]) (fun xs=>s_l2MarksOk.d5)))
def s_l2MarksOk:List C→Option (List C):=fun xs=>finR (ap1 s_l2MarksOk.d6 xs)
def s_l2MarksOk_fs:FS:=⟨1,⟨[(0,(zl 9))],[]⟩,⟨[(0,zo)],[]⟩,[],s_l2MarksOk⟩
theorem s_l2MarksOk_ok:FSOk Tryz.checked.prog T0 125 s_l2MarksOk_fs:=okOf base0 (fn:=Tryz.f125) (c:=Tryz.f125.body.getD .skip) s_l2MarksOk_fs (.seq .leaf (.seq .leaf (.seq .leaf (.seq (.seq .leaf (.block ⟨[],[]⟩ (.loop ⟨[(0,(zl 9)),(3,zt),(4,zi)],[]⟩ (.seq .leaf (.seq (.skip (.seq .leaf (.seq (.join ⟨[(0,(zl 9)),(4,zi),(5,zt)],[]⟩ .leaf) (.seq (.seq .leaf (.block ⟨[(0,(zl 9)),(4,zi),(5,zt)],[]⟩ (.loop ⟨[(0,(zl 9)),(4,zi),(5,zt),(8,zi)],[]⟩ .leaf))) .leaf)))) .leaf))))) .leaf)))) [(153,some 26,s_l1Mark_fs),(153,some 63,s_l1Mark_fs)] (.cons s_l1Mark_ok (.cons s_l1Mark_ok .nil)) (by kernel_rfl) (by kernel_rfl) (by kernel_rfl) (fun xs=>by kernel_rfl)
def s_l2BerthOk.d1 (a b c d e f:C):R:=(call1 (s_l1NameOk [a]) fun g=>(bif g.B then (call1 (s_l1NameOk [b]) fun h=>(bif h.B then (call1 (s_l2MarksOk [c]) fun i=>(bif i.B then (call1 (s_l1In [d,.i 0,.i 1000]) fun j=>(bif j.B then (call1 (s_l1In [e,.i 0,.i 1000]) fun k=>(some (.ret [.b k.B]))) else (some (.ret [.b false])))) else (some (.ret [.b false])))) else (some (.ret [.b false])))) else (some (.ret [.b false]))))
def s_l2BerthOk:List C→Option (List C):=fun xs=>finR (ap6 s_l2BerthOk.d1 xs)
def s_l2BerthOk_fs:FS:=⟨1,⟨[(0,z5)],[]⟩,⟨[(0,zo)],[]⟩,[],s_l2BerthOk⟩
theorem s_l2BerthOk_ok:FSOk Tryz.checked.prog T0 83 s_l2BerthOk_fs:=okOf base0 (fn:=Tryz.f83) (c:=Tryz.f83.body.getD .skip) s_l2BerthOk_fs .leaf [(34,some 19,s_l1In_fs),(34,some 24,s_l1In_fs),(79,some 5,s_l1NameOk_fs),(79,some 9,s_l1NameOk_fs),(125,some 14,s_l2MarksOk_fs)] (.cons s_l1In_ok (.cons s_l1In_ok (.cons s_l1NameOk_ok (.cons s_l1NameOk_ok (.cons s_l2MarksOk_ok .nil))))) (by kernel_rfl) (by kernel_rfl) (by kernel_rfl) (fun xs=>by kernel_rfl)
def s_l2Stand.d1 (a b c d e f g:C):R:=(bif (decide (c.I<(g.L.length:Int))) then (bif (decide (0≤c.I)) then (bif (decide (c.I<(g.L.length:Int))) then (bif ((((g.L.getD c.I.toNat []).getD 11 .nil).S).toList==a.S.toList) then (some (.again [a,.i (w64 (b.I+1)),.i (w64 (c.I+1)),d,e,f,g])) else (some (.again [a,b,.i (w64 (c.I+1)),d,e,f,g]))) else none) else none) else (some (.brk 0 [b])))
def s_l2Stand.d2 (a:C):R:=(some (.ret [a]))
def s_l2Stand.d3 (a b c d e:C):R:=(bindBlk 0 (lim (ap7 s_l2Stand.d1) [e,.i 0,.i 0,a,b,c,d]) (ap1 s_l2Stand.d2))
def s_l2Stand:List C→Option (List C):=fun xs=>finR (ap5 s_l2Stand.d3 xs)
def s_l2Stand_fs:FS:=⟨2,⟨[(0,z3),(1,zt)],[]⟩,⟨[(0,zi)],[]⟩,[],s_l2Stand⟩
theorem s_l2Stand_ok:FSOk Tryz.checked.prog T0 84 s_l2Stand_fs:=okOf base0 (fn:=Tryz.f84) (c:=Tryz.f84.body.getD .skip) s_l2Stand_fs (.seq .leaf (.seq .leaf (.seq (.seq .leaf (.block ⟨[(5,zi)],[]⟩ (.loop ⟨[(1,zt),(2,(.pt 2 0)),(5,zi),(6,zi)],[(2,z0)]⟩ .leaf))) .leaf))) [] .nil (by kernel_rfl) (by kernel_rfl) (by kernel_rfl) (fun xs=>by kernel_rfl)
def s_PilotValid.d1 (a b c d e:C):R:=(bif (decide (a.I<(d.L.length:Int))) then (bif (decide (0≤a.I)) then (bif (decide (a.I<(d.L.length:Int))) then (call1 (s_l1NameOk [((d.L.getD a.I.toNat []).getD 0 .nil)]) fun f=>(bif (!(!f.B)) then (bif (decide (a.I>0)) then (bif (decide (0≤(w64 (a.I-1)))) then (bif (decide ((w64 (a.I-1))<(d.L.length:Int))) then (bif (!(!(Op.bytesLess (((d.L.getD (w64 (a.I-1)).toNat []).getD 0 .nil).S).toList (((d.L.getD a.I.toNat []).getD 0 .nil).S).toList))) then (call1 (s_l1In [((d.L.getD a.I.toNat []).getD 1 .nil),.i 0,.i 60]) fun g=>(bif (!g.B) then (some (.ret [.b false])) else (some (.again [.i (w64 (a.I+1)),b,c,d,e])))) else (some (.ret [.b false]))) else none) else none) else (call1 (s_l1In [((d.L.getD a.I.toNat []).getD 1 .nil),.i 0,.i 60]) fun h=>(bif (!h.B) then (some (.ret [.b false])) else (some (.again [.i (w64 (a.I+1)),b,c,d,e]))))) else (some (.ret [.b false])))) else none) else none) else (some (.brk 0 [b,c,d,e])))
def s_PilotValid.d2 (a b c d e f:C):R:=(bif b.B then (some (.ret [.b false])) else (some (.again [.i (w64 (a.I+1)),c,d,e,f])))
def s_PilotValid.d3 (a b c d e:C):R:=(bif (decide (a.I<(e.L.length:Int))) then (bif (decide (0≤a.I)) then (bif (decide (a.I<(e.L.length:Int))) then (bindNrm (call1 (s_l2CopyOk [((e.L.getD a.I.toNat []).getD 0 .nil),((e.L.getD a.I.toNat []).getD 1 .nil),((e.L.getD a.I.toNat []).getD 2 .nil),((e.L.getD a.I.toNat []).getD 3 .nil),((e.L.getD a.I.toNat []).getD 4 .nil),((e.L.getD a.I.toNat []).getD 5 .nil),((e.L.getD a.I.toNat []).getD 6 .nil),((e.L.getD a.I.toNat []).getD 7 .nil),((e.L.getD a.I.toNat []).getD 8 .nil),((e.L.getD a.I.toNat []).getD 9 .nil),((e.L.getD a.I.toNat []).getD 10 .nil),((e.L.getD a.I.toNat []).getD 11 .nil)]) fun f=>(bif (!(!f.B)) then (bif (decide (a.I>0)) then (bif (decide (0≤(w64 (a.I-1)))) then (bif (decide ((w64 (a.I-1))<(e.L.length:Int))) then (bif (!(!(Op.bytesLess (((e.L.getD (w64 (a.I-1)).toNat []).getD 0 .nil).S).toList (((e.L.getD a.I.toNat []).getD 0 .nil).S).toList))) then (call1 (s_l2Service [b,c,d,e,((e.L.getD a.I.toNat []).getD 1 .nil)]) fun g=>(bif (!(decide (g.I<0))) then (bif (!((((e.L.getD a.I.toNat []).getD 11 .nil).S).toList==(bs #[]).toList)) then (call1 (s_l2Berth [b,c,d,e,((e.L.getD a.I.toNat []).getD 11 .nil)]) fun h=>(some (.nrm [a,.b (decide (h.I<0)),b,c,d,e]))) else (some (.nrm [a,.b false,b,c,d,e]))) else (some (.nrm [a,.b true,b,c,d,e])))) else (some (.nrm [a,.b true,b,c,d,e]))) else none) else none) else (call1 (s_l2Service [b,c,d,e,((e.L.getD a.I.toNat []).getD 1 .nil)]) fun i=>(bif (!(decide (i.I<0))) then (bif (!((((e.L.getD a.I.toNat []).getD 11 .nil).S).toList==(bs #[]).toList)) then (call1 (s_l2Berth [b,c,d,e,((e.L.getD a.I.toNat []).getD 11 .nil)]) fun j=>(some (.nrm [a,.b (decide (j.I<0)),b,c,d,e]))) else (some (.nrm [a,.b false,b,c,d,e]))) else (some (.nrm [a,.b true,b,c,d,e]))))) else (some (.nrm [a,.b true,b,c,d,e])))) (ap6 s_PilotValid.d2)) else none) else none) else (some (.brk 2 [b,c,d,e])))
def s_PilotValid.d4 (a b c d e:C):R:=(bif (decide (a.I<(c.L.length:Int))) then (bif (decide (0≤a.I)) then (bif (decide (a.I<(c.L.length:Int))) then (call2 (s_PilotUsed [b,c,d,e,((c.L.getD a.I.toNat []).getD 0 .nil)]) fun f g=>(call1 (s_l2BerthOk [((c.L.getD a.I.toNat []).getD 0 .nil),((c.L.getD a.I.toNat []).getD 1 .nil),((c.L.getD a.I.toNat []).getD 2 .nil),((c.L.getD a.I.toNat []).getD 3 .nil),((c.L.getD a.I.toNat []).getD 4 .nil),((c.L.getD a.I.toNat []).getD 5 .nil)]) fun h=>(bif (!(!h.B)) then (bif (decide (a.I>0)) then (bif (decide (0≤(w64 (a.I-1)))) then (bif (decide ((w64 (a.I-1))<(c.L.length:Int))) then (bif (!(!(Op.bytesLess (((c.L.getD (w64 (a.I-1)).toNat []).getD 0 .nil).S).toList (((c.L.getD a.I.toNat []).getD 0 .nil).S).toList))) then (bif (!(decide (f.I>((c.L.getD a.I.toNat []).getD 3 .nil).I))) then (bif (!(decide (g.I>((c.L.getD a.I.toNat []).getD 4 .nil).I))) then (call1 (s_l2Stand [b,c,d,e,((c.L.getD a.I.toNat []).getD 0 .nil)]) fun i=>(bif (decide (i.I>10)) then (some (.ret [.b false])) else (some (.again [.i (w64 (a.I+1)),b,c,d,e])))) else (some (.ret [.b false]))) else (some (.ret [.b false]))) else (some (.ret [.b false]))) else none) else none) else (bif (!(decide (f.I>((c.L.getD a.I.toNat []).getD 3 .nil).I))) then (bif (!(decide (g.I>((c.L.getD a.I.toNat []).getD 4 .nil).I))) then (call1 (s_l2Stand [b,c,d,e,((c.L.getD a.I.toNat []).getD 0 .nil)]) fun j=>(bif (decide (j.I>10)) then (some (.ret [.b false])) else (some (.again [.i (w64 (a.I+1)),b,c,d,e])))) else (some (.ret [.b false]))) else (some (.ret [.b false])))) else (some (.ret [.b false]))))) else none) else none) else (some (.brk 4 [])))
def s_PilotValid.d5:R:=(some (.ret [.b true]))
def s_PilotValid.d6 (a b c d:C):R:=(bindBlk 4 (lim (ap5 s_PilotValid.d4) [.i 0,a,b,c,d]) (fun xs=>s_PilotValid.d5))
def s_PilotValid.d7 (a b c d:C):R:=(bindBlk 2 (lim (ap5 s_PilotValid.d3) [.i 0,a,b,c,d]) (ap4 s_PilotValid.d6))
def s_PilotValid.d8 (a b c d:C):R:=(bif (!(decide ((b.L.length:Int)>12))) then (bif (!(decide ((c.L.length:Int)>30))) then (bif (decide ((d.L.length:Int)>60)) then (some (.ret [.b false])) else (bindBlk 0 (lim (ap5 s_PilotValid.d1) [.i 0,a,b,c,d]) (ap4 s_PilotValid.d7))) else (some (.ret [.b false]))) else (some (.ret [.b false])))
def s_PilotValid:List C→Option (List C):=fun xs=>finR (ap4 s_PilotValid.d8 xs)
def s_PilotValid_fs:FS:=⟨1,⟨[(0,z3)],[]⟩,⟨[(0,zo)],[]⟩,[],s_PilotValid⟩
theorem s_PilotValid_ok:FSOk Tryz.checked.prog T0 32 s_PilotValid_fs:=okOf base0 (fn:=Tryz.f32) (c:=Tryz.f32.body.getD .skip) s_PilotValid_fs (.seq .leaf (.seq .leaf (.seq (.seq .leaf (.block ⟨[(1,(.pt 1 0))],[(1,z0)]⟩ (.loop ⟨[(1,(.pt 1 0)),(3,zi)],[(1,z0)]⟩ .leaf))) (.seq (.seq .leaf (.block ⟨[(1,(.pt 1 0))],[(1,z0)]⟩ (.loop ⟨[(1,(.pt 1 0)),(5,zi)],[(1,z0)]⟩ (.seq .leaf (.seq (.skip (.seq .leaf (.seq (.join ⟨[(1,(.pt 1 0)),(5,zi),(114,zo)],[(1,z0)]⟩ .leaf) .leaf))) .leaf))))) (.seq (.seq .leaf (.block ⟨[],[]⟩ (.loop ⟨[(1,(.pt 1 0)),(7,zi)],[(1,z0)]⟩ .leaf))) .leaf))))) [(34,some 62,s_l1In_fs),(73,some 111,s_l2Berth_fs),(79,some 41,s_l1NameOk_fs),(80,some 78,s_l2CopyOk_fs),(81,some 100,s_l2Service_fs),(82,some 131,s_PilotUsed_fs),(83,some 135,s_l2BerthOk_fs),(84,some 169,s_l2Stand_fs)] (.cons s_l1In_ok (.cons s_l2Berth_ok (.cons s_l1NameOk_ok (.cons s_l2CopyOk_ok (.cons s_l2Service_ok (.cons s_PilotUsed_ok (.cons s_l2BerthOk_ok (.cons s_l2Stand_ok .nil)))))))) (by kernel_rfl) (by kernel_rfl) (by kernel_rfl) (fun xs=>by kernel_rfl)
def s_l6Harm.d1 (a b c d e f g h i:C):R:=(bif (decide (d.I<(i.L.length:Int))) then (bif (decide (0≤d.I)) then (bif (decide (d.I<(i.L.length:Int))) then (bif (decide (((i.L.getD d.I.toNat []).getD 0 .nil).I≥c.I)) then (some (.again [a,b,c,.i (w64 (d.I+1)),e,f,g,h,.l i.L])) else (some (.brk 2 [a,b,c,d,e,f,g,h,.l i.L]))) else none) else none) else (some (.brk 2 [a,b,c,d,e,f,g,h,.l i.L])))
def s_l6Harm.d2 (a b c d e f g h i:C):R:=(bif (decide (0≤d.I)) then (bif (decide (d.I≤(i.L.length:Int))) then (bif (decide (nils.length+((i.L.take d.I.toNat).drop 0).length≤4294967296)) then (bif (decide ((nils++((i.L.take d.I.toNat).drop 0)).length+(rows [[c]]).length≤4294967296)) then (bif (decide (0≤d.I)) then (bif (decide (d.I≤(i.L.length:Int))) then (bif (decide ((i.L.length:Int)≤(i.L.length:Int))) then (bif (decide (((nils++((i.L.take d.I.toNat).drop 0))++(rows [[c]])).length+((i.L.take (i.L.length:Int).toNat).drop d.I.toNat).length≤4294967296)) then (some (.again [a,.i (w64 (b.I+1)),e,f,g,h,.l (((nils++((i.L.take d.I.toNat).drop 0))++(rows [[c]]))++((i.L.take (i.L.length:Int).toNat).drop d.I.toNat))])) else none) else none) else none) else none) else none) else none) else none) else none)
def s_l6Harm.d3 (a b c d e f g:C):R:=(bif (decide (b.I<(a.L.length:Int))) then (bif (decide (0≤b.I)) then (bif (decide (b.I<(a.L.length:Int))) then (call1 (s_l2Copy [c,d,e,f,((a.L.getD b.I.toNat []).getD 0 .nil)]) fun h=>(bif (decide (0≤h.I)) then (bif (decide (h.I<(f.L.length:Int))) then (bindBlk 2 (lim (ap9 s_l6Harm.d1) [a,b,((f.L.getD h.I.toNat []).getD 2 .nil),.i 0,c,d,e,f,.l g.L]) (ap9 s_l6Harm.d2)) else none) else none)) else none) else none) else (some (.brk 0 [.l g.L])))
def s_l6Harm.d4 (a:C):R:=(some (.ret [.l a.L]))
def s_l6Harm.d5 (a b c d e:C):R:=(bindBlk 0 (lim (ap7 s_l6Harm.d3) [e,.i 0,a,b,c,d,.l nils]) (ap1 s_l6Harm.d4))
def s_l6Harm:List C→Option (List C):=fun xs=>finR (ap5 s_l6Harm.d5 xs)
def s_l6Harm_fs:FS:=⟨2,⟨[(0,z3),(1,(zl 9))],[]⟩,⟨[(0,(.ow 3000))],[(3000,.arr 3 1)]⟩,[],s_l6Harm⟩
theorem s_l6Harm_ok:FSOk Tryz.checked.prog T0 109 s_l6Harm_fs:=okOf base0 (fn:=Tryz.f109) (c:=Tryz.f109.body.getD .skip) s_l6Harm_fs (.seq .leaf (.seq .leaf (.seq (.seq .leaf (.block ⟨[(5,(.ow 9))],[(9,.arr 3 1)]⟩ (.loop ⟨[(1,(zl 9)),(2,(.pt 2 0)),(5,(.ow 9)),(6,zi)],[(2,z0),(9,.arr 3 1)]⟩ (.seq .leaf (.seq (.skip (.seq .leaf (.seq .leaf (.seq (.block ⟨[(1,(zl 9)),(2,(.pt 2 0)),(5,(.ow 9)),(6,zi),(7,zi),(8,zi)],[(2,z0),(9,.arr 3 1)]⟩ (.loop ⟨[(1,(zl 9)),(2,(.pt 2 0)),(5,(.ow 9)),(6,zi),(7,zi),(8,zi)],[(2,z0),(9,.arr 3 1)]⟩ .leaf)) .leaf)))) .leaf))))) .leaf))) [(69,some 23,s_l2Copy_fs)] (.cons s_l2Copy_ok .nil) (by kernel_rfl) (by kernel_rfl) (by kernel_rfl) (fun xs=>by kernel_rfl)
def s_PilotLess.d1 (a b c:C):R:=(bif (decide (c.I<(a.L.length:Int))) then (bif (decide (c.I<(b.L.length:Int))) then (bif (decide (0≤c.I)) then (bif (decide (c.I<(a.L.length:Int))) then (bif (decide (0≤c.I)) then (bif (decide (c.I<(b.L.length:Int))) then (bif (((a.L.getD c.I.toNat []).getD 0 .nil).I !=((b.L.getD c.I.toNat []).getD 0 .nil).I) then (bif (decide (0≤c.I)) then (bif (decide (c.I<(a.L.length:Int))) then (bif (decide (0≤c.I)) then (bif (decide (c.I<(b.L.length:Int))) then (some (.ret [.b (decide (((a.L.getD c.I.toNat []).getD 0 .nil).I<((b.L.getD c.I.toNat []).getD 0 .nil).I))])) else none) else none) else none) else none) else (some (.again [a,b,.i (w64 (c.I+1))]))) else none) else none) else none) else none) else (some (.brk 0 [a,b]))) else (some (.brk 0 [a,b])))
def s_PilotLess.d2 (a b:C):R:=(some (.ret [.b (decide ((a.L.length:Int)<(b.L.length:Int)))]))
def s_PilotLess.d3 (a b:C):R:=(bindBlk 0 (lim (ap3 s_PilotLess.d1) [a,b,.i 0]) (ap2 s_PilotLess.d2))
def s_PilotLess:List C→Option (List C):=fun xs=>finR (ap2 s_PilotLess.d3 xs)
def s_PilotLess_fs:FS:=⟨2,⟨[(0,(zl 3)),(1,(zl 3))],[]⟩,⟨[(0,zo)],[]⟩,[],s_PilotLess⟩
theorem s_PilotLess_ok:FSOk Tryz.checked.prog T0 110 s_PilotLess_fs:=okOf base0 (fn:=Tryz.f110) (c:=Tryz.f110.body.getD .skip) s_PilotLess_fs (.seq .leaf (.seq (.seq .leaf (.block ⟨[(0,(zl 3)),(1,(zl 3))],[]⟩ (.loop ⟨[(0,(zl 3)),(1,(zl 3)),(5,zi)],[]⟩ .leaf))) .leaf)) [] .nil (by kernel_rfl) (by kernel_rfl) (by kernel_rfl) (fun xs=>by kernel_rfl)
def s_l6Names.d1 (a b c:C):R:=(bif (decide (c.I<(a.L.length:Int))) then (bif (decide (c.I<(b.L.length:Int))) then (bif (decide (0≤c.I)) then (bif (decide (c.I<(a.L.length:Int))) then (bif (decide (0≤c.I)) then (bif (decide (c.I<(b.L.length:Int))) then (bif (!((((a.L.getD c.I.toNat []).getD 0 .nil).S).toList==(((b.L.getD c.I.toNat []).getD 0 .nil).S).toList)) then (bif (decide (0≤c.I)) then (bif (decide (c.I<(a.L.length:Int))) then (bif (decide (0≤c.I)) then (bif (decide (c.I<(b.L.length:Int))) then (some (.ret [.b (Op.bytesLess (((a.L.getD c.I.toNat []).getD 0 .nil).S).toList (((b.L.getD c.I.toNat []).getD 0 .nil).S).toList)])) else none) else none) else none) else none) else (some (.again [a,b,.i (w64 (c.I+1))]))) else none) else none) else none) else none) else (some (.brk 0 [a,b]))) else (some (.brk 0 [a,b])))
def s_l6Names.d2 (a b:C):R:=(some (.ret [.b (decide ((a.L.length:Int)<(b.L.length:Int)))]))
def s_l6Names.d3 (a b:C):R:=(bindBlk 0 (lim (ap3 s_l6Names.d1) [a,b,.i 0]) (ap2 s_l6Names.d2))
def s_l6Names:List C→Option (List C):=fun xs=>finR (ap2 s_l6Names.d3 xs)
def s_l6Names_fs:FS:=⟨2,⟨[(0,(zl 9)),(1,(zl 9))],[]⟩,⟨[(0,zo)],[]⟩,[],s_l6Names⟩
theorem s_l6Names_ok:FSOk Tryz.checked.prog T0 111 s_l6Names_fs:=okOf base0 (fn:=Tryz.f111) (c:=Tryz.f111.body.getD .skip) s_l6Names_fs (.seq .leaf (.seq (.seq .leaf (.block ⟨[(0,(zl 9)),(1,(zl 9))],[]⟩ (.loop ⟨[(0,(zl 9)),(1,(zl 9)),(5,zi)],[]⟩ .leaf))) .leaf)) [] .nil (by kernel_rfl) (by kernel_rfl) (by kernel_rfl) (fun xs=>by kernel_rfl)
def s_l6MayGo.d1 (a b c d e f:C):R:=(bif (decide (b.I<(a.L.length:Int))) then (bif (decide (0≤b.I)) then (bif (decide (b.I<(a.L.length:Int))) then (call1 (s_l2Copy [c,d,e,f,((a.L.getD b.I.toNat []).getD 0 .nil)]) fun g=>(bif (!(decide (g.I<0))) then (bif (decide (0≤g.I)) then (bif (decide (g.I<(f.L.length:Int))) then (bif (!((((f.L.getD g.I.toNat []).getD 11 .nil).S).toList==(bs #[]).toList)) then (bif (decide (b.I>0)) then (bif (decide (0≤(w64 (b.I-1)))) then (bif (decide ((w64 (b.I-1))<(a.L.length:Int))) then (bif (decide (0≤b.I)) then (bif (decide (b.I<(a.L.length:Int))) then (bif (!(Op.bytesLess (((a.L.getD (w64 (b.I-1)).toNat []).getD 0 .nil).S).toList (((a.L.getD b.I.toNat []).getD 0 .nil).S).toList)) then (some (.ret [.b false])) else (some (.again [a,.i (w64 (b.I+1)),c,d,e,f]))) else none) else none) else none) else none) else (some (.again [a,.i (w64 (b.I+1)),c,d,e,f]))) else (some (.ret [.b false]))) else none) else none) else (some (.ret [.b false])))) else none) else none) else (some (.brk 0 [a,c,d,e,f])))
def s_l6MayGo.d2 (a b c d e f g h i:C):R:=(bif (decide (e.I<(i.L.length:Int))) then (bif (decide (0≤e.I)) then (bif (decide (e.I<(i.L.length:Int))) then (bif (decide (0≤b.I)) then (bif (decide (b.I<(h.L.length:Int))) then (bif ((((i.L.getD e.I.toNat []).getD 1 .nil).S).toList==(((h.L.getD b.I.toNat []).getD 0 .nil).S).toList) then (bif (decide (0≤e.I)) then (bif (decide (e.I<(i.L.length:Int))) then (bif ((((i.L.getD e.I.toNat []).getD 11 .nil).S).toList==(bs #[]).toList) then (some (.again [a,b,.i (w64 (c.I-1)),d,.i (w64 (e.I+1)),f,g,h,i])) else (some (.again [a,b,c,d,.i (w64 (e.I+1)),f,g,h,i]))) else none) else none) else (some (.again [a,b,c,d,.i (w64 (e.I+1)),f,g,h,i]))) else none) else none) else none) else none) else (some (.brk 4 [a,b,c,d,f,g,h,i])))
def s_l6MayGo.d3 (a b c d e f g h i:C):R:=(bif (decide (e.I<(a.L.length:Int))) then (bif (decide (0≤e.I)) then (bif (decide (e.I<(a.L.length:Int))) then (call1 (s_l2Copy [f,g,h,i,((a.L.getD e.I.toNat []).getD 0 .nil)]) fun j=>(bif (decide (0≤j.I)) then (bif (decide (j.I<(i.L.length:Int))) then (bif (decide (0≤b.I)) then (bif (decide (b.I<(h.L.length:Int))) then (bif ((((i.L.getD j.I.toNat []).getD 1 .nil).S).toList==(((h.L.getD b.I.toNat []).getD 0 .nil).S).toList) then (some (.again [a,b,c,.i (w64 (d.I+1)),.i (w64 (e.I+1)),f,g,h,i])) else (some (.again [a,b,c,d,.i (w64 (e.I+1)),f,g,h,i]))) else none) else none) else none) else none)) else none) else none) else (some (.brk 6 [a,b,c,d,f,g,h,i])))
def s_l6MayGo.d4 (a b c d e f g h:C):R:=(bif (decide (d.I>0)) then (bif (decide (d.I>c.I)) then (some (.ret [.b false])) else (some (.again [a,.i (w64 (b.I+1)),e,f,g,h]))) else (some (.again [a,.i (w64 (b.I+1)),e,f,g,h])))
def s_l6MayGo.d5 (a b c d e f g h:C):R:=(bindBlk 6 (lim (ap9 s_l6MayGo.d3) [a,b,c,d,.i 0,e,f,g,h]) (ap8 s_l6MayGo.d4))
def s_l6MayGo.d6 (a b c d e f:C):R:=(bif (decide (b.I<(e.L.length:Int))) then (bif (decide (0≤b.I)) then (bif (decide (b.I<(e.L.length:Int))) then (bindBlk 4 (lim (ap9 s_l6MayGo.d2) [a,b,((e.L.getD b.I.toNat []).getD 1 .nil),.i 0,.i 0,c,d,e,f]) (ap8 s_l6MayGo.d5)) else none) else none) else (some (.brk 2 [])))
def s_l6MayGo.d7:R:=(some (.ret [.b true]))
def s_l6MayGo.d8 (a b c d e:C):R:=(bindBlk 2 (lim (ap6 s_l6MayGo.d6) [a,.i 0,b,c,d,e]) (fun xs=>s_l6MayGo.d7))
def s_l6MayGo.d9 (a b c d e:C):R:=(bindBlk 0 (lim (ap6 s_l6MayGo.d1) [e,.i 0,a,b,c,d]) (ap5 s_l6MayGo.d8))
def s_l6MayGo:List C→Option (List C):=fun xs=>finR (ap5 s_l6MayGo.d9 xs)
def s_l6MayGo_fs:FS:=⟨2,⟨[(0,z3),(1,(zl 9))],[]⟩,⟨[(0,zo)],[]⟩,[],s_l6MayGo⟩
theorem s_l6MayGo_ok:FSOk Tryz.checked.prog T0 112 s_l6MayGo_fs:=okOf base0 (fn:=Tryz.f112) (c:=Tryz.f112.body.getD .skip) s_l6MayGo_fs (.seq .leaf (.seq (.seq .leaf (.block ⟨[(1,(zl 9)),(2,(.pt 2 0))],[(2,z0)]⟩ (.loop ⟨[(1,(zl 9)),(2,(.pt 2 0)),(5,zi)],[(2,z0)]⟩ .leaf))) (.seq (.seq .leaf (.block ⟨[],[]⟩ (.loop ⟨[(1,(zl 9)),(2,(.pt 2 0)),(7,zi)],[(2,z0)]⟩ (.seq .leaf (.seq (.skip (.seq .leaf (.seq .leaf (.seq (.seq .leaf (.block ⟨[(1,(zl 9)),(2,(.pt 2 0)),(7,zi),(8,zi),(9,zi)],[(2,z0)]⟩ (.loop ⟨[(1,(zl 9)),(2,(.pt 2 0)),(7,zi),(8,zi),(9,zi),(10,zi)],[(2,z0)]⟩ .leaf))) (.seq (.seq .leaf (.block ⟨[(1,(zl 9)),(2,(.pt 2 0)),(7,zi),(8,zi),(9,zi)],[(2,z0)]⟩ (.loop ⟨[(1,(zl 9)),(2,(.pt 2 0)),(7,zi),(8,zi),(9,zi),(11,zi)],[(2,z0)]⟩ .leaf))) .leaf))))) .leaf))))) .leaf))) [(69,some 23,s_l2Copy_fs),(69,some 108,s_l2Copy_fs)] (.cons s_l2Copy_ok (.cons s_l2Copy_ok .nil)) (by kernel_rfl) (by kernel_rfl) (by kernel_rfl) (fun xs=>by kernel_rfl)
def s_l2BerthOf.d1 (a b c d e f:C):R:=(bif (decide (nils.length+c.L.length≤4294967296)) then (some (.ret [a,b,d,e,f,.l (nils++c.L)])) else none)
def s_l2BerthOf:List C→Option (List C):=fun xs=>finR (ap6 s_l2BerthOf.d1 xs)
def s_l2BerthOf_fs:FS:=⟨1,⟨[(0,z5)],[]⟩,⟨[(0,(.ag [zt,zt,(.ow 3000),zi,zi,zo]))],[(3000,.arr 9 1)]⟩,[],s_l2BerthOf⟩
theorem s_l2BerthOf_ok:FSOk Tryz.checked.prog T0 85 s_l2BerthOf_fs:=okOf base0 (fn:=Tryz.f85) (c:=Tryz.f85.body.getD .skip) s_l2BerthOf_fs .leaf [] .nil (by kernel_rfl) (by kernel_rfl) (by kernel_rfl) (fun xs=>by kernel_rfl)
def s_l2CopyOf.d1 (a b c d e f g h i j k l:C):R:=(bif (decide (nils.length+h.L.length≤4294967296)) then (some (.ret [a,b,c,d,e,f,g,i,j,k,l,.l (nils++h.L)])) else none)
def s_l2CopyOf:List C→Option (List C):=fun xs=>finR (ap12 s_l2CopyOf.d1 xs)
def s_l2CopyOf_fs:FS:=⟨1,⟨[(0,z4)],[]⟩,⟨[(0,(.ag [zt,zt,zi,zi,zi,zi,zt,(.ow 3000),zi,zt,zt,zt]))],[(3000,.arr 150 1)]⟩,[],s_l2CopyOf⟩
theorem s_l2CopyOf_ok:FSOk Tryz.checked.prog T0 86 s_l2CopyOf_fs:=okOf base0 (fn:=Tryz.f86) (c:=Tryz.f86.body.getD .skip) s_l2CopyOf_fs .leaf [] .nil (by kernel_rfl) (by kernel_rfl) (by kernel_rfl) (fun xs=>by kernel_rfl)
def s_l2Fleet.d1 (a b c d e f g h i j k l m:C):R:=(bif (decide (a.I<(c.L.length:Int))) then (bif (decide (0≤a.I)) then (bif (decide (a.I<(c.L.length:Int))) then (call6 (s_l2BerthOf [((c.L.getD a.I.toNat []).getD 0 .nil),((c.L.getD a.I.toNat []).getD 1 .nil),((c.L.getD a.I.toNat []).getD 2 .nil),((c.L.getD a.I.toNat []).getD 3 .nil),((c.L.getD a.I.toNat []).getD 4 .nil),((c.L.getD a.I.toNat []).getD 5 .nil)]) fun n o p q r s=>(bif (decide (k.L.length+(rows [[n,o,.l s.L,p,q,r]]).length≤4294967296)) then (some (.again [.i (w64 (a.I+1)),b,c,d,e,f,g,.l h.L,.l i.L,.l j.L,.l (k.L++(rows [[n,o,.l s.L,p,q,r]])),.l l.L,.l m.L])) else none)) else none) else none) else (some (.brk 0 [b,c,d,e,f,g,.l h.L,.l i.L,.l j.L,.l k.L,.l l.L,.l m.L])))
def s_l2Fleet.d2 (a b c d e f g h i j k l m:C):R:=(bif (decide (a.I<(e.L.length:Int))) then (bif (decide (0≤a.I)) then (bif (decide (a.I<(e.L.length:Int))) then (call12 (s_l2CopyOf [((e.L.getD a.I.toNat []).getD 0 .nil),((e.L.getD a.I.toNat []).getD 1 .nil),((e.L.getD a.I.toNat []).getD 2 .nil),((e.L.getD a.I.toNat []).getD 3 .nil),((e.L.getD a.I.toNat []).getD 4 .nil),((e.L.getD a.I.toNat []).getD 5 .nil),((e.L.getD a.I.toNat []).getD 6 .nil),((e.L.getD a.I.toNat []).getD 7 .nil),((e.L.getD a.I.toNat []).getD 8 .nil),((e.L.getD a.I.toNat []).getD 9 .nil),((e.L.getD a.I.toNat []).getD 10 .nil),((e.L.getD a.I.toNat []).getD 11 .nil)]) fun n o p q r s t u v w x y=>(bif (decide (m.L.length+(rows [[n,o,p,q,r,s,t,.l y.L,u,v,w,x]]).length≤4294967296)) then (some (.again [.i (w64 (a.I+1)),b,c,d,e,f,g,.l h.L,.l i.L,.l j.L,.l k.L,.l l.L,.l (m.L++(rows [[n,o,p,q,r,s,t,.l y.L,u,v,w,x]]))])) else none)) else none) else none) else (some (.brk 2 [f,g,.l h.L,.l i.L,.l j.L,.l k.L,.l l.L,.l m.L])))
def s_l2Fleet.d3 (a b c d e f g h:C):R:=(some (.ret [b,.l f.L,.l g.L,.l h.L]))
def s_l2Fleet.d4 (a b c d e f g h i j k l:C):R:=(bindBlk 2 (lim (ap13 s_l2Fleet.d2) [.i 0,a,b,c,d,e,f,.l g.L,.l h.L,.l i.L,.l j.L,.l k.L,.l l.L]) (ap8 s_l2Fleet.d3))
def s_l2Fleet.d5 (a b c d:C):R:=(bif (decide (nils.length+c.L.length≤4294967296)) then (bindBlk 0 (lim (ap13 s_l2Fleet.d1) [.i 0,a,b,c,d,.b false,.b a.B,.l nils,.l nils,.l nils,.l nils,.l (nils++c.L),.l nils]) (ap12 s_l2Fleet.d4)) else none)
def s_l2Fleet:List C→Option (List C):=fun xs=>finR (ap4 s_l2Fleet.d5 xs)
def s_l2Fleet_fs:FS:=⟨1,⟨[(0,z3)],[]⟩,⟨[(0,z6)],[(3000,.arr 45 1),(3001,.arr 120 1),(3002,.arr 48 1)]⟩,[],s_l2Fleet⟩
theorem s_l2Fleet_ok:FSOk Tryz.checked.prog T0 67 s_l2Fleet_fs:=okOfT base0 [28,46] false (fn:=Tryz.f67) (c:=Tryz.f67.body.getD .skip) s_l2Fleet_fs (.seq .leaf (.seq .leaf (.seq (.seq .leaf (.block ⟨[(1,(.pt 1 0)),(2,(.pt 2 0)),(3,(.pt 3 0))],[(1,z0),(2,z7),(3,.var 41 [zo,(.ow 1179403),(.ow 8),(.ow 1179404)]),(1179400,.arr 45 1),(1179401,.arr 120 1),(1179402,.arr 48 1),(1179403,.arr 45 1),(8,.arr 120 1),(1179404,.arr 48 1)]⟩ (.loop ⟨[(1,(.pt 1 0)),(2,(.pt 2 0)),(3,(.pt 3 0)),(4,zi)],[(1,z0),(2,z7),(3,.var 41 [zo,(.ow 1179403),(.ow 8),(.ow 1179404)]),(1179400,.arr 45 1),(1179401,.arr 120 1),(1179402,.arr 48 1),(1179403,.arr 45 1),(8,.arr 120 1),(1179404,.arr 48 1)]⟩ .leaf))) (.seq (.seq .leaf (.block ⟨[(2,(.pt 2 0)),(3,(.pt 3 0))],[(2,z7),(3,.var 41 [zo,(.ow 1179403),(.ow 8),(.ow 1179404)]),(1179400,.arr 45 1),(1179401,.arr 120 1),(1179402,.arr 48 1),(1179403,.arr 45 1),(8,.arr 120 1),(1179404,.arr 48 1)]⟩ (.loop ⟨[(1,(.pt 1 0)),(2,(.pt 2 0)),(3,(.pt 3 0)),(5,zi)],[(1,z0),(2,z7),(3,.var 41 [zo,(.ow 1179403),(.ow 8),(.ow 1179404)]),(1179400,.arr 45 1),(1179401,.arr 120 1),(1179402,.arr 48 1),(1179403,.arr 45 1),(8,.arr 120 1),(1179404,.arr 48 1)]⟩ .leaf))) .leaf)))) [(85,some 27,s_l2BerthOf_fs),(86,some 45,s_l2CopyOf_fs)] (.cons s_l2BerthOf_ok (.cons s_l2CopyOf_ok .nil)) (by kernel_rfl) (by kernel_rfl) (by kernel_rfl) (fun xs=>by kernel_rfl)
def s_l6Without.d1 (a b c d e f g h i j:C):R:=(bif (decide (b.I<(a.L.length:Int))) then (bif (decide (0≤b.I)) then (bif (decide (b.I<(a.L.length:Int))) then (call1 (s_l2Copy [d,.l h.L,.l i.L,.l j.L,((a.L.getD b.I.toNat []).getD 0 .nil)]) fun k=>(bif (decide (0≤k.I)) then (bif (decide (k.I<(j.L.length:Int))) then (some (.again [a,.i (w64 (b.I+1)),c,d,.l e.L,.l f.L,.l g.L,.l h.L,.l i.L,.l (j.L.set k.I.toNat (setCs (j.L.getD k.I.toNat []) 11 [.s (bs #[])]))])) else none) else none)) else none) else none) else (some (.brk 0 [c,d,.l e.L,.l f.L,.l g.L,.l h.L,.l i.L,.l j.L])))
def s_l6Without.d2 (a b c d e f g h:C):R:=(some (.ret [b,.l f.L,.l g.L,.l h.L]))
def s_l6Without.d3 (a b c d e:C):R:=(call4 (s_l2Fleet [a,b,c,d]) fun f g h i=>(bindBlk 0 (lim (ap10 s_l6Without.d1) [e,.i 0,.b false,f,.l nils,.l nils,.l nils,.l g.L,.l h.L,.l i.L]) (ap8 s_l6Without.d2)))
def s_l6Without:List C→Option (List C):=fun xs=>finR (ap5 s_l6Without.d3 xs)
def s_l6Without_fs:FS:=⟨2,⟨[(0,z3),(1,(zl 9))],[]⟩,⟨[(0,z6)],[(3000,.arr 45 1),(3001,.arr 120 1),(3002,.arr 48 1)]⟩,[],s_l6Without⟩
theorem s_l6Without_ok:FSOk Tryz.checked.prog T0 114 s_l6Without_fs:=okOf base0 (fn:=Tryz.f114) (c:=Tryz.f114.body.getD .skip) s_l6Without_fs (.seq .leaf (.seq .leaf (.seq (.seq .leaf (.block ⟨[(4,(.pt 4 0)),(5,(.pt 5 0))],[(4,.var 41 [zo,(.ow 1177200),(.ow 1177201),(.ow 1177202)]),(5,.var 41 [zo,(.ow 39864),(.ow 39865),(.ow 39866)]),(1177200,.arr 45 1),(1177201,.arr 120 1),(1177202,.arr 48 1),(39864,.arr 45 1),(39865,.arr 120 1),(39866,.arr 48 1)]⟩ (.loop ⟨[(1,(zl 9)),(4,(.pt 4 0)),(5,(.pt 5 0)),(6,zi)],[(4,.var 41 [zo,(.ow 1177200),(.ow 1177201),(.ow 1177202)]),(5,.var 41 [zo,(.ow 39864),(.ow 39865),(.ow 39866)]),(1177200,.arr 45 1),(1177201,.arr 120 1),(1177202,.arr 48 1),(39864,.arr 45 1),(39865,.arr 120 1),(39866,.arr 48 1)]⟩ .leaf))) .leaf))) [(67,some 8,s_l2Fleet_fs),(69,some 22,s_l2Copy_fs)] (.cons s_l2Fleet_ok (.cons s_l2Copy_ok .nil)) (by kernel_rfl) (by kernel_rfl) (by kernel_rfl) (fun xs=>by kernel_rfl)
def s_l3Marks.d1 (a b c d e f:C):R:=(bif (decide (nils.length+c.L.length≤4294967296)) then (bif (decide ((bs #[122,111,110,101,61]).size+b.S.size≤4294967296)) then (bif (decide ((nils++c.L).length+(rows [[.s ((bs #[122,111,110,101,61])++b.S)]]).length≤4294967296)) then (some (.ret [.l ((nils++c.L)++(rows [[.s ((bs #[122,111,110,101,61])++b.S)]]))])) else none) else none) else none)
def s_l3Marks:List C→Option (List C):=fun xs=>finR (ap6 s_l3Marks.d1 xs)
def s_l3Marks_fs:FS:=⟨1,⟨[(0,z5)],[]⟩,⟨[(0,(.ow 3000))],[(3000,.arr 9 1)]⟩,[],s_l3Marks⟩
theorem s_l3Marks_ok:FSOk Tryz.checked.prog T0 165 s_l3Marks_fs:=okOf base0 (fn:=Tryz.f165) (c:=Tryz.f165.body.getD .skip) s_l3Marks_fs .leaf [] .nil (by kernel_rfl) (by kernel_rfl) (by kernel_rfl) (fun xs=>by kernel_rfl)
end
end Go.Ev
namespace Go.Ev
open Go.Proofs
noncomputable section
def s_l1Meets.d1 (G0:List C→Option (List C)) (a b c d e f g:C):R:=(bif c.B then (some (.ret [.b true])) else (some (.again [a,.i (w64 (b.I+1)),d,e,f,g])))
def s_l1Meets.d2 (G0:List C→Option (List C)) (a b c d e f:C):R:=(bif (decide (b.I<(a.L.length:Int))) then (bif (decide (0≤b.I)) then (bif (decide (b.I<(a.L.length:Int))) then (call3 (s_l1Mark [((a.L.getD b.I.toNat []).getD 0 .nil)]) fun g h i=>(bindNrm (bif i.B then (bif (g.S.toList==d.S.toList) then (bif (!(c.I==1)) then (some (.nrm [a,b,.b (h.S.toList==e.S.toList),c,d,e,f])) else (some (.nrm [a,b,.b true,c,d,e,f]))) else (some (.nrm [a,b,.b false,c,d,e,f]))) else (some (.nrm [a,b,.b false,c,d,e,f]))) (ap7 (s_l1Meets.d1 G0)))) else none) else none) else (some (.brk 1 [])))
def s_l1Meets.d3 (G0:List C→Option (List C)):R:=(some (.ret [.b false]))
def s_l1Meets.d4 (G0:List C→Option (List C)) (a b c d:C):R:=(bif (decide (0≤c.I)) then (bif (decide (c.I<(a.L.length:Int))) then (bif (((a.L.getD c.I.toNat []).getD 0 .nil).I==0) then (some (.ret [.b true])) else (bif (((a.L.getD c.I.toNat []).getD 0 .nil).I==3) then (bif (decide (0≤c.I)) then (bif (decide (c.I<(b.L.length:Int))) then (bif (decide (0<((((b.L.getD c.I.toNat []).getD 0 .nil).L).length:Int))) then (call1 (G0 [a,b,(((((b.L.getD c.I.toNat []).getD 0 .nil).L).getD 0 []).getD 0 .nil),d]) fun e=>(some (.ret [.b (!e.B)]))) else none) else none) else none) else (bif (((a.L.getD c.I.toNat []).getD 0 .nil).I==4) then (bif (decide (0≤c.I)) then (bif (decide (c.I<(b.L.length:Int))) then (bif (decide (0<((((b.L.getD c.I.toNat []).getD 0 .nil).L).length:Int))) then (call1 (G0 [a,b,(((((b.L.getD c.I.toNat []).getD 0 .nil).L).getD 0 []).getD 0 .nil),d]) fun f=>(bif f.B then (bif (decide (0≤c.I)) then (bif (decide (c.I<(b.L.length:Int))) then (bif (decide (1<((((b.L.getD c.I.toNat []).getD 0 .nil).L).length:Int))) then (call1 (G0 [a,b,(((((b.L.getD c.I.toNat []).getD 0 .nil).L).getD 1 []).getD 0 .nil),d]) fun g=>(some (.ret [.b g.B]))) else none) else none) else none) else (some (.ret [.b false])))) else none) else none) else none) else (bif (((a.L.getD c.I.toNat []).getD 0 .nil).I==5) then (bif (decide (0≤c.I)) then (bif (decide (c.I<(b.L.length:Int))) then (bif (decide (0<((((b.L.getD c.I.toNat []).getD 0 .nil).L).length:Int))) then (call1 (G0 [a,b,(((((b.L.getD c.I.toNat []).getD 0 .nil).L).getD 0 []).getD 0 .nil),d]) fun h=>(bif (!h.B) then (bif (decide (0≤c.I)) then (bif (decide (c.I<(b.L.length:Int))) then (bif (decide (1<((((b.L.getD c.I.toNat []).getD 0 .nil).L).length:Int))) then (call1 (G0 [a,b,(((((b.L.getD c.I.toNat []).getD 0 .nil).L).getD 1 []).getD 0 .nil),d]) fun i=>(some (.ret [.b i.B]))) else none) else none) else none) else (some (.ret [.b true])))) else none) else none) else none) else (bindBlk 1 (lim (ap6 (s_l1Meets.d2 G0)) [d,.i 0,((a.L.getD c.I.toNat []).getD 0 .nil),((a.L.getD c.I.toNat []).getD 1 .nil),((a.L.getD c.I.toNat []).getD 2 .nil),((a.L.getD c.I.toNat []).getD 3 .nil)]) (fun xs=>(s_l1Meets.d3 G0))))))) else none) else none)
def s_l1Meets.step (G0:List C→Option (List C)):List C→Option (List C):=fun xs=>finR (ap4 (s_l1Meets.d4 G0) xs)
def s_l1Meets_fs (G:List C→Option (List C)):FS:=⟨4,⟨[(0,(.ag [(.d (.sl 212))])),(1,(.d (.sl 113))),(2,(.d (.int .i64))),(3,(.d (.sl 9)))],[]⟩,⟨[(0,(.d .bool))],[]⟩,[],G⟩
theorem s_l1Meets_st {G0:List C→Option (List C)} (h0:FSOk Tryz.checked.prog T0 204 (s_l1Meets_fs G0)):FSOk Tryz.checked.prog T0 204 (s_l1Meets_fs (s_l1Meets.step G0)):=okOf base0 (fn:=Tryz.f204) (c:=Tryz.f204.body.getD .skip) (s_l1Meets_fs (s_l1Meets.step G0)) (.seq .leaf (.seq .leaf (.seq .leaf (.seq (.seq .leaf (.block ⟨[],[]⟩ (.loop ⟨[(3,(.d (.sl 9))),(9,(.pt 9 0)),(10,(.d (.int .i64)))],[(9,.var 212 [(.d (.int .i64)),(.d .str),(.d .str),(.d (.int .i64))])]⟩ (.seq .leaf (.seq (.skip (.seq .leaf (.seq (.join ⟨[(3,(.d (.sl 9))),(9,(.pt 9 0)),(10,(.d (.int .i64))),(116,(.d .bool))],[(9,.var 212 [(.d (.int .i64)),(.d .str),(.d .str),(.d (.int .i64))])]⟩ .leaf) .leaf))) .leaf))))) .leaf)))) [(153,some 95,s_l1Mark_fs),(204,some 34,(s_l1Meets_fs G0)),(204,some 47,(s_l1Meets_fs G0)),(204,some 58,(s_l1Meets_fs G0)),(204,some 71,(s_l1Meets_fs G0)),(204,some 82,(s_l1Meets_fs G0))] (.cons s_l1Mark_ok (.cons h0 (.cons h0 (.cons h0 (.cons h0 (.cons h0 .nil)))))) (by kernel_rfl) (by kernel_rfl) (by kernel_rfl) (fun xs=>by kernel_rfl)
def s_l1Meets.g:Nat→Nat→List C→Option (List C)
 |0,_=>fun _=>none
 |k+1,0=>s_l1Meets.step (s_l1Meets.g k 0)
 |_,_=>fun _=>none
theorem s_l1Meets_rec:∀k:Nat,FSOk Tryz.checked.prog T0 204 (s_l1Meets_fs (s_l1Meets.g k 0))
 |0=>noneOk (fn:=Tryz.f204) (c:=Tryz.f204.body.getD .skip) (4) (⟨[(0,(.ag [(.d (.sl 212))])),(1,(.d (.sl 113))),(2,(.d (.int .i64))),(3,(.d (.sl 9)))],[]⟩) (⟨[(0,(.d .bool))],[]⟩) [] (by kernel_rfl) (by kernel_rfl) (by kernel_rfl)
 |k+1=>s_l1Meets_st (s_l1Meets_rec k)
def s_l1Meets:List C→Option (List C):=s_l1Meets.g FUEL 0
theorem s_l1Meets_ok:FSOk Tryz.checked.prog T0 204 (s_l1Meets_fs s_l1Meets):=s_l1Meets_rec FUEL
def s_PilotMeets.d1 (a b:C):R:=(call1 (s_l1Valid [a]) fun c=>(bif (!c.B) then (some (.ret [.b false])) else (call2 (s_l1Kids [a]) fun d e=>(call1 (s_l1Meets [a,.l e.L,.i (w64 ((a.L.length:Int)-1)),b]) fun f=>(some (.ret [.b f.B]))))))
def s_PilotMeets:List C→Option (List C):=fun xs=>finR (ap2 s_PilotMeets.d1 xs)
def s_PilotMeets_fs:FS:=⟨2,⟨[(0,(.ag [(zl 212)])),(1,(zl 9))],[]⟩,⟨[(0,zo)],[]⟩,[],s_PilotMeets⟩
theorem s_PilotMeets_ok:FSOk Tryz.checked.prog T0 164 s_PilotMeets_fs:=okOf base0 (fn:=Tryz.f164) (c:=Tryz.f164.body.getD .skip) s_PilotMeets_fs .leaf [(183,some 8,s_l1Valid_fs),(203,some 12,s_l1Kids_fs),(204,some 22,(s_l1Meets_fs s_l1Meets))] (.cons s_l1Valid_ok (.cons s_l1Kids_ok (.cons s_l1Meets_ok .nil))) (by kernel_rfl) (by kernel_rfl) (by kernel_rfl) (fun xs=>by kernel_rfl)
def s_l3Select.d1 (a b c d e f g:C):R:=(call2 (s_PilotParse [a]) fun h i=>(bif (i.I==0) then (call1 (s_l3Marks [b,c,d,e,f,g]) fun j=>(call1 (s_PilotMeets [h,.l j.L]) fun k=>(some (.ret [.b k.B])))) else (some (.ret [.b false]))))
def s_l3Select:List C→Option (List C):=fun xs=>finR (ap7 s_l3Select.d1 xs)
def s_l3Select_fs:FS:=⟨2,⟨[(0,zt),(1,z5)],[]⟩,⟨[(0,zo)],[]⟩,[],s_l3Select⟩
theorem s_l3Select_ok:FSOk Tryz.checked.prog T0 141 s_l3Select_fs:=okOf base0 (fn:=Tryz.f141) (c:=Tryz.f141.body.getD .skip) s_l3Select_fs .leaf [(152,some 9,s_PilotParse_fs),(164,some 18,s_PilotMeets_fs),(165,some 17,s_l3Marks_fs)] (.cons s_PilotParse_ok (.cons s_PilotMeets_ok (.cons s_l3Marks_ok .nil))) (by kernel_rfl) (by kernel_rfl) (by kernel_rfl) (fun xs=>by kernel_rfl)
def s_l3ZoneOf.d1 (a b c d e:C):R:=(call1 (s_l2Berth [a,b,c,d,e]) fun f=>(bif (decide (f.I<0)) then (some (.ret [.s (bs #[])])) else (bif (decide (0≤f.I)) then (bif (decide (f.I<(b.L.length:Int))) then (some (.ret [((b.L.getD f.I.toNat []).getD 1 .nil)])) else none) else none)))
def s_l3ZoneOf:List C→Option (List C):=fun xs=>finR (ap5 s_l3ZoneOf.d1 xs)
def s_l3ZoneOf_fs:FS:=⟨2,⟨[(0,z3),(1,zt)],[]⟩,⟨[(0,zt)],[]⟩,[],s_l3ZoneOf⟩
theorem s_l3ZoneOf_ok:FSOk Tryz.checked.prog T0 161 s_l3ZoneOf_fs:=okOf base0 (fn:=Tryz.f161) (c:=Tryz.f161.body.getD .skip) s_l3ZoneOf_fs .leaf [(73,some 8,s_l2Berth_fs)] (.cons s_l2Berth_ok .nil) (by kernel_rfl) (by kernel_rfl) (by kernel_rfl) (fun xs=>by kernel_rfl)
def s_l3Together.d1 (a b c d e f g h i j k l m n o p q r s t u v w x y z a0 a1 a2 a3 a4 a5 a6 a7 a8:C):R:=(call1 (s_l3ZoneOf [b,c,d,e,a8]) fun a9=>(bif (a9.S.toList==s.S.toList) then (bif (!(a5.I==2)) then (bif (n.I==2) then (some (.ret [.b true])) else (some (.brk 1 [a,b,c,d,e,f,g,h,i,j,k,l,m,n,o,p,q,r,s,t,u,v,w]))) else (some (.ret [.b true]))) else (some (.brk 1 [a,b,c,d,e,f,g,h,i,j,k,l,m,n,o,p,q,r,s,t,u,v,w]))))
def s_l3Together.d2 (a b c d e f g h i j k l m n o p q r s t u v w:C):R:=(some (.again [.i (w64 (a.I+1)),b,c,d,e,f,g,h,i,j,k,l,m,n,o,p,q,r,s,t,u,v,w]))
def s_l3Together.d3 (a b c d e f g h i j k l m n o p q r s t u v w:C):R:=(bif (decide (a.I<(e.L.length:Int))) then (bindBlk 1 (bif (decide (0≤a.I)) then (bif (decide (a.I<(e.L.length:Int))) then (bif (!((((e.L.getD a.I.toNat []).getD 0 .nil).S).toList==f.S.toList)) then (bif (!(!((((e.L.getD a.I.toNat []).getD 1 .nil).S).toList==g.S.toList))) then (bif ((((e.L.getD a.I.toNat []).getD 11 .nil).S).toList==(bs #[]).toList) then (some (.brk 1 [a,b,c,d,e,f,g,h,i,j,k,l,m,n,o,p,q,r,s,t,u,v,w])) else (bindNrm (bif ((((e.L.getD a.I.toNat []).getD 11 .nil).S).toList==r.S.toList) then (bif (!(((e.L.getD a.I.toNat []).getD 8 .nil).I !=0)) then (bif (n.I !=0) then (some (.ret [.b true])) else (some (.nrm [a,b,c,d,e,f,g,h,i,j,k,l,m,n,o,p,q,r,s,t,u,v,w,((e.L.getD a.I.toNat []).getD 0 .nil),((e.L.getD a.I.toNat []).getD 1 .nil),((e.L.getD a.I.toNat []).getD 2 .nil),((e.L.getD a.I.toNat []).getD 3 .nil),((e.L.getD a.I.toNat []).getD 4 .nil),((e.L.getD a.I.toNat []).getD 5 .nil),((e.L.getD a.I.toNat []).getD 6 .nil),((e.L.getD a.I.toNat []).getD 7 .nil),((e.L.getD a.I.toNat []).getD 8 .nil),((e.L.getD a.I.toNat []).getD 9 .nil),((e.L.getD a.I.toNat []).getD 10 .nil),((e.L.getD a.I.toNat []).getD 11 .nil)]))) else (some (.ret [.b true]))) else (some (.nrm [a,b,c,d,e,f,g,h,i,j,k,l,m,n,o,p,q,r,s,t,u,v,w,((e.L.getD a.I.toNat []).getD 0 .nil),((e.L.getD a.I.toNat []).getD 1 .nil),((e.L.getD a.I.toNat []).getD 2 .nil),((e.L.getD a.I.toNat []).getD 3 .nil),((e.L.getD a.I.toNat []).getD 4 .nil),((e.L.getD a.I.toNat []).getD 5 .nil),((e.L.getD a.I.toNat []).getD 6 .nil),((e.L.getD a.I.toNat []).getD 7 .nil),((e.L.getD a.I.toNat []).getD 8 .nil),((e.L.getD a.I.toNat []).getD 9 .nil),((e.L.getD a.I.toNat []).getD 10 .nil),((e.L.getD a.I.toNat []).getD 11 .nil)]))) (ap35 s_l3Together.d1))) else (some (.brk 1 [a,b,c,d,e,f,g,h,i,j,k,l,m,n,o,p,q,r,s,t,u,v,w]))) else (some (.brk 1 [a,b,c,d,e,f,g,h,i,j,k,l,m,n,o,p,q,r,s,t,u,v,w]))) else none) else none) (ap23 s_l3Together.d2)) else (some (.brk 0 [])))
def s_l3Together.d4:R:=(some (.ret [.b false]))
def s_l3Together.d5 (a b c d e f g h i j k l m n o p q r s t u v:C):R:=(bindBlk 0 (lim (ap23 s_l3Together.d3) [.i 0,a,b,c,d,e,f,g,h,i,j,k,l,m,n,o,p,q,r,s,t,u,v]) (fun xs=>s_l3Together.d4))
def s_l3Together:List C→Option (List C):=fun xs=>finR (ap22 s_l3Together.d5 xs)
def s_l3Together_fs:FS:=⟨3,⟨[(0,z3),(1,z4),(2,z5)],[]⟩,⟨[(0,zo)],[]⟩,[],s_l3Together⟩
theorem s_l3Together_ok:FSOk Tryz.checked.prog T0 142 s_l3Together_fs:=okOf base0 (fn:=Tryz.f142) (c:=Tryz.f142.body.getD .skip) s_l3Together_fs (.seq .leaf (.seq (.seq .leaf (.block ⟨[],[]⟩ (.loop ⟨[(3,(.pt 3 0)),(4,(.pt 4 0)),(5,(.pt 5 0)),(7,zi)],[(3,z0),(4,z1),(5,z2)]⟩ (.seq .leaf (.seq (.block ⟨[(3,(.pt 3 0)),(4,(.pt 4 0)),(5,(.pt 5 0)),(7,zi)],[(3,z0),(4,z1),(5,z2)]⟩ (.seq .leaf (.seq .leaf (.seq (.join ⟨[(3,(.pt 3 0)),(4,(.pt 4 0)),(5,(.pt 5 0)),(7,zi),(8,(.pt 8 0))],[(3,z0),(4,z1),(5,z2),(8,z1)]⟩ .leaf) .leaf)))) .leaf))))) .leaf)) [(161,some 56,s_l3ZoneOf_fs)] (.cons s_l3ZoneOf_ok .nil) (by kernel_rfl) (by kernel_rfl) (by kernel_rfl) (fun xs=>by kernel_rfl)
def s_l3Far.d1 (a b c d e f g h i j k l m n o p q r s t u v w x:C):R:=(some (.again [a,.i (w64 (b.I+1)),c,d,e,f,g,h,i,j,k,l,m,n,o,p,q,r,s,t,u,v,w,x]))
def s_l3Far.d2 (a b c d e f g h i j k l m n o p q r s t u v w x:C):R:=(bif (decide (b.I<(f.L.length:Int))) then (bindBlk 1 (bif (decide (0≤b.I)) then (bif (decide (b.I<(f.L.length:Int))) then (bif (!((((f.L.getD b.I.toNat []).getD 0 .nil).S).toList==g.S.toList)) then (bif (!(!((((f.L.getD b.I.toNat []).getD 1 .nil).S).toList==p.S.toList))) then (bif ((((f.L.getD b.I.toNat []).getD 11 .nil).S).toList==(bs #[]).toList) then (some (.brk 1 [a,b,c,d,e,f,g,h,i,j,k,l,m,n,o,p,q,r,s,t,u,v,w,x])) else (call1 (s_l3ZoneOf [c,d,e,f,((f.L.getD b.I.toNat []).getD 11 .nil)]) fun y=>(bif (y.S.toList==t.S.toList) then (some (.ret [.b false])) else (some (.brk 1 [.b true,b,c,d,e,f,g,h,i,j,k,l,m,n,o,p,q,r,s,t,u,v,w,x]))))) else (some (.brk 1 [a,b,c,d,e,f,g,h,i,j,k,l,m,n,o,p,q,r,s,t,u,v,w,x]))) else (some (.brk 1 [a,b,c,d,e,f,g,h,i,j,k,l,m,n,o,p,q,r,s,t,u,v,w,x]))) else none) else none) (ap24 s_l3Far.d1)) else (some (.brk 0 [a,g,h,i,j,k,l,m,n,o,p,q,r])))
def s_l3Far.d3 (a b c d e f g h i j k l m:C):R:=(bif (!a.B) then (some (.ret [.b (!(k.S.toList==c.S.toList))])) else (some (.ret [.b true])))
def s_l3Far.d4 (a b c d e f g h i j k l m n o p q r s t u v:C):R:=(bif (n.S.toList==(bs #[]).toList) then (some (.ret [.b false])) else (bindBlk 0 (lim (ap24 s_l3Far.d2) [.b false,.i 0,a,b,c,d,e,f,g,h,i,j,k,l,m,n,o,p,q,r,s,t,u,v]) (ap13 s_l3Far.d3)))
def s_l3Far:List C→Option (List C):=fun xs=>finR (ap22 s_l3Far.d4 xs)
def s_l3Far_fs:FS:=⟨3,⟨[(0,z3),(1,z4),(2,z5)],[]⟩,⟨[(0,zo)],[]⟩,[],s_l3Far⟩
theorem s_l3Far_ok:FSOk Tryz.checked.prog T0 143 s_l3Far_fs:=okOf base0 (fn:=Tryz.f143) (c:=Tryz.f143.body.getD .skip) s_l3Far_fs (.seq .leaf (.seq .leaf (.seq .leaf (.seq (.seq .leaf (.block ⟨[(4,(.pt 4 0)),(7,zo)],[(4,z1)]⟩ (.loop ⟨[(3,(.pt 3 0)),(4,(.pt 4 0)),(5,(.pt 5 0)),(7,zo),(8,zi)],[(3,z0),(4,z1),(5,z2)]⟩ (.seq .leaf (.seq (.block ⟨[(3,(.pt 3 0)),(4,(.pt 4 0)),(5,(.pt 5 0)),(7,zo),(8,zi)],[(3,z0),(4,z1),(5,z2)]⟩ .leaf) .leaf))))) .leaf)))) [(161,some 45,s_l3ZoneOf_fs)] (.cons s_l3ZoneOf_ok .nil) (by kernel_rfl) (by kernel_rfl) (by kernel_rfl) (fun xs=>by kernel_rfl)
def s_l3Fits.d1 (a b c d e f g h i j k l m n o p q r s t u v w x y z a0 a1 a2 a3 a4 a5 a6 a7 a8 a9 b0 b1 b2 b3:C):R:=(bif f.B then (some (.again [a,.i (w64 (b.I+a6.I)),.i (w64 (c.I+a7.I)),.i (w64 (d.I+1)),.i (w64 (e.I+1)),g,h,i,j,k,l,m,n,o,p,q,r,s,t,u,v,w,x,y,z,a0,a1])) else (some (.again [a,b,c,d,.i (w64 (e.I+1)),g,h,i,j,k,l,m,n,o,p,q,r,s,t,u,v,w,x,y,z,a0,a1])))
def s_l3Fits.d2 (a b c d e f g h i j k l m n o p q r s t u v w x y z a0:C):R:=(bif (decide (e.I<(i.L.length:Int))) then (bif (decide (0≤e.I)) then (bif (decide (e.I<(i.L.length:Int))) then (bindNrm (bif (!((((i.L.getD e.I.toNat []).getD 0 .nil).S).toList==j.S.toList)) then (some (.nrm [a,b,c,d,e,.b ((((i.L.getD e.I.toNat []).getD 11 .nil).S).toList==v.S.toList),f,g,h,i,j,k,l,m,n,o,p,q,r,s,t,u,v,w,x,y,z,a0,((i.L.getD e.I.toNat []).getD 0 .nil),((i.L.getD e.I.toNat []).getD 1 .nil),((i.L.getD e.I.toNat []).getD 2 .nil),((i.L.getD e.I.toNat []).getD 3 .nil),((i.L.getD e.I.toNat []).getD 4 .nil),((i.L.getD e.I.toNat []).getD 5 .nil),((i.L.getD e.I.toNat []).getD 6 .nil),((i.L.getD e.I.toNat []).getD 7 .nil),((i.L.getD e.I.toNat []).getD 8 .nil),((i.L.getD e.I.toNat []).getD 9 .nil),((i.L.getD e.I.toNat []).getD 10 .nil),((i.L.getD e.I.toNat []).getD 11 .nil)])) else (some (.nrm [a,b,c,d,e,.b false,f,g,h,i,j,k,l,m,n,o,p,q,r,s,t,u,v,w,x,y,z,a0,((i.L.getD e.I.toNat []).getD 0 .nil),((i.L.getD e.I.toNat []).getD 1 .nil),((i.L.getD e.I.toNat []).getD 2 .nil),((i.L.getD e.I.toNat []).getD 3 .nil),((i.L.getD e.I.toNat []).getD 4 .nil),((i.L.getD e.I.toNat []).getD 5 .nil),((i.L.getD e.I.toNat []).getD 6 .nil),((i.L.getD e.I.toNat []).getD 7 .nil),((i.L.getD e.I.toNat []).getD 8 .nil),((i.L.getD e.I.toNat []).getD 9 .nil),((i.L.getD e.I.toNat []).getD 10 .nil),((i.L.getD e.I.toNat []).getD 11 .nil)]))) (ap40 s_l3Fits.d1)) else none) else none) else (some (.brk 0 [a,b,c,d,f,g,h,i,j,k,l,m,n,o,p,q,r,s,t,u,v,w,x,y,z,a0])))
def s_l3Fits.d3 (a b c d e f g h i j k l m n o p q r s t u v w x y z:C):R:=(bif d.B then (some (.ret [.i 2])) else (call1 (s_l3Select [o,u,v,w,x,y,z]) fun a0=>(bif (!a0.B) then (some (.ret [.i 3])) else (call1 (s_l3Together [e,f,g,h,i,j,k,l,m,n,o,p,q,r,s,t,u,v,w,x,y,z]) fun a1=>(bif a1.B then (some (.ret [.i 4])) else (call1 (s_l3Far [e,f,g,h,i,j,k,l,m,n,o,p,q,r,s,t,u,v,w,x,y,z]) fun a2=>(bif a2.B then (some (.ret [.i 5])) else (bif (decide (c.I≥10)) then (some (.ret [.i 6])) else (bif (decide (a.I>x.I)) then (some (.ret [.i 7])) else (bif (decide (b.I>y.I)) then (some (.ret [.i 8])) else (some (.ret [.i 0]))))))))))))
def s_l3Fits.d4 (a b c d e f g h i j k l m n o p q r s t u v w x y z:C):R:=(bif d.B then (some (.ret [.i 1])) else (bindNrm (bif (!(s.S.toList==(bs #[]).toList)) then (some (.nrm [a,b,c,.b (!(s.S.toList==u.S.toList)),e,f,g,h,i,j,k,l,m,n,o,p,q,r,s,t,u,v,w,x,y,z])) else (some (.nrm [a,b,c,.b false,e,f,g,h,i,j,k,l,m,n,o,p,q,r,s,t,u,v,w,x,y,z]))) (ap26 s_l3Fits.d3)))
def s_l3Fits.d5 (a b c d e f g h i j k l m n o p q r s t u v w x y z:C):R:=(bindNrm (bif z.B then (some (.nrm [b,c,d,.b (!a.B),e,f,g,h,i,j,k,l,m,n,o,p,q,r,s,t,u,v,w,x,y,z])) else (some (.nrm [b,c,d,.b false,e,f,g,h,i,j,k,l,m,n,o,p,q,r,s,t,u,v,w,x,y,z]))) (ap26 s_l3Fits.d4))
def s_l3Fits.d6 (a b c d e f g h i j k l m n o p q r s t u v w:C):R:=(bindBlk 0 (lim (ap27 s_l3Fits.d2) [w,i,j,.i 0,.i 0,a,b,c,d,e,f,g,h,i,j,k,l,m,n,o,p,q,r,s,t,u,v]) (ap26 s_l3Fits.d5))
def s_l3Fits:List C→Option (List C):=fun xs=>finR (ap23 s_l3Fits.d6 xs)
def s_l3Fits_fs:FS:=⟨4,⟨[(0,z3),(1,z4),(2,z5),(3,zo)],[]⟩,⟨[(0,zi)],[]⟩,[],s_l3Fits⟩
theorem s_l3Fits_ok:FSOk Tryz.checked.prog T0 113 s_l3Fits_fs:=okOf base0 (fn:=Tryz.f113) (c:=Tryz.f113.body.getD .skip) s_l3Fits_fs (.seq .leaf (.seq .leaf (.seq .leaf (.seq .leaf (.seq (.seq .leaf (.block ⟨[(3,zo),(4,(.pt 4 0)),(5,(.pt 5 0)),(6,(.pt 6 0)),(9,zi),(10,zi),(11,zi)],[(4,z0),(5,z1),(6,z2)]⟩ (.loop ⟨[(3,zo),(4,(.pt 4 0)),(5,(.pt 5 0)),(6,(.pt 6 0)),(9,zi),(10,zi),(11,zi),(12,zi)],[(4,z0),(5,z1),(6,z2)]⟩ (.seq .leaf (.seq (.skip (.seq .leaf (.seq (.join ⟨[(3,zo),(4,(.pt 4 0)),(5,(.pt 5 0)),(6,(.pt 6 0)),(9,zi),(10,zi),(11,zi),(12,zi),(13,(.pt 13 0)),(41,zo)],[(4,z0),(5,z1),(6,z2),(13,z1)]⟩ .leaf) .leaf))) .leaf))))) (.seq (.skip (.seq (.join ⟨[(4,(.pt 4 0)),(5,(.pt 5 0)),(6,(.pt 6 0)),(9,zi),(10,zi),(11,zi),(52,zo)],[(4,z0),(5,z1),(6,z2)]⟩ .leaf) (.cond .leaf (.seq (.join ⟨[(4,(.pt 4 0)),(5,(.pt 5 0)),(6,(.pt 6 0)),(9,zi),(10,zi),(11,zi),(59,zo)],[(4,z0),(5,z1),(6,z2)]⟩ .leaf) .leaf)))) .leaf)))))) [(141,some 74,s_l3Select_fs),(142,some 80,s_l3Together_fs),(143,some 85,s_l3Far_fs)] (.cons s_l3Select_ok (.cons s_l3Together_ok (.cons s_l3Far_ok .nil))) (by kernel_rfl) (by kernel_rfl) (by kernel_rfl) (fun xs=>by kernel_rfl)
def s_l6Victims.d1 (a b c d e f g h i j k l m n o p q r s t u v w x:C):R:=(bif (decide (a.I<(e.L.length:Int))) then (bif (decide (0≤a.I)) then (bif (decide (a.I<(e.L.length:Int))) then (bif ((((e.L.getD a.I.toNat []).getD 11 .nil).S).toList==r.S.toList) then (bif (decide (0≤a.I)) then (bif (decide (a.I<(e.L.length:Int))) then (bif (decide (((e.L.getD a.I.toNat []).getD 2 .nil).I<h.I)) then (bif (decide (0≤a.I)) then (bif (decide (a.I<(e.L.length:Int))) then (bif (decide (x.L.length+(rows [[((e.L.getD a.I.toNat []).getD 0 .nil)]]).length≤4294967296)) then (some (.again [.i (w64 (a.I+1)),b,c,d,e,f,g,h,i,j,k,l,m,n,o,p,q,r,s,t,u,v,w,.l (x.L++(rows [[((e.L.getD a.I.toNat []).getD 0 .nil)]]))])) else none) else none) else none) else (some (.again [.i (w64 (a.I+1)),b,c,d,e,f,g,h,i,j,k,l,m,n,o,p,q,r,s,t,u,v,w,.l x.L]))) else none) else none) else (some (.again [.i (w64 (a.I+1)),b,c,d,e,f,g,h,i,j,k,l,m,n,o,p,q,r,s,t,u,v,w,.l x.L]))) else none) else none) else (some (.brk 0 [b,c,d,e,f,g,h,i,j,k,l,m,n,o,p,q,r,s,t,u,v,w,.l x.L])))
def s_l6Victims.d2 (a b c d e f g h i j k l m n o p q r s t u v w x y z a0 a1:C):R:=(bif (decide (c.I<(z.L.length:Int))) then (bif (decide (0≤c.I)) then (bif (((b.I.fdiv (2^(min c.I.toNat 64))).tmod 2)==1) then (bif (decide (0≤c.I)) then (bif (decide (c.I<(z.L.length:Int))) then (bif (decide (a1.L.length+(rows [[((z.L.getD c.I.toNat []).getD 0 .nil)]]).length≤4294967296)) then (some (.again [a,b,.i (w64 (c.I+1)),d,e,f,g,h,i,j,k,l,m,n,o,p,q,r,s,t,u,v,w,x,y,.l z.L,.l a0.L,.l (a1.L++(rows [[((z.L.getD c.I.toNat []).getD 0 .nil)]]))])) else none) else none) else none) else (some (.again [a,b,.i (w64 (c.I+1)),d,e,f,g,h,i,j,k,l,m,n,o,p,q,r,s,t,u,v,w,x,y,.l z.L,.l a0.L,.l a1.L]))) else none) else (some (.brk 4 [a,b,d,e,f,g,h,i,j,k,l,m,n,o,p,q,r,s,t,u,v,w,x,y,.l z.L,.l a0.L,.l a1.L])))
def s_l6Victims.d3 (a b c d e f g h i j k l m n o p q r s t u v w x y z a0:C):R:=(call1 (s_l6MayGo [c,d,e,f,.l a0.L]) fun a1=>(bif a1.B then (call4 (s_l6Without [c,d,e,f,.l a0.L]) fun a2 a3 a4 a5=>(call1 (s_l3Fits [a2,.l a3.L,.l a4.L,.l a5.L,g,h,i,j,k,l,m,n,o,p,q,r,s,t,u,v,w,x,.b false]) fun a6=>(bif (a6.I==0) then (some (.brk 3 [.b true,b,c,d,e,f,g,h,i,j,k,l,m,n,o,p,q,r,s,t,u,v,w,x,.l y.L,.l a0.L])) else (some (.brk 3 [a,b,c,d,e,f,g,h,i,j,k,l,m,n,o,p,q,r,s,t,u,v,w,x,.l y.L,.l z.L]))))) else (some (.brk 3 [a,b,c,d,e,f,g,h,i,j,k,l,m,n,o,p,q,r,s,t,u,v,w,x,.l y.L,.l z.L]))))
def s_l6Victims.d4 (a b c d e f g h i j k l m n o p q r s t u v w x y z a0:C):R:=(bindNrm (bif a.B then (call1 (s_l6Harm [c,d,e,f,.l a0.L]) fun a1=>(call1 (s_l6Harm [c,d,e,f,.l z.L]) fun a2=>(call1 (s_PilotLess [.l a2.L,.l a1.L]) fun a3=>(bif (!a3.B) then (call1 (s_PilotLess [.l a1.L,.l a2.L]) fun a4=>(bif (!a4.B) then (call1 (s_l6Names [.l a0.L,.l z.L]) fun a5=>(bif (!a5.B) then (some (.brk 3 [a,b,c,d,e,f,g,h,i,j,k,l,m,n,o,p,q,r,s,t,u,v,w,x,.l y.L,.l z.L])) else (some (.nrm [a,b,c,d,e,f,g,h,i,j,k,l,m,n,o,p,q,r,s,t,u,v,w,x,.l y.L,.l z.L,.l a0.L])))) else (some (.nrm [a,b,c,d,e,f,g,h,i,j,k,l,m,n,o,p,q,r,s,t,u,v,w,x,.l y.L,.l z.L,.l a0.L])))) else (some (.brk 3 [a,b,c,d,e,f,g,h,i,j,k,l,m,n,o,p,q,r,s,t,u,v,w,x,.l y.L,.l z.L])))))) else (some (.nrm [a,b,c,d,e,f,g,h,i,j,k,l,m,n,o,p,q,r,s,t,u,v,w,x,.l y.L,.l z.L,.l a0.L]))) (ap27 s_l6Victims.d3))
def s_l6Victims.d5 (a b c d e f g h i j k l m n o p q r s t u v w x y z:C):R:=(some (.again [a,.i (w64 (b.I+1)),c,d,e,f,g,h,i,j,k,l,m,n,o,p,q,r,s,t,u,v,w,x,.l y.L,.l z.L]))
def s_l6Victims.d6 (a b c d e f g h i j k l m n o p q r s t u v w x y z:C):R:=(bif (decide (0≤(y.L.length:Int))) then (bif (decide (b.I<(w64 (1*2^(min (y.L.length:Int).toNat 64))))) then (bindBlk 3 (bindBlk 4 (lim (ap28 s_l6Victims.d2) [a,b,.i 0,c,d,e,f,g,h,i,j,k,l,m,n,o,p,q,r,s,t,u,v,w,x,.l y.L,.l z.L,.l nils]) (ap27 s_l6Victims.d4)) (ap26 s_l6Victims.d5)) else (some (.brk 2 [a,.l z.L]))) else none)
def s_l6Victims.d7 (a b:C):R:=(some (.ret [.b a.B,.l b.L]))
def s_l6Victims.d8 (a b c d e f g h i j k l m n o p q r s t u v w:C):R:=(bindBlk 2 (lim (ap26 s_l6Victims.d6) [.b false,.i 0,a,b,c,d,e,f,g,h,i,j,k,l,m,n,o,p,q,r,s,t,u,v,.l w.L,.l nils]) (ap2 s_l6Victims.d7))
def s_l6Victims.d9 (a b c d e f g h i j k l m n o p q r s t u v:C):R:=(bindBlk 0 (lim (ap24 s_l6Victims.d1) [.i 0,a,b,c,d,e,f,g,h,i,j,k,l,m,n,o,p,q,r,s,t,u,v,.l nils]) (ap23 s_l6Victims.d8))
def s_l6Victims:List C→Option (List C):=fun xs=>finR (ap22 s_l6Victims.d9 xs)
def s_l6Victims_fs:FS:=⟨3,⟨[(0,z3),(1,z4),(2,z5)],[]⟩,⟨[(0,(.tu [(.ow 3000),zo]))],[(3000,.arr 9 1)]⟩,[],s_l6Victims⟩
theorem s_l6Victims_ok:FSOk Tryz.checked.prog T0 74 s_l6Victims_fs:=okOf base0 (fn:=Tryz.f74) (c:=Tryz.f74.body.getD .skip) s_l6Victims_fs (.seq .leaf (.seq .leaf (.seq (.seq .leaf (.block ⟨[(3,(.pt 3 0)),(4,(.pt 4 0)),(5,(.pt 5 0)),(8,(.ow 17))],[(3,z0),(4,z1),(5,z2),(17,.arr 9 1)]⟩ (.loop ⟨[(3,(.pt 3 0)),(4,(.pt 4 0)),(5,(.pt 5 0)),(8,(.ow 17)),(9,zi)],[(3,z0),(4,z1),(5,z2),(17,.arr 9 1)]⟩ .leaf))) (.seq .leaf (.seq .leaf (.seq (.seq .leaf (.block ⟨[(10,(.ow 54)),(11,zo)],[(54,.arr 9 1)]⟩ (.loop ⟨[(3,(.pt 3 0)),(4,(.pt 4 0)),(5,(.pt 5 0)),(8,(.ow 17)),(10,(.ow 54)),(11,zo),(12,zi)],[(3,z0),(4,z1),(5,z2),(17,.arr 9 1),(54,.arr 9 1)]⟩ (.seq .leaf (.seq (.block ⟨[(3,(.pt 3 0)),(4,(.pt 4 0)),(5,(.pt 5 0)),(8,(.ow 17)),(10,(.ow 54)),(11,zo),(12,zi)],[(3,z0),(4,z1),(5,z2),(17,.arr 9 1),(54,.arr 9 1)]⟩ (.seq .leaf (.seq (.seq .leaf (.block ⟨[(3,(.pt 3 0)),(4,(.pt 4 0)),(5,(.pt 5 0)),(8,(.ow 17)),(10,(.ow 54)),(11,zo),(12,zi),(13,(.ow 62))],[(3,z0),(4,z1),(5,z2),(17,.arr 9 1),(54,.arr 9 1),(62,.arr 9 1)]⟩ (.loop ⟨[(3,(.pt 3 0)),(4,(.pt 4 0)),(5,(.pt 5 0)),(8,(.ow 17)),(10,(.ow 54)),(11,zo),(12,zi),(13,(.ow 62)),(14,zi)],[(3,z0),(4,z1),(5,z2),(17,.arr 9 1),(54,.arr 9 1),(62,.arr 9 1)]⟩ .leaf))) (.seq (.join ⟨[(3,(.pt 3 0)),(4,(.pt 4 0)),(5,(.pt 5 0)),(8,(.ow 17)),(10,(.ow 54)),(11,zo),(12,zi),(13,(.ow 62))],[(3,z0),(4,z1),(5,z2),(17,.arr 9 1),(54,.arr 9 1),(62,.arr 9 1)]⟩ .leaf) .leaf)))) .leaf))))) .leaf)))))) [(109,some 84,s_l6Harm_fs),(109,some 87,s_l6Harm_fs),(110,some 90,s_PilotLess_fs),(110,some 94,s_PilotLess_fs),(111,some 99,s_l6Names_fs),(112,some 105,s_l6MayGo_fs),(113,some 112,s_l3Fits_fs),(114,some 109,s_l6Without_fs)] (.cons s_l6Harm_ok (.cons s_l6Harm_ok (.cons s_PilotLess_ok (.cons s_PilotLess_ok (.cons s_l6Names_ok (.cons s_l6MayGo_ok (.cons s_l3Fits_ok (.cons s_l6Without_ok .nil)))))))) (by kernel_rfl) (by kernel_rfl) (by kernel_rfl) (fun xs=>by kernel_rfl)
def s_PilotVictims.d1 (a b c d e f:C):R:=(call1 (s_l2Copy [a,b,c,d,e]) fun g=>(call1 (s_l2Berth [a,b,c,d,f]) fun h=>(call1 (s_PilotValid [a,b,c,d]) fun i=>(bif (!(!i.B)) then (bif (!(decide (g.I<0))) then (bif (!(decide (h.I<0))) then (bif (decide (0≤g.I)) then (bif (decide (g.I<(d.L.length:Int))) then (bif (!((((d.L.getD g.I.toNat []).getD 11 .nil).S).toList==(bs #[]).toList)) then (some (.ret [.b false,.l nils])) else (bif (decide (0≤g.I)) then (bif (decide (g.I<(d.L.length:Int))) then (bif (decide (0≤h.I)) then (bif (decide (h.I<(b.L.length:Int))) then (call2 (s_l6Victims [a,b,c,d,((d.L.getD g.I.toNat []).getD 0 .nil),((d.L.getD g.I.toNat []).getD 1 .nil),((d.L.getD g.I.toNat []).getD 2 .nil),((d.L.getD g.I.toNat []).getD 3 .nil),((d.L.getD g.I.toNat []).getD 4 .nil),((d.L.getD g.I.toNat []).getD 5 .nil),((d.L.getD g.I.toNat []).getD 6 .nil),((d.L.getD g.I.toNat []).getD 7 .nil),((d.L.getD g.I.toNat []).getD 8 .nil),((d.L.getD g.I.toNat []).getD 9 .nil),((d.L.getD g.I.toNat []).getD 10 .nil),((d.L.getD g.I.toNat []).getD 11 .nil),((b.L.getD h.I.toNat []).getD 0 .nil),((b.L.getD h.I.toNat []).getD 1 .nil),((b.L.getD h.I.toNat []).getD 2 .nil),((b.L.getD h.I.toNat []).getD 3 .nil),((b.L.getD h.I.toNat []).getD 4 .nil),((b.L.getD h.I.toNat []).getD 5 .nil)]) fun j k=>(some (.ret [.b j.B,.l k.L]))) else none) else none) else none) else none)) else none) else none) else (some (.ret [.b false,.l nils]))) else (some (.ret [.b false,.l nils]))) else (some (.ret [.b false,.l nils]))))))
def s_PilotVictims:List C→Option (List C):=fun xs=>finR (ap6 s_PilotVictims.d1 xs)
def s_PilotVictims_fs:FS:=⟨3,⟨[(0,z3),(1,zt),(2,zt)],[]⟩,⟨[(0,(.tu [(.ow 3000),zo]))],[(3000,.arr 9 1)]⟩,[],s_PilotVictims⟩
theorem s_PilotVictims_ok:FSOk Tryz.checked.prog T0 22 s_PilotVictims_fs:=okOf base0 (fn:=Tryz.f22) (c:=Tryz.f22.body.getD .skip) s_PilotVictims_fs .leaf [(32,some 17,s_PilotValid_fs),(69,some 12,s_l2Copy_fs),(73,some 15,s_l2Berth_fs),(74,some 48,s_l6Victims_fs)] (.cons s_PilotValid_ok (.cons s_l2Copy_ok (.cons s_l2Berth_ok (.cons s_l6Victims_ok .nil)))) (by kernel_rfl) (by kernel_rfl) (by kernel_rfl) (fun xs=>by kernel_rfl)
def i_pCopyAt_1.d1 (a b c d e f g h i j k l m:C):R:=(bif m.isP then (some (.ret [.b (a.S.toList==((m.P.getD 0 .nil).S).toList)])) else none)
def i_pCopyAt_1:List C→Option (List C):=fun xs=>finR (ap13 i_pCopyAt_1.d1 xs)
def i_pCopyAt_1_fs:FS:=⟨2,⟨[(0,z4),(1,(.d (.pt 9)))],[]⟩,⟨[(0,zo)],[]⟩,[],i_pCopyAt_1⟩
theorem i_pCopyAt_1_ok:FSOk Tryz.checked.prog T0 98 i_pCopyAt_1_fs:=okOf base0 (fn:=Tryz.f98) (c:=Tryz.f98.body.getD .skip) i_pCopyAt_1_fs .leaf [] .nil (by kernel_rfl) (by kernel_rfl) (by kernel_rfl) (fun xs=>by kernel_rfl)
def slices_IndexFunc_PilotCopy.d1 (a b c d:C):R:=(bif (decide (d.I<c.I)) then (bif (decide (0≤d.I)) then (bif (decide (d.I<(a.L.length:Int))) then (call1 (i_pCopyAt_1 [((a.L.getD d.I.toNat []).getD 0 .nil),((a.L.getD d.I.toNat []).getD 1 .nil),((a.L.getD d.I.toNat []).getD 2 .nil),((a.L.getD d.I.toNat []).getD 3 .nil),((a.L.getD d.I.toNat []).getD 4 .nil),((a.L.getD d.I.toNat []).getD 5 .nil),((a.L.getD d.I.toNat []).getD 6 .nil),((a.L.getD d.I.toNat []).getD 7 .nil),((a.L.getD d.I.toNat []).getD 8 .nil),((a.L.getD d.I.toNat []).getD 9 .nil),((a.L.getD d.I.toNat []).getD 10 .nil),((a.L.getD d.I.toNat []).getD 11 .nil),b]) fun e=>(bif e.B then (some (.ret [d])) else (some (.again [a,b,c,.i (w64 (d.I+1))])))) else none) else none) else (some (.brk 0 [])))
def slices_IndexFunc_PilotCopy.d2:R:=(some (.ret [.i (-1)]))
def slices_IndexFunc_PilotCopy.d3 (a b:C):R:=(bindBlk 0 (lim (ap4 slices_IndexFunc_PilotCopy.d1) [a,b,.i (a.L.length:Int),.i 0]) (fun xs=>slices_IndexFunc_PilotCopy.d2))
def slices_IndexFunc_PilotCopy:List C→Option (List C):=fun xs=>finR (ap2 slices_IndexFunc_PilotCopy.d3 xs)
def slices_IndexFunc_PilotCopy_fs:FS:=⟨2,⟨[(0,(zl 48)),(1,(.fn 98 [(.d (.pt 9))]))],[]⟩,⟨[(0,zi)],[]⟩,[],slices_IndexFunc_PilotCopy⟩
theorem slices_IndexFunc_PilotCopy_ok:FSOk Tryz.checked.prog T0 50 slices_IndexFunc_PilotCopy_fs:=okOf base0 (fn:=Tryz.f50) (c:=Tryz.f50.body.getD .skip) slices_IndexFunc_PilotCopy_fs (.seq .leaf (.seq (.seq .leaf (.block ⟨[],[]⟩ (.loop ⟨[(0,(zl 48)),(1,(.fn 98 [(.d (.pt 9))])),(7,zi),(8,zi)],[]⟩ .leaf))) .leaf)) [(98,some 16,i_pCopyAt_1_fs)] (.cons i_pCopyAt_1_ok .nil) (by kernel_rfl) (by kernel_rfl) (by kernel_rfl) (fun xs=>by kernel_rfl)
def i_pCopyAt.d1 (a b c d e:C):R:=(call1 (slices_IndexFunc_PilotCopy [d,.p [e]]) fun f=>(some (.ret [f])))
def i_pCopyAt:List C→Option (List C):=fun xs=>finR (ap5 i_pCopyAt.d1 xs)
def i_pCopyAt_fs:FS:=⟨2,⟨[(0,z3),(1,zt)],[]⟩,⟨[(0,zi)],[]⟩,[],i_pCopyAt⟩
theorem i_pCopyAt_ok:FSOk Tryz.checked.prog T0 49 i_pCopyAt_fs:=okOf base0 (fn:=Tryz.f49) (c:=Tryz.f49.body.getD .skip) i_pCopyAt_fs .leaf [(50,some 8,slices_IndexFunc_PilotCopy_fs)] (.cons slices_IndexFunc_PilotCopy_ok .nil) (by kernel_rfl) (by kernel_rfl) (by kernel_rfl) (fun xs=>by kernel_rfl)
def i_pBerthAt_1.d1 (a b c d e f g:C):R:=(bif g.isP then (some (.ret [.b (a.S.toList==((g.P.getD 0 .nil).S).toList)])) else none)
def i_pBerthAt_1:List C→Option (List C):=fun xs=>finR (ap7 i_pBerthAt_1.d1 xs)
def i_pBerthAt_1_fs:FS:=⟨2,⟨[(0,z5),(1,(.d (.pt 9)))],[]⟩,⟨[(0,zo)],[]⟩,[],i_pBerthAt_1⟩
theorem i_pBerthAt_1_ok:FSOk Tryz.checked.prog T0 95 i_pBerthAt_1_fs:=okOf base0 (fn:=Tryz.f95) (c:=Tryz.f95.body.getD .skip) i_pBerthAt_1_fs .leaf [] .nil (by kernel_rfl) (by kernel_rfl) (by kernel_rfl) (fun xs=>by kernel_rfl)
def slices_IndexFunc_PilotBerth.d1 (a b c d:C):R:=(bif (decide (d.I<c.I)) then (bif (decide (0≤d.I)) then (bif (decide (d.I<(a.L.length:Int))) then (call1 (i_pBerthAt_1 [((a.L.getD d.I.toNat []).getD 0 .nil),((a.L.getD d.I.toNat []).getD 1 .nil),((a.L.getD d.I.toNat []).getD 2 .nil),((a.L.getD d.I.toNat []).getD 3 .nil),((a.L.getD d.I.toNat []).getD 4 .nil),((a.L.getD d.I.toNat []).getD 5 .nil),b]) fun e=>(bif e.B then (some (.ret [d])) else (some (.again [a,b,c,.i (w64 (d.I+1))])))) else none) else none) else (some (.brk 0 [])))
def slices_IndexFunc_PilotBerth.d2:R:=(some (.ret [.i (-1)]))
def slices_IndexFunc_PilotBerth.d3 (a b:C):R:=(bindBlk 0 (lim (ap4 slices_IndexFunc_PilotBerth.d1) [a,b,.i (a.L.length:Int),.i 0]) (fun xs=>slices_IndexFunc_PilotBerth.d2))
def slices_IndexFunc_PilotBerth:List C→Option (List C):=fun xs=>finR (ap2 slices_IndexFunc_PilotBerth.d3 xs)
def slices_IndexFunc_PilotBerth_fs:FS:=⟨2,⟨[(0,(zl 45)),(1,(.fn 95 [(.d (.pt 9))]))],[]⟩,⟨[(0,zi)],[]⟩,[],slices_IndexFunc_PilotBerth⟩
theorem slices_IndexFunc_PilotBerth_ok:FSOk Tryz.checked.prog T0 44 slices_IndexFunc_PilotBerth_fs:=okOf base0 (fn:=Tryz.f44) (c:=Tryz.f44.body.getD .skip) slices_IndexFunc_PilotBerth_fs (.seq .leaf (.seq (.seq .leaf (.block ⟨[],[]⟩ (.loop ⟨[(0,(zl 45)),(1,(.fn 95 [(.d (.pt 9))])),(7,zi),(8,zi)],[]⟩ .leaf))) .leaf)) [(95,some 16,i_pBerthAt_1_fs)] (.cons i_pBerthAt_1_ok .nil) (by kernel_rfl) (by kernel_rfl) (by kernel_rfl) (fun xs=>by kernel_rfl)
def i_pBerthAt.d1 (a b c d e:C):R:=(call1 (slices_IndexFunc_PilotBerth [b,.p [e]]) fun f=>(some (.ret [f])))
def i_pBerthAt:List C→Option (List C):=fun xs=>finR (ap5 i_pBerthAt.d1 xs)
def i_pBerthAt_fs:FS:=⟨2,⟨[(0,z3),(1,zt)],[]⟩,⟨[(0,zi)],[]⟩,[],i_pBerthAt⟩
theorem i_pBerthAt_ok:FSOk Tryz.checked.prog T0 43 i_pBerthAt_fs:=okOf base0 (fn:=Tryz.f43) (c:=Tryz.f43.body.getD .skip) i_pBerthAt_fs .leaf [(44,some 8,slices_IndexFunc_PilotBerth_fs)] (.cons slices_IndexFunc_PilotBerth_ok .nil) (by kernel_rfl) (by kernel_rfl) (by kernel_rfl) (fun xs=>by kernel_rfl)
def i_pByte.d1 (a:C):R:=(bif (decide (a.I≥97)) then (bif (!(decide (a.I≤122))) then (bif (decide (a.I≥48)) then (bif (!(decide (a.I≤57))) then (bif (!(a.I==45)) then (some (.ret [.b (a.I==95)])) else (some (.ret [.b true]))) else (some (.ret [.b true]))) else (bif (!(a.I==45)) then (some (.ret [.b (a.I==95)])) else (some (.ret [.b true])))) else (some (.ret [.b true]))) else (bif (decide (a.I≥48)) then (bif (!(decide (a.I≤57))) then (bif (!(a.I==45)) then (some (.ret [.b (a.I==95)])) else (some (.ret [.b true]))) else (some (.ret [.b true]))) else (bif (!(a.I==45)) then (some (.ret [.b (a.I==95)])) else (some (.ret [.b true])))))
def i_pByte:List C→Option (List C):=fun xs=>finR (ap1 i_pByte.d1 xs)
def i_pByte_fs:FS:=⟨1,⟨[(0,(.d (.int .u8)))],[]⟩,⟨[(0,zo)],[]⟩,[],i_pByte⟩
theorem i_pByte_ok:FSOk Tryz.checked.prog T0 128 i_pByte_fs:=okOf base0 (fn:=Tryz.f128) (c:=Tryz.f128.body.getD .skip) i_pByte_fs .leaf [] .nil (by kernel_rfl) (by kernel_rfl) (by kernel_rfl) (fun xs=>by kernel_rfl)
def i_pName.d1 (a b c:C):R:=(bif (decide (c.I<b.I)) then (bif (decide (0≤c.I)) then (bif (decide (c.I<(a.S.size:Int))) then (call1 (i_pByte [.i ((a.S.data.getD c.I.toNat 0).toNat:Int)]) fun d=>(bif (!d.B) then (some (.ret [.b false])) else (some (.again [a,b,.i (w64 (c.I+1))])))) else none) else none) else (some (.brk 0 [])))
def i_pName.d2:R:=(some (.ret [.b true]))
def i_pName.d3 (a:C):R:=(bif (!(decide ((a.S.size:Int)<1))) then (bif (decide ((a.S.size:Int)>20)) then (some (.ret [.b false])) else (bindBlk 0 (lim (ap3 i_pName.d1) [a,.i (a.S.size:Int),.i 0]) (fun xs=>i_pName.d2))) else (some (.ret [.b false])))
def i_pName:List C→Option (List C):=fun xs=>finR (ap1 i_pName.d3 xs)
def i_pName_fs:FS:=⟨1,⟨[(0,zt)],[]⟩,⟨[(0,zo)],[]⟩,[],i_pName⟩
theorem i_pName_ok:FSOk Tryz.checked.prog T0 91 i_pName_fs:=okOf base0 (fn:=Tryz.f91) (c:=Tryz.f91.body.getD .skip) i_pName_fs (.seq .leaf (.seq .leaf (.seq (.seq .leaf (.block ⟨[],[]⟩ (.loop ⟨[(0,zt),(13,zi),(14,zi)],[]⟩ .leaf))) .leaf))) [(128,some 20,i_pByte_fs)] (.cons i_pByte_ok .nil) (by kernel_rfl) (by kernel_rfl) (by kernel_rfl) (fun xs=>by kernel_rfl)
def i_within.d1 (a b c:C):R:=(bif (decide (a.I≥b.I)) then (some (.ret [.b (decide (a.I≤c.I))])) else (some (.ret [.b false])))
def i_within:List C→Option (List C):=fun xs=>finR (ap3 i_within.d1 xs)
def i_within_fs:FS:=⟨3,⟨[(0,zi),(1,zi),(2,zi)],[]⟩,⟨[(0,zo)],[]⟩,[],i_within⟩
theorem i_within_ok:FSOk Tryz.checked.prog T0 92 i_within_fs:=okOf base0 (fn:=Tryz.f92) (c:=Tryz.f92.body.getD .skip) i_within_fs .leaf [] .nil (by kernel_rfl) (by kernel_rfl) (by kernel_rfl) (fun xs=>by kernel_rfl)
def internal_stringslite_IndexByte:List C→Option (List C):=ibF
def internal_stringslite_IndexByte_fs:FS:=⟨2,⟨[(0,.d .str),(1,.d (.int .u8))],[]⟩,⟨[(0,.d (.int .i64))],[]⟩,[],internal_stringslite_IndexByte⟩
theorem internal_stringslite_IndexByte_ok:FSOk Tryz.checked.prog T0 227 internal_stringslite_IndexByte_fs:=ib_ok
def internal_stringslite_Index.d1 (a b c d:C):R:=(bif d.B then (some (.ret [.i 0])) else (bif (c.I==1) then (bif (decide (0<(b.S.size:Int))) then (call1 (internal_stringslite_IndexByte [a,.i ((b.S.data.getD 0 0).toNat:Int)]) fun e=>(some (.ret [e]))) else none) else (bif (decide (c.I≥(a.S.size:Int))) then (some (.ret [.i (-1)])) else none)))
def internal_stringslite_Index.d2 (a b:C):R:=(bindNrm (bif (!((b.S.size:Int)==0)) then (some (.nrm [a,b,.i (b.S.size:Int),.b (b.S.toList==a.S.toList)])) else (some (.nrm [a,b,.i (b.S.size:Int),.b true]))) (ap4 internal_stringslite_Index.d1))
def internal_stringslite_Index:List C→Option (List C):=fun xs=>finR (ap2 internal_stringslite_Index.d2 xs)
def internal_stringslite_Index_fs:FS:=⟨2,⟨[(0,zt),(1,zt)],[]⟩,⟨[(0,zi)],[]⟩,[],internal_stringslite_Index⟩
theorem internal_stringslite_Index_ok:FSOk Tryz.checked.prog T0 215 internal_stringslite_Index_fs:=okOf base0 (fn:=Tryz.f215) (c:=Tryz.f215.body.getD .skip) internal_stringslite_Index_fs (.seq .leaf (.seq .leaf (.seq (.skip (.seq (.join ⟨[(0,zt),(1,zt),(5,zi),(16,zo)],[]⟩ .leaf) .leaf)) .leaf))) [(227,some 30,internal_stringslite_IndexByte_fs)] (.cons internal_stringslite_IndexByte_ok .nil) (by kernel_rfl) (by kernel_rfl) (by kernel_rfl) (fun xs=>by kernel_rfl)
def internal_stringslite_Cut.d1 (a b:C):R:=(call1 (internal_stringslite_Index [a,b]) fun c=>(bif (decide (c.I≥0)) then (bif (decide (0≤c.I)) then (bif (decide (c.I≤(a.S.size:Int))) then (bif (decide (0≤(w64 (c.I+(b.S.size:Int))))) then (bif (decide ((w64 (c.I+(b.S.size:Int)))≤(a.S.size:Int))) then (bif (decide ((a.S.size:Int)≤(a.S.size:Int))) then (some (.ret [.s (a.S.extract 0 c.I.toNat),.s (a.S.extract (w64 (c.I+(b.S.size:Int))).toNat (a.S.size:Int).toNat),.b true])) else none) else none) else none) else none) else none) else (some (.ret [a,.s (bs #[]),.b false]))))
def internal_stringslite_Cut:List C→Option (List C):=fun xs=>finR (ap2 internal_stringslite_Cut.d1 xs)
def internal_stringslite_Cut_fs:FS:=⟨2,⟨[(0,zt),(1,zt)],[]⟩,⟨[(0,(.tu [zt,zt,zo]))],[]⟩,[],internal_stringslite_Cut⟩
theorem internal_stringslite_Cut_ok:FSOk Tryz.checked.prog T0 184 internal_stringslite_Cut_fs:=okOf base0 (fn:=Tryz.f184) (c:=Tryz.f184.body.getD .skip) internal_stringslite_Cut_fs .leaf [(215,some 10,internal_stringslite_Index_fs)] (.cons internal_stringslite_Index_ok .nil) (by kernel_rfl) (by kernel_rfl) (by kernel_rfl) (fun xs=>by kernel_rfl)
def strings_Cut.d1 (a b:C):R:=(call3 (internal_stringslite_Cut [a,b]) fun c d e=>(some (.ret [c,d,.b e.B])))
def strings_Cut:List C→Option (List C):=fun xs=>finR (ap2 strings_Cut.d1 xs)
def strings_Cut_fs:FS:=⟨2,⟨[(0,zt),(1,zt)],[]⟩,⟨[(0,(.tu [zt,zt,zo]))],[]⟩,[],strings_Cut⟩
theorem strings_Cut_ok:FSOk Tryz.checked.prog T0 154 strings_Cut_fs:=okOf base0 (fn:=Tryz.f154) (c:=Tryz.f154.body.getD .skip) strings_Cut_fs .leaf [(184,some 9,internal_stringslite_Cut_fs)] (.cons internal_stringslite_Cut_ok .nil) (by kernel_rfl) (by kernel_rfl) (by kernel_rfl) (fun xs=>by kernel_rfl)
def i_pMark.d1 (a:C):R:=(call3 (strings_Cut [a,.s (bs #[61])]) fun b c d=>(call1 (i_pName [b]) fun e=>(bif e.B then (bif (!(!d.B)) then (call1 (i_pName [c]) fun f=>(some (.ret [b,c,.b f.B]))) else (some (.ret [b,c,.b true]))) else (some (.ret [b,c,.b false])))))
def i_pMark:List C→Option (List C):=fun xs=>finR (ap1 i_pMark.d1 xs)
def i_pMark_fs:FS:=⟨1,⟨[(0,zt)],[]⟩,⟨[(0,(.tu [zt,zt,zo]))],[]⟩,[],i_pMark⟩
theorem i_pMark_ok:FSOk Tryz.checked.prog T0 127 i_pMark_fs:=okOf base0 (fn:=Tryz.f127) (c:=Tryz.f127.body.getD .skip) i_pMark_fs .leaf [(91,some 17,i_pName_fs),(91,some 23,i_pName_fs),(154,some 10,strings_Cut_fs)] (.cons i_pName_ok (.cons i_pName_ok (.cons strings_Cut_ok .nil))) (by kernel_rfl) (by kernel_rfl) (by kernel_rfl) (fun xs=>by kernel_rfl)
def i_pBerthOk.d1 (a b c d e f g h i j:C):R:=(bif (decide (c.I<b.I)) then (bif (decide (0≤c.I)) then (bif (decide (c.I<(a.L.length:Int))) then (call3 (i_pMark [((a.L.getD c.I.toNat []).getD 0 .nil)]) fun k l m=>(bif (!(!m.B)) then (bif (!((mget (.b false) k.S j.L).B)) then (bif (decide (c.I>0)) then (bif (decide (0≤(w64 (c.I-1)))) then (bif (decide ((w64 (c.I-1))<(f.L.length:Int))) then (bif ((Op.bytesLess (((a.L.getD c.I.toNat []).getD 0 .nil).S).toList (((f.L.getD (w64 (c.I-1)).toNat []).getD 0 .nil).S).toList)||((((a.L.getD c.I.toNat []).getD 0 .nil).S).toList==(((f.L.getD (w64 (c.I-1)).toNat []).getD 0 .nil).S).toList)) then (some (.ret [.b false])) else (some (.again [a,b,.i (w64 (c.I+1)),d,e,f,g,h,i,.l (mset k.S (.b true) j.L)]))) else none) else none) else (some (.again [a,b,.i (w64 (c.I+1)),d,e,f,g,h,i,.l (mset k.S (.b true) j.L)]))) else (some (.ret [.b false]))) else (some (.ret [.b false])))) else none) else none) else (some (.brk 0 [])))
def i_pBerthOk.d2:R:=(some (.ret [.b true]))
def i_pBerthOk.d3 (a b c d e f:C):R:=(call1 (i_pName [a]) fun g=>(bif (!(!g.B)) then (call1 (i_pName [b]) fun h=>(bif (!(!h.B)) then (bif (!(decide ((c.L.length:Int)>10))) then (call1 (i_within [d,.i 0,.i 1000]) fun i=>(bif (!(!i.B)) then (call1 (i_within [e,.i 0,.i 1000]) fun j=>(bif (!j.B) then (some (.ret [.b false])) else (bindBlk 0 (lim (ap10 i_pBerthOk.d1) [c,.i (c.L.length:Int),.i 0,a,b,c,d,e,f,.l nils]) (fun xs=>i_pBerthOk.d2)))) else (some (.ret [.b false])))) else (some (.ret [.b false]))) else (some (.ret [.b false])))) else (some (.ret [.b false]))))
def i_pBerthOk:List C→Option (List C):=fun xs=>finR (ap6 i_pBerthOk.d3 xs)
def i_pBerthOk_fs:FS:=⟨1,⟨[(0,z5)],[]⟩,⟨[(0,zo)],[]⟩,[],i_pBerthOk⟩
theorem i_pBerthOk_ok:FSOk Tryz.checked.prog T0 90 i_pBerthOk_fs:=okOf base0 (fn:=Tryz.f90) (c:=Tryz.f90.body.getD .skip) i_pBerthOk_fs (.seq .leaf (.seq .leaf (.seq .leaf (.seq (.seq .leaf (.block ⟨[],[]⟩ (.loop ⟨[(1,(.pt 1 0)),(3,(.mp 37)),(39,(zl 9)),(40,zi),(41,zi)],[(1,z2),(37,.mp 4)]⟩ .leaf))) .leaf)))) [(91,some 11,i_pName_fs),(91,some 16,i_pName_fs),(92,some 28,i_within_fs),(92,some 34,i_within_fs),(127,some 48,i_pMark_fs)] (.cons i_pName_ok (.cons i_pName_ok (.cons i_within_ok (.cons i_within_ok (.cons i_pMark_ok .nil))))) (by kernel_rfl) (by kernel_rfl) (by kernel_rfl) (fun xs=>by kernel_rfl)
def strings_trimRightByte.d1 (a b:C):R:=(bif (decide ((a.S.size:Int)>0)) then (bif (decide (0≤(w64 ((a.S.size:Int)-1)))) then (bif (decide ((w64 ((a.S.size:Int)-1))<(a.S.size:Int))) then (bif (((a.S.data.getD (w64 ((a.S.size:Int)-1)).toNat 0).toNat:Int)==b.I) then (bif (decide (0≤(w64 ((a.S.size:Int)-1)))) then (bif (decide ((w64 ((a.S.size:Int)-1))≤(a.S.size:Int))) then (some (.again [.s (a.S.extract 0 (w64 ((a.S.size:Int)-1)).toNat),b])) else none) else none) else (some (.brk 0 [a]))) else none) else none) else (some (.brk 0 [a])))
def strings_trimRightByte.d2 (a:C):R:=(some (.ret [a]))
def strings_trimRightByte.d3 (a b:C):R:=(bindBlk 0 (lim (ap2 strings_trimRightByte.d1) [a,b]) (ap1 strings_trimRightByte.d2))
def strings_trimRightByte:List C→Option (List C):=fun xs=>finR (ap2 strings_trimRightByte.d3 xs)
def strings_trimRightByte_fs:FS:=⟨2,⟨[(0,zt),(1,(.d (.int .u8)))],[]⟩,⟨[(0,zt)],[]⟩,[],strings_trimRightByte⟩
theorem strings_trimRightByte_ok:FSOk Tryz.checked.prog T0 186 strings_trimRightByte_fs:=okOf base0 (fn:=Tryz.f186) (c:=Tryz.f186.body.getD .skip) strings_trimRightByte_fs (.seq .leaf (.seq (.block ⟨[(0,zt)],[]⟩ (.loop ⟨[(0,zt),(1,(.d (.int .u8)))],[]⟩ .leaf)) .leaf)) [] .nil (by kernel_rfl) (by kernel_rfl) (by kernel_rfl) (fun xs=>by kernel_rfl)
def strings_trimLeftByte.d1 (a b:C):R:=(bif (decide ((a.S.size:Int)>0)) then (bif (decide (0<(a.S.size:Int))) then (bif (((a.S.data.getD 0 0).toNat:Int)==b.I) then (bif (decide (1≤(a.S.size:Int))) then (bif (decide ((a.S.size:Int)≤(a.S.size:Int))) then (some (.again [.s (a.S.extract 1 (a.S.size:Int).toNat),b])) else none) else none) else (some (.brk 0 [a]))) else none) else (some (.brk 0 [a])))
def strings_trimLeftByte.d2 (a:C):R:=(some (.ret [a]))
def strings_trimLeftByte.d3 (a b:C):R:=(bindBlk 0 (lim (ap2 strings_trimLeftByte.d1) [a,b]) (ap1 strings_trimLeftByte.d2))
def strings_trimLeftByte:List C→Option (List C):=fun xs=>finR (ap2 strings_trimLeftByte.d3 xs)
def strings_trimLeftByte_fs:FS:=⟨2,⟨[(0,zt),(1,(.d (.int .u8)))],[]⟩,⟨[(0,zt)],[]⟩,[],strings_trimLeftByte⟩
theorem strings_trimLeftByte_ok:FSOk Tryz.checked.prog T0 185 strings_trimLeftByte_fs:=okOf base0 (fn:=Tryz.f185) (c:=Tryz.f185.body.getD .skip) strings_trimLeftByte_fs (.seq .leaf (.seq (.block ⟨[(0,zt)],[]⟩ (.loop ⟨[(0,zt),(1,(.d (.int .u8)))],[]⟩ .leaf)) .leaf)) [] .nil (by kernel_rfl) (by kernel_rfl) (by kernel_rfl) (fun xs=>by kernel_rfl)
def strings_makeASCIISet.d1 (a:C):R:=none
def strings_makeASCIISet:List C→Option (List C):=fun xs=>finR (ap1 strings_makeASCIISet.d1 xs)
def strings_makeASCIISet_fs:FS:=⟨1,⟨[(0,zt)],[]⟩,⟨[],[]⟩,[],strings_makeASCIISet⟩
theorem strings_makeASCIISet_ok:FSOk Tryz.checked.prog T0 187 strings_makeASCIISet_fs:=okOf base0 (fn:=Tryz.f187) (c:=Tryz.f187.body.getD .skip) strings_makeASCIISet_fs .leaf [] .nil (by kernel_rfl) (by kernel_rfl) (by kernel_rfl) (fun xs=>by kernel_rfl)
end
end Go.Ev
namespace Go.Ev
open Go.Proofs
noncomputable section
def strings_Trim.d1 (a b:C):R:=(bindF (strings_makeASCIISet [b]) fun _=>none)
def strings_Trim.d2 (a b:C):R:=(bif (!(a.S.toList==(bs #[]).toList)) then (bif (b.S.toList==(bs #[]).toList) then (some (.ret [a])) else (bindNrm (bif ((b.S.size:Int)==1) then (bif (decide (0<(b.S.size:Int))) then (bif (decide (((b.S.data.getD 0 0).toNat:Int)<128)) then (bif (decide (0<(b.S.size:Int))) then (call1 (strings_trimRightByte [a,.i ((b.S.data.getD 0 0).toNat:Int)]) fun c=>(bif (decide (0<(b.S.size:Int))) then (call1 (strings_trimLeftByte [c,.i ((b.S.data.getD 0 0).toNat:Int)]) fun d=>(some (.ret [d]))) else none)) else none) else (some (.nrm [a,b]))) else none) else (some (.nrm [a,b]))) (ap2 strings_Trim.d1))) else (some (.ret [a])))
def strings_Trim:List C→Option (List C):=fun xs=>finR (ap2 strings_Trim.d2 xs)
def strings_Trim_fs:FS:=⟨2,⟨[(0,zt),(1,zt)],[]⟩,⟨[(0,zt)],[]⟩,[],strings_Trim⟩
theorem strings_Trim_ok:FSOk Tryz.checked.prog T0 155 strings_Trim_fs:=okOf base0 (fn:=Tryz.f155) (c:=Tryz.f155.body.getD .skip) strings_Trim_fs (.seq .leaf (.seq .leaf (.seq (.join ⟨[(0,zt),(1,zt)],[]⟩ .leaf) .leaf))) [(185,some 28,strings_trimLeftByte_fs),(186,some 25,strings_trimRightByte_fs),(187,some 31,strings_makeASCIISet_fs)] (.cons strings_trimLeftByte_ok (.cons strings_trimRightByte_ok (.cons strings_makeASCIISet_ok .nil))) (by kernel_rfl) (by kernel_rfl) (by kernel_rfl) (fun xs=>by kernel_rfl)
def i_pParser_gap.d1 (a b c:C):R:=(bif (decide (b.I<(a.S.size:Int))) then (bif (decide (0≤b.I)) then (bif (decide (b.I<(a.S.size:Int))) then (bif (((a.S.data.getD b.I.toNat 0).toNat:Int)==32) then (some (.again [a,.i (w64 (b.I+1)),c])) else (some (.brk 0 [a,b,c]))) else none) else none) else (some (.brk 0 [a,b,c])))
def i_pParser_gap.d2 (a b c:C):R:=(some (.ret [a,b,c]))
def i_pParser_gap.d3 (a b c:C):R:=(bindBlk 0 (lim (ap3 i_pParser_gap.d1) [a,b,c]) (ap3 i_pParser_gap.d2))
def i_pParser_gap:List C→Option (List C):=fun xs=>finR (ap3 i_pParser_gap.d3 xs)
def i_pParser_gap_fs:FS:=⟨1,⟨[(0,(.pt 2000 0))],[(2000,.var 187 [zt,zi,zo])]⟩,⟨[(0,(.tu []))],[(2000,.var 187 [zt,zi,zo])]⟩,[2000],i_pParser_gap⟩
theorem i_pParser_gap_ok:FSOk Tryz.checked.prog T0 157 i_pParser_gap_fs:=okOf base0 (fn:=Tryz.f157) (c:=Tryz.f157.body.getD .skip) i_pParser_gap_fs (.block ⟨[],[(2000,.var 187 [zt,zi,zo])]⟩ (.loop ⟨[(0,(.pt 2000 0))],[(2000,.var 187 [zt,zi,zo])]⟩ .leaf)) [] .nil (by kernel_rfl) (by kernel_rfl) (by kernel_rfl) (fun xs=>by kernel_rfl)
def i_pParser_take.d1 (a b c d:C):R:=(call3 (i_pParser_gap [b,c,d]) fun e f g=>(bif (decide (f.I<(e.S.size:Int))) then (bif (decide (0≤f.I)) then (bif (decide (f.I<(e.S.size:Int))) then (bif (((e.S.data.getD f.I.toNat 0).toNat:Int)==a.I) then (some (.ret [.b true,e,.i (w64 (f.I+1)),g])) else (some (.ret [.b false,e,f,g]))) else none) else none) else (some (.ret [.b false,e,f,g]))))
def i_pParser_take:List C→Option (List C):=fun xs=>finR (ap4 i_pParser_take.d1 xs)
def i_pParser_take_fs:FS:=⟨2,⟨[(0,(.pt 2000 0)),(1,(.d (.int .u8)))],[(2000,.var 187 [zt,zi,zo])]⟩,⟨[(0,zo)],[(2000,.var 187 [zt,zi,zo])]⟩,[2000],i_pParser_take⟩
theorem i_pParser_take_ok:FSOk Tryz.checked.prog T0 193 i_pParser_take_fs:=okOf base0 (fn:=Tryz.f193) (c:=Tryz.f193.body.getD .skip) i_pParser_take_fs .leaf [(157,some 6,i_pParser_gap_fs)] (.cons i_pParser_gap_ok .nil) (by kernel_rfl) (by kernel_rfl) (by kernel_rfl) (fun xs=>by kernel_rfl)
def i_pParser_name.d1 (a b c d:C):R:=(bif (decide (c.I<(b.S.size:Int))) then (bif (decide (0≤c.I)) then (bif (decide (c.I<(b.S.size:Int))) then (call1 (i_pByte [.i ((b.S.data.getD c.I.toNat 0).toNat:Int)]) fun e=>(bif e.B then (some (.again [a,b,.i (w64 (c.I+1)),d])) else (some (.brk 0 [a,b,c,d])))) else none) else none) else (some (.brk 0 [a,b,c,d])))
def i_pParser_name.d2 (a b c d:C):R:=(bif (decide (0≤a.I)) then (bif (decide (a.I≤c.I)) then (bif (decide (c.I≤(b.S.size:Int))) then (call1 (i_pName [.s (b.S.extract a.I.toNat c.I.toNat)]) fun e=>(bif (!e.B) then (bif (decide (0≤a.I)) then (bif (decide (a.I≤c.I)) then (bif (decide (c.I≤(b.S.size:Int))) then (some (.ret [.s (b.S.extract a.I.toNat c.I.toNat),b,c,.b false])) else none) else none) else none) else (bif (decide (0≤a.I)) then (bif (decide (a.I≤c.I)) then (bif (decide (c.I≤(b.S.size:Int))) then (some (.ret [.s (b.S.extract a.I.toNat c.I.toNat),b,c,d])) else none) else none) else none))) else none) else none) else none)
def i_pParser_name.d3 (a b c:C):R:=(call3 (i_pParser_gap [a,b,c]) fun d e f=>(bindBlk 0 (lim (ap4 i_pParser_name.d1) [e,d,e,f]) (ap4 i_pParser_name.d2)))
def i_pParser_name:List C→Option (List C):=fun xs=>finR (ap3 i_pParser_name.d3 xs)
def i_pParser_name_fs:FS:=⟨1,⟨[(0,(.pt 2000 0))],[(2000,.var 187 [zt,zi,zo])]⟩,⟨[(0,zt)],[(2000,.var 187 [zt,zi,zo])]⟩,[2000],i_pParser_name⟩
theorem i_pParser_name_ok:FSOk Tryz.checked.prog T0 234 i_pParser_name_fs:=okOf base0 (fn:=Tryz.f234) (c:=Tryz.f234.body.getD .skip) i_pParser_name_fs (.seq .leaf (.seq .leaf (.seq .leaf (.seq (.block ⟨[(0,(.pt 2000 0)),(3,zi)],[(2000,.var 187 [zt,zi,zo])]⟩ (.loop ⟨[(0,(.pt 2000 0)),(3,zi)],[(2000,.var 187 [zt,zi,zo])]⟩ .leaf)) .leaf)))) [(91,some 49,i_pName_fs),(128,some 30,i_pByte_fs),(157,some 5,i_pParser_gap_fs)] (.cons i_pName_ok (.cons i_pByte_ok (.cons i_pParser_gap_ok .nil))) (by kernel_rfl) (by kernel_rfl) (by kernel_rfl) (fun xs=>by kernel_rfl)
def i_pParser_or.d1 (G0 G1 G2:List C→Option (List C)) (a b c d:C):R:=(bif d.B then (call4 (i_pParser_take [.i 124,b,c,d]) fun e f g h=>(bif e.B then (call4 (G1 [f,g,h]) fun i j k l=>(some (.again [.p [.i 5,.s (bs #[]),.s (bs #[]),.l (rows [[a],[i]])],j,k,l]))) else (some (.brk 0 [a,f,g,h])))) else (some (.brk 0 [a,b,c,d])))
def i_pParser_or.d2 (G0 G1 G2:List C→Option (List C)) (a b c d:C):R:=(some (.ret [a,b,c,d]))
def i_pParser_or.d3 (G0 G1 G2:List C→Option (List C)) (a b c:C):R:=(call4 (G1 [a,b,c]) fun d e f g=>(bindBlk 0 (lim (ap4 (i_pParser_or.d1 G0 G1 G2)) [d,e,f,g]) (ap4 (i_pParser_or.d2 G0 G1 G2))))
def i_pParser_or.step (G0 G1 G2:List C→Option (List C)):List C→Option (List C):=fun xs=>finR (ap3 (i_pParser_or.d3 G0 G1 G2) xs)
def i_pParser_or_fs (G:List C→Option (List C)):FS:=⟨1,⟨[(0,(.pt 2000 0))],[(2000,.var 187 [(.d .str),(.d (.int .i64)),(.d .bool)])]⟩,⟨[(0,(.d (.pt 184)))],[(2000,.var 187 [(.d .str),(.d (.int .i64)),(.d .bool)])]⟩,[2000],G⟩
def i_pParser_and.d1 (G0 G1 G2:List C→Option (List C)) (a b c d:C):R:=(bif d.B then (call4 (i_pParser_take [.i 38,b,c,d]) fun e f g h=>(bif e.B then (call4 (G2 [f,g,h]) fun i j k l=>(some (.again [.p [.i 4,.s (bs #[]),.s (bs #[]),.l (rows [[a],[i]])],j,k,l]))) else (some (.brk 0 [a,f,g,h])))) else (some (.brk 0 [a,b,c,d])))
def i_pParser_and.d2 (G0 G1 G2:List C→Option (List C)) (a b c d:C):R:=(some (.ret [a,b,c,d]))
def i_pParser_and.d3 (G0 G1 G2:List C→Option (List C)) (a b c:C):R:=(call4 (G2 [a,b,c]) fun d e f g=>(bindBlk 0 (lim (ap4 (i_pParser_and.d1 G0 G1 G2)) [d,e,f,g]) (ap4 (i_pParser_and.d2 G0 G1 G2))))
def i_pParser_and.step (G0 G1 G2:List C→Option (List C)):List C→Option (List C):=fun xs=>finR (ap3 (i_pParser_and.d3 G0 G1 G2) xs)
def i_pParser_and_fs (G:List C→Option (List C)):FS:=⟨1,⟨[(0,(.pt 2000 0))],[(2000,.var 187 [(.d .str),(.d (.int .i64)),(.d .bool)])]⟩,⟨[(0,(.d (.pt 184)))],[(2000,.var 187 [(.d .str),(.d (.int .i64)),(.d .bool)])]⟩,[2000],G⟩
def i_pParser_not.d1 (G0 G1 G2:List C→Option (List C)) (a b c:C):R:=(bif (!c.B) then (some (.ret [.p [.i 0,.s (bs #[]),.s (bs #[]),.l nils],a,b,c])) else (call4 (i_pParser_take [.i 33,a,b,c]) fun d e f g=>(bif d.B then (call4 (G2 [e,f,g]) fun h i j k=>(some (.ret [.p [.i 3,.s (bs #[]),.s (bs #[]),.l (rows [[h]])],i,j,k]))) else (call4 (i_pParser_take [.i 40,e,f,g]) fun l m n o=>(bif l.B then (call4 (G0 [m,n,o]) fun p q r s=>(bif s.B then (call4 (i_pParser_take [.i 41,q,r,s]) fun t u v w=>(some (.ret [p,u,v,.b t.B]))) else (some (.ret [p,q,r,.b false])))) else (call4 (i_pParser_name [m,n,o]) fun x y z a0=>(bif a0.B then (call4 (i_pParser_take [.i 61,y,z,a0]) fun a1 a2 a3 a4=>(bif a1.B then (call4 (i_pParser_name [a2,a3,a4]) fun a5 a6 a7 a8=>(some (.ret [.p [.i 2,x,a5,.l nils],a6,a7,a8]))) else (some (.ret [.p [.i 1,x,.s (bs #[]),.l nils],a2,a3,a4])))) else (some (.ret [.p [.i 1,x,.s (bs #[]),.l nils],y,z,a0])))))))))
def i_pParser_not.step (G0 G1 G2:List C→Option (List C)):List C→Option (List C):=fun xs=>finR (ap3 (i_pParser_not.d1 G0 G1 G2) xs)
def i_pParser_not_fs (G:List C→Option (List C)):FS:=⟨1,⟨[(0,(.pt 2000 0))],[(2000,.var 187 [(.d .str),(.d (.int .i64)),(.d .bool)])]⟩,⟨[(0,(.d (.pt 184)))],[(2000,.var 187 [(.d .str),(.d (.int .i64)),(.d .bool)])]⟩,[2000],G⟩
theorem i_pParser_or_st {G0 G1 G2:List C→Option (List C)} (h0:FSOk Tryz.checked.prog T0 156 (i_pParser_or_fs G0)) (h1:FSOk Tryz.checked.prog T0 192 (i_pParser_and_fs G1)) (h2:FSOk Tryz.checked.prog T0 220 (i_pParser_not_fs G2)):FSOk Tryz.checked.prog T0 156 (i_pParser_or_fs (i_pParser_or.step G0 G1 G2)):=okOf base0 (fn:=Tryz.f156) (c:=Tryz.f156.body.getD .skip) (i_pParser_or_fs (i_pParser_or.step G0 G1 G2)) (.seq .leaf (.seq .leaf (.seq (.block ⟨[(3,(.d (.pt 184)))],[(2000,.var 187 [(.d .str),(.d (.int .i64)),(.d .bool)])]⟩ (.loop ⟨[(0,(.pt 2000 0)),(3,(.d (.pt 184)))],[(2000,.var 187 [(.d .str),(.d (.int .i64)),(.d .bool)])]⟩ .leaf)) .leaf))) [(192,some 5,(i_pParser_and_fs G1)),(192,some 16,(i_pParser_and_fs G1)),(193,some 12,i_pParser_take_fs)] (.cons h1 (.cons h1 (.cons i_pParser_take_ok .nil))) (by kernel_rfl) (by kernel_rfl) (by kernel_rfl) (fun xs=>by kernel_rfl)
theorem i_pParser_and_st {G0 G1 G2:List C→Option (List C)} (h0:FSOk Tryz.checked.prog T0 156 (i_pParser_or_fs G0)) (h1:FSOk Tryz.checked.prog T0 192 (i_pParser_and_fs G1)) (h2:FSOk Tryz.checked.prog T0 220 (i_pParser_not_fs G2)):FSOk Tryz.checked.prog T0 192 (i_pParser_and_fs (i_pParser_and.step G0 G1 G2)):=okOf base0 (fn:=Tryz.f192) (c:=Tryz.f192.body.getD .skip) (i_pParser_and_fs (i_pParser_and.step G0 G1 G2)) (.seq .leaf (.seq .leaf (.seq (.block ⟨[(3,(.d (.pt 184)))],[(2000,.var 187 [(.d .str),(.d (.int .i64)),(.d .bool)])]⟩ (.loop ⟨[(0,(.pt 2000 0)),(3,(.d (.pt 184)))],[(2000,.var 187 [(.d .str),(.d (.int .i64)),(.d .bool)])]⟩ .leaf)) .leaf))) [(193,some 12,i_pParser_take_fs),(220,some 5,(i_pParser_not_fs G2)),(220,some 16,(i_pParser_not_fs G2))] (.cons i_pParser_take_ok (.cons h2 (.cons h2 .nil))) (by kernel_rfl) (by kernel_rfl) (by kernel_rfl) (fun xs=>by kernel_rfl)
theorem i_pParser_not_st {G0 G1 G2:List C→Option (List C)} (h0:FSOk Tryz.checked.prog T0 156 (i_pParser_or_fs G0)) (h1:FSOk Tryz.checked.prog T0 192 (i_pParser_and_fs G1)) (h2:FSOk Tryz.checked.prog T0 220 (i_pParser_not_fs G2)):FSOk Tryz.checked.prog T0 220 (i_pParser_not_fs (i_pParser_not.step G0 G1 G2)):=okOf base0 (fn:=Tryz.f220) (c:=Tryz.f220.body.getD .skip) (i_pParser_not_fs (i_pParser_not.step G0 G1 G2)) (.seq .leaf (.seq (.skip (.seq .leaf (.cond (.seq .leaf (.frz [12] .leaf)) (.seq .leaf (.cond (.seq .leaf (.frz [18,20] .leaf)) .leaf))))) (.seq .leaf (.seq .leaf (.seq .leaf (.frz [41] .leaf)))))) [(156,some 25,(i_pParser_or_fs G0)),(193,some 15,i_pParser_take_fs),(193,some 23,i_pParser_take_fs),(193,some 33,i_pParser_take_fs),(193,some 48,i_pParser_take_fs),(220,some 17,(i_pParser_not_fs G2)),(234,some 39,i_pParser_name_fs),(234,some 53,i_pParser_name_fs)] (.cons h0 (.cons i_pParser_take_ok (.cons i_pParser_take_ok (.cons i_pParser_take_ok (.cons i_pParser_take_ok (.cons h2 (.cons i_pParser_name_ok (.cons i_pParser_name_ok .nil)))))))) (by kernel_rfl) (by kernel_rfl) (by kernel_rfl) (fun xs=>by kernel_rfl)
def i_pParser_or.g:Nat→Nat→List C→Option (List C)
 |0,_=>fun _=>none
 |k+1,0=>i_pParser_or.step (i_pParser_or.g k 0) (i_pParser_or.g k 1) (i_pParser_or.g k 2)
 |k+1,1=>i_pParser_and.step (i_pParser_or.g k 0) (i_pParser_or.g k 1) (i_pParser_or.g k 2)
 |k+1,2=>i_pParser_not.step (i_pParser_or.g k 0) (i_pParser_or.g k 1) (i_pParser_or.g k 2)
 |_,_=>fun _=>none
theorem i_pParser_or_rec:∀k:Nat,FSOk Tryz.checked.prog T0 156 (i_pParser_or_fs (i_pParser_or.g k 0))∧FSOk Tryz.checked.prog T0 192 (i_pParser_and_fs (i_pParser_or.g k 1))∧FSOk Tryz.checked.prog T0 220 (i_pParser_not_fs (i_pParser_or.g k 2))
 |0=>⟨noneOk (fn:=Tryz.f156) (c:=Tryz.f156.body.getD .skip) (1) (⟨[(0,(.pt 2000 0))],[(2000,.var 187 [(.d .str),(.d (.int .i64)),(.d .bool)])]⟩) (⟨[(0,(.d (.pt 184)))],[(2000,.var 187 [(.d .str),(.d (.int .i64)),(.d .bool)])]⟩) [2000] (by kernel_rfl) (by kernel_rfl) (by kernel_rfl),noneOk (fn:=Tryz.f192) (c:=Tryz.f192.body.getD .skip) (1) (⟨[(0,(.pt 2000 0))],[(2000,.var 187 [(.d .str),(.d (.int .i64)),(.d .bool)])]⟩) (⟨[(0,(.d (.pt 184)))],[(2000,.var 187 [(.d .str),(.d (.int .i64)),(.d .bool)])]⟩) [2000] (by kernel_rfl) (by kernel_rfl) (by kernel_rfl),noneOk (fn:=Tryz.f220) (c:=Tryz.f220.body.getD .skip) (1) (⟨[(0,(.pt 2000 0))],[(2000,.var 187 [(.d .str),(.d (.int .i64)),(.d .bool)])]⟩) (⟨[(0,(.d (.pt 184)))],[(2000,.var 187 [(.d .str),(.d (.int .i64)),(.d .bool)])]⟩) [2000] (by kernel_rfl) (by kernel_rfl) (by kernel_rfl)⟩
 |k+1=>⟨i_pParser_or_st (i_pParser_or_rec k).1 (i_pParser_or_rec k).2.1 (i_pParser_or_rec k).2.2,i_pParser_and_st (i_pParser_or_rec k).1 (i_pParser_or_rec k).2.1 (i_pParser_or_rec k).2.2,i_pParser_not_st (i_pParser_or_rec k).1 (i_pParser_or_rec k).2.1 (i_pParser_or_rec k).2.2⟩
def i_pParser_or:List C→Option (List C):=i_pParser_or.g FUEL 0
theorem i_pParser_or_ok:FSOk Tryz.checked.prog T0 156 (i_pParser_or_fs i_pParser_or):=(i_pParser_or_rec FUEL).1
def i_pParser_and:List C→Option (List C):=i_pParser_or.g FUEL 1
theorem i_pParser_and_ok:FSOk Tryz.checked.prog T0 192 (i_pParser_and_fs i_pParser_and):=(i_pParser_or_rec FUEL).2.1
def i_pParser_not:List C→Option (List C):=i_pParser_or.g FUEL 2
theorem i_pParser_not_ok:FSOk Tryz.checked.prog T0 220 (i_pParser_not_fs i_pParser_not):=(i_pParser_or_rec FUEL).2.2
def i_pSel_depth.d1 (G0:List C→Option (List C)) (a b c d:C):R:=(bif (decide (d.I<c.I)) then (bif (decide (0≤d.I)) then (bif (decide (d.I<(b.L.length:Int))) then (call1 (G0 [((b.L.getD d.I.toNat []).getD 0 .nil)]) fun e=>(some (.again [.i (if (w64 (e.I+1))>a.I then (w64 (e.I+1)) else a.I),b,c,.i (w64 (d.I+1))]))) else none) else none) else (some (.brk 0 [a])))
def i_pSel_depth.d2 (G0:List C→Option (List C)) (a:C):R:=(some (.ret [a]))
def i_pSel_depth.d3 (G0:List C→Option (List C)) (a:C):R:=(bif a.isP then (bindBlk 0 (lim (ap4 (i_pSel_depth.d1 G0)) [.i 0,(a.P.getD 3 .nil),.i (((a.P.getD 3 .nil).L).length:Int),.i 0]) (ap1 (i_pSel_depth.d2 G0))) else none)
def i_pSel_depth.step (G0:List C→Option (List C)):List C→Option (List C):=fun xs=>finR (ap1 (i_pSel_depth.d3 G0) xs)
def i_pSel_depth_fs (G:List C→Option (List C)):FS:=⟨1,⟨[(0,(.d (.pt 184)))],[]⟩,⟨[(0,(.d (.int .i64)))],[]⟩,[],G⟩
theorem i_pSel_depth_st {G0:List C→Option (List C)} (h0:FSOk Tryz.checked.prog T0 158 (i_pSel_depth_fs G0)):FSOk Tryz.checked.prog T0 158 (i_pSel_depth_fs (i_pSel_depth.step G0)):=okOf base0 (fn:=Tryz.f158) (c:=Tryz.f158.body.getD .skip) (i_pSel_depth_fs (i_pSel_depth.step G0)) (.seq .leaf (.seq .leaf (.seq (.seq .leaf (.block ⟨[(3,(.d (.int .i64)))],[]⟩ (.loop ⟨[(3,(.d (.int .i64))),(9,(.d (.sl 155))),(10,(.d (.int .i64))),(11,(.d (.int .i64)))],[]⟩ .leaf))) .leaf))) [(158,some 17,(i_pSel_depth_fs G0))] (.cons h0 .nil) (by kernel_rfl) (by kernel_rfl) (by kernel_rfl) (fun xs=>by kernel_rfl)
def i_pSel_depth.g:Nat→Nat→List C→Option (List C)
 |0,_=>fun _=>none
 |k+1,0=>i_pSel_depth.step (i_pSel_depth.g k 0)
 |_,_=>fun _=>none
theorem i_pSel_depth_rec:∀k:Nat,FSOk Tryz.checked.prog T0 158 (i_pSel_depth_fs (i_pSel_depth.g k 0))
 |0=>noneOk (fn:=Tryz.f158) (c:=Tryz.f158.body.getD .skip) (1) (⟨[(0,(.d (.pt 184)))],[]⟩) (⟨[(0,(.d (.int .i64)))],[]⟩) [] (by kernel_rfl) (by kernel_rfl) (by kernel_rfl)
 |k+1=>i_pSel_depth_st (i_pSel_depth_rec k)
def i_pSel_depth:List C→Option (List C):=i_pSel_depth.g FUEL 0
theorem i_pSel_depth_ok:FSOk Tryz.checked.prog T0 158 (i_pSel_depth_fs i_pSel_depth):=i_pSel_depth_rec FUEL
def i_pParse.d1 (a:C):R:=(bif (decide ((a.S.size:Int)>200)) then (some (.ret [.nil,.i 1])) else (call1 (strings_Trim [a,.s (bs #[32])]) fun b=>(bif (b.S.toList==(bs #[]).toList) then (some (.ret [.p [.i 0,.s (bs #[]),.s (bs #[]),.l nils],.i 0])) else (call4 (i_pParser_or [a,.i 0,.b true]) fun c d e f=>(call3 (i_pParser_gap [d,e,f]) fun g h i=>(bif (!(!i.B)) then (bif (decide (h.I<(a.S.size:Int))) then (some (.ret [.nil,.i 2])) else (call1 (i_pSel_depth [c]) fun j=>(bif (decide (j.I>20)) then (some (.ret [.nil,.i 3])) else (some (.ret [c,.i 0]))))) else (some (.ret [.nil,.i 2]))))))))
def i_pParse:List C→Option (List C):=fun xs=>finR (ap1 i_pParse.d1 xs)
def i_pParse_fs:FS:=⟨1,⟨[(0,zt)],[]⟩,⟨[(0,(.tu [(.d (.pt 184)),zi]))],[]⟩,[],i_pParse⟩
theorem i_pParse_ok:FSOk Tryz.checked.prog T0 129 i_pParse_fs:=okOf base0 (fn:=Tryz.f129) (c:=Tryz.f129.body.getD .skip) i_pParse_fs (.seq .leaf (.seq .leaf (.seq (.seq .leaf (.cond (.seq .leaf (.frz [13] .leaf)) .leaf)) .leaf))) [(155,some 10,strings_Trim_fs),(156,some 18,(i_pParser_or_fs i_pParser_or)),(157,some 20,i_pParser_gap_fs),(158,some 36,(i_pSel_depth_fs i_pSel_depth))] (.cons strings_Trim_ok (.cons i_pParser_or_ok (.cons i_pParser_gap_ok (.cons i_pSel_depth_ok .nil)))) (by kernel_rfl) (by kernel_rfl) (by kernel_rfl) (fun xs=>by kernel_rfl)
def i_pCopyOk.d1 (a b c:C):R:=(bif (decide (c.I<b.I)) then (bif (decide (0≤c.I)) then (bif (decide (c.I<(a.L.length:Int))) then (call2 (i_pParse [((a.L.getD c.I.toNat []).getD 0 .nil)]) fun d e=>(bif (!(e.I !=0)) then (call1 (i_within [((a.L.getD c.I.toNat []).getD 1 .nil),.i (-9),.i 9]) fun f=>(bif (!f.B) then (some (.ret [.b false])) else (some (.again [a,b,.i (w64 (c.I+1))])))) else (some (.ret [.b false])))) else none) else none) else (some (.brk 0 [])))
def i_pCopyOk.d2:R:=(some (.ret [.b true]))
def i_pCopyOk.d3 (a b c d e f g h i j k l m:C):R:=(bif a.B then (some (.ret [.b false])) else (call2 (i_pParse [h]) fun n o=>(bif (o.I !=0) then (some (.ret [.b false])) else (bindBlk 0 (lim (ap3 i_pCopyOk.d1) [i,.i (i.L.length:Int),.i 0]) (fun xs=>i_pCopyOk.d2)))))
def i_pCopyOk.d4 (a b c d e f g h i j k l:C):R:=(bindNrm (call1 (i_pName [a]) fun m=>(bif (!(!m.B)) then (call1 (i_within [c,.i 0,.i 100]) fun n=>(bif (!(!n.B)) then (call1 (i_within [d,.i 0,.i 1000000]) fun o=>(bif (!(!o.B)) then (call1 (i_within [e,.i 0,.i 1000]) fun p=>(bif (!(!p.B)) then (call1 (i_within [f,.i 0,.i 1000]) fun q=>(bif (!(!q.B)) then (bif (!(decide ((h.L.length:Int)>5))) then (call1 (i_within [i,.i 0,.i 2]) fun r=>(bif (!(!r.B)) then (bif (!(j.S.toList==(bs #[]).toList)) then (call1 (i_pName [j]) fun s=>(bif (!(!s.B)) then (bif (!(k.S.toList==(bs #[]).toList)) then (call1 (i_pName [k]) fun t=>(some (.nrm [.b (!t.B),a,b,c,d,e,f,g,h,i,j,k,l]))) else (some (.nrm [.b false,a,b,c,d,e,f,g,h,i,j,k,l]))) else (some (.nrm [.b true,a,b,c,d,e,f,g,h,i,j,k,l])))) else (bif (!(k.S.toList==(bs #[]).toList)) then (call1 (i_pName [k]) fun u=>(some (.nrm [.b (!u.B),a,b,c,d,e,f,g,h,i,j,k,l]))) else (some (.nrm [.b false,a,b,c,d,e,f,g,h,i,j,k,l])))) else (some (.nrm [.b true,a,b,c,d,e,f,g,h,i,j,k,l])))) else (some (.nrm [.b true,a,b,c,d,e,f,g,h,i,j,k,l]))) else (some (.nrm [.b true,a,b,c,d,e,f,g,h,i,j,k,l])))) else (some (.nrm [.b true,a,b,c,d,e,f,g,h,i,j,k,l])))) else (some (.nrm [.b true,a,b,c,d,e,f,g,h,i,j,k,l])))) else (some (.nrm [.b true,a,b,c,d,e,f,g,h,i,j,k,l])))) else (some (.nrm [.b true,a,b,c,d,e,f,g,h,i,j,k,l])))) (ap13 i_pCopyOk.d3))
def i_pCopyOk:List C→Option (List C):=fun xs=>finR (ap12 i_pCopyOk.d4 xs)
def i_pCopyOk_fs:FS:=⟨1,⟨[(0,z4)],[]⟩,⟨[(0,zo)],[]⟩,[],i_pCopyOk⟩
theorem i_pCopyOk_ok:FSOk Tryz.checked.prog T0 93 i_pCopyOk_fs:=okOf base0 (fn:=Tryz.f93) (c:=Tryz.f93.body.getD .skip) i_pCopyOk_fs (.seq .leaf (.seq (.seq (.join ⟨[(1,(.pt 1 0)),(70,zo)],[(1,z1)]⟩ .leaf) .leaf) (.seq .leaf (.seq (.seq .leaf (.block ⟨[],[]⟩ (.loop ⟨[(80,(zl 150)),(81,zi),(82,zi)],[]⟩ .leaf))) .leaf)))) [(91,some 11,i_pName_fs),(91,some 56,i_pName_fs),(91,some 67,i_pName_fs),(92,some 16,i_within_fs),(92,some 22,i_within_fs),(92,some 28,i_within_fs),(92,some 34,i_within_fs),(92,some 46,i_within_fs),(92,some 97,i_within_fs),(129,some 74,i_pParse_fs),(129,some 89,i_pParse_fs)] (.cons i_pName_ok (.cons i_pName_ok (.cons i_pName_ok (.cons i_within_ok (.cons i_within_ok (.cons i_within_ok (.cons i_within_ok (.cons i_within_ok (.cons i_within_ok (.cons i_pParse_ok (.cons i_pParse_ok .nil))))))))))) (by kernel_rfl) (by kernel_rfl) (by kernel_rfl) (fun xs=>by kernel_rfl)
def i_PilotUsed.d1 (a b c d e f:C):R:=(bif (decide (f.I<e.I)) then (bif (decide (0≤f.I)) then (bif (decide (f.I<(d.L.length:Int))) then (bif ((((d.L.getD f.I.toNat []).getD 11 .nil).S).toList==a.S.toList) then (some (.again [a,.i (w64 (b.I+((d.L.getD f.I.toNat []).getD 4 .nil).I)),.i (w64 (c.I+((d.L.getD f.I.toNat []).getD 5 .nil).I)),d,e,.i (w64 (f.I+1))])) else (some (.again [a,b,c,d,e,.i (w64 (f.I+1))]))) else none) else none) else (some (.brk 0 [b,c])))
def i_PilotUsed.d2 (a b:C):R:=(some (.ret [a,b]))
def i_PilotUsed.d3 (a b c d e:C):R:=(bif (!(e.S.toList==(bs #[]).toList)) then (call1 (i_pBerthAt [a,b,c,d,e]) fun f=>(bif (decide (f.I<0)) then (some (.ret [.i 0,.i 0])) else (bindBlk 0 (lim (ap6 i_PilotUsed.d1) [e,.i 0,.i 0,d,.i (d.L.length:Int),.i 0]) (ap2 i_PilotUsed.d2)))) else (some (.ret [.i 0,.i 0])))
def i_PilotUsed:List C→Option (List C):=fun xs=>finR (ap5 i_PilotUsed.d3 xs)
def i_PilotUsed_fs:FS:=⟨2,⟨[(0,z3),(1,zt)],[]⟩,⟨[(0,(.tu [zi,zi]))],[]⟩,[],i_PilotUsed⟩
theorem i_PilotUsed_ok:FSOk Tryz.checked.prog T0 94 i_PilotUsed_fs:=okOf base0 (fn:=Tryz.f94) (c:=Tryz.f94.body.getD .skip) i_PilotUsed_fs (.seq .leaf (.seq .leaf (.seq .leaf (.seq (.seq .leaf (.block ⟨[(6,zi),(7,zi)],[]⟩ (.loop ⟨[(1,zt),(6,zi),(7,zi),(19,(zl 48)),(20,zi),(21,zi)],[]⟩ .leaf))) .leaf)))) [(43,some 15,i_pBerthAt_fs)] (.cons i_pBerthAt_ok .nil) (by kernel_rfl) (by kernel_rfl) (by kernel_rfl) (fun xs=>by kernel_rfl)
def i_PilotValid.d1 (a b c d e f g:C):R:=(bif (decide (c.I<b.I)) then (bif (decide (0≤c.I)) then (bif (decide (c.I<(a.L.length:Int))) then (call1 (i_pBerthOk [((a.L.getD c.I.toNat []).getD 0 .nil),((a.L.getD c.I.toNat []).getD 1 .nil),((a.L.getD c.I.toNat []).getD 2 .nil),((a.L.getD c.I.toNat []).getD 3 .nil),((a.L.getD c.I.toNat []).getD 4 .nil),((a.L.getD c.I.toNat []).getD 5 .nil)]) fun h=>(bif (!(!h.B)) then (bif (decide (c.I>0)) then (bif (decide (0≤(w64 (c.I-1)))) then (bif (decide ((w64 (c.I-1))<(e.L.length:Int))) then (bif ((Op.bytesLess (((a.L.getD c.I.toNat []).getD 0 .nil).S).toList (((e.L.getD (w64 (c.I-1)).toNat []).getD 0 .nil).S).toList)||((((a.L.getD c.I.toNat []).getD 0 .nil).S).toList==(((e.L.getD (w64 (c.I-1)).toNat []).getD 0 .nil).S).toList)) then (some (.ret [.b false])) else (some (.again [a,b,.i (w64 (c.I+1)),d,e,f,g]))) else none) else none) else (some (.again [a,b,.i (w64 (c.I+1)),d,e,f,g]))) else (some (.ret [.b false])))) else none) else none) else (some (.brk 0 [d,e,f,g])))
def i_PilotValid.d2 (a b c d e f g h:C):R:=(bif (decide (c.I<b.I)) then (bif (decide (0≤c.I)) then (bif (decide (c.I<(a.L.length:Int))) then (call1 (i_pName [((a.L.getD c.I.toNat []).getD 0 .nil)]) fun i=>(bif (!(!i.B)) then (call1 (i_within [((a.L.getD c.I.toNat []).getD 1 .nil),.i 0,.i 60]) fun j=>(bif (!(!j.B)) then (bif (decide (c.I>0)) then (bif (decide (0≤(w64 (c.I-1)))) then (bif (decide ((w64 (c.I-1))<(f.L.length:Int))) then (bif ((Op.bytesLess (((a.L.getD c.I.toNat []).getD 0 .nil).S).toList (((f.L.getD (w64 (c.I-1)).toNat []).getD 0 .nil).S).toList)||((((a.L.getD c.I.toNat []).getD 0 .nil).S).toList==(((f.L.getD (w64 (c.I-1)).toNat []).getD 0 .nil).S).toList)) then (some (.ret [.b false])) else (some (.again [a,b,.i (w64 (c.I+1)),d,e,f,g,.l (mset (((a.L.getD c.I.toNat []).getD 0 .nil).S) (.b true) h.L)]))) else none) else none) else (some (.again [a,b,.i (w64 (c.I+1)),d,e,f,g,.l (mset (((a.L.getD c.I.toNat []).getD 0 .nil).S) (.b true) h.L)]))) else (some (.ret [.b false])))) else (some (.ret [.b false])))) else none) else none) else (some (.brk 2 [d,e,f,g,.l h.L])))
def i_PilotValid.d3 (a b c d e f g h i j k l m n o p q r s t u v:C):R:=(bif d.B then (some (.ret [.b false])) else (some (.again [a,b,.i (w64 (c.I+1)),e,f,g,h,.l i.L,.l (mset v.S (.i (w64 ((mget (.i 0) v.S j.L).I+1))) j.L)])))
def i_PilotValid.d4 (a b c d e f g h i:C):R:=(bif (decide (c.I<b.I)) then (bif (decide (0≤c.I)) then (bif (decide (c.I<(a.L.length:Int))) then (bindNrm (call1 (i_pCopyOk [((a.L.getD c.I.toNat []).getD 0 .nil),((a.L.getD c.I.toNat []).getD 1 .nil),((a.L.getD c.I.toNat []).getD 2 .nil),((a.L.getD c.I.toNat []).getD 3 .nil),((a.L.getD c.I.toNat []).getD 4 .nil),((a.L.getD c.I.toNat []).getD 5 .nil),((a.L.getD c.I.toNat []).getD 6 .nil),((a.L.getD c.I.toNat []).getD 7 .nil),((a.L.getD c.I.toNat []).getD 8 .nil),((a.L.getD c.I.toNat []).getD 9 .nil),((a.L.getD c.I.toNat []).getD 10 .nil),((a.L.getD c.I.toNat []).getD 11 .nil)]) fun j=>(bif (!(!j.B)) then (bif (!(!((mget (.b false) (((a.L.getD c.I.toNat []).getD 1 .nil).S) h.L).B))) then (bif (decide (c.I>0)) then (bif (decide (0≤(w64 (c.I-1)))) then (bif (decide ((w64 (c.I-1))<(g.L.length:Int))) then (bif (!((Op.bytesLess (((a.L.getD c.I.toNat []).getD 0 .nil).S).toList (((g.L.getD (w64 (c.I-1)).toNat []).getD 0 .nil).S).toList)||((((a.L.getD c.I.toNat []).getD 0 .nil).S).toList==(((g.L.getD (w64 (c.I-1)).toNat []).getD 0 .nil).S).toList))) then (bif (!((((a.L.getD c.I.toNat []).getD 11 .nil).S).toList==(bs #[]).toList)) then (call1 (i_pBerthAt [d,e,f,g,((a.L.getD c.I.toNat []).getD 11 .nil)]) fun k=>(some (.nrm [a,b,c,.b (decide (k.I<0)),d,e,f,g,.l h.L,.l i.L,((a.L.getD c.I.toNat []).getD 0 .nil),((a.L.getD c.I.toNat []).getD 1 .nil),((a.L.getD c.I.toNat []).getD 2 .nil),((a.L.getD c.I.toNat []).getD 3 .nil),((a.L.getD c.I.toNat []).getD 4 .nil),((a.L.getD c.I.toNat []).getD 5 .nil),((a.L.getD c.I.toNat []).getD 6 .nil),((a.L.getD c.I.toNat []).getD 7 .nil),((a.L.getD c.I.toNat []).getD 8 .nil),((a.L.getD c.I.toNat []).getD 9 .nil),((a.L.getD c.I.toNat []).getD 10 .nil),((a.L.getD c.I.toNat []).getD 11 .nil)]))) else (some (.nrm [a,b,c,.b false,d,e,f,g,.l h.L,.l i.L,((a.L.getD c.I.toNat []).getD 0 .nil),((a.L.getD c.I.toNat []).getD 1 .nil),((a.L.getD c.I.toNat []).getD 2 .nil),((a.L.getD c.I.toNat []).getD 3 .nil),((a.L.getD c.I.toNat []).getD 4 .nil),((a.L.getD c.I.toNat []).getD 5 .nil),((a.L.getD c.I.toNat []).getD 6 .nil),((a.L.getD c.I.toNat []).getD 7 .nil),((a.L.getD c.I.toNat []).getD 8 .nil),((a.L.getD c.I.toNat []).getD 9 .nil),((a.L.getD c.I.toNat []).getD 10 .nil),((a.L.getD c.I.toNat []).getD 11 .nil)]))) else (some (.nrm [a,b,c,.b true,d,e,f,g,.l h.L,.l i.L,((a.L.getD c.I.toNat []).getD 0 .nil),((a.L.getD c.I.toNat []).getD 1 .nil),((a.L.getD c.I.toNat []).getD 2 .nil),((a.L.getD c.I.toNat []).getD 3 .nil),((a.L.getD c.I.toNat []).getD 4 .nil),((a.L.getD c.I.toNat []).getD 5 .nil),((a.L.getD c.I.toNat []).getD 6 .nil),((a.L.getD c.I.toNat []).getD 7 .nil),((a.L.getD c.I.toNat []).getD 8 .nil),((a.L.getD c.I.toNat []).getD 9 .nil),((a.L.getD c.I.toNat []).getD 10 .nil),((a.L.getD c.I.toNat []).getD 11 .nil)]))) else none) else none) else (bif (!((((a.L.getD c.I.toNat []).getD 11 .nil).S).toList==(bs #[]).toList)) then (call1 (i_pBerthAt [d,e,f,g,((a.L.getD c.I.toNat []).getD 11 .nil)]) fun l=>(some (.nrm [a,b,c,.b (decide (l.I<0)),d,e,f,g,.l h.L,.l i.L,((a.L.getD c.I.toNat []).getD 0 .nil),((a.L.getD c.I.toNat []).getD 1 .nil),((a.L.getD c.I.toNat []).getD 2 .nil),((a.L.getD c.I.toNat []).getD 3 .nil),((a.L.getD c.I.toNat []).getD 4 .nil),((a.L.getD c.I.toNat []).getD 5 .nil),((a.L.getD c.I.toNat []).getD 6 .nil),((a.L.getD c.I.toNat []).getD 7 .nil),((a.L.getD c.I.toNat []).getD 8 .nil),((a.L.getD c.I.toNat []).getD 9 .nil),((a.L.getD c.I.toNat []).getD 10 .nil),((a.L.getD c.I.toNat []).getD 11 .nil)]))) else (some (.nrm [a,b,c,.b false,d,e,f,g,.l h.L,.l i.L,((a.L.getD c.I.toNat []).getD 0 .nil),((a.L.getD c.I.toNat []).getD 1 .nil),((a.L.getD c.I.toNat []).getD 2 .nil),((a.L.getD c.I.toNat []).getD 3 .nil),((a.L.getD c.I.toNat []).getD 4 .nil),((a.L.getD c.I.toNat []).getD 5 .nil),((a.L.getD c.I.toNat []).getD 6 .nil),((a.L.getD c.I.toNat []).getD 7 .nil),((a.L.getD c.I.toNat []).getD 8 .nil),((a.L.getD c.I.toNat []).getD 9 .nil),((a.L.getD c.I.toNat []).getD 10 .nil),((a.L.getD c.I.toNat []).getD 11 .nil)])))) else (some (.nrm [a,b,c,.b true,d,e,f,g,.l h.L,.l i.L,((a.L.getD c.I.toNat []).getD 0 .nil),((a.L.getD c.I.toNat []).getD 1 .nil),((a.L.getD c.I.toNat []).getD 2 .nil),((a.L.getD c.I.toNat []).getD 3 .nil),((a.L.getD c.I.toNat []).getD 4 .nil),((a.L.getD c.I.toNat []).getD 5 .nil),((a.L.getD c.I.toNat []).getD 6 .nil),((a.L.getD c.I.toNat []).getD 7 .nil),((a.L.getD c.I.toNat []).getD 8 .nil),((a.L.getD c.I.toNat []).getD 9 .nil),((a.L.getD c.I.toNat []).getD 10 .nil),((a.L.getD c.I.toNat []).getD 11 .nil)]))) else (some (.nrm [a,b,c,.b true,d,e,f,g,.l h.L,.l i.L,((a.L.getD c.I.toNat []).getD 0 .nil),((a.L.getD c.I.toNat []).getD 1 .nil),((a.L.getD c.I.toNat []).getD 2 .nil),((a.L.getD c.I.toNat []).getD 3 .nil),((a.L.getD c.I.toNat []).getD 4 .nil),((a.L.getD c.I.toNat []).getD 5 .nil),((a.L.getD c.I.toNat []).getD 6 .nil),((a.L.getD c.I.toNat []).getD 7 .nil),((a.L.getD c.I.toNat []).getD 8 .nil),((a.L.getD c.I.toNat []).getD 9 .nil),((a.L.getD c.I.toNat []).getD 10 .nil),((a.L.getD c.I.toNat []).getD 11 .nil)])))) (ap22 i_PilotValid.d3)) else none) else none) else (some (.brk 4 [d,e,f,g,.l i.L])))
def i_PilotValid.d5 (a b c d e f g h:C):R:=(bif (decide (c.I<b.I)) then (bif (decide (0≤c.I)) then (bif (decide (c.I<(a.L.length:Int))) then (call2 (i_PilotUsed [d,e,f,g,((a.L.getD c.I.toNat []).getD 0 .nil)]) fun i j=>(bif (!(decide ((mget (.i 0) (((a.L.getD c.I.toNat []).getD 0 .nil).S) h.L).I>10))) then (bif (!(decide (i.I>((a.L.getD c.I.toNat []).getD 3 .nil).I))) then (bif (decide (j.I>((a.L.getD c.I.toNat []).getD 4 .nil).I)) then (some (.ret [.b false])) else (some (.again [a,b,.i (w64 (c.I+1)),d,e,f,g,.l h.L]))) else (some (.ret [.b false]))) else (some (.ret [.b false])))) else none) else none) else (some (.brk 6 [])))
def i_PilotValid.d6:R:=(some (.ret [.b true]))
def i_PilotValid.d7 (a b c d e:C):R:=(bindBlk 6 (lim (ap8 i_PilotValid.d5) [b,.i (b.L.length:Int),.i 0,a,b,c,d,.l e.L]) (fun xs=>i_PilotValid.d6))
def i_PilotValid.d8 (a b c d e:C):R:=(bindBlk 4 (lim (ap9 i_PilotValid.d4) [d,.i (d.L.length:Int),.i 0,a,b,c,d,.l e.L,.l nils]) (ap5 i_PilotValid.d7))
def i_PilotValid.d9 (a b c d:C):R:=(bindBlk 2 (lim (ap8 i_PilotValid.d2) [c,.i (c.L.length:Int),.i 0,a,b,c,d,.l nils]) (ap5 i_PilotValid.d8))
def i_PilotValid.d10 (a b c d:C):R:=(bif (!(decide ((b.L.length:Int)>12))) then (bif (!(decide ((c.L.length:Int)>30))) then (bif (decide ((d.L.length:Int)>60)) then (some (.ret [.b false])) else (bindBlk 0 (lim (ap7 i_PilotValid.d1) [b,.i (b.L.length:Int),.i 0,a,b,c,d]) (ap4 i_PilotValid.d9))) else (some (.ret [.b false]))) else (some (.ret [.b false])))
def i_PilotValid:List C→Option (List C):=fun xs=>finR (ap4 i_PilotValid.d10 xs)
def i_PilotValid_fs:FS:=⟨1,⟨[(0,z3)],[]⟩,⟨[(0,zo)],[]⟩,[],i_PilotValid⟩
theorem i_PilotValid_ok:FSOk Tryz.checked.prog T0 40 i_PilotValid_fs:=okOf base0 (fn:=Tryz.f40) (c:=Tryz.f40.body.getD .skip) i_PilotValid_fs (.seq .leaf (.seq .leaf (.seq (.seq .leaf (.block ⟨[(1,(.pt 1 0))],[(1,z0)]⟩ (.loop ⟨[(1,(.pt 1 0)),(32,(zl 45)),(33,zi),(34,zi)],[(1,z0)]⟩ .leaf))) (.seq .leaf (.seq (.seq .leaf (.block ⟨[(1,(.pt 1 0)),(5,(.mp 59))],[(1,z0),(59,.mp 4)]⟩ (.loop ⟨[(1,(.pt 1 0)),(5,(.mp 59)),(61,(zl 120)),(62,zi),(63,zi)],[(1,z0),(59,.mp 4)]⟩ .leaf))) (.seq .leaf (.seq (.seq .leaf (.block ⟨[(1,(.pt 1 0)),(8,(.mp 98))],[(1,z0),(98,.mp 3)]⟩ (.loop ⟨[(1,(.pt 1 0)),(5,(.mp 59)),(8,(.mp 98)),(100,(zl 48)),(101,zi),(102,zi)],[(1,z0),(59,.mp 4),(98,.mp 3)]⟩ (.seq .leaf (.seq .leaf (.seq (.skip (.seq .leaf (.seq (.seq (.join ⟨[(1,(.pt 1 0)),(5,(.mp 59)),(8,(.mp 98)),(10,(.pt 10 0)),(100,(zl 48)),(101,zi),(102,zi),(144,zo)],[(1,z0),(59,.mp 4),(98,.mp 3),(10,z1)]⟩ .leaf) .leaf) .leaf))) .leaf)))))) (.seq (.seq .leaf (.block ⟨[],[]⟩ (.loop ⟨[(1,(.pt 1 0)),(8,(.mp 98)),(152,(zl 45)),(153,zi),(154,zi)],[(1,z0),(98,.mp 3)]⟩ .leaf))) .leaf)))))))) [(43,some 141,i_pBerthAt_fs),(90,some 40,i_pBerthOk_fs),(91,some 70,i_pName_fs),(92,some 75,i_within_fs),(93,some 108,i_pCopyOk_fs),(94,some 162,i_PilotUsed_fs)] (.cons i_pBerthAt_ok (.cons i_pBerthOk_ok (.cons i_pName_ok (.cons i_within_ok (.cons i_pCopyOk_ok (.cons i_PilotUsed_ok .nil)))))) (by kernel_rfl) (by kernel_rfl) (by kernel_rfl) (fun xs=>by kernel_rfl)
def slices_Sort_int:List C→Option (List C):=sortIF
def slices_Sort_int_fs:FS:=⟨1,⟨[(0,.ow 2000)],[(2000,.arr 3 1)]⟩,⟨[(0,.tu [])],[(2000,.arr 3 1)]⟩,[2000],slices_Sort_int⟩
theorem slices_Sort_int_ok:FSOk Tryz.checked.prog T0 115 slices_Sort_int_fs:=sortI_ok
def slices_Reverse_int.d1 (a b c:C):R:=(bif (decide (a.I<b.I)) then (bif (decide (0≤b.I)) then (bif (decide (b.I<(c.L.length:Int))) then (bif (decide (0≤a.I)) then (bif (decide (a.I<(c.L.length:Int))) then (bif (decide (0≤a.I)) then (bif (decide (a.I<(c.L.length:Int))) then (bif (decide (0≤b.I)) then (bif (decide (b.I<((c.L.set a.I.toNat (setCs (c.L.getD a.I.toNat []) 0 [((c.L.getD b.I.toNat []).getD 0 .nil)])).length:Int))) then (some (.again [.i (w64 (a.I+1)),.i (w64 (b.I-1)),.l ((c.L.set a.I.toNat (setCs (c.L.getD a.I.toNat []) 0 [((c.L.getD b.I.toNat []).getD 0 .nil)])).set b.I.toNat (setCs ((c.L.set a.I.toNat (setCs (c.L.getD a.I.toNat []) 0 [((c.L.getD b.I.toNat []).getD 0 .nil)])).getD b.I.toNat []) 0 [((c.L.getD a.I.toNat []).getD 0 .nil)]))])) else none) else none) else none) else none) else none) else none) else none) else none) else (some (.brk 0 [.l c.L])))
def slices_Reverse_int.d2 (a:C):R:=(some (.ret [.l a.L]))
def slices_Reverse_int.d3 (a:C):R:=(bindBlk 0 (lim (ap3 slices_Reverse_int.d1) [.i 0,.i (w64 ((a.L.length:Int)-1)),.l a.L]) (ap1 slices_Reverse_int.d2))
def slices_Reverse_int:List C→Option (List C):=fun xs=>finR (ap1 slices_Reverse_int.d3 xs)
def slices_Reverse_int_fs:FS:=⟨1,⟨[(0,(.ow 2000))],[(2000,.arr 3 1)]⟩,⟨[(0,(.tu []))],[(2000,.arr 3 1)]⟩,[2000],slices_Reverse_int⟩
theorem slices_Reverse_int_ok:FSOk Tryz.checked.prog T0 116 slices_Reverse_int_fs:=okOf base0 (fn:=Tryz.f116) (c:=Tryz.f116.body.getD .skip) slices_Reverse_int_fs (.seq .leaf (.block ⟨[],[(2000,.arr 3 1)]⟩ (.loop ⟨[(0,(.ow 2000)),(2,zi),(3,zi)],[(2000,.arr 3 1)]⟩ .leaf))) [] .nil (by kernel_rfl) (by kernel_rfl) (by kernel_rfl) (fun xs=>by kernel_rfl)
def cmp_isNaN_int.d1 (a:C):R:=(some (.ret [.b (a.I !=a.I)]))
def cmp_isNaN_int:List C→Option (List C):=fun xs=>finR (ap1 cmp_isNaN_int.d1 xs)
def cmp_isNaN_int_fs:FS:=⟨1,⟨[(0,zi)],[]⟩,⟨[(0,zo)],[]⟩,[],cmp_isNaN_int⟩
theorem cmp_isNaN_int_ok:FSOk Tryz.checked.prog T0 177 cmp_isNaN_int_fs:=okOf base0 (fn:=Tryz.f177) (c:=Tryz.f177.body.getD .skip) cmp_isNaN_int_fs .leaf [] .nil (by kernel_rfl) (by kernel_rfl) (by kernel_rfl) (fun xs=>by kernel_rfl)
def cmp_Compare_int.d1 (a b:C):R:=(call1 (cmp_isNaN_int [a]) fun c=>(call1 (cmp_isNaN_int [b]) fun d=>(bif c.B then (bif d.B then (some (.ret [.i 0])) else (some (.ret [.i (-1)]))) else (bif d.B then (some (.ret [.i 1])) else (bif (decide (a.I<b.I)) then (some (.ret [.i (-1)])) else (bif (decide (a.I>b.I)) then (some (.ret [.i 1])) else (some (.ret [.i 0]))))))))
def cmp_Compare_int:List C→Option (List C):=fun xs=>finR (ap2 cmp_Compare_int.d1 xs)
def cmp_Compare_int_fs:FS:=⟨2,⟨[(0,zi),(1,zi)],[]⟩,⟨[(0,zi)],[]⟩,[],cmp_Compare_int⟩
theorem cmp_Compare_int_ok:FSOk Tryz.checked.prog T0 146 cmp_Compare_int_fs:=okOf base0 (fn:=Tryz.f146) (c:=Tryz.f146.body.getD .skip) cmp_Compare_int_fs .leaf [(177,some 8,cmp_isNaN_int_fs),(177,some 10,cmp_isNaN_int_fs)] (.cons cmp_isNaN_int_ok (.cons cmp_isNaN_int_ok .nil)) (by kernel_rfl) (by kernel_rfl) (by kernel_rfl) (fun xs=>by kernel_rfl)
def slices_Compare_int.d1 (a b c d e:C):R:=(bif (decide (e.I<d.I)) then (bif (decide (0≤e.I)) then (bif (decide (e.I<(c.L.length:Int))) then (bif (decide (e.I≥(b.L.length:Int))) then (some (.ret [.i 1])) else (bif (decide (0≤e.I)) then (bif (decide (e.I<(b.L.length:Int))) then (call1 (cmp_Compare_int [((c.L.getD e.I.toNat []).getD 0 .nil),((b.L.getD e.I.toNat []).getD 0 .nil)]) fun f=>(bif (f.I !=0) then (some (.ret [f])) else (some (.again [a,b,c,d,.i (w64 (e.I+1))])))) else none) else none)) else none) else none) else (some (.brk 0 [a,b])))
def slices_Compare_int.d2 (a b:C):R:=(bif (decide ((a.L.length:Int)<(b.L.length:Int))) then (some (.ret [.i (-1)])) else (some (.ret [.i 0])))
def slices_Compare_int.d3 (a b:C):R:=(bindBlk 0 (lim (ap5 slices_Compare_int.d1) [a,b,a,.i (a.L.length:Int),.i 0]) (ap2 slices_Compare_int.d2))
def slices_Compare_int:List C→Option (List C):=fun xs=>finR (ap2 slices_Compare_int.d3 xs)
def slices_Compare_int_fs:FS:=⟨2,⟨[(0,(zl 3)),(1,(zl 3))],[]⟩,⟨[(0,zi)],[]⟩,[],slices_Compare_int⟩
theorem slices_Compare_int_ok:FSOk Tryz.checked.prog T0 117 slices_Compare_int_fs:=okOf base0 (fn:=Tryz.f117) (c:=Tryz.f117.body.getD .skip) slices_Compare_int_fs (.seq .leaf (.seq (.seq .leaf (.block ⟨[(0,(zl 3)),(1,(zl 3))],[]⟩ (.loop ⟨[(0,(zl 3)),(1,(zl 3)),(9,(zl 3)),(10,zi),(11,zi)],[]⟩ .leaf))) .leaf)) [(146,some 26,cmp_Compare_int_fs)] (.cons cmp_Compare_int_ok .nil) (by kernel_rfl) (by kernel_rfl) (by kernel_rfl) (fun xs=>by kernel_rfl)
def cmp_isNaN_string.d1 (a:C):R:=(some (.ret [.b (!(a.S.toList==a.S.toList))]))
def cmp_isNaN_string:List C→Option (List C):=fun xs=>finR (ap1 cmp_isNaN_string.d1 xs)
def cmp_isNaN_string_fs:FS:=⟨1,⟨[(0,zt)],[]⟩,⟨[(0,zo)],[]⟩,[],cmp_isNaN_string⟩
theorem cmp_isNaN_string_ok:FSOk Tryz.checked.prog T0 178 cmp_isNaN_string_fs:=okOf base0 (fn:=Tryz.f178) (c:=Tryz.f178.body.getD .skip) cmp_isNaN_string_fs .leaf [] .nil (by kernel_rfl) (by kernel_rfl) (by kernel_rfl) (fun xs=>by kernel_rfl)
def cmp_Compare_string.d1 (a b:C):R:=(call1 (cmp_isNaN_string [a]) fun c=>(call1 (cmp_isNaN_string [b]) fun d=>(bif c.B then (bif d.B then (some (.ret [.i 0])) else (some (.ret [.i (-1)]))) else (bif d.B then (some (.ret [.i 1])) else (bif (Op.bytesLess a.S.toList b.S.toList) then (some (.ret [.i (-1)])) else (bif (!((Op.bytesLess a.S.toList b.S.toList)||(a.S.toList==b.S.toList))) then (some (.ret [.i 1])) else (some (.ret [.i 0]))))))))
def cmp_Compare_string:List C→Option (List C):=fun xs=>finR (ap2 cmp_Compare_string.d1 xs)
def cmp_Compare_string_fs:FS:=⟨2,⟨[(0,zt),(1,zt)],[]⟩,⟨[(0,zi)],[]⟩,[],cmp_Compare_string⟩
theorem cmp_Compare_string_ok:FSOk Tryz.checked.prog T0 147 cmp_Compare_string_fs:=okOf base0 (fn:=Tryz.f147) (c:=Tryz.f147.body.getD .skip) cmp_Compare_string_fs .leaf [(178,some 8,cmp_isNaN_string_fs),(178,some 10,cmp_isNaN_string_fs)] (.cons cmp_isNaN_string_ok (.cons cmp_isNaN_string_ok .nil)) (by kernel_rfl) (by kernel_rfl) (by kernel_rfl) (fun xs=>by kernel_rfl)
def slices_Compare_string.d1 (a b c d e:C):R:=(bif (decide (e.I<d.I)) then (bif (decide (0≤e.I)) then (bif (decide (e.I<(c.L.length:Int))) then (bif (decide (e.I≥(b.L.length:Int))) then (some (.ret [.i 1])) else (bif (decide (0≤e.I)) then (bif (decide (e.I<(b.L.length:Int))) then (call1 (cmp_Compare_string [((c.L.getD e.I.toNat []).getD 0 .nil),((b.L.getD e.I.toNat []).getD 0 .nil)]) fun f=>(bif (f.I !=0) then (some (.ret [f])) else (some (.again [a,b,c,d,.i (w64 (e.I+1))])))) else none) else none)) else none) else none) else (some (.brk 0 [a,b])))
def slices_Compare_string.d2 (a b:C):R:=(bif (decide ((a.L.length:Int)<(b.L.length:Int))) then (some (.ret [.i (-1)])) else (some (.ret [.i 0])))
def slices_Compare_string.d3 (a b:C):R:=(bindBlk 0 (lim (ap5 slices_Compare_string.d1) [a,b,a,.i (a.L.length:Int),.i 0]) (ap2 slices_Compare_string.d2))
def slices_Compare_string:List C→Option (List C):=fun xs=>finR (ap2 slices_Compare_string.d3 xs)
def slices_Compare_string_fs:FS:=⟨2,⟨[(0,(zl 9)),(1,(zl 9))],[]⟩,⟨[(0,zi)],[]⟩,[],slices_Compare_string⟩
theorem slices_Compare_string_ok:FSOk Tryz.checked.prog T0 118 slices_Compare_string_fs:=okOf base0 (fn:=Tryz.f118) (c:=Tryz.f118.body.getD .skip) slices_Compare_string_fs (.seq .leaf (.seq (.seq .leaf (.block ⟨[(0,(zl 9)),(1,(zl 9))],[]⟩ (.loop ⟨[(0,(zl 9)),(1,(zl 9)),(9,(zl 9)),(10,zi),(11,zi)],[]⟩ .leaf))) .leaf)) [(147,some 26,cmp_Compare_string_fs)] (.cons cmp_Compare_string_ok .nil) (by kernel_rfl) (by kernel_rfl) (by kernel_rfl) (fun xs=>by kernel_rfl)
def i_one.d1 (a:C):R:=(bif a.B then (some (.ret [.i 1])) else (some (.ret [.i 0])))
def i_one:List C→Option (List C):=fun xs=>finR (ap1 i_one.d1 xs)
def i_one_fs:FS:=⟨1,⟨[(0,zo)],[]⟩,⟨[(0,zi)],[]⟩,[],i_one⟩
theorem i_one_ok:FSOk Tryz.checked.prog T0 148 i_one_fs:=okOf base0 (fn:=Tryz.f148) (c:=Tryz.f148.body.getD .skip) i_one_fs .leaf [] .nil (by kernel_rfl) (by kernel_rfl) (by kernel_rfl) (fun xs=>by kernel_rfl)
def i_pMayGo.d1 (a b c d e f g h i:C):R:=(bif (decide (d.I<c.I)) then (bif (decide (0≤d.I)) then (bif (decide (d.I<(b.L.length:Int))) then (call1 (i_pCopyAt [e,f,g,h,((b.L.getD d.I.toNat []).getD 0 .nil)]) fun j=>(bif (!(decide (j.I<0))) then (bif (decide (0≤j.I)) then (bif (decide (j.I<(h.L.length:Int))) then (bif (!((((h.L.getD j.I.toNat []).getD 11 .nil).S).toList==(bs #[]).toList)) then (bif (decide (d.I>0)) then (bif (decide (0≤(w64 (d.I-1)))) then (bif (decide ((w64 (d.I-1))<(a.L.length:Int))) then (bif ((Op.bytesLess (((b.L.getD d.I.toNat []).getD 0 .nil).S).toList (((a.L.getD (w64 (d.I-1)).toNat []).getD 0 .nil).S).toList)||((((b.L.getD d.I.toNat []).getD 0 .nil).S).toList==(((a.L.getD (w64 (d.I-1)).toNat []).getD 0 .nil).S).toList)) then (some (.ret [.b false])) else (bif (decide (0≤j.I)) then (bif (decide (j.I<(h.L.length:Int))) then (some (.again [a,b,c,.i (w64 (d.I+1)),e,f,g,h,.l (mset (((h.L.getD j.I.toNat []).getD 1 .nil).S) (.i (w64 ((mget (.i 0) (((h.L.getD j.I.toNat []).getD 1 .nil).S) i.L).I+1))) i.L)])) else none) else none)) else none) else none) else (bif (decide (0≤j.I)) then (bif (decide (j.I<(h.L.length:Int))) then (some (.again [a,b,c,.i (w64 (d.I+1)),e,f,g,h,.l (mset (((h.L.getD j.I.toNat []).getD 1 .nil).S) (.i (w64 ((mget (.i 0) (((h.L.getD j.I.toNat []).getD 1 .nil).S) i.L).I+1))) i.L)])) else none) else none)) else (some (.ret [.b false]))) else none) else none) else (some (.ret [.b false])))) else none) else none) else (some (.brk 0 [e,f,g,h,.l i.L])))
def i_pMayGo.d2 (a b c d e f g h i j k l m n:C):R:=(bif (decide (g.I<f.I)) then (bif (decide (0≤g.I)) then (bif (decide (g.I<(e.L.length:Int))) then (bif ((((e.L.getD g.I.toNat []).getD 1 .nil).S).toList==m.S.toList) then (call1 (i_one [.b ((((e.L.getD g.I.toNat []).getD 11 .nil).S).toList==(bs #[]).toList)]) fun o=>(some (.again [.i (w64 (a.I+o.I)),b,c,d,e,f,.i (w64 (g.I+1)),h,i,j,k,.l l.L,m,n]))) else (call1 (i_one [.b false]) fun p=>(some (.again [.i (w64 (a.I+p.I)),b,c,d,e,f,.i (w64 (g.I+1)),h,i,j,k,.l l.L,m,n])))) else none) else none) else (some (.brk 4 [a,b,c,d,h,i,j,k,.l l.L,m,n])))
def i_pMayGo.d3 (a b c d e f g h i j k:C):R:=(bif (decide ((mget (.i 0) j.S i.L).I>(w64 (k.I-a.I)))) then (some (.ret [.b false])) else (some (.brk 3 [b,c,d,e,f,g,h,.l i.L])))
def i_pMayGo.d4 (a b c d e f g h:C):R:=(some (.again [a,b,.i (w64 (c.I+1)),d,e,f,g,.l h.L]))
def i_pMayGo.d5 (a b c d e f g h:C):R:=(bif (decide (c.I<b.I)) then (bindBlk 3 (bif (decide (0≤c.I)) then (bif (decide (c.I<(a.L.length:Int))) then (bif ((mget (.i 0) (((a.L.getD c.I.toNat []).getD 0 .nil).S) h.L).I==0) then (some (.brk 3 [a,b,c,d,e,f,g,.l h.L])) else (bindBlk 4 (lim (ap14 i_pMayGo.d2) [.i 0,a,b,c,g,.i (g.L.length:Int),.i 0,d,e,f,g,.l h.L,((a.L.getD c.I.toNat []).getD 0 .nil),((a.L.getD c.I.toNat []).getD 1 .nil)]) (ap11 i_pMayGo.d3))) else none) else none) (ap8 i_pMayGo.d4)) else (some (.brk 2 [])))
def i_pMayGo.d6:R:=(some (.ret [.b true]))
def i_pMayGo.d7 (a b c d e:C):R:=(bindBlk 2 (lim (ap8 i_pMayGo.d5) [c,.i (c.L.length:Int),.i 0,a,b,c,d,.l e.L]) (fun xs=>i_pMayGo.d6))
def i_pMayGo.d8 (a b c d e:C):R:=(bindBlk 0 (lim (ap9 i_pMayGo.d1) [e,e,.i (e.L.length:Int),.i 0,a,b,c,d,.l nils]) (ap5 i_pMayGo.d7))
def i_pMayGo:List C→Option (List C):=fun xs=>finR (ap5 i_pMayGo.d8 xs)
def i_pMayGo_fs:FS:=⟨2,⟨[(0,z3),(1,(zl 9))],[]⟩,⟨[(0,zo)],[]⟩,[],i_pMayGo⟩
theorem i_pMayGo_ok:FSOk Tryz.checked.prog T0 119 i_pMayGo_fs:=okOf base0 (fn:=Tryz.f119) (c:=Tryz.f119.body.getD .skip) i_pMayGo_fs (.seq .leaf (.seq .leaf (.seq (.seq .leaf (.block ⟨[(2,(.pt 2 0)),(5,(.mp 14))],[(2,z0),(14,.mp 3)]⟩ (.loop ⟨[(1,(zl 9)),(2,(.pt 2 0)),(5,(.mp 14)),(15,(zl 9)),(16,zi),(17,zi)],[(2,z0),(14,.mp 3)]⟩ .leaf))) (.seq (.seq .leaf (.block ⟨[],[]⟩ (.loop ⟨[(2,(.pt 2 0)),(5,(.mp 14)),(60,(zl 120)),(61,zi),(62,zi)],[(2,z0),(14,.mp 3)]⟩ (.seq .leaf (.seq .leaf (.seq (.block ⟨[(2,(.pt 2 0)),(5,(.mp 14)),(60,(zl 120)),(61,zi),(62,zi)],[(2,z0),(14,.mp 3)]⟩ (.seq .leaf (.seq .leaf (.seq .leaf (.seq (.seq .leaf (.block ⟨[(2,(.pt 2 0)),(5,(.mp 14)),(10,(.pt 10 0)),(11,zi),(60,(zl 120)),(61,zi),(62,zi)],[(2,z0),(14,.mp 3),(10,.var 120 [zt,zi])]⟩ (.loop ⟨[(2,(.pt 2 0)),(5,(.mp 14)),(10,(.pt 10 0)),(11,zi),(60,(zl 120)),(61,zi),(62,zi),(72,(zl 48)),(73,zi),(74,zi)],[(2,z0),(14,.mp 3),(10,.var 120 [zt,zi])]⟩ .leaf))) .leaf))))) .leaf)))))) .leaf)))) [(49,some 24,i_pCopyAt_fs),(148,some 89,i_one_fs)] (.cons i_pCopyAt_ok (.cons i_one_ok .nil)) (by kernel_rfl) (by kernel_rfl) (by kernel_rfl) (fun xs=>by kernel_rfl)
def i_pCloneBerth.d1 (a b c d e f:C):R:=(bif (decide (c.L.length≤4294967296)) then (some (.ret [a,b,d,e,f,.l c.L])) else none)
def i_pCloneBerth:List C→Option (List C):=fun xs=>finR (ap6 i_pCloneBerth.d1 xs)
def i_pCloneBerth_fs:FS:=⟨1,⟨[(0,z5)],[]⟩,⟨[(0,(.ag [zt,zt,(.ow 3000),zi,zi,zo]))],[(3000,.arr 9 1)]⟩,[],i_pCloneBerth⟩
theorem i_pCloneBerth_ok:FSOk Tryz.checked.prog T0 42 i_pCloneBerth_fs:=okOf base0 (fn:=Tryz.f42) (c:=Tryz.f42.body.getD .skip) i_pCloneBerth_fs .leaf [] .nil (by kernel_rfl) (by kernel_rfl) (by kernel_rfl) (fun xs=>by kernel_rfl)
def i_pCloneCopy.d1 (a b c d e f g h i j k l:C):R:=(bif (decide (h.L.length≤4294967296)) then (some (.ret [a,b,c,d,e,f,g,i,j,k,l,.l h.L])) else none)
def i_pCloneCopy:List C→Option (List C):=fun xs=>finR (ap12 i_pCloneCopy.d1 xs)
def i_pCloneCopy_fs:FS:=⟨1,⟨[(0,z4)],[]⟩,⟨[(0,(.ag [zt,zt,zi,zi,zi,zi,zt,(.ow 3000),zi,zt,zt,zt]))],[(3000,.arr 150 1)]⟩,[],i_pCloneCopy⟩
theorem i_pCloneCopy_ok:FSOk Tryz.checked.prog T0 48 i_pCloneCopy_fs:=okOf base0 (fn:=Tryz.f48) (c:=Tryz.f48.body.getD .skip) i_pCloneCopy_fs .leaf [] .nil (by kernel_rfl) (by kernel_rfl) (by kernel_rfl) (fun xs=>by kernel_rfl)
def i_pClone.d1 (a b c d e f g h i j k l m n o:C):R:=(bif (decide (c.I<b.I)) then (bif (decide (0≤c.I)) then (bif (decide (c.I<(a.L.length:Int))) then (call6 (i_pCloneBerth [((a.L.getD c.I.toNat []).getD 0 .nil),((a.L.getD c.I.toNat []).getD 1 .nil),((a.L.getD c.I.toNat []).getD 2 .nil),((a.L.getD c.I.toNat []).getD 3 .nil),((a.L.getD c.I.toNat []).getD 4 .nil),((a.L.getD c.I.toNat []).getD 5 .nil)]) fun p q r s t u=>(bif (decide (m.L.length+(rows [[p,q,.l u.L,r,s,t]]).length≤4294967296)) then (some (.again [a,b,.i (w64 (c.I+1)),d,e,f,g,h,i,.l j.L,.l k.L,.l l.L,.l (m.L++(rows [[p,q,.l u.L,r,s,t]])),.l n.L,.l o.L])) else none)) else none) else none) else (some (.brk 0 [d,e,f,g,h,i,.l j.L,.l k.L,.l l.L,.l m.L,.l n.L,.l o.L])))
def i_pClone.d2 (a b c d e f g h i j k:C):R:=(bif (decide (c.I<b.I)) then (bif (decide (0≤c.I)) then (bif (decide (c.I<(a.L.length:Int))) then (call12 (i_pCloneCopy [((a.L.getD c.I.toNat []).getD 0 .nil),((a.L.getD c.I.toNat []).getD 1 .nil),((a.L.getD c.I.toNat []).getD 2 .nil),((a.L.getD c.I.toNat []).getD 3 .nil),((a.L.getD c.I.toNat []).getD 4 .nil),((a.L.getD c.I.toNat []).getD 5 .nil),((a.L.getD c.I.toNat []).getD 6 .nil),((a.L.getD c.I.toNat []).getD 7 .nil),((a.L.getD c.I.toNat []).getD 8 .nil),((a.L.getD c.I.toNat []).getD 9 .nil),((a.L.getD c.I.toNat []).getD 10 .nil),((a.L.getD c.I.toNat []).getD 11 .nil)]) fun l m n o p q r s t u v w=>(bif (decide (k.L.length+(rows [[l,m,n,o,p,q,r,.l w.L,s,t,u,v]]).length≤4294967296)) then (some (.again [a,b,.i (w64 (c.I+1)),d,e,.l f.L,.l g.L,.l h.L,.l i.L,.l j.L,.l (k.L++(rows [[l,m,n,o,p,q,r,.l w.L,s,t,u,v]]))])) else none)) else none) else none) else (some (.brk 2 [d,e,.l f.L,.l g.L,.l h.L,.l i.L,.l j.L,.l k.L])))
def i_pClone.d3 (a b c d e f g h:C):R:=(some (.ret [b,.l f.L,.l g.L,.l h.L]))
def i_pClone.d4 (a b c d e f g h i j k l:C):R:=(bindBlk 2 (lim (ap11 i_pClone.d2) [d,.i (d.L.length:Int),.i 0,e,f,.l g.L,.l h.L,.l i.L,.l j.L,.l k.L,.l l.L]) (ap8 i_pClone.d3))
def i_pClone.d5 (a b c d:C):R:=(bif (decide (c.L.length≤4294967296)) then (bindBlk 0 (lim (ap15 i_pClone.d1) [b,.i (b.L.length:Int),.i 0,a,b,c,d,.b false,.b a.B,.l nils,.l nils,.l nils,.l nils,.l c.L,.l nils]) (ap12 i_pClone.d4)) else none)
def i_pClone:List C→Option (List C):=fun xs=>finR (ap4 i_pClone.d5 xs)
def i_pClone_fs:FS:=⟨1,⟨[(0,z3)],[]⟩,⟨[(0,z6)],[(3000,.arr 45 1),(3001,.arr 120 1),(3002,.arr 48 1)]⟩,[],i_pClone⟩
theorem i_pClone_ok:FSOk Tryz.checked.prog T0 41 i_pClone_fs:=okOfT base0 [25,40] false (fn:=Tryz.f41) (c:=Tryz.f41.body.getD .skip) i_pClone_fs (.seq .leaf (.seq .leaf (.seq (.seq .leaf (.block ⟨[(1,(.pt 1 0)),(2,(.pt 2 0)),(3,(.pt 3 0))],[(1,z0),(2,z8),(3,.var 41 [zo,(.ow 1338103),(.ow 12),(.ow 1338104)]),(1338100,.arr 45 1),(1338101,.arr 120 1),(1338102,.arr 48 1),(1338103,.arr 45 1),(12,.arr 120 1),(1338104,.arr 48 1)]⟩ (.loop ⟨[(1,(.pt 1 0)),(2,(.pt 2 0)),(3,(.pt 3 0)),(15,(zl 45)),(16,zi),(17,zi)],[(1,z0),(2,z8),(3,.var 41 [zo,(.ow 1338103),(.ow 12),(.ow 1338104)]),(1338100,.arr 45 1),(1338101,.arr 120 1),(1338102,.arr 48 1),(1338103,.arr 45 1),(12,.arr 120 1),(1338104,.arr 48 1)]⟩ .leaf))) (.seq (.seq .leaf (.block ⟨[(2,(.pt 2 0)),(3,(.pt 3 0))],[(2,z8),(3,.var 41 [zo,(.ow 1338103),(.ow 12),(.ow 1338104)]),(1338100,.arr 45 1),(1338101,.arr 120 1),(1338102,.arr 48 1),(1338103,.arr 45 1),(12,.arr 120 1),(1338104,.arr 48 1)]⟩ (.loop ⟨[(2,(.pt 2 0)),(3,(.pt 3 0)),(30,(zl 48)),(31,zi),(32,zi)],[(2,z8),(3,.var 41 [zo,(.ow 1338103),(.ow 12),(.ow 1338104)]),(1338100,.arr 45 1),(1338101,.arr 120 1),(1338102,.arr 48 1),(1338103,.arr 45 1),(12,.arr 120 1),(1338104,.arr 48 1)]⟩ .leaf))) .leaf)))) [(42,some 24,i_pCloneBerth_fs),(48,some 39,i_pCloneCopy_fs)] (.cons i_pCloneBerth_ok (.cons i_pCloneCopy_ok .nil)) (by kernel_rfl) (by kernel_rfl) (by kernel_rfl) (fun xs=>by kernel_rfl)
end
end Go.Ev
namespace Go.Ev
open Go.Proofs
noncomputable section
def slices_Index_string.d1 (a b c d:C):R:=(bif (decide (d.I<c.I)) then (bif (decide (0≤d.I)) then (bif (decide (d.I<(a.L.length:Int))) then (bif (b.S.toList==(((a.L.getD d.I.toNat []).getD 0 .nil).S).toList) then (some (.ret [d])) else (some (.again [a,b,c,.i (w64 (d.I+1))]))) else none) else none) else (some (.brk 0 [])))
def slices_Index_string.d2:R:=(some (.ret [.i (-1)]))
def slices_Index_string.d3 (a b:C):R:=(bindBlk 0 (lim (ap4 slices_Index_string.d1) [a,b,.i (a.L.length:Int),.i 0]) (fun xs=>slices_Index_string.d2))
def slices_Index_string:List C→Option (List C):=fun xs=>finR (ap2 slices_Index_string.d3 xs)
def slices_Index_string_fs:FS:=⟨2,⟨[(0,(zl 9)),(1,zt)],[]⟩,⟨[(0,zi)],[]⟩,[],slices_Index_string⟩
theorem slices_Index_string_ok:FSOk Tryz.checked.prog T0 180 slices_Index_string_fs:=okOf base0 (fn:=Tryz.f180) (c:=Tryz.f180.body.getD .skip) slices_Index_string_fs (.seq .leaf (.seq (.seq .leaf (.block ⟨[],[]⟩ (.loop ⟨[(0,(zl 9)),(1,zt),(7,zi),(8,zi)],[]⟩ .leaf))) .leaf)) [] .nil (by kernel_rfl) (by kernel_rfl) (by kernel_rfl) (fun xs=>by kernel_rfl)
def slices_Contains_string.d1 (a b:C):R:=(call1 (slices_Index_string [a,b]) fun c=>(some (.ret [.b (decide (c.I≥0))])))
def slices_Contains_string:List C→Option (List C):=fun xs=>finR (ap2 slices_Contains_string.d1 xs)
def slices_Contains_string_fs:FS:=⟨2,⟨[(0,(zl 9)),(1,zt)],[]⟩,⟨[(0,zo)],[]⟩,[],slices_Contains_string⟩
theorem slices_Contains_string_ok:FSOk Tryz.checked.prog T0 151 slices_Contains_string_fs:=okOf base0 (fn:=Tryz.f151) (c:=Tryz.f151.body.getD .skip) slices_Contains_string_fs .leaf [(180,some 7,slices_Index_string_fs)] (.cons slices_Index_string_ok .nil) (by kernel_rfl) (by kernel_rfl) (by kernel_rfl) (fun xs=>by kernel_rfl)
def i_pGo.d1 (a b c d e f g h i j k:C):R:=(bif (decide (c.I<b.I)) then (bif (decide (0≤c.I)) then (bif (decide (c.I<(k.L.length:Int))) then (call1 (slices_Contains_string [a,((k.L.getD c.I.toNat []).getD 0 .nil)]) fun l=>(bif l.B then (bif (decide (0≤c.I)) then (bif (decide (c.I<(k.L.length:Int))) then (some (.again [a,b,.i (w64 (c.I+1)),d,e,.l f.L,.l g.L,.l h.L,.l i.L,.l j.L,.l (k.L.set c.I.toNat (setCs (k.L.getD c.I.toNat []) 11 [.s (bs #[])]))])) else none) else none) else (some (.again [a,b,.i (w64 (c.I+1)),d,e,.l f.L,.l g.L,.l h.L,.l i.L,.l j.L,.l k.L])))) else none) else none) else (some (.brk 0 [d,e,.l f.L,.l g.L,.l h.L,.l i.L,.l j.L,.l k.L])))
def i_pGo.d2 (a b c d e f g h:C):R:=(some (.ret [b,.l f.L,.l g.L,.l h.L]))
def i_pGo.d3 (a b c d e:C):R:=(call4 (i_pClone [a,b,c,d]) fun f g h i=>(bindBlk 0 (lim (ap11 i_pGo.d1) [e,.i (i.L.length:Int),.i 0,.b false,f,.l nils,.l nils,.l nils,.l g.L,.l h.L,.l i.L]) (ap8 i_pGo.d2)))
def i_pGo:List C→Option (List C):=fun xs=>finR (ap5 i_pGo.d3 xs)
def i_pGo_fs:FS:=⟨2,⟨[(0,z3),(1,(zl 9))],[]⟩,⟨[(0,z6)],[(3000,.arr 45 1),(3001,.arr 120 1),(3002,.arr 48 1)]⟩,[],i_pGo⟩
theorem i_pGo_ok:FSOk Tryz.checked.prog T0 121 i_pGo_fs:=okOf base0 (fn:=Tryz.f121) (c:=Tryz.f121.body.getD .skip) i_pGo_fs (.seq .leaf (.seq .leaf (.seq (.seq .leaf (.block ⟨[(4,(.pt 4 0)),(5,(.pt 5 0))],[(4,.var 41 [zo,(.ow 1335300),(.ow 1335301),(.ow 1335302)]),(5,.var 41 [zo,(.ow 39864),(.ow 39865),(.ow 39866)]),(1335300,.arr 45 1),(1335301,.arr 120 1),(1335302,.arr 48 1),(39864,.arr 45 1),(39865,.arr 120 1),(39866,.arr 48 1)]⟩ (.loop ⟨[(1,(zl 9)),(4,(.pt 4 0)),(5,(.pt 5 0)),(11,zi),(12,zi)],[(4,.var 41 [zo,(.ow 1335300),(.ow 1335301),(.ow 1335302)]),(5,.var 41 [zo,(.ow 39864),(.ow 39865),(.ow 39866)]),(1335300,.arr 45 1),(1335301,.arr 120 1),(1335302,.arr 48 1),(39864,.arr 45 1),(39865,.arr 120 1),(39866,.arr 48 1)]⟩ .leaf))) .leaf))) [(41,some 8,i_pClone_fs),(151,some 22,slices_Contains_string_fs)] (.cons i_pClone_ok (.cons slices_Contains_string_ok .nil)) (by kernel_rfl) (by kernel_rfl) (by kernel_rfl) (fun xs=>by kernel_rfl)
def i_pSel_meets.d1 (G0:List C→Option (List C)) (a b c d e:C):R:=(bif e.B then (some (.ret [.b true])) else (some (.again [a,b,c,.i (w64 (d.I+1))])))
def i_pSel_meets.d2 (G0:List C→Option (List C)) (a b c d:C):R:=(bif (decide (d.I<c.I)) then (bif (decide (0≤d.I)) then (bif (decide (d.I<(b.L.length:Int))) then (call3 (i_pMark [((b.L.getD d.I.toNat []).getD 0 .nil)]) fun e f g=>(bindNrm (bif g.B then (bif a.isP then (bif (e.S.toList==((a.P.getD 1 .nil).S).toList) then (bif a.isP then (bif (!((a.P.getD 0 .nil).I==1)) then (bif a.isP then (some (.nrm [a,b,c,d,.b (f.S.toList==((a.P.getD 2 .nil).S).toList)])) else none) else (some (.nrm [a,b,c,d,.b true]))) else none) else (some (.nrm [a,b,c,d,.b false]))) else none) else (some (.nrm [a,b,c,d,.b false]))) (ap5 (i_pSel_meets.d1 G0)))) else none) else none) else (some (.brk 1 [])))
def i_pSel_meets.d3 (G0:List C→Option (List C)):R:=(some (.ret [.b false]))
def i_pSel_meets.d4 (G0:List C→Option (List C)) (a b c d:C):R:=(bif d.B then (bindBlk 1 (lim (ap4 (i_pSel_meets.d2 G0)) [a,b,.i (b.L.length:Int),.i 0]) (fun xs=>(i_pSel_meets.d3 G0))) else (bif (c.I==3) then (bif a.isP then (bif (decide (0<(((a.P.getD 3 .nil).L).length:Int))) then (call1 (G0 [((((a.P.getD 3 .nil).L).getD 0 []).getD 0 .nil),b]) fun e=>(some (.ret [.b (!e.B)]))) else none) else none) else (bif (c.I==4) then (bif a.isP then (bif (decide (0<(((a.P.getD 3 .nil).L).length:Int))) then (call1 (G0 [((((a.P.getD 3 .nil).L).getD 0 []).getD 0 .nil),b]) fun f=>(bif f.B then (bif a.isP then (bif (decide (1<(((a.P.getD 3 .nil).L).length:Int))) then (call1 (G0 [((((a.P.getD 3 .nil).L).getD 1 []).getD 0 .nil),b]) fun g=>(some (.ret [.b g.B]))) else none) else none) else (some (.ret [.b false])))) else none) else none) else (bif (c.I==5) then (bif a.isP then (bif (decide (0<(((a.P.getD 3 .nil).L).length:Int))) then (call1 (G0 [((((a.P.getD 3 .nil).L).getD 0 []).getD 0 .nil),b]) fun h=>(bif (!h.B) then (bif a.isP then (bif (decide (1<(((a.P.getD 3 .nil).L).length:Int))) then (call1 (G0 [((((a.P.getD 3 .nil).L).getD 1 []).getD 0 .nil),b]) fun i=>(some (.ret [.b i.B]))) else none) else none) else (some (.ret [.b true])))) else none) else none) else (some (.ret [.b true]))))))
def i_pSel_meets.d5 (G0:List C→Option (List C)) (a b:C):R:=(bif a.isP then (bindNrm (bif ((a.P.getD 0 .nil).I==1) then (some (.nrm [a,b,(a.P.getD 0 .nil),.b ((a.P.getD 0 .nil).I==1)])) else (some (.nrm [a,b,(a.P.getD 0 .nil),.b ((a.P.getD 0 .nil).I==2)]))) (ap4 (i_pSel_meets.d4 G0))) else none)
def i_pSel_meets.step (G0:List C→Option (List C)):List C→Option (List C):=fun xs=>finR (ap2 (i_pSel_meets.d5 G0) xs)
def i_pSel_meets_fs (G:List C→Option (List C)):FS:=⟨2,⟨[(0,(.d (.pt 184))),(1,(.d (.sl 9)))],[]⟩,⟨[(0,(.d .bool))],[]⟩,[],G⟩
theorem i_pSel_meets_st {G0:List C→Option (List C)} (h0:FSOk Tryz.checked.prog T0 179 (i_pSel_meets_fs G0)):FSOk Tryz.checked.prog T0 179 (i_pSel_meets_fs (i_pSel_meets.step G0)):=okOf base0 (fn:=Tryz.f179) (c:=Tryz.f179.body.getD .skip) (i_pSel_meets_fs (i_pSel_meets.step G0)) (.seq .leaf (.seq (.seq .leaf (.skip (.seq (.join ⟨[(0,(.d (.pt 184))),(1,(.d (.sl 9))),(13,(.d (.int .i64))),(14,(.d .bool))],[]⟩ .leaf) (.cond (.seq (.seq .leaf (.block ⟨[],[]⟩ (.loop ⟨[(0,(.d (.pt 184))),(17,(.d (.sl 9))),(18,(.d (.int .i64))),(19,(.d (.int .i64)))],[]⟩ (.seq .leaf (.seq .leaf (.seq (.skip (.seq .leaf (.seq .leaf (.seq (.join ⟨[(0,(.d (.pt 184))),(17,(.d (.sl 9))),(18,(.d (.int .i64))),(19,(.d (.int .i64))),(52,(.d .bool))],[]⟩ .leaf) .leaf)))) .leaf)))))) .leaf) .leaf)))) .leaf)) [(127,some 25,i_pMark_fs),(179,some 63,(i_pSel_meets_fs G0)),(179,some 74,(i_pSel_meets_fs G0)),(179,some 83,(i_pSel_meets_fs G0)),(179,some 94,(i_pSel_meets_fs G0)),(179,some 103,(i_pSel_meets_fs G0))] (.cons i_pMark_ok (.cons h0 (.cons h0 (.cons h0 (.cons h0 (.cons h0 .nil)))))) (by kernel_rfl) (by kernel_rfl) (by kernel_rfl) (fun xs=>by kernel_rfl)
def i_pSel_meets.g:Nat→Nat→List C→Option (List C)
 |0,_=>fun _=>none
 |k+1,0=>i_pSel_meets.step (i_pSel_meets.g k 0)
 |_,_=>fun _=>none
theorem i_pSel_meets_rec:∀k:Nat,FSOk Tryz.checked.prog T0 179 (i_pSel_meets_fs (i_pSel_meets.g k 0))
 |0=>noneOk (fn:=Tryz.f179) (c:=Tryz.f179.body.getD .skip) (2) (⟨[(0,(.d (.pt 184))),(1,(.d (.sl 9)))],[]⟩) (⟨[(0,(.d .bool))],[]⟩) [] (by kernel_rfl) (by kernel_rfl) (by kernel_rfl)
 |k+1=>i_pSel_meets_st (i_pSel_meets_rec k)
def i_pSel_meets:List C→Option (List C):=i_pSel_meets.g FUEL 0
theorem i_pSel_meets_ok:FSOk Tryz.checked.prog T0 179 (i_pSel_meets_fs i_pSel_meets):=i_pSel_meets_rec FUEL
def i_pMeets.d1 (a b c d e f g:C):R:=(call2 (i_pParse [a]) fun h i=>(bif (i.I==0) then (bif (decide (d.L.length≤4294967296)) then (bif (decide ((bs #[122,111,110,101,61]).size+c.S.size≤4294967296)) then (bif (decide (d.L.length+(rows [[.s ((bs #[122,111,110,101,61])++c.S)]]).length≤4294967296)) then (call1 (i_pSel_meets [h,.l (d.L++(rows [[.s ((bs #[122,111,110,101,61])++c.S)]]))]) fun j=>(some (.ret [.b j.B]))) else none) else none) else none) else (some (.ret [.b false]))))
def i_pMeets:List C→Option (List C):=fun xs=>finR (ap7 i_pMeets.d1 xs)
def i_pMeets_fs:FS:=⟨2,⟨[(0,zt),(1,z5)],[]⟩,⟨[(0,zo)],[]⟩,[],i_pMeets⟩
theorem i_pMeets_ok:FSOk Tryz.checked.prog T0 149 i_pMeets_fs:=okOf base0 (fn:=Tryz.f149) (c:=Tryz.f149.body.getD .skip) i_pMeets_fs .leaf [(129,some 9,i_pParse_fs),(179,some 24,(i_pSel_meets_fs i_pSel_meets))] (.cons i_pParse_ok (.cons i_pSel_meets_ok .nil)) (by kernel_rfl) (by kernel_rfl) (by kernel_rfl) (fun xs=>by kernel_rfl)
def i_pZone.d1 (a b c d e:C):R:=(call1 (i_pBerthAt [a,b,c,d,e]) fun f=>(bif (decide (f.I≥0)) then (bif (decide (0≤f.I)) then (bif (decide (f.I<(b.L.length:Int))) then (some (.ret [((b.L.getD f.I.toNat []).getD 1 .nil)])) else none) else none) else (some (.ret [.s (bs #[])]))))
def i_pZone:List C→Option (List C):=fun xs=>finR (ap5 i_pZone.d1 xs)
def i_pZone_fs:FS:=⟨2,⟨[(0,z3),(1,zt)],[]⟩,⟨[(0,zt)],[]⟩,[],i_pZone⟩
theorem i_pZone_ok:FSOk Tryz.checked.prog T0 150 i_pZone_fs:=okOf base0 (fn:=Tryz.f150) (c:=Tryz.f150.body.getD .skip) i_pZone_fs .leaf [(43,some 8,i_pBerthAt_fs)] (.cons i_pBerthAt_ok .nil) (by kernel_rfl) (by kernel_rfl) (by kernel_rfl) (fun xs=>by kernel_rfl)
def i_pFits.d1 (a b c d e f g h i j k l m n o p q r s t u v w x y z a0 a1 a2 a3 a4 a5 a6 a7 a8 a9 b0 b1 b2 b3 b4 b5 b6:C):R:=(bif (b6.S.toList==z.S.toList) then (some (.brk 1 [a,b,.i (w64 (c.I+1)),.i (w64 (d.I+a9.I)),.i (w64 (e.I+b0.I)),f,g,h,i,j,k,l,m,n,o,p,q,r,s,t,u,v,w,x,y,z,a0,a1,a2,a3,a4])) else (some (.brk 1 [a,b,c,d,e,f,g,h,i,j,k,l,m,n,o,p,q,r,s,t,u,v,w,x,y,z,a0,a1,a2,a3,a4])))
def i_pFits.d2 (a b c d e f g h i j k l m n o p q r s t u v w x y z a0 a1 a2 a3 a4 a5 a6 a7 a8 a9 b0 b1 b2 b3 b4 b5 b6 b7:C):R:=(bindNrm (bif (!a.B) then (bif (a7.S.toList==x.S.toList) then (some (.nrm [.b g.B,b,c,d,e,f,h,i,j,k,l,m,n,o,p,q,r,s,t,u,v,w,x,y,z,a0,a1,a2,a3,a4,a5,a6,a7,a8,a9,b0,b1,b2,b3,b4,b5,b6,b7])) else (some (.nrm [.b false,b,c,d,e,f,h,i,j,k,l,m,n,o,p,q,r,s,t,u,v,w,x,y,z,a0,a1,a2,a3,a4,a5,a6,a7,a8,a9,b0,b1,b2,b3,b4,b5,b6,b7]))) else (some (.nrm [.b true,b,c,d,e,f,h,i,j,k,l,m,n,o,p,q,r,s,t,u,v,w,x,y,z,a0,a1,a2,a3,a4,a5,a6,a7,a8,a9,b0,b1,b2,b3,b4,b5,b6,b7]))) (fun xs=>i_pFits.d1 (xs.getD 0 .nil) (xs.getD 1 .nil) (xs.getD 2 .nil) (xs.getD 3 .nil) (xs.getD 4 .nil) (xs.getD 5 .nil) (xs.getD 6 .nil) (xs.getD 7 .nil) (xs.getD 8 .nil) (xs.getD 9 .nil) (xs.getD 10 .nil) (xs.getD 11 .nil) (xs.getD 12 .nil) (xs.getD 13 .nil) (xs.getD 14 .nil) (xs.getD 15 .nil) (xs.getD 16 .nil) (xs.getD 17 .nil) (xs.getD 18 .nil) (xs.getD 19 .nil) (xs.getD 20 .nil) (xs.getD 21 .nil) (xs.getD 22 .nil) (xs.getD 23 .nil) (xs.getD 24 .nil) (xs.getD 25 .nil) (xs.getD 26 .nil) (xs.getD 27 .nil) (xs.getD 28 .nil) (xs.getD 29 .nil) (xs.getD 30 .nil) (xs.getD 31 .nil) (xs.getD 32 .nil) (xs.getD 33 .nil) (xs.getD 34 .nil) (xs.getD 35 .nil) (xs.getD 36 .nil) (xs.getD 37 .nil) (xs.getD 38 .nil) (xs.getD 39 .nil) (xs.getD 40 .nil) (xs.getD 41 .nil) (xs.getD 42 .nil)))
def i_pFits.d3 (a b c d e f g h i j k l m n o p q r s t u v w x y z a0 a1 a2 a3 a4:C):R:=(some (.again [a,b,c,d,e,f,g,h,.i (w64 (i.I+1)),j,k,l,m,n,o,p,q,r,s,t,u,v,w,x,y,z,a0,a1,a2,a3,a4]))
def i_pFits.d4 (a b c d e f g h i j k l m n o p q r s t u v w x y z a0 a1 a2 a3 a4:C):R:=(bif (decide (i.I<h.I)) then (bindBlk 1 (bif (decide (0≤i.I)) then (bif (decide (i.I<(g.L.length:Int))) then (bif (!((((g.L.getD i.I.toNat []).getD 0 .nil).S).toList==n.S.toList)) then (bif ((((g.L.getD i.I.toNat []).getD 11 .nil).S).toList==(bs #[]).toList) then (some (.brk 1 [a,b,c,d,e,f,g,h,i,j,k,l,m,n,o,p,q,r,s,t,u,v,w,x,y,z,a0,a1,a2,a3,a4])) else (call1 (i_pZone [j,k,l,m,((g.L.getD i.I.toNat []).getD 11 .nil)]) fun a5=>(bindNrm (bif ((((g.L.getD i.I.toNat []).getD 1 .nil).S).toList==o.S.toList) then (bif (!f.B) then (bif ((((g.L.getD i.I.toNat []).getD 11 .nil).S).toList==z.S.toList) then (bif (!(decide ((w64 (v.I+((g.L.getD i.I.toNat []).getD 8 .nil).I))>0))) then (bif (a5.S.toList==a0.S.toList) then (bif (!(v.I==2)) then (some (.nrm [a,.b true,c,d,e,.b (((g.L.getD i.I.toNat []).getD 8 .nil).I==2),.b (a5.S.toList==a0.S.toList),g,h,i,j,k,l,m,n,o,p,q,r,s,t,u,v,w,x,y,z,a0,a1,a2,a3,a4,((g.L.getD i.I.toNat []).getD 0 .nil),((g.L.getD i.I.toNat []).getD 1 .nil),((g.L.getD i.I.toNat []).getD 2 .nil),((g.L.getD i.I.toNat []).getD 3 .nil),((g.L.getD i.I.toNat []).getD 4 .nil),((g.L.getD i.I.toNat []).getD 5 .nil),((g.L.getD i.I.toNat []).getD 6 .nil),((g.L.getD i.I.toNat []).getD 7 .nil),((g.L.getD i.I.toNat []).getD 8 .nil),((g.L.getD i.I.toNat []).getD 9 .nil),((g.L.getD i.I.toNat []).getD 10 .nil),((g.L.getD i.I.toNat []).getD 11 .nil)])) else (some (.nrm [a,.b true,c,d,e,.b true,.b (a5.S.toList==a0.S.toList),g,h,i,j,k,l,m,n,o,p,q,r,s,t,u,v,w,x,y,z,a0,a1,a2,a3,a4,((g.L.getD i.I.toNat []).getD 0 .nil),((g.L.getD i.I.toNat []).getD 1 .nil),((g.L.getD i.I.toNat []).getD 2 .nil),((g.L.getD i.I.toNat []).getD 3 .nil),((g.L.getD i.I.toNat []).getD 4 .nil),((g.L.getD i.I.toNat []).getD 5 .nil),((g.L.getD i.I.toNat []).getD 6 .nil),((g.L.getD i.I.toNat []).getD 7 .nil),((g.L.getD i.I.toNat []).getD 8 .nil),((g.L.getD i.I.toNat []).getD 9 .nil),((g.L.getD i.I.toNat []).getD 10 .nil),((g.L.getD i.I.toNat []).getD 11 .nil)]))) else (some (.nrm [a,.b true,c,d,e,.b false,.b (a5.S.toList==a0.S.toList),g,h,i,j,k,l,m,n,o,p,q,r,s,t,u,v,w,x,y,z,a0,a1,a2,a3,a4,((g.L.getD i.I.toNat []).getD 0 .nil),((g.L.getD i.I.toNat []).getD 1 .nil),((g.L.getD i.I.toNat []).getD 2 .nil),((g.L.getD i.I.toNat []).getD 3 .nil),((g.L.getD i.I.toNat []).getD 4 .nil),((g.L.getD i.I.toNat []).getD 5 .nil),((g.L.getD i.I.toNat []).getD 6 .nil),((g.L.getD i.I.toNat []).getD 7 .nil),((g.L.getD i.I.toNat []).getD 8 .nil),((g.L.getD i.I.toNat []).getD 9 .nil),((g.L.getD i.I.toNat []).getD 10 .nil),((g.L.getD i.I.toNat []).getD 11 .nil)]))) else (some (.nrm [a,.b true,c,d,e,.b true,.b (a5.S.toList==a0.S.toList),g,h,i,j,k,l,m,n,o,p,q,r,s,t,u,v,w,x,y,z,a0,a1,a2,a3,a4,((g.L.getD i.I.toNat []).getD 0 .nil),((g.L.getD i.I.toNat []).getD 1 .nil),((g.L.getD i.I.toNat []).getD 2 .nil),((g.L.getD i.I.toNat []).getD 3 .nil),((g.L.getD i.I.toNat []).getD 4 .nil),((g.L.getD i.I.toNat []).getD 5 .nil),((g.L.getD i.I.toNat []).getD 6 .nil),((g.L.getD i.I.toNat []).getD 7 .nil),((g.L.getD i.I.toNat []).getD 8 .nil),((g.L.getD i.I.toNat []).getD 9 .nil),((g.L.getD i.I.toNat []).getD 10 .nil),((g.L.getD i.I.toNat []).getD 11 .nil)]))) else (bif (a5.S.toList==a0.S.toList) then (bif (!(v.I==2)) then (some (.nrm [a,.b true,c,d,e,.b (((g.L.getD i.I.toNat []).getD 8 .nil).I==2),.b (a5.S.toList==a0.S.toList),g,h,i,j,k,l,m,n,o,p,q,r,s,t,u,v,w,x,y,z,a0,a1,a2,a3,a4,((g.L.getD i.I.toNat []).getD 0 .nil),((g.L.getD i.I.toNat []).getD 1 .nil),((g.L.getD i.I.toNat []).getD 2 .nil),((g.L.getD i.I.toNat []).getD 3 .nil),((g.L.getD i.I.toNat []).getD 4 .nil),((g.L.getD i.I.toNat []).getD 5 .nil),((g.L.getD i.I.toNat []).getD 6 .nil),((g.L.getD i.I.toNat []).getD 7 .nil),((g.L.getD i.I.toNat []).getD 8 .nil),((g.L.getD i.I.toNat []).getD 9 .nil),((g.L.getD i.I.toNat []).getD 10 .nil),((g.L.getD i.I.toNat []).getD 11 .nil)])) else (some (.nrm [a,.b true,c,d,e,.b true,.b (a5.S.toList==a0.S.toList),g,h,i,j,k,l,m,n,o,p,q,r,s,t,u,v,w,x,y,z,a0,a1,a2,a3,a4,((g.L.getD i.I.toNat []).getD 0 .nil),((g.L.getD i.I.toNat []).getD 1 .nil),((g.L.getD i.I.toNat []).getD 2 .nil),((g.L.getD i.I.toNat []).getD 3 .nil),((g.L.getD i.I.toNat []).getD 4 .nil),((g.L.getD i.I.toNat []).getD 5 .nil),((g.L.getD i.I.toNat []).getD 6 .nil),((g.L.getD i.I.toNat []).getD 7 .nil),((g.L.getD i.I.toNat []).getD 8 .nil),((g.L.getD i.I.toNat []).getD 9 .nil),((g.L.getD i.I.toNat []).getD 10 .nil),((g.L.getD i.I.toNat []).getD 11 .nil)]))) else (some (.nrm [a,.b true,c,d,e,.b false,.b (a5.S.toList==a0.S.toList),g,h,i,j,k,l,m,n,o,p,q,r,s,t,u,v,w,x,y,z,a0,a1,a2,a3,a4,((g.L.getD i.I.toNat []).getD 0 .nil),((g.L.getD i.I.toNat []).getD 1 .nil),((g.L.getD i.I.toNat []).getD 2 .nil),((g.L.getD i.I.toNat []).getD 3 .nil),((g.L.getD i.I.toNat []).getD 4 .nil),((g.L.getD i.I.toNat []).getD 5 .nil),((g.L.getD i.I.toNat []).getD 6 .nil),((g.L.getD i.I.toNat []).getD 7 .nil),((g.L.getD i.I.toNat []).getD 8 .nil),((g.L.getD i.I.toNat []).getD 9 .nil),((g.L.getD i.I.toNat []).getD 10 .nil),((g.L.getD i.I.toNat []).getD 11 .nil)])))) else (some (.nrm [a,.b true,c,d,e,.b true,.b (a5.S.toList==a0.S.toList),g,h,i,j,k,l,m,n,o,p,q,r,s,t,u,v,w,x,y,z,a0,a1,a2,a3,a4,((g.L.getD i.I.toNat []).getD 0 .nil),((g.L.getD i.I.toNat []).getD 1 .nil),((g.L.getD i.I.toNat []).getD 2 .nil),((g.L.getD i.I.toNat []).getD 3 .nil),((g.L.getD i.I.toNat []).getD 4 .nil),((g.L.getD i.I.toNat []).getD 5 .nil),((g.L.getD i.I.toNat []).getD 6 .nil),((g.L.getD i.I.toNat []).getD 7 .nil),((g.L.getD i.I.toNat []).getD 8 .nil),((g.L.getD i.I.toNat []).getD 9 .nil),((g.L.getD i.I.toNat []).getD 10 .nil),((g.L.getD i.I.toNat []).getD 11 .nil)]))) else (some (.nrm [a,b,c,d,e,f,.b (a5.S.toList==a0.S.toList),g,h,i,j,k,l,m,n,o,p,q,r,s,t,u,v,w,x,y,z,a0,a1,a2,a3,a4,((g.L.getD i.I.toNat []).getD 0 .nil),((g.L.getD i.I.toNat []).getD 1 .nil),((g.L.getD i.I.toNat []).getD 2 .nil),((g.L.getD i.I.toNat []).getD 3 .nil),((g.L.getD i.I.toNat []).getD 4 .nil),((g.L.getD i.I.toNat []).getD 5 .nil),((g.L.getD i.I.toNat []).getD 6 .nil),((g.L.getD i.I.toNat []).getD 7 .nil),((g.L.getD i.I.toNat []).getD 8 .nil),((g.L.getD i.I.toNat []).getD 9 .nil),((g.L.getD i.I.toNat []).getD 10 .nil),((g.L.getD i.I.toNat []).getD 11 .nil)]))) (fun xs=>i_pFits.d2 (xs.getD 0 .nil) (xs.getD 1 .nil) (xs.getD 2 .nil) (xs.getD 3 .nil) (xs.getD 4 .nil) (xs.getD 5 .nil) (xs.getD 6 .nil) (xs.getD 7 .nil) (xs.getD 8 .nil) (xs.getD 9 .nil) (xs.getD 10 .nil) (xs.getD 11 .nil) (xs.getD 12 .nil) (xs.getD 13 .nil) (xs.getD 14 .nil) (xs.getD 15 .nil) (xs.getD 16 .nil) (xs.getD 17 .nil) (xs.getD 18 .nil) (xs.getD 19 .nil) (xs.getD 20 .nil) (xs.getD 21 .nil) (xs.getD 22 .nil) (xs.getD 23 .nil) (xs.getD 24 .nil) (xs.getD 25 .nil) (xs.getD 26 .nil) (xs.getD 27 .nil) (xs.getD 28 .nil) (xs.getD 29 .nil) (xs.getD 30 .nil) (xs.getD 31 .nil) (xs.getD 32 .nil) (xs.getD 33 .nil) (xs.getD 34 .nil) (xs.getD 35 .nil) (xs.getD 36 .nil) (xs.getD 37 .nil) (xs.getD 38 .nil) (xs.getD 39 .nil) (xs.getD 40 .nil) (xs.getD 41 .nil) (xs.getD 42 .nil) (xs.getD 43 .nil))))) else (some (.brk 1 [a,b,c,d,e,f,g,h,i,j,k,l,m,n,o,p,q,r,s,t,u,v,w,x,y,z,a0,a1,a2,a3,a4]))) else none) else none) (ap31 i_pFits.d3)) else (some (.brk 0 [a,b,c,d,e,f,n,o,p,q,r,s,t,u,v,w,x,y,z,a0,a1,a2,a3,a4])))
def i_pFits.d5 (a b c d e f g h i j k l m n o p q r s t u v:C):R:=(bif d.B then (some (.ret [.i 5])) else (bif (decide (a.I≥10)) then (some (.ret [.i 6])) else (bif (decide ((w64 (b.I+i.I))>t.I)) then (some (.ret [.i 7])) else (bif (decide ((w64 (c.I+j.I))>u.I)) then (some (.ret [.i 8])) else (some (.ret [.i 0]))))))
def i_pFits.d6 (a b c d e f g h i j k l m n o p q r s t u v w x:C):R:=(bif f.B then (some (.ret [.i 4])) else (bindNrm (bif (!(p.S.toList==(bs #[]).toList)) then (bif (!a.B) then (bif (p.S.toList==h.S.toList) then (some (.nrm [c,d,e,.b (!(!b.B)),g,h,i,j,k,l,m,n,o,p,q,r,s,t,u,v,w,x])) else (some (.nrm [c,d,e,.b true,g,h,i,j,k,l,m,n,o,p,q,r,s,t,u,v,w,x]))) else (some (.nrm [c,d,e,.b false,g,h,i,j,k,l,m,n,o,p,q,r,s,t,u,v,w,x]))) else (some (.nrm [c,d,e,.b false,g,h,i,j,k,l,m,n,o,p,q,r,s,t,u,v,w,x]))) (ap22 i_pFits.d5)))
def i_pFits.d7 (a b c d e f g h i j k l m n o p q r s t u v:C):R:=(call1 (i_pMeets [k,q,r,s,t,u,v]) fun w=>(bif (!w.B) then (some (.ret [.i 3])) else (bindBlk 0 (lim (ap31 i_pFits.d4) [.b false,.b false,.i 0,.i 0,.i 0,.b false,d,.i (d.L.length:Int),.i 0,a,b,c,d,e,f,g,h,i,j,k,l,m,n,o,p,q,r,s,t,u,v]) (ap24 i_pFits.d6))))
def i_pFits.d8 (a b c d e f g h i j k l m n o p q r s t u v:C):R:=(bindNrm (bif (!(o.S.toList==(bs #[]).toList)) then (bif (!(o.S.toList==q.S.toList)) then (some (.ret [.i 2])) else (some (.nrm [a,b,c,d,e,f,g,h,i,j,k,l,m,n,o,p,q,r,s,t,u,v]))) else (some (.nrm [a,b,c,d,e,f,g,h,i,j,k,l,m,n,o,p,q,r,s,t,u,v]))) (ap22 i_pFits.d7))
def i_pFits.d9 (a b c d e f g h i j k l m n o p q r s t u v w:C):R:=(bindNrm (bif w.B then (bif v.B then (some (.ret [.i 1])) else (some (.nrm [a,b,c,d,e,f,g,h,i,j,k,l,m,n,o,p,q,r,s,t,u,v]))) else (some (.nrm [a,b,c,d,e,f,g,h,i,j,k,l,m,n,o,p,q,r,s,t,u,v]))) (ap22 i_pFits.d8))
def i_pFits:List C→Option (List C):=fun xs=>finR (ap23 i_pFits.d9 xs)
def i_pFits_fs:FS:=⟨4,⟨[(0,z3),(1,z4),(2,z5),(3,zo)],[]⟩,⟨[(0,zi)],[]⟩,[],i_pFits⟩
theorem i_pFits_ok:FSOk Tryz.checked.prog T0 120 i_pFits_fs:=okOf base0 (fn:=Tryz.f120) (c:=Tryz.f120.body.getD .skip) i_pFits_fs (.seq .leaf (.seq (.join ⟨[(4,(.pt 4 0)),(5,(.pt 5 0)),(6,(.pt 6 0))],[(4,z0),(5,z1),(6,z2)]⟩ .leaf) (.seq (.join ⟨[(4,(.pt 4 0)),(5,(.pt 5 0)),(6,(.pt 6 0))],[(4,z0),(5,z1),(6,z2)]⟩ .leaf) (.seq .leaf (.seq .leaf (.seq .leaf (.seq .leaf (.seq (.seq .leaf (.block ⟨[(5,(.pt 5 0)),(6,(.pt 6 0)),(9,zo),(10,zo),(11,zi),(12,zi),(13,zi),(14,zo)],[(5,z1),(6,z2)]⟩ (.loop ⟨[(4,(.pt 4 0)),(5,(.pt 5 0)),(6,(.pt 6 0)),(9,zo),(10,zo),(11,zi),(12,zi),(13,zi),(14,zo),(39,(zl 48)),(40,zi),(41,zi)],[(4,z0),(5,z1),(6,z2)]⟩ (.seq .leaf (.seq .leaf (.seq (.block ⟨[(4,(.pt 4 0)),(5,(.pt 5 0)),(6,(.pt 6 0)),(9,zo),(10,zo),(11,zi),(12,zi),(13,zi),(14,zo),(39,(zl 48)),(40,zi),(41,zi)],[(4,z0),(5,z1),(6,z2)]⟩ (.seq .leaf (.seq .leaf (.seq .leaf (.seq (.join ⟨[(4,(.pt 4 0)),(5,(.pt 5 0)),(6,(.pt 6 0)),(9,zo),(10,zo),(11,zi),(12,zi),(13,zi),(14,zo),(16,(.pt 16 0)),(17,zo),(39,(zl 48)),(40,zi),(41,zi)],[(4,z0),(5,z1),(6,z2),(16,z1)]⟩ .leaf) (.seq (.join ⟨[(4,(.pt 4 0)),(5,(.pt 5 0)),(6,(.pt 6 0)),(9,zo),(10,zo),(11,zi),(12,zi),(13,zi),(14,zo),(16,(.pt 16 0)),(39,(zl 48)),(40,zi),(41,zi)],[(4,z0),(5,z1),(6,z2),(16,z1)]⟩ .leaf) .leaf)))))) .leaf)))))) (.seq (.skip (.seq .leaf (.cond .leaf (.seq (.join ⟨[(5,(.pt 5 0)),(6,(.pt 6 0)),(11,zi),(12,zi),(13,zi),(125,zo)],[(5,z1),(6,z2)]⟩ .leaf) .leaf)))) .leaf))))))))) [(149,some 36,i_pMeets_fs),(150,some 58,i_pZone_fs)] (.cons i_pMeets_ok (.cons i_pZone_ok .nil)) (by kernel_rfl) (by kernel_rfl) (by kernel_rfl) (fun xs=>by kernel_rfl)
def i_pVictims.d1 (a b c d e f g h i j k l m n o p q r s t u v w x y z:C):R:=(some (.again [a,b,.i (w64 (c.I+1)),d,e,f,g,h,i,j,k,l,m,n,o,p,q,r,s,t,u,v,w,x,y,.l z.L]))
def i_pVictims.d2 (a b c d e f g h i j k l m n o p q r s t u v w x y z:C):R:=(bif (decide (c.I<b.I)) then (bindNrm (bif (decide (0≤c.I)) then (bif (decide (c.I<(a.L.length:Int))) then (bif ((((a.L.getD c.I.toNat []).getD 11 .nil).S).toList==t.S.toList) then (bif (decide (((a.L.getD c.I.toNat []).getD 2 .nil).I<j.I)) then (bif (decide (z.L.length+(rows [[((a.L.getD c.I.toNat []).getD 0 .nil),((a.L.getD c.I.toNat []).getD 1 .nil),((a.L.getD c.I.toNat []).getD 2 .nil),((a.L.getD c.I.toNat []).getD 3 .nil),((a.L.getD c.I.toNat []).getD 4 .nil),((a.L.getD c.I.toNat []).getD 5 .nil),((a.L.getD c.I.toNat []).getD 6 .nil),((a.L.getD c.I.toNat []).getD 7 .nil),((a.L.getD c.I.toNat []).getD 8 .nil),((a.L.getD c.I.toNat []).getD 9 .nil),((a.L.getD c.I.toNat []).getD 10 .nil),((a.L.getD c.I.toNat []).getD 11 .nil)]]).length≤4294967296)) then (some (.nrm [a,b,c,d,e,f,g,h,i,j,k,l,m,n,o,p,q,r,s,t,u,v,w,x,y,.l (z.L++(rows [[((a.L.getD c.I.toNat []).getD 0 .nil),((a.L.getD c.I.toNat []).getD 1 .nil),((a.L.getD c.I.toNat []).getD 2 .nil),((a.L.getD c.I.toNat []).getD 3 .nil),((a.L.getD c.I.toNat []).getD 4 .nil),((a.L.getD c.I.toNat []).getD 5 .nil),((a.L.getD c.I.toNat []).getD 6 .nil),((a.L.getD c.I.toNat []).getD 7 .nil),((a.L.getD c.I.toNat []).getD 8 .nil),((a.L.getD c.I.toNat []).getD 9 .nil),((a.L.getD c.I.toNat []).getD 10 .nil),((a.L.getD c.I.toNat []).getD 11 .nil)]]))])) else none) else (some (.nrm [a,b,c,d,e,f,g,h,i,j,k,l,m,n,o,p,q,r,s,t,u,v,w,x,y,.l z.L]))) else (some (.nrm [a,b,c,d,e,f,g,h,i,j,k,l,m,n,o,p,q,r,s,t,u,v,w,x,y,.l z.L]))) else none) else none) (ap26 i_pVictims.d1)) else (some (.brk 0 [d,e,f,g,h,i,j,k,l,m,n,o,p,q,r,s,t,u,v,w,x,y,.l z.L])))
def i_pVictims.d3 (a b c d e f g h i j k l m n o p q r s t u v w x y z a0 a1 a2 a3 a4 a5 a6:C):R:=(bif (decide (f.I<e.I)) then (bif (decide (0≤f.I)) then (bif (decide (f.I<(a2.L.length:Int))) then (bif (decide (0≤f.I)) then (bif ((w64 ((BitVec.ofInt (IntKind.bits .i64) (b.I.fdiv (2^(min f.I.toNat 64)))&&& BitVec.ofInt (IntKind.bits .i64) 1).toNat:Int))==1) then (bif (decide (a5.L.length+(rows [[((a2.L.getD f.I.toNat []).getD 0 .nil)]]).length≤4294967296)) then (bif (decide (a6.L.length+(rows [[((a2.L.getD f.I.toNat []).getD 2 .nil)]]).length≤4294967296)) then (some (.again [a,b,c,d,e,.i (w64 (f.I+1)),g,h,i,j,k,l,m,n,o,p,q,r,s,t,u,v,w,x,y,z,a0,a1,.l a2.L,.l a3.L,.l a4.L,.l (a5.L++(rows [[((a2.L.getD f.I.toNat []).getD 0 .nil)]])),.l (a6.L++(rows [[((a2.L.getD f.I.toNat []).getD 2 .nil)]]))])) else none) else none) else (some (.again [a,b,c,d,e,.i (w64 (f.I+1)),g,h,i,j,k,l,m,n,o,p,q,r,s,t,u,v,w,x,y,z,a0,a1,.l a2.L,.l a3.L,.l a4.L,.l a5.L,.l a6.L]))) else none) else none) else none) else (some (.brk 4 [a,c,d,g,h,i,j,k,l,m,n,o,p,q,r,s,t,u,v,w,x,y,z,a0,a1,.l a2.L,.l a3.L,.l a4.L,.l a5.L,.l a6.L])))
def i_pVictims.d4 (a b c d e f g h i j k l m n o p q r s t u v w x y z a0 a1 a2 a3:C):R:=(call1 (i_pMayGo [d,e,f,g,.l a2.L]) fun a4=>(bif (!(!a4.B)) then (call4 (i_pGo [d,e,f,g,.l a2.L]) fun a5 a6 a7 a8=>(call1 (i_pFits [a5,.l a6.L,.l a7.L,.l a8.L,h,i,j,k,l,m,n,o,p,q,r,s,t,u,v,w,x,y,.b true]) fun a9=>(bif (a9.I !=0) then (some (.brk 3 [a,b,c,d,e,f,g,h,i,j,k,l,m,n,o,p,q,r,s,t,u,v,w,x,y,.l z.L,.l a0.L,.l a1.L])) else (some (.brk 3 [.b true,b,c,d,e,f,g,h,i,j,k,l,m,n,o,p,q,r,s,t,u,v,w,x,y,.l z.L,.l a2.L,.l a3.L]))))) else (some (.brk 3 [a,b,c,d,e,f,g,h,i,j,k,l,m,n,o,p,q,r,s,t,u,v,w,x,y,.l z.L,.l a0.L,.l a1.L]))))
def i_pVictims.d5 (a b c d e f g h i j k l m n o p q r s t u v w x y z a0 a1 a2 a3:C):R:=(call1 (slices_Sort_int [.l a3.L]) fun a4=>(call1 (slices_Reverse_int [.l a4.L]) fun a5=>(bindNrm (bif a.B then (call1 (slices_Compare_int [.l a5.L,.l a1.L]) fun a6=>(bif (!(decide (a6.I>0))) then (bif (a6.I==0) then (call1 (slices_Compare_string [.l a2.L,.l a0.L]) fun a7=>(bif (decide (a7.I≥0)) then (some (.brk 3 [a,b,c,d,e,f,g,h,i,j,k,l,m,n,o,p,q,r,s,t,u,v,w,x,y,.l z.L,.l a0.L,.l a1.L])) else (some (.nrm [a,b,c,d,e,f,g,h,i,j,k,l,m,n,o,p,q,r,s,t,u,v,w,x,y,.l z.L,.l a0.L,.l a1.L,.l a2.L,.l a5.L])))) else (some (.nrm [a,b,c,d,e,f,g,h,i,j,k,l,m,n,o,p,q,r,s,t,u,v,w,x,y,.l z.L,.l a0.L,.l a1.L,.l a2.L,.l a5.L]))) else (some (.brk 3 [a,b,c,d,e,f,g,h,i,j,k,l,m,n,o,p,q,r,s,t,u,v,w,x,y,.l z.L,.l a0.L,.l a1.L])))) else (some (.nrm [a,b,c,d,e,f,g,h,i,j,k,l,m,n,o,p,q,r,s,t,u,v,w,x,y,.l z.L,.l a0.L,.l a1.L,.l a2.L,.l a5.L]))) (ap30 i_pVictims.d4))))
def i_pVictims.d6 (a b c d e f g h i j k l m n o p q r s t u v w x y z a0 a1:C):R:=(some (.again [a,b,.i (w64 (c.I+1)),d,e,f,g,h,i,j,k,l,m,n,o,p,q,r,s,t,u,v,w,x,y,.l z.L,.l a0.L,.l a1.L]))
def i_pVictims.d7 (a b c d e f g h i j k l m n o p q r s t u v w x y z a0 a1:C):R:=(bif (decide (c.I<b.I)) then (bindBlk 3 (bindBlk 4 (lim (ap33 i_pVictims.d3) [a,c,b,c,.i (z.L.length:Int),.i 0,d,e,f,g,h,i,j,k,l,m,n,o,p,q,r,s,t,u,v,w,x,y,.l z.L,.l a0.L,.l a1.L,.l nils,.l nils]) (ap30 i_pVictims.d5)) (ap28 i_pVictims.d6)) else (some (.brk 2 [a,.l a0.L,.l a1.L])))
def i_pVictims.d8 (a b c:C):R:=(some (.ret [.b a.B,.l b.L,.l c.L]))
def i_pVictims.d9 (a b c d e f g h i j k l m n o p q r s t u v w:C):R:=(bif (decide (0≤(w.L.length:Int))) then (bindBlk 2 (lim (ap28 i_pVictims.d7) [.b false,.i (w64 (1*2^(min (w.L.length:Int).toNat 64))),.i 0,a,b,c,d,e,f,g,h,i,j,k,l,m,n,o,p,q,r,s,t,u,v,.l w.L,.l nils,.l nils]) (ap3 i_pVictims.d8)) else none)
def i_pVictims.d10 (a b c d e f g h i j k l m n o p q r s t u v:C):R:=(bindBlk 0 (lim (ap26 i_pVictims.d2) [d,.i (d.L.length:Int),.i 0,a,b,c,d,e,f,g,h,i,j,k,l,m,n,o,p,q,r,s,t,u,v,.l nils]) (ap23 i_pVictims.d9))
def i_pVictims:List C→Option (List C):=fun xs=>finR (ap22 i_pVictims.d10 xs)
def i_pVictims_fs:FS:=⟨3,⟨[(0,z3),(1,z4),(2,z5)],[]⟩,⟨[(0,(.tu [(.ow 3000),(.ow 3001),zo]))],[(3000,.arr 9 1),(3001,.arr 3 1)]⟩,[],i_pVictims⟩
theorem i_pVictims_ok:FSOk Tryz.checked.prog T0 75 i_pVictims_fs:=okOfT base0 [42] false (fn:=Tryz.f75) (c:=Tryz.f75.body.getD .skip) i_pVictims_fs (.seq .leaf (.seq .leaf (.seq (.seq .leaf (.block ⟨[(3,(.pt 3 0)),(4,(.pt 4 0)),(5,(.pt 5 0)),(9,(.ow 1293700))],[(3,z0),(4,z1),(5,z2),(1293700,.arr 48)]⟩ (.loop ⟨[(3,(.pt 3 0)),(4,(.pt 4 0)),(5,(.pt 5 0)),(9,(.ow 1293700)),(22,(zl 48)),(23,zi),(24,zi)],[(3,z0),(4,z1),(5,z2),(1293700,.arr 48)]⟩ (.seq .leaf (.seq .leaf (.seq (.join ⟨[(3,(.pt 3 0)),(4,(.pt 4 0)),(5,(.pt 5 0)),(9,(.ow 1293700)),(22,(zl 48)),(23,zi),(24,zi)],[(3,z0),(4,z1),(5,z2),(1293700,.arr 48)]⟩ .leaf) .leaf)))))) (.seq .leaf (.seq .leaf (.seq .leaf (.seq (.seq .leaf (.block ⟨[(12,(.ow 1296400)),(13,(.ow 1296401)),(14,zo)],[(1296400,.arr 9 1),(1296401,.arr 3 1)]⟩ (.loop ⟨[(3,(.pt 3 0)),(4,(.pt 4 0)),(5,(.pt 5 0)),(9,(.ow 1293700)),(12,(.ow 1296400)),(13,(.ow 1296401)),(14,zo),(47,zi),(48,zi)],[(3,z0),(4,z1),(5,z2),(1293700,.arr 48),(1296400,.arr 9 1),(1296401,.arr 3 1)]⟩ (.seq .leaf (.seq .leaf (.seq (.block ⟨[(3,(.pt 3 0)),(4,(.pt 4 0)),(5,(.pt 5 0)),(9,(.ow 1293700)),(12,(.ow 1296400)),(13,(.ow 1296401)),(14,zo),(47,zi),(48,zi)],[(3,z0),(4,z1),(5,z2),(1293700,.arr 48),(1296400,.arr 9 1),(1296401,.arr 3 1)]⟩ (.seq .leaf (.seq .leaf (.seq .leaf (.seq (.seq .leaf (.block ⟨[(3,(.pt 3 0)),(4,(.pt 4 0)),(5,(.pt 5 0)),(9,(.ow 1293700)),(12,(.ow 1296400)),(13,(.ow 1296401)),(14,zo),(16,(.ow 1298300)),(17,(.ow 1298301)),(47,zi),(48,zi)],[(3,z0),(4,z1),(5,z2),(1293700,.arr 48),(1296400,.arr 9 1),(1296401,.arr 3 1),(1298300,.arr 9 1),(1298301,.arr 3 1)]⟩ (.loop ⟨[(3,(.pt 3 0)),(4,(.pt 4 0)),(5,(.pt 5 0)),(9,(.ow 1293700)),(12,(.ow 1296400)),(13,(.ow 1296401)),(14,zo),(15,zi),(16,(.ow 1298300)),(17,(.ow 1298301)),(47,zi),(48,zi),(51,(.ow 1293700)),(52,zi),(53,zi)],[(3,z0),(4,z1),(5,z2),(1293700,.arr 48),(1296400,.arr 9 1),(1296401,.arr 3 1),(1298300,.arr 9 1),(1298301,.arr 3 1)]⟩ .leaf))) (.seq .leaf (.seq .leaf (.seq (.join ⟨[(3,(.pt 3 0)),(4,(.pt 4 0)),(5,(.pt 5 0)),(9,(.ow 1293700)),(12,(.ow 1296400)),(13,(.ow 1296401)),(14,zo),(16,(.ow 1298300)),(17,(.ow 1298301)),(47,zi),(48,zi)],[(3,z0),(4,z1),(5,z2),(1293700,.arr 48),(1296400,.arr 9 1),(1296401,.arr 3 1),(1298300,.arr 9 1),(1298301,.arr 3 1)]⟩ .leaf) .leaf)))))))) .leaf)))))) .leaf))))))) [(115,some 75,slices_Sort_int_fs),(116,some 77,slices_Reverse_int_fs),(117,some 81,slices_Compare_int_fs),(118,some 90,slices_Compare_string_fs),(119,some 96,i_pMayGo_fs),(120,some 104,i_pFits_fs),(121,some 101,i_pGo_fs)] (.cons slices_Sort_int_ok (.cons slices_Reverse_int_ok (.cons slices_Compare_int_ok (.cons slices_Compare_string_ok (.cons i_pMayGo_ok (.cons i_pFits_ok (.cons i_pGo_ok .nil))))))) (by kernel_rfl) (by kernel_rfl) (by kernel_rfl) (fun xs=>by kernel_rfl)
def i_PilotVictims.d1 (a b c d e f:C):R:=(call1 (i_pCopyAt [a,b,c,d,e]) fun g=>(call1 (i_pBerthAt [a,b,c,d,f]) fun h=>(bif (!(decide (g.I<0))) then (bif (!(decide (h.I<0))) then (bif (decide (0≤g.I)) then (bif (decide (g.I<(d.L.length:Int))) then (bif (!(!((((d.L.getD g.I.toNat []).getD 11 .nil).S).toList==(bs #[]).toList))) then (call1 (i_PilotValid [a,b,c,d]) fun i=>(bif (!i.B) then (some (.ret [.b false,.l nils])) else (bif (decide (0≤g.I)) then (bif (decide (g.I<(d.L.length:Int))) then (bif (decide (0≤h.I)) then (bif (decide (h.I<(b.L.length:Int))) then (call3 (i_pVictims [a,b,c,d,((d.L.getD g.I.toNat []).getD 0 .nil),((d.L.getD g.I.toNat []).getD 1 .nil),((d.L.getD g.I.toNat []).getD 2 .nil),((d.L.getD g.I.toNat []).getD 3 .nil),((d.L.getD g.I.toNat []).getD 4 .nil),((d.L.getD g.I.toNat []).getD 5 .nil),((d.L.getD g.I.toNat []).getD 6 .nil),((d.L.getD g.I.toNat []).getD 7 .nil),((d.L.getD g.I.toNat []).getD 8 .nil),((d.L.getD g.I.toNat []).getD 9 .nil),((d.L.getD g.I.toNat []).getD 10 .nil),((d.L.getD g.I.toNat []).getD 11 .nil),((b.L.getD h.I.toNat []).getD 0 .nil),((b.L.getD h.I.toNat []).getD 1 .nil),((b.L.getD h.I.toNat []).getD 2 .nil),((b.L.getD h.I.toNat []).getD 3 .nil),((b.L.getD h.I.toNat []).getD 4 .nil),((b.L.getD h.I.toNat []).getD 5 .nil)]) fun j k l=>(some (.ret [.b j.B,.l k.L]))) else none) else none) else none) else none))) else (some (.ret [.b false,.l nils]))) else none) else none) else (some (.ret [.b false,.l nils]))) else (some (.ret [.b false,.l nils])))))
def i_PilotVictims:List C→Option (List C):=fun xs=>finR (ap6 i_PilotVictims.d1 xs)
def i_PilotVictims_fs:FS:=⟨3,⟨[(0,z3),(1,zt),(2,zt)],[]⟩,⟨[(0,(.tu [(.ow 3000),zo]))],[(3000,.arr 9 1)]⟩,[],i_PilotVictims⟩
theorem i_PilotVictims_ok:FSOk Tryz.checked.prog T0 23 i_PilotVictims_fs:=okOf base0 (fn:=Tryz.f23) (c:=Tryz.f23.body.getD .skip) i_PilotVictims_fs .leaf [(40,some 36,i_PilotValid_fs),(43,some 18,i_pBerthAt_fs),(49,some 15,i_pCopyAt_fs),(75,some 51,i_pVictims_fs)] (.cons i_PilotValid_ok (.cons i_pBerthAt_ok (.cons i_pCopyAt_ok (.cons i_pVictims_ok .nil)))) (by kernel_rfl) (by kernel_rfl) (by kernel_rfl) (fun xs=>by kernel_rfl)
def w_eqStringS.d1 (a b c:C):R:=(bif (decide (c.I<(a.L.length:Int))) then (bif (decide (0≤c.I)) then (bif (decide (c.I<(a.L.length:Int))) then (bif (decide (0≤c.I)) then (bif (decide (c.I<(b.L.length:Int))) then (bif (!((((a.L.getD c.I.toNat []).getD 0 .nil).S).toList==(((b.L.getD c.I.toNat []).getD 0 .nil).S).toList)) then (some (.ret [.b false])) else (some (.again [a,b,.i (w64 (c.I+1))]))) else none) else none) else none) else none) else (some (.brk 0 [])))
def w_eqStringS.d2:R:=(some (.ret [.b true]))
def w_eqStringS.d3 (a b:C):R:=(bif ((a.L.length:Int) !=(b.L.length:Int)) then (some (.ret [.b false])) else (bindBlk 0 (lim (ap3 w_eqStringS.d1) [a,b,.i 0]) (fun xs=>w_eqStringS.d2)))
def w_eqStringS:List C→Option (List C):=fun xs=>finR (ap2 w_eqStringS.d3 xs)
def w_eqStringS_fs:FS:=⟨2,⟨[(0,(zl 9)),(1,(zl 9))],[]⟩,⟨[(0,zo)],[]⟩,[],w_eqStringS⟩
theorem w_eqStringS_ok:FSOk Tryz.checked.prog T0 24 w_eqStringS_fs:=okOf base0 (fn:=Tryz.f24) (c:=Tryz.f24.body.getD .skip) w_eqStringS_fs (.seq .leaf (.seq .leaf (.seq (.seq .leaf (.block ⟨[],[]⟩ (.loop ⟨[(0,(zl 9)),(1,(zl 9)),(5,zi)],[]⟩ .leaf))) .leaf))) [] .nil (by kernel_rfl) (by kernel_rfl) (by kernel_rfl) (fun xs=>by kernel_rfl)
def w_eqPilotBerth.d1 (a b c d e f g h i j k l:C):R:=(bif (!(a.S.toList==g.S.toList)) then (some (.ret [.b false])) else (bif (!(b.S.toList==h.S.toList)) then (some (.ret [.b false])) else (call1 (w_eqStringS [c,i]) fun m=>(bif (!m.B) then (some (.ret [.b false])) else (bif (d.I !=j.I) then (some (.ret [.b false])) else (bif (e.I !=k.I) then (some (.ret [.b false])) else (bif (!(f.B==l.B)) then (some (.ret [.b false])) else (some (.ret [.b true])))))))))
def w_eqPilotBerth:List C→Option (List C):=fun xs=>finR (ap12 w_eqPilotBerth.d1 xs)
def w_eqPilotBerth_fs:FS:=⟨2,⟨[(0,z5),(1,z5)],[]⟩,⟨[(0,zo)],[]⟩,[],w_eqPilotBerth⟩
theorem w_eqPilotBerth_ok:FSOk Tryz.checked.prog T0 57 w_eqPilotBerth_fs:=okOf base0 (fn:=Tryz.f57) (c:=Tryz.f57.body.getD .skip) w_eqPilotBerth_fs .leaf [(24,some 19,w_eqStringS_fs)] (.cons w_eqStringS_ok .nil) (by kernel_rfl) (by kernel_rfl) (by kernel_rfl) (fun xs=>by kernel_rfl)
def w_eqPilotBerthS.d1 (a b c:C):R:=(bif (decide (c.I<(a.L.length:Int))) then (bif (decide (0≤c.I)) then (bif (decide (c.I<(a.L.length:Int))) then (bif (decide (0≤c.I)) then (bif (decide (c.I<(b.L.length:Int))) then (call1 (w_eqPilotBerth [((a.L.getD c.I.toNat []).getD 0 .nil),((a.L.getD c.I.toNat []).getD 1 .nil),((a.L.getD c.I.toNat []).getD 2 .nil),((a.L.getD c.I.toNat []).getD 3 .nil),((a.L.getD c.I.toNat []).getD 4 .nil),((a.L.getD c.I.toNat []).getD 5 .nil),((b.L.getD c.I.toNat []).getD 0 .nil),((b.L.getD c.I.toNat []).getD 1 .nil),((b.L.getD c.I.toNat []).getD 2 .nil),((b.L.getD c.I.toNat []).getD 3 .nil),((b.L.getD c.I.toNat []).getD 4 .nil),((b.L.getD c.I.toNat []).getD 5 .nil)]) fun d=>(bif (!d.B) then (some (.ret [.b false])) else (some (.again [a,b,.i (w64 (c.I+1))])))) else none) else none) else none) else none) else (some (.brk 0 [])))
def w_eqPilotBerthS.d2:R:=(some (.ret [.b true]))
def w_eqPilotBerthS.d3 (a b:C):R:=(bif ((a.L.length:Int) !=(b.L.length:Int)) then (some (.ret [.b false])) else (bindBlk 0 (lim (ap3 w_eqPilotBerthS.d1) [a,b,.i 0]) (fun xs=>w_eqPilotBerthS.d2)))
def w_eqPilotBerthS:List C→Option (List C):=fun xs=>finR (ap2 w_eqPilotBerthS.d3 xs)
def w_eqPilotBerthS_fs:FS:=⟨2,⟨[(0,(zl 45)),(1,(zl 45))],[]⟩,⟨[(0,zo)],[]⟩,[],w_eqPilotBerthS⟩
theorem w_eqPilotBerthS_ok:FSOk Tryz.checked.prog T0 54 w_eqPilotBerthS_fs:=okOf base0 (fn:=Tryz.f54) (c:=Tryz.f54.body.getD .skip) w_eqPilotBerthS_fs (.seq .leaf (.seq .leaf (.seq (.seq .leaf (.block ⟨[],[]⟩ (.loop ⟨[(0,(zl 45)),(1,(zl 45)),(5,zi)],[]⟩ .leaf))) .leaf))) [(57,some 25,w_eqPilotBerth_fs)] (.cons w_eqPilotBerth_ok .nil) (by kernel_rfl) (by kernel_rfl) (by kernel_rfl) (fun xs=>by kernel_rfl)
def w_eqPilotService.d1 (a b c d:C):R:=(bif (!(a.S.toList==c.S.toList)) then (some (.ret [.b false])) else (bif (b.I !=d.I) then (some (.ret [.b false])) else (some (.ret [.b true]))))
def w_eqPilotService:List C→Option (List C):=fun xs=>finR (ap4 w_eqPilotService.d1 xs)
def w_eqPilotService_fs:FS:=⟨2,⟨[(0,(.ag [zt,zi])),(1,(.ag [zt,zi]))],[]⟩,⟨[(0,zo)],[]⟩,[],w_eqPilotService⟩
theorem w_eqPilotService_ok:FSOk Tryz.checked.prog T0 101 w_eqPilotService_fs:=okOf base0 (fn:=Tryz.f101) (c:=Tryz.f101.body.getD .skip) w_eqPilotService_fs .leaf [] .nil (by kernel_rfl) (by kernel_rfl) (by kernel_rfl) (fun xs=>by kernel_rfl)
def w_eqPilotServiceS.d1 (a b c:C):R:=(bif (decide (c.I<(a.L.length:Int))) then (bif (decide (0≤c.I)) then (bif (decide (c.I<(a.L.length:Int))) then (bif (decide (0≤c.I)) then (bif (decide (c.I<(b.L.length:Int))) then (call1 (w_eqPilotService [((a.L.getD c.I.toNat []).getD 0 .nil),((a.L.getD c.I.toNat []).getD 1 .nil),((b.L.getD c.I.toNat []).getD 0 .nil),((b.L.getD c.I.toNat []).getD 1 .nil)]) fun d=>(bif (!d.B) then (some (.ret [.b false])) else (some (.again [a,b,.i (w64 (c.I+1))])))) else none) else none) else none) else none) else (some (.brk 0 [])))
def w_eqPilotServiceS.d2:R:=(some (.ret [.b true]))
def w_eqPilotServiceS.d3 (a b:C):R:=(bif ((a.L.length:Int) !=(b.L.length:Int)) then (some (.ret [.b false])) else (bindBlk 0 (lim (ap3 w_eqPilotServiceS.d1) [a,b,.i 0]) (fun xs=>w_eqPilotServiceS.d2)))
def w_eqPilotServiceS:List C→Option (List C):=fun xs=>finR (ap2 w_eqPilotServiceS.d3 xs)
def w_eqPilotServiceS_fs:FS:=⟨2,⟨[(0,(zl 120)),(1,(zl 120))],[]⟩,⟨[(0,zo)],[]⟩,[],w_eqPilotServiceS⟩
theorem w_eqPilotServiceS_ok:FSOk Tryz.checked.prog T0 55 w_eqPilotServiceS_fs:=okOf base0 (fn:=Tryz.f55) (c:=Tryz.f55.body.getD .skip) w_eqPilotServiceS_fs (.seq .leaf (.seq .leaf (.seq (.seq .leaf (.block ⟨[],[]⟩ (.loop ⟨[(0,(zl 120)),(1,(zl 120)),(5,zi)],[]⟩ .leaf))) .leaf))) [(101,some 25,w_eqPilotService_fs)] (.cons w_eqPilotService_ok .nil) (by kernel_rfl) (by kernel_rfl) (by kernel_rfl) (fun xs=>by kernel_rfl)
def w_eqPilotLike.d1 (a b c d:C):R:=(bif (!(a.S.toList==c.S.toList)) then (some (.ret [.b false])) else (bif (b.I !=d.I) then (some (.ret [.b false])) else (some (.ret [.b true]))))
def w_eqPilotLike:List C→Option (List C):=fun xs=>finR (ap4 w_eqPilotLike.d1 xs)
def w_eqPilotLike_fs:FS:=⟨2,⟨[(0,(.ag [zt,zi])),(1,(.ag [zt,zi]))],[]⟩,⟨[(0,zo)],[]⟩,[],w_eqPilotLike⟩
theorem w_eqPilotLike_ok:FSOk Tryz.checked.prog T0 132 w_eqPilotLike_fs:=okOf base0 (fn:=Tryz.f132) (c:=Tryz.f132.body.getD .skip) w_eqPilotLike_fs .leaf [] .nil (by kernel_rfl) (by kernel_rfl) (by kernel_rfl) (fun xs=>by kernel_rfl)
def w_eqPilotLikeS.d1 (a b c:C):R:=(bif (decide (c.I<(a.L.length:Int))) then (bif (decide (0≤c.I)) then (bif (decide (c.I<(a.L.length:Int))) then (bif (decide (0≤c.I)) then (bif (decide (c.I<(b.L.length:Int))) then (call1 (w_eqPilotLike [((a.L.getD c.I.toNat []).getD 0 .nil),((a.L.getD c.I.toNat []).getD 1 .nil),((b.L.getD c.I.toNat []).getD 0 .nil),((b.L.getD c.I.toNat []).getD 1 .nil)]) fun d=>(bif (!d.B) then (some (.ret [.b false])) else (some (.again [a,b,.i (w64 (c.I+1))])))) else none) else none) else none) else none) else (some (.brk 0 [])))
def w_eqPilotLikeS.d2:R:=(some (.ret [.b true]))
def w_eqPilotLikeS.d3 (a b:C):R:=(bif ((a.L.length:Int) !=(b.L.length:Int)) then (some (.ret [.b false])) else (bindBlk 0 (lim (ap3 w_eqPilotLikeS.d1) [a,b,.i 0]) (fun xs=>w_eqPilotLikeS.d2)))
def w_eqPilotLikeS:List C→Option (List C):=fun xs=>finR (ap2 w_eqPilotLikeS.d3 xs)
def w_eqPilotLikeS_fs:FS:=⟨2,⟨[(0,(zl 150)),(1,(zl 150))],[]⟩,⟨[(0,zo)],[]⟩,[],w_eqPilotLikeS⟩
theorem w_eqPilotLikeS_ok:FSOk Tryz.checked.prog T0 102 w_eqPilotLikeS_fs:=okOf base0 (fn:=Tryz.f102) (c:=Tryz.f102.body.getD .skip) w_eqPilotLikeS_fs (.seq .leaf (.seq .leaf (.seq (.seq .leaf (.block ⟨[],[]⟩ (.loop ⟨[(0,(zl 150)),(1,(zl 150)),(5,zi)],[]⟩ .leaf))) .leaf))) [(132,some 25,w_eqPilotLike_fs)] (.cons w_eqPilotLike_ok .nil) (by kernel_rfl) (by kernel_rfl) (by kernel_rfl) (fun xs=>by kernel_rfl)
def w_eqPilotCopy.d1 (a b c d e f g h i j k l m n o p q r s t u v w x:C):R:=(bif (!(a.S.toList==m.S.toList)) then (some (.ret [.b false])) else (bif (!(b.S.toList==n.S.toList)) then (some (.ret [.b false])) else (bif (c.I !=o.I) then (some (.ret [.b false])) else (bif (d.I !=p.I) then (some (.ret [.b false])) else (bif (e.I !=q.I) then (some (.ret [.b false])) else (bif (f.I !=r.I) then (some (.ret [.b false])) else (bif (!(g.S.toList==s.S.toList)) then (some (.ret [.b false])) else (call1 (w_eqPilotLikeS [h,t]) fun y=>(bif (!y.B) then (some (.ret [.b false])) else (bif (i.I !=u.I) then (some (.ret [.b false])) else (bif (!(j.S.toList==v.S.toList)) then (some (.ret [.b false])) else (bif (!(k.S.toList==w.S.toList)) then (some (.ret [.b false])) else (bif (!(l.S.toList==x.S.toList)) then (some (.ret [.b false])) else (some (.ret [.b true])))))))))))))))
def w_eqPilotCopy:List C→Option (List C):=fun xs=>finR (ap24 w_eqPilotCopy.d1 xs)
def w_eqPilotCopy_fs:FS:=⟨2,⟨[(0,z4),(1,z4)],[]⟩,⟨[(0,zo)],[]⟩,[],w_eqPilotCopy⟩
theorem w_eqPilotCopy_ok:FSOk Tryz.checked.prog T0 58 w_eqPilotCopy_fs:=okOf base0 (fn:=Tryz.f58) (c:=Tryz.f58.body.getD .skip) w_eqPilotCopy_fs .leaf [(102,some 44,w_eqPilotLikeS_fs)] (.cons w_eqPilotLikeS_ok .nil) (by kernel_rfl) (by kernel_rfl) (by kernel_rfl) (fun xs=>by kernel_rfl)
def w_eqPilotCopyS.d1 (a b c:C):R:=(bif (decide (c.I<(a.L.length:Int))) then (bif (decide (0≤c.I)) then (bif (decide (c.I<(a.L.length:Int))) then (bif (decide (0≤c.I)) then (bif (decide (c.I<(b.L.length:Int))) then (call1 (w_eqPilotCopy [((a.L.getD c.I.toNat []).getD 0 .nil),((a.L.getD c.I.toNat []).getD 1 .nil),((a.L.getD c.I.toNat []).getD 2 .nil),((a.L.getD c.I.toNat []).getD 3 .nil),((a.L.getD c.I.toNat []).getD 4 .nil),((a.L.getD c.I.toNat []).getD 5 .nil),((a.L.getD c.I.toNat []).getD 6 .nil),((a.L.getD c.I.toNat []).getD 7 .nil),((a.L.getD c.I.toNat []).getD 8 .nil),((a.L.getD c.I.toNat []).getD 9 .nil),((a.L.getD c.I.toNat []).getD 10 .nil),((a.L.getD c.I.toNat []).getD 11 .nil),((b.L.getD c.I.toNat []).getD 0 .nil),((b.L.getD c.I.toNat []).getD 1 .nil),((b.L.getD c.I.toNat []).getD 2 .nil),((b.L.getD c.I.toNat []).getD 3 .nil),((b.L.getD c.I.toNat []).getD 4 .nil),((b.L.getD c.I.toNat []).getD 5 .nil),((b.L.getD c.I.toNat []).getD 6 .nil),((b.L.getD c.I.toNat []).getD 7 .nil),((b.L.getD c.I.toNat []).getD 8 .nil),((b.L.getD c.I.toNat []).getD 9 .nil),((b.L.getD c.I.toNat []).getD 10 .nil),((b.L.getD c.I.toNat []).getD 11 .nil)]) fun d=>(bif (!d.B) then (some (.ret [.b false])) else (some (.again [a,b,.i (w64 (c.I+1))])))) else none) else none) else none) else none) else (some (.brk 0 [])))
def w_eqPilotCopyS.d2:R:=(some (.ret [.b true]))
def w_eqPilotCopyS.d3 (a b:C):R:=(bif ((a.L.length:Int) !=(b.L.length:Int)) then (some (.ret [.b false])) else (bindBlk 0 (lim (ap3 w_eqPilotCopyS.d1) [a,b,.i 0]) (fun xs=>w_eqPilotCopyS.d2)))
def w_eqPilotCopyS:List C→Option (List C):=fun xs=>finR (ap2 w_eqPilotCopyS.d3 xs)
def w_eqPilotCopyS_fs:FS:=⟨2,⟨[(0,(zl 48)),(1,(zl 48))],[]⟩,⟨[(0,zo)],[]⟩,[],w_eqPilotCopyS⟩
theorem w_eqPilotCopyS_ok:FSOk Tryz.checked.prog T0 56 w_eqPilotCopyS_fs:=okOf base0 (fn:=Tryz.f56) (c:=Tryz.f56.body.getD .skip) w_eqPilotCopyS_fs (.seq .leaf (.seq .leaf (.seq (.seq .leaf (.block ⟨[],[]⟩ (.loop ⟨[(0,(zl 48)),(1,(zl 48)),(5,zi)],[]⟩ .leaf))) .leaf))) [(58,some 25,w_eqPilotCopy_fs)] (.cons w_eqPilotCopy_ok .nil) (by kernel_rfl) (by kernel_rfl) (by kernel_rfl) (fun xs=>by kernel_rfl)
end
end Go.Ev
namespace Go.Ev
open Go.Proofs
noncomputable section
def w_eqPilotFleet.d1 (a b c d e f g h:C):R:=(bif (!(a.B==e.B)) then (some (.ret [.b false])) else (call1 (w_eqPilotBerthS [b,f]) fun i=>(bif (!i.B) then (some (.ret [.b false])) else (call1 (w_eqPilotServiceS [c,g]) fun j=>(bif (!j.B) then (some (.ret [.b false])) else (call1 (w_eqPilotCopyS [d,h]) fun k=>(bif (!k.B) then (some (.ret [.b false])) else (some (.ret [.b true])))))))))
def w_eqPilotFleet:List C→Option (List C):=fun xs=>finR (ap8 w_eqPilotFleet.d1 xs)
def w_eqPilotFleet_fs:FS:=⟨2,⟨[(0,z3),(1,z3)],[]⟩,⟨[(0,zo)],[]⟩,[],w_eqPilotFleet⟩
theorem w_eqPilotFleet_ok:FSOk Tryz.checked.prog T0 12 w_eqPilotFleet_fs:=okOf base0 (fn:=Tryz.f12) (c:=Tryz.f12.body.getD .skip) w_eqPilotFleet_fs .leaf [(54,some 14,w_eqPilotBerthS_fs),(55,some 20,w_eqPilotServiceS_fs),(56,some 26,w_eqPilotCopyS_fs)] (.cons w_eqPilotBerthS_ok (.cons w_eqPilotServiceS_ok (.cons w_eqPilotCopyS_ok .nil))) (by kernel_rfl) (by kernel_rfl) (by kernel_rfl) (fun xs=>by kernel_rfl)
def w_markText.d1 (a b:C):R:=(bif (decide (a.I>0)) then (bif (decide ((mkBy (rows [[.i (IntKind.wrap .u8 (w64 (48+(a.I.tmod 10))))]])).size+b.S.size≤4294967296)) then (some (.again [.i (w64 (a.I.tdiv 10)),.s ((mkBy (rows [[.i (IntKind.wrap .u8 (w64 (48+(a.I.tmod 10))))]]))++b.S)])) else none) else (some (.brk 0 [b])))
def w_markText.d2 (a:C):R:=(bif (decide ((bs #[109]).size+a.S.size≤4294967296)) then (some (.ret [.s ((bs #[109])++a.S)])) else none)
def w_markText.d3 (a:C):R:=(bif (decide (a.I≤0)) then (some (.ret [.s (bs #[109,48])])) else (bindBlk 0 (lim (ap2 w_markText.d1) [a,.s (bs #[])]) (ap1 w_markText.d2)))
def w_markText:List C→Option (List C):=fun xs=>finR (ap1 w_markText.d3 xs)
def w_markText_fs:FS:=⟨1,⟨[(0,zi)],[]⟩,⟨[(0,zt)],[]⟩,[],w_markText⟩
theorem w_markText_ok:FSOk Tryz.checked.prog T0 72 w_markText_fs:=okOf base0 (fn:=Tryz.f72) (c:=Tryz.f72.body.getD .skip) w_markText_fs (.seq .leaf (.seq .leaf (.seq .leaf (.seq (.block ⟨[(3,zt)],[]⟩ (.loop ⟨[(0,zi),(3,zt)],[]⟩ .leaf)) .leaf)))) [] .nil (by kernel_rfl) (by kernel_rfl) (by kernel_rfl) (fun xs=>by kernel_rfl)
def w_markStringS.d1 (a b c:C):R:=(bif (decide (b.I<(c.L.length:Int))) then (call1 (w_markText [a]) fun d=>(bif (decide (0≤b.I)) then (bif (decide (b.I<(c.L.length:Int))) then (some (.again [.i (w64 (a.I+1)),.i (w64 (b.I+1)),.l (c.L.set b.I.toNat (setCs (c.L.getD b.I.toNat []) 0 [d]))])) else none) else none)) else (some (.brk 0 [a,.l c.L])))
def w_markStringS.d2 (a b:C):R:=(some (.ret [a,.l b.L]))
def w_markStringS.d3 (a b:C):R:=(bindBlk 0 (lim (ap3 w_markStringS.d1) [a,.i 0,.l b.L]) (ap2 w_markStringS.d2))
def w_markStringS:List C→Option (List C):=fun xs=>finR (ap2 w_markStringS.d3 xs)
def w_markStringS_fs:FS:=⟨2,⟨[(0,(.ow 2000)),(1,zi)],[(2000,.arr 9 2)]⟩,⟨[(0,zi)],[(2000,.arr 9 2)]⟩,[2000],w_markStringS⟩
theorem w_markStringS_ok:FSOk Tryz.checked.prog T0 25 w_markStringS_fs:=okOf base0 (fn:=Tryz.f25) (c:=Tryz.f25.body.getD .skip) w_markStringS_fs (.seq .leaf (.seq (.seq .leaf (.block ⟨[(1,zi)],[(2000,.arr 9 2)]⟩ (.loop ⟨[(0,(.ow 2000)),(1,zi),(5,zi)],[(2000,.arr 9 2)]⟩ .leaf))) .leaf)) [(72,some 15,w_markText_fs)] (.cons w_markText_ok .nil) (by kernel_rfl) (by kernel_rfl) (by kernel_rfl) (fun xs=>by kernel_rfl)
def w_markPilotBerthS.d1 (a b c:C):R:=(some (.again [.i (w64 (a.I+1)),.i (w64 (b.I+1)),.l c.L]))
def w_markPilotBerthS.d2 (a b c:C):R:=(bif (decide (0≤b.I)) then (bif (decide (b.I<(c.L.length:Int))) then (bif (decide (0≤b.I)) then (bif (decide (b.I<((c.L.set b.I.toNat (setCs (c.L.getD b.I.toNat []) 3 [a])).length:Int))) then (bindNrm (bif (decide (0≤b.I)) then (bif (decide (b.I<(((c.L.set b.I.toNat (setCs (c.L.getD b.I.toNat []) 3 [a])).set b.I.toNat (setCs ((c.L.set b.I.toNat (setCs (c.L.getD b.I.toNat []) 3 [a])).getD b.I.toNat []) 4 [.i (w64 (a.I+1))])).length:Int))) then (some (.nrm [.i (w64 ((w64 (a.I+1))+1)),b,.l (((c.L.set b.I.toNat (setCs (c.L.getD b.I.toNat []) 3 [a])).set b.I.toNat (setCs ((c.L.set b.I.toNat (setCs (c.L.getD b.I.toNat []) 3 [a])).getD b.I.toNat []) 4 [.i (w64 (a.I+1))])).set b.I.toNat (setCs (((c.L.set b.I.toNat (setCs (c.L.getD b.I.toNat []) 3 [a])).set b.I.toNat (setCs ((c.L.set b.I.toNat (setCs (c.L.getD b.I.toNat []) 3 [a])).getD b.I.toNat []) 4 [.i (w64 (a.I+1))])).getD b.I.toNat []) 5 [.b (((w64 ((w64 (a.I+1))+1)).tmod 3)==0)]))])) else none) else none) (ap3 w_markPilotBerthS.d1)) else none) else none) else none) else none)
def w_markPilotBerthS.d3 (a b c:C):R:=(bif (decide (b.I<(c.L.length:Int))) then (call1 (w_markText [a]) fun d=>(bif (decide (0≤b.I)) then (bif (decide (b.I<(c.L.length:Int))) then (call1 (w_markText [.i (w64 (a.I+1))]) fun e=>(bif (decide (0≤b.I)) then (bif (decide (b.I<((c.L.set b.I.toNat (setCs (c.L.getD b.I.toNat []) 0 [d])).length:Int))) then (bindNrm (bif (decide (0≤b.I)) then (bif (decide (b.I<(((c.L.set b.I.toNat (setCs (c.L.getD b.I.toNat []) 0 [d])).set b.I.toNat (setCs ((c.L.set b.I.toNat (setCs (c.L.getD b.I.toNat []) 0 [d])).getD b.I.toNat []) 1 [e])).length:Int))) then (call2 (w_markStringS [.i (w64 ((w64 (a.I+1))+1)),((((c.L.set b.I.toNat (setCs (c.L.getD b.I.toNat []) 0 [d])).set b.I.toNat (setCs ((c.L.set b.I.toNat (setCs (c.L.getD b.I.toNat []) 0 [d])).getD b.I.toNat []) 1 [e])).getD b.I.toNat []).getD 2 .nil)]) fun f g=>(some (.nrm [f,b,.l (((c.L.set b.I.toNat (setCs (c.L.getD b.I.toNat []) 0 [d])).set b.I.toNat (setCs ((c.L.set b.I.toNat (setCs (c.L.getD b.I.toNat []) 0 [d])).getD b.I.toNat []) 1 [e])).set b.I.toNat (setCs (((c.L.set b.I.toNat (setCs (c.L.getD b.I.toNat []) 0 [d])).set b.I.toNat (setCs ((c.L.set b.I.toNat (setCs (c.L.getD b.I.toNat []) 0 [d])).getD b.I.toNat []) 1 [e])).getD b.I.toNat []) 2 [.l g.L]))]))) else none) else none) (ap3 w_markPilotBerthS.d2)) else none) else none)) else none) else none)) else (some (.brk 0 [a,.l c.L])))
def w_markPilotBerthS.d4 (a b:C):R:=(some (.ret [a,.l b.L]))
def w_markPilotBerthS.d5 (a b:C):R:=(bindBlk 0 (lim (ap3 w_markPilotBerthS.d3) [a,.i 0,.l b.L]) (ap2 w_markPilotBerthS.d4))
def w_markPilotBerthS:List C→Option (List C):=fun xs=>finR (ap2 w_markPilotBerthS.d5 xs)
def w_markPilotBerthS_fs:FS:=⟨2,⟨[(0,(.ow 2000)),(1,zi)],[(2000,.arr 45 2)]⟩,⟨[(0,zi)],[(2000,.arr 45 2)]⟩,[2000],w_markPilotBerthS⟩
theorem w_markPilotBerthS_ok:FSOk Tryz.checked.prog T0 59 w_markPilotBerthS_fs:=okOf base0 (fn:=Tryz.f59) (c:=Tryz.f59.body.getD .skip) w_markPilotBerthS_fs (.seq .leaf (.seq (.seq .leaf (.block ⟨[(1,zi)],[(2000,.arr 45 2)]⟩ (.loop ⟨[(0,(.ow 2000)),(1,zi),(5,zi)],[(2000,.arr 45 2)]⟩ (.seq .leaf (.seq (.skip (.seq .leaf (.seq .leaf (.seq .leaf (.seq .leaf (.seq (.join ⟨[(0,(.ow 2000)),(1,zi),(5,zi)],[(2000,.arr 45 2)]⟩ .leaf) (.seq .leaf (.seq .leaf (.seq .leaf (.seq .leaf (.seq (.join ⟨[(0,(.ow 2000)),(1,zi),(5,zi)],[(2000,.arr 45 2)]⟩ .leaf) .leaf))))))))))) .leaf))))) .leaf)) [(25,some 34,w_markStringS_fs),(72,some 15,w_markText_fs),(72,some 23,w_markText_fs)] (.cons w_markStringS_ok (.cons w_markText_ok (.cons w_markText_ok .nil))) (by kernel_rfl) (by kernel_rfl) (by kernel_rfl) (fun xs=>by kernel_rfl)
def w_markPilotServiceS.d1 (a b c:C):R:=(bif (decide (b.I<(c.L.length:Int))) then (call1 (w_markText [a]) fun d=>(bif (decide (0≤b.I)) then (bif (decide (b.I<(c.L.length:Int))) then (bif (decide (0≤b.I)) then (bif (decide (b.I<((c.L.set b.I.toNat (setCs (c.L.getD b.I.toNat []) 0 [d])).length:Int))) then (some (.again [.i (w64 ((w64 (a.I+1))+1)),.i (w64 (b.I+1)),.l ((c.L.set b.I.toNat (setCs (c.L.getD b.I.toNat []) 0 [d])).set b.I.toNat (setCs ((c.L.set b.I.toNat (setCs (c.L.getD b.I.toNat []) 0 [d])).getD b.I.toNat []) 1 [.i (w64 (a.I+1))]))])) else none) else none) else none) else none)) else (some (.brk 0 [a,.l c.L])))
def w_markPilotServiceS.d2 (a b:C):R:=(some (.ret [a,.l b.L]))
def w_markPilotServiceS.d3 (a b:C):R:=(bindBlk 0 (lim (ap3 w_markPilotServiceS.d1) [a,.i 0,.l b.L]) (ap2 w_markPilotServiceS.d2))
def w_markPilotServiceS:List C→Option (List C):=fun xs=>finR (ap2 w_markPilotServiceS.d3 xs)
def w_markPilotServiceS_fs:FS:=⟨2,⟨[(0,(.ow 2000)),(1,zi)],[(2000,.arr 120 2)]⟩,⟨[(0,zi)],[(2000,.arr 120 2)]⟩,[2000],w_markPilotServiceS⟩
theorem w_markPilotServiceS_ok:FSOk Tryz.checked.prog T0 60 w_markPilotServiceS_fs:=okOf base0 (fn:=Tryz.f60) (c:=Tryz.f60.body.getD .skip) w_markPilotServiceS_fs (.seq .leaf (.seq (.seq .leaf (.block ⟨[(1,zi)],[(2000,.arr 120 2)]⟩ (.loop ⟨[(0,(.ow 2000)),(1,zi),(5,zi)],[(2000,.arr 120 2)]⟩ .leaf))) .leaf)) [(72,some 15,w_markText_fs)] (.cons w_markText_ok .nil) (by kernel_rfl) (by kernel_rfl) (by kernel_rfl) (fun xs=>by kernel_rfl)
def w_markPilotLikeS.d1 (a b c:C):R:=(bif (decide (b.I<(c.L.length:Int))) then (call1 (w_markText [a]) fun d=>(bif (decide (0≤b.I)) then (bif (decide (b.I<(c.L.length:Int))) then (bif (decide (0≤b.I)) then (bif (decide (b.I<((c.L.set b.I.toNat (setCs (c.L.getD b.I.toNat []) 0 [d])).length:Int))) then (some (.again [.i (w64 ((w64 (a.I+1))+1)),.i (w64 (b.I+1)),.l ((c.L.set b.I.toNat (setCs (c.L.getD b.I.toNat []) 0 [d])).set b.I.toNat (setCs ((c.L.set b.I.toNat (setCs (c.L.getD b.I.toNat []) 0 [d])).getD b.I.toNat []) 1 [.i (w64 (a.I+1))]))])) else none) else none) else none) else none)) else (some (.brk 0 [a,.l c.L])))
def w_markPilotLikeS.d2 (a b:C):R:=(some (.ret [a,.l b.L]))
def w_markPilotLikeS.d3 (a b:C):R:=(bindBlk 0 (lim (ap3 w_markPilotLikeS.d1) [a,.i 0,.l b.L]) (ap2 w_markPilotLikeS.d2))
def w_markPilotLikeS:List C→Option (List C):=fun xs=>finR (ap2 w_markPilotLikeS.d3 xs)
def w_markPilotLikeS_fs:FS:=⟨2,⟨[(0,(.ow 2000)),(1,zi)],[(2000,.arr 150 2)]⟩,⟨[(0,zi)],[(2000,.arr 150 2)]⟩,[2000],w_markPilotLikeS⟩
theorem w_markPilotLikeS_ok:FSOk Tryz.checked.prog T0 103 w_markPilotLikeS_fs:=okOf base0 (fn:=Tryz.f103) (c:=Tryz.f103.body.getD .skip) w_markPilotLikeS_fs (.seq .leaf (.seq (.seq .leaf (.block ⟨[(1,zi)],[(2000,.arr 150 2)]⟩ (.loop ⟨[(0,(.ow 2000)),(1,zi),(5,zi)],[(2000,.arr 150 2)]⟩ .leaf))) .leaf)) [(72,some 15,w_markText_fs)] (.cons w_markText_ok .nil) (by kernel_rfl) (by kernel_rfl) (by kernel_rfl) (fun xs=>by kernel_rfl)
def w_markPilotCopyS.d1 (a b c:C):R:=(some (.again [.i (w64 (a.I+1)),.i (w64 (b.I+1)),.l c.L]))
def w_markPilotCopyS.d2 (a b c:C):R:=(call1 (w_markText [.i (w64 (a.I+1))]) fun d=>(bif (decide (0≤b.I)) then (bif (decide (b.I<(c.L.length:Int))) then (call1 (w_markText [.i (w64 ((w64 (a.I+1))+1))]) fun e=>(bif (decide (0≤b.I)) then (bif (decide (b.I<((c.L.set b.I.toNat (setCs (c.L.getD b.I.toNat []) 9 [d])).length:Int))) then (bindNrm (call1 (w_markText [.i (w64 ((w64 ((w64 (a.I+1))+1))+1))]) fun f=>(bif (decide (0≤b.I)) then (bif (decide (b.I<(((c.L.set b.I.toNat (setCs (c.L.getD b.I.toNat []) 9 [d])).set b.I.toNat (setCs ((c.L.set b.I.toNat (setCs (c.L.getD b.I.toNat []) 9 [d])).getD b.I.toNat []) 10 [e])).length:Int))) then (some (.nrm [.i (w64 ((w64 ((w64 (a.I+1))+1))+1)),b,.l (((c.L.set b.I.toNat (setCs (c.L.getD b.I.toNat []) 9 [d])).set b.I.toNat (setCs ((c.L.set b.I.toNat (setCs (c.L.getD b.I.toNat []) 9 [d])).getD b.I.toNat []) 10 [e])).set b.I.toNat (setCs (((c.L.set b.I.toNat (setCs (c.L.getD b.I.toNat []) 9 [d])).set b.I.toNat (setCs ((c.L.set b.I.toNat (setCs (c.L.getD b.I.toNat []) 9 [d])).getD b.I.toNat []) 10 [e])).getD b.I.toNat []) 11 [f]))])) else none) else none)) (ap3 w_markPilotCopyS.d1)) else none) else none)) else none) else none))
def w_markPilotCopyS.d3 (a b c:C):R:=(call1 (w_markText [.i (w64 (a.I+1))]) fun d=>(bif (decide (0≤b.I)) then (bif (decide (b.I<(c.L.length:Int))) then (bif (decide (0≤b.I)) then (bif (decide (b.I<((c.L.set b.I.toNat (setCs (c.L.getD b.I.toNat []) 6 [d])).length:Int))) then (call2 (w_markPilotLikeS [.i (w64 ((w64 (a.I+1))+1)),(((c.L.set b.I.toNat (setCs (c.L.getD b.I.toNat []) 6 [d])).getD b.I.toNat []).getD 7 .nil)]) fun e f=>(bindNrm (bif (decide (0≤b.I)) then (bif (decide (b.I<(((c.L.set b.I.toNat (setCs (c.L.getD b.I.toNat []) 6 [d])).set b.I.toNat (setCs ((c.L.set b.I.toNat (setCs (c.L.getD b.I.toNat []) 6 [d])).getD b.I.toNat []) 7 [.l f.L])).length:Int))) then (some (.nrm [e,b,.l (((c.L.set b.I.toNat (setCs (c.L.getD b.I.toNat []) 6 [d])).set b.I.toNat (setCs ((c.L.set b.I.toNat (setCs (c.L.getD b.I.toNat []) 6 [d])).getD b.I.toNat []) 7 [.l f.L])).set b.I.toNat (setCs (((c.L.set b.I.toNat (setCs (c.L.getD b.I.toNat []) 6 [d])).set b.I.toNat (setCs ((c.L.set b.I.toNat (setCs (c.L.getD b.I.toNat []) 6 [d])).getD b.I.toNat []) 7 [.l f.L])).getD b.I.toNat []) 8 [e]))])) else none) else none) (ap3 w_markPilotCopyS.d2))) else none) else none) else none) else none))
def w_markPilotCopyS.d4 (a b c:C):R:=(bif (decide (0≤b.I)) then (bif (decide (b.I<(c.L.length:Int))) then (bif (decide (0≤b.I)) then (bif (decide (b.I<((c.L.set b.I.toNat (setCs (c.L.getD b.I.toNat []) 3 [.i (w64 (a.I+1))])).length:Int))) then (bindNrm (bif (decide (0≤b.I)) then (bif (decide (b.I<(((c.L.set b.I.toNat (setCs (c.L.getD b.I.toNat []) 3 [.i (w64 (a.I+1))])).set b.I.toNat (setCs ((c.L.set b.I.toNat (setCs (c.L.getD b.I.toNat []) 3 [.i (w64 (a.I+1))])).getD b.I.toNat []) 4 [.i (w64 ((w64 (a.I+1))+1))])).length:Int))) then (some (.nrm [.i (w64 ((w64 ((w64 (a.I+1))+1))+1)),b,.l (((c.L.set b.I.toNat (setCs (c.L.getD b.I.toNat []) 3 [.i (w64 (a.I+1))])).set b.I.toNat (setCs ((c.L.set b.I.toNat (setCs (c.L.getD b.I.toNat []) 3 [.i (w64 (a.I+1))])).getD b.I.toNat []) 4 [.i (w64 ((w64 (a.I+1))+1))])).set b.I.toNat (setCs (((c.L.set b.I.toNat (setCs (c.L.getD b.I.toNat []) 3 [.i (w64 (a.I+1))])).set b.I.toNat (setCs ((c.L.set b.I.toNat (setCs (c.L.getD b.I.toNat []) 3 [.i (w64 (a.I+1))])).getD b.I.toNat []) 4 [.i (w64 ((w64 (a.I+1))+1))])).getD b.I.toNat []) 5 [.i (w64 ((w64 ((w64 (a.I+1))+1))+1))]))])) else none) else none) (ap3 w_markPilotCopyS.d3)) else none) else none) else none) else none)
def w_markPilotCopyS.d5 (a b c:C):R:=(bif (decide (b.I<(c.L.length:Int))) then (call1 (w_markText [a]) fun d=>(bif (decide (0≤b.I)) then (bif (decide (b.I<(c.L.length:Int))) then (call1 (w_markText [.i (w64 (a.I+1))]) fun e=>(bif (decide (0≤b.I)) then (bif (decide (b.I<((c.L.set b.I.toNat (setCs (c.L.getD b.I.toNat []) 0 [d])).length:Int))) then (bindNrm (bif (decide (0≤b.I)) then (bif (decide (b.I<(((c.L.set b.I.toNat (setCs (c.L.getD b.I.toNat []) 0 [d])).set b.I.toNat (setCs ((c.L.set b.I.toNat (setCs (c.L.getD b.I.toNat []) 0 [d])).getD b.I.toNat []) 1 [e])).length:Int))) then (some (.nrm [.i (w64 ((w64 (a.I+1))+1)),b,.l (((c.L.set b.I.toNat (setCs (c.L.getD b.I.toNat []) 0 [d])).set b.I.toNat (setCs ((c.L.set b.I.toNat (setCs (c.L.getD b.I.toNat []) 0 [d])).getD b.I.toNat []) 1 [e])).set b.I.toNat (setCs (((c.L.set b.I.toNat (setCs (c.L.getD b.I.toNat []) 0 [d])).set b.I.toNat (setCs ((c.L.set b.I.toNat (setCs (c.L.getD b.I.toNat []) 0 [d])).getD b.I.toNat []) 1 [e])).getD b.I.toNat []) 2 [.i (w64 ((w64 (a.I+1))+1))]))])) else none) else none) (ap3 w_markPilotCopyS.d4)) else none) else none)) else none) else none)) else (some (.brk 0 [a,.l c.L])))
def w_markPilotCopyS.d6 (a b:C):R:=(some (.ret [a,.l b.L]))
def w_markPilotCopyS.d7 (a b:C):R:=(bindBlk 0 (lim (ap3 w_markPilotCopyS.d5) [a,.i 0,.l b.L]) (ap2 w_markPilotCopyS.d6))
def w_markPilotCopyS:List C→Option (List C):=fun xs=>finR (ap2 w_markPilotCopyS.d7 xs)
def w_markPilotCopyS_fs:FS:=⟨2,⟨[(0,(.ow 2000)),(1,zi)],[(2000,.arr 48 2)]⟩,⟨[(0,zi)],[(2000,.arr 48 2)]⟩,[2000],w_markPilotCopyS⟩
theorem w_markPilotCopyS_ok:FSOk Tryz.checked.prog T0 61 w_markPilotCopyS_fs:=okOf base0 (fn:=Tryz.f61) (c:=Tryz.f61.body.getD .skip) w_markPilotCopyS_fs (.seq .leaf (.seq (.seq .leaf (.block ⟨[(1,zi)],[(2000,.arr 48 2)]⟩ (.loop ⟨[(0,(.ow 2000)),(1,zi),(5,zi)],[(2000,.arr 48 2)]⟩ (.seq .leaf (.seq (.skip (.seq .leaf (.seq .leaf (.seq .leaf (.seq .leaf (.seq (.join ⟨[(0,(.ow 2000)),(1,zi),(5,zi)],[(2000,.arr 48 2)]⟩ .leaf) (.seq .leaf (.seq .leaf (.seq .leaf (.seq .leaf (.seq .leaf (.seq (.join ⟨[(0,(.ow 2000)),(1,zi),(5,zi)],[(2000,.arr 48 2)]⟩ .leaf) (.seq .leaf (.seq .leaf (.seq .leaf (.seq .leaf (.seq (.join ⟨[(0,(.ow 2000)),(1,zi),(5,zi)],[(2000,.arr 48 2)]⟩ .leaf) (.seq .leaf (.seq .leaf (.seq .leaf (.seq .leaf (.seq .leaf (.seq (.join ⟨[(0,(.ow 2000)),(1,zi),(5,zi)],[(2000,.arr 48 2)]⟩ .leaf) .leaf))))))))))))))))))))))) .leaf))))) .leaf)) [(72,some 15,w_markText_fs),(72,some 23,w_markText_fs),(72,some 59,w_markText_fs),(72,some 81,w_markText_fs),(72,some 89,w_markText_fs),(72,some 97,w_markText_fs),(103,some 70,w_markPilotLikeS_fs)] (.cons w_markText_ok (.cons w_markText_ok (.cons w_markText_ok (.cons w_markText_ok (.cons w_markText_ok (.cons w_markText_ok (.cons w_markPilotLikeS_ok .nil))))))) (by kernel_rfl) (by kernel_rfl) (by kernel_rfl) (fun xs=>by kernel_rfl)
def w_markPilotFleet.d1 (a b c d e:C):R:=(call2 (w_markPilotBerthS [b,.l c.L]) fun f g=>(call2 (w_markPilotServiceS [f,.l d.L]) fun h i=>(call2 (w_markPilotCopyS [h,.l e.L]) fun j k=>(some (.ret [j,.l g.L,.l i.L,.l k.L])))))
def w_markPilotFleet:List C→Option (List C):=fun xs=>finR (ap5 w_markPilotFleet.d1 xs)
def w_markPilotFleet_fs:FS:=⟨2,⟨[(0,(.ag [zo,(.ow 2000),(.ow 2001),(.ow 2002)])),(1,zi)],[(2000,.arr 45 2),(2001,.arr 120 2),(2002,.arr 48 2)]⟩,⟨[(0,zi)],[(2000,.arr 45 2),(2001,.arr 120 2),(2002,.arr 48 2)]⟩,[2000,2001,2002],w_markPilotFleet⟩
theorem w_markPilotFleet_ok:FSOk Tryz.checked.prog T0 14 w_markPilotFleet_fs:=okOf base0 (fn:=Tryz.f14) (c:=Tryz.f14.body.getD .skip) w_markPilotFleet_fs .leaf [(59,some 8,w_markPilotBerthS_fs),(60,some 12,w_markPilotServiceS_fs),(61,some 16,w_markPilotCopyS_fs)] (.cons w_markPilotBerthS_ok (.cons w_markPilotServiceS_ok (.cons w_markPilotCopyS_ok .nil))) (by kernel_rfl) (by kernel_rfl) (by kernel_rfl) (fun xs=>by kernel_rfl)
def w_heldStringS.d1 (a b c:C):R:=(bif (decide (c.I<(a.L.length:Int))) then (bif (decide (0≤c.I)) then (bif (decide (c.I<(a.L.length:Int))) then (call1 (w_markText [b]) fun d=>(bif (!((((a.L.getD c.I.toNat []).getD 0 .nil).S).toList==d.S.toList)) then (some (.ret [.i (-1)])) else (some (.again [a,.i (w64 (b.I+1)),.i (w64 (c.I+1))])))) else none) else none) else (some (.brk 0 [b])))
def w_heldStringS.d2 (a:C):R:=(some (.ret [a]))
def w_heldStringS.d3 (a b:C):R:=(bindBlk 0 (lim (ap3 w_heldStringS.d1) [a,b,.i 0]) (ap1 w_heldStringS.d2))
def w_heldStringS:List C→Option (List C):=fun xs=>finR (ap2 w_heldStringS.d3 xs)
def w_heldStringS_fs:FS:=⟨2,⟨[(0,(zl 9)),(1,zi)],[]⟩,⟨[(0,zi)],[]⟩,[],w_heldStringS⟩
theorem w_heldStringS_ok:FSOk Tryz.checked.prog T0 26 w_heldStringS_fs:=okOf base0 (fn:=Tryz.f26) (c:=Tryz.f26.body.getD .skip) w_heldStringS_fs (.seq .leaf (.seq (.seq .leaf (.block ⟨[(1,zi)],[]⟩ (.loop ⟨[(0,(zl 9)),(1,zi),(5,zi)],[]⟩ .leaf))) .leaf)) [(72,some 17,w_markText_fs)] (.cons w_markText_ok .nil) (by kernel_rfl) (by kernel_rfl) (by kernel_rfl) (fun xs=>by kernel_rfl)
def w_FnExactPilotVictims.d1 (a b c d e f:C):R:=(bif (decide ((e.S.size:Int)>1048576)) then (some (.ret [.b true])) else (bif (decide ((f.S.size:Int)>1048576)) then (some (.ret [.b true])) else (call1 (w_szPilotFleet [a,b,c,d,.i 1048576]) fun g=>(bif (decide (g.I<0)) then (some (.ret [.b true])) else (call4 (w_toPilotFleet [a,b,c,d]) fun h i j k=>(call2 (s_PilotVictims [h,.l i.L,.l j.L,.l k.L,e,f]) fun l m=>(call4 (w_toPilotFleet [a,b,c,d]) fun n o p q=>(call2 (i_PilotVictims [n,.l o.L,.l p.L,.l q.L,e,f]) fun r s=>(call1 (w_eqStringS [.l s.L,.l m.L]) fun t=>(bif (!(!t.B)) then (bif (!(r.B==l.B)) then (some (.ret [.b false])) else (call4 (w_toPilotFleet [a,b,c,d]) fun u v w x=>(call1 (w_eqPilotFleet [n,.l o.L,.l p.L,.l q.L,u,.l v.L,.l w.L,.l x.L]) fun y=>(bif (!y.B) then (some (.ret [.b false])) else (call4 (w_markPilotFleet [n,.i 1,.l o.L,.l p.L,.l q.L]) fun z a0 a1 a2=>(bif (!(decide (z.I<0))) then (call1 (w_eqStringS [.l s.L,.l m.L]) fun a3=>(bif (!(!a3.B)) then (bif (!(r.B==l.B)) then (some (.ret [.b false])) else (call2 (w_markStringS [.i 1,.l s.L]) fun a4 a5=>(call1 (w_heldStringS [.l a5.L,.i 1]) fun a6=>(bif (decide (a6.I<0)) then (some (.ret [.b false])) else (bif (a6.I !=a4.I) then (some (.ret [.b false])) else (call4 (w_toPilotFleet [a,b,c,d]) fun a7 a8 a9 b0=>(call2 (i_PilotVictims [a7,.l a8.L,.l a9.L,.l b0.L,e,f]) fun b1 b2=>(call1 (w_eqStringS [.l b2.L,.l m.L]) fun b3=>(bif (!(!b3.B)) then (bif (!(b1.B==l.B)) then (some (.ret [.b false])) else (call1 (w_heldStringS [.l a5.L,.i 1]) fun b4=>(bif (decide (b4.I<0)) then (some (.ret [.b false])) else (bif (b4.I !=a4.I) then (some (.ret [.b false])) else (some (.ret [.b true])))))) else (some (.ret [.b false]))))))))))) else (some (.ret [.b false])))) else (some (.ret [.b false])))))))) else (some (.ret [.b false]))))))))))))
def w_FnExactPilotVictims:List C→Option (List C):=fun xs=>finR (ap6 w_FnExactPilotVictims.d1 xs)
def w_FnExactPilotVictims_fs:FS:=⟨3,⟨[(0,(.ag [zo,(zl 29),(zl 118),(zl 32)])),(1,zt),(2,zt)],[]⟩,⟨[(0,zo)],[]⟩,[],w_FnExactPilotVictims⟩
theorem w_FnExactPilotVictims_ok:FSOk Tryz.checked.prog T0 5 w_FnExactPilotVictims_fs:=okOfT base0 [] true (fn:=Tryz.f5) (c:=Tryz.f5.body.getD .skip) w_FnExactPilotVictims_fs .leaf [(6,some 26,w_szPilotFleet_fs),(9,some 31,w_toPilotFleet_fs),(9,some 38,w_toPilotFleet_fs),(9,some 57,w_toPilotFleet_fs),(9,some 89,w_toPilotFleet_fs),(12,some 58,w_eqPilotFleet_fs),(14,some 62,w_markPilotFleet_fs),(22,some 34,s_PilotVictims_fs),(23,some 43,i_PilotVictims_fs),(23,some 92,i_PilotVictims_fs),(24,some 48,w_eqStringS_fs),(24,some 68,w_eqStringS_fs),(24,some 97,w_eqStringS_fs),(25,some 78,w_markStringS_fs),(26,some 81,w_heldStringS_fs),(26,some 106,w_heldStringS_fs)] (.cons w_szPilotFleet_ok (.cons w_toPilotFleet_ok (.cons w_toPilotFleet_ok (.cons w_toPilotFleet_ok (.cons w_toPilotFleet_ok (.cons w_eqPilotFleet_ok (.cons w_markPilotFleet_ok (.cons s_PilotVictims_ok (.cons i_PilotVictims_ok (.cons i_PilotVictims_ok (.cons w_eqStringS_ok (.cons w_eqStringS_ok (.cons w_eqStringS_ok (.cons w_markStringS_ok (.cons w_heldStringS_ok (.cons w_heldStringS_ok .nil)))))))))))))))) (by kernel_rfl) (by kernel_rfl) (by kernel_rfl) (fun xs=>by kernel_rfl)
end
end Go.Ev
set_option maxRecDepth 8000
namespace Go.Ev
abbrev Str:=ByteArray
structure Lk where
 sel:Str
 w:Int
structure Bt where
 name:Str
 zone:Str
 marks:List Str
 room:Int
 hold:Int
 shut:Bool
structure Sv where
 name:Str
 spare:Int
structure Cp where
 name:Str
 svc:Str
 rank:Int
 born:Int
 room:Int
 hold:Int
 sel:Str
 likes:List Lk
 apart:Int
 near:Str
 fixed:Str
 at_:Str
structure Fl where
 pack:Bool
 bts:List Bt
 svs:List Sv
 cps:List Cp
def sE (s:Str):List C:=[.s s]
def Lk.e (x:Lk):List C:=[.s x.sel,.i x.w]
def Bt.e (b:Bt):List C:=[.s b.name,.s b.zone,.l (b.marks.map sE),.i b.room,.i b.hold,.b b.shut]
def Sv.e (s:Sv):List C:=[.s s.name,.i s.spare]
def Cp.e (c:Cp):List C:=[.s c.name,.s c.svc,.i c.rank,.i c.born,.i c.room,.i c.hold,.s c.sel,.l (c.likes.map Lk.e),.i c.apart,.s c.near,.s c.fixed,.s c.at_]
def Fl.e (f:Fl):List C:=[.b f.pack,.l (f.bts.map Bt.e),.l (f.svs.map Sv.e),.l (f.cps.map Cp.e)]
def Bt.Sz (K:Nat) (b:Bt):Prop:=b.name.size≤K∧b.zone.size≤K∧b.marks.length≤K∧∀m,m∈b.marks→m.size≤K
def Sv.Sz (K:Nat) (s:Sv):Prop:=s.name.size≤K
def Cp.Sz (K:Nat) (c:Cp):Prop:=c.name.size≤K∧c.svc.size≤K∧c.sel.size≤K∧c.near.size≤K∧c.fixed.size≤K∧c.at_.size≤K∧c.likes.length≤K∧∀x,x∈c.likes→x.sel.size≤K
def Fl.Sz (K:Nat) (f:Fl):Prop:=(f.bts.length≤K∧∀b,b∈f.bts→b.Sz K)∧(f.svs.length≤K∧∀s,s∈f.svs→s.Sz K)∧f.cps.length≤K∧∀c,c∈f.cps→c.Sz K
def SsSz (K:Nat) (l:List Str):Prop:=l.length≤K∧∀s,s∈l→s.size≤K
def SzR (r:Option (List C)) (left:Int) (P:Prop):Prop:=r=some [.i (-1)]∨∃n:Int,0≤n∧n≤left∧P∧r=some [.i n]
theorem sz_loop {α:Type} {l:List α} {e:α→List C} {body:List C→R} (P:α→Prop) (hl:l.length<4611686018427387904)
  (hb:∀(i:Nat) (h:i<l.length) (n:Int),0≤n→n≤1048576→body [.l (l.map e),.i n,.i i]=some (.ret [.i (-1)])∨∃m:Int,0≤m∧m≤n∧P l[i]∧body [.l (l.map e),.i n,.i i]=some (.again [.l (l.map e),.i m,.i (i+1:Nat)]))
  (he:∀n:Int,body [.l (l.map e),.i n,.i l.length]=some (.brk 0 [.i n])):
  ∀(k i:Nat) (n:Int),k+i=l.length→0≤n→n≤1048576→lim body [.l (l.map e),.i n,.i i]=some (.ret [.i (-1)])∨∃m:Int,0≤m∧m≤n∧(∀j (h:j<l.length),i≤j→P l[j])∧lim body [.l (l.map e),.i n,.i i]=some (.brk 0 [.i m])
 |0,i,n,hk,h0,h1=>by
  have:i=l.length:=by omega
  subst this
  exact .inr ⟨n,h0,Int.le_refl _,fun j h1 h2=>by omega,lim_brk (he n)⟩
 |k+1,i,n,hk,h0,h1=>by
  have hi:i<l.length:=by omega
  rcases hb i hi n h0 h1 with h|⟨m,m0,m1,hp,h⟩
  ·exact .inl (lim_ret h)
  ·rw[lim_again h]
   rcases sz_loop P hl hb he k (i+1) m (by omega) m0 (by omega) with h|⟨q,q0,q1,hq,h⟩
   ·exact .inl h
   ·refine .inr ⟨q,q0,by omega,fun j hj hij=>?_,h⟩
    rcases Nat.lt_or_eq_of_le hij with h'|rfl
    ·exact hq j hj h'
    ·exact hp
theorem all_of_get {α:Type} {P:α→Prop} {l:List α} (h:∀j (h:j<l.length),0≤j→P l[j]):∀x,x∈l→P x:=by
 intro x hx
 obtain ⟨i,hi,rfl⟩:=List.getElem_of_mem hx
 exact h i hi (Nat.zero_le _)
theorem to_loop {α:Type} {l:List α} {e:α→List C} {body:List C→R} (z:List C) (hl:l.length<4611686018427387904)
  (hb:∀(i:Nat) (h:i<l.length) (c:List (List C)),c.length=l.length→c.getD i []=z→body [.l (l.map e),.i i,.l c]=some (.again [.l (l.map e),.i (i+1:Nat),.l (c.set i (e l[i]))]))
  (he:∀c,body [.l (l.map e),.i l.length,.l c]=some (.brk 0 [.l c])):
  ∀(k i:Nat),k+i=l.length→lim body [.l (l.map e),.i i,.l ((l.take i).map e++List.replicate k z)]=some (.brk 0 [.l (l.map e)])
 |0,i,hk=>by
  have:i=l.length:=by omega
  subst this
  have:=lim_brk (he (l.map e))
  simpa using this
 |k+1,i,hk=>by
  have hi:i<l.length:=by omega
  have hlen:((l.take i).map e).length=i:=by simp;omega
  have h:=hb i hi ((l.take i).map e++List.replicate (k+1) z) (by rw[List.length_append,hlen,List.length_replicate];omega) (by
   rw[List.getD_eq_getElem?_getD,List.getElem?_append_right (by omega),hlen];simp)
  rw[lim_again h]
  have:((l.take i).map e++List.replicate (k+1) z).set i (e l[i])=(l.take (i+1)).map e++List.replicate k z:=by
   rw[List.set_append_right _ _ (by omega),hlen,Nat.sub_self,List.replicate_succ,List.set_cons_zero,List.take_succ_eq_append_getElem hi,List.map_append]
   simp only[List.map_cons,List.map_nil,List.append_assoc,jA,jB]
  rw[this]
  exact to_loop z hl hb he k (i+1) (by omega)
theorem eq_loop {α:Type} {l:List α} {e:α→List C} {body:List C→R}
  (hb:∀(i:Nat) (h:i<l.length),body [.l (l.map e),.l (l.map e),.i i]=some (.again [.l (l.map e),.l (l.map e),.i (i+1:Nat)]))
  (he:body [.l (l.map e),.l (l.map e),.i l.length]=some (.brk 0 [])):
  ∀(k i:Nat),k+i=l.length→lim body [.l (l.map e),.l (l.map e),.i i]=some (.brk 0 [])
 |0,i,hk=>by
  have:i=l.length:=by omega
  subst this
  exact lim_brk he
 |k+1,i,hk=>by
  rw[lim_again (hb i (by omega))]
  exact eq_loop hb he k (i+1) (by omega)
theorem getD_map' {α:Type} (e:α→List C) {l:List α} {i:Nat} (h:i<l.length):(l.map e).getD i []=e l[i]:=getD_map_lt e h []
theorem sub_ok {n:Int} {m:Nat} (h0:0≤n) (h1:n≤1048576) (hm:m≤maxLen):w64 (n-m)=n-m:=by
 simp only[maxLen] at hm
 exact w64_of (by omega) (by omega)
theorem w1 {i n:Nat} (h:i<n) (hn:n<4611686018427387904):w64 ((i:Int)+1)=((i+1:Nat):Int):=by
 rw[w64_of (by omega) (by omega)];rfl
end Go.Ev
namespace Go.Ev
abbrev big:Nat:=4611686018427387904
theorem w_szStringS_eq (ss:List Str) (n:Int) (h0:0≤n) (h1:n≤1048576) (hz:SsSz maxLen ss):SzR (w_szStringS [.l (ss.map sE),.i n]) n (SsSz 1048576 ss):=by
 simp only[w_szStringS,w_szStringS.d3,apL,jC,jD,C.L_l,C.I_i,jW,sub_ok h0 h1 hz.1]
 by_cases hlt:n-(ss.length:Int)<0
 ·simp only[hlt,decide_true,jR,jV];exact .inl rfl
 ·simp only[hlt,decide_false,jS]
  rcases sz_loop (l:=ss) (e:=sE) (body:=ap3 w_szStringS.d1) (fun s=>s.size≤1048576) (by omega)
   (fun i hi n h0 h1=>by
    have hs:=sub_ok h0 h1 (hz.2 _ (List.getElem_mem hi))
    simp only[apL,jC,jD,w_szStringS.d1,C.I_i,C.L_l,jW,jY,getD_map' sE hi]
    simp only[sE,jC,C.S_s,hs,w1 hi (show ss.length<big by simp only[big];omega)]
    by_cases hq:n-(ss[i].size:Int)<0
    ·left;simp[hi,hq]
    ·right;exact ⟨n-ss[i].size,by omega,by omega,by omega,by simp[hi,hq]⟩)
   (fun n=>by simp[w_szStringS.d1]) ss.length 0 (n-ss.length) (by omega) (by omega) (by omega) with h|⟨m,m0,m1,hp,h⟩
  ·rw[Int.ofNat_zero] at h;rw[h];exact .inl rfl
  ·rw[Int.ofNat_zero] at h;rw[h];exact .inr ⟨m,m0,by omega,⟨by omega,all_of_get hp⟩,by simp[w_szStringS.d2]⟩
theorem w_szPilotBerth_eq (b:Bt) (n:Int) (h0:0≤n) (h1:n≤1048576) (hz:b.Sz maxLen):SzR (w_szPilotBerth (b.e++[.i n])) n (b.Sz 1048576):=by
 simp only[w_szPilotBerth,w_szPilotBerth.d1,Bt.e,jA,jB,apL,jC,jD,C.S_s,C.I_i,sub_ok h0 h1 hz.1]
 by_cases q1:n-(b.name.size:Int)<0
 ·simp only[q1,decide_true,jR,jV];exact .inl rfl
 simp only[q1,decide_false,jS,sub_ok (n:=n-b.name.size) (by omega) (by omega) hz.2.1]
 by_cases q2:n-(b.name.size:Int)-(b.zone.size:Int)<0
 ·simp only[q2,decide_true,jR,jV];exact .inl rfl
 simp only[q2,decide_false,jS]
 rcases w_szStringS_eq b.marks (n-b.name.size-b.zone.size) (by omega) (by omega) hz.2.2 with h|⟨m,m0,m1,hp,h⟩
 ·rw[h];exact .inl rfl
 ·rw[h]
  have:¬m<0:=by omega
  exact .inr ⟨m,m0,by omega,⟨by omega,by omega,hp⟩,by simp[call1,this]⟩
theorem w_szPilotBerthS_eq (l:List Bt) (n:Int) (h0:0≤n) (h1:n≤1048576) (hz:l.length≤maxLen∧∀b,b∈l→b.Sz maxLen):SzR (w_szPilotBerthS [.l (l.map Bt.e),.i n]) n (l.length≤1048576∧∀b,b∈l→b.Sz 1048576):=by
 simp only[w_szPilotBerthS,w_szPilotBerthS.d3,apL,jC,jD,C.L_l,C.I_i,jW,sub_ok h0 h1 hz.1]
 by_cases hlt:n-(l.length:Int)<0
 ·simp only[hlt,decide_true,jR,jV];exact .inl rfl
 ·simp only[hlt,decide_false,jS]
  rcases sz_loop (l:=l) (e:=Bt.e) (body:=ap3 w_szPilotBerthS.d1) (fun s=>s.Sz 1048576) (by omega)
   (fun i hi n h0 h1=>by
    simp only[apL,jC,jD,w_szPilotBerthS.d1,C.I_i,C.L_l,jW,jY,getD_map' Bt.e hi,w1 hi (show l.length<big by simp only[big];omega)]
    rcases w_szPilotBerth_eq l[i] n h0 h1 (hz.2 _ (List.getElem_mem hi)) with h|⟨m,m0,m1,hp,h⟩
    ·simp only[Bt.e,jA,jB] at h
     left;simp[hi,Bt.e,h,call1]
    ·simp only[Bt.e,jA,jB] at h
     have:¬m<0:=by omega
     right;exact ⟨m,m0,m1,hp,by simp[hi,Bt.e,h,call1,this]⟩)
   (fun n=>by simp[w_szPilotBerthS.d1]) l.length 0 (n-l.length) (by omega) (by omega) (by omega) with h|⟨m,m0,m1,hp,h⟩
  ·rw[Int.ofNat_zero] at h;rw[h];exact .inl rfl
  ·rw[Int.ofNat_zero] at h;rw[h];exact .inr ⟨m,m0,by omega,⟨by omega,all_of_get hp⟩,by simp[w_szPilotBerthS.d2]⟩
theorem w_szPilotService_eq (x:Sv) (n:Int) (h0:0≤n) (h1:n≤1048576) (hz:x.name.size≤maxLen):SzR (w_szPilotService (x.e++[.i n])) n (x.name.size≤1048576):=by
 simp only[w_szPilotService,w_szPilotService.d1,Sv.e,jA,jB,apL,jC,jD,C.S_s,C.I_i,sub_ok h0 h1 hz]
 by_cases q1:n-(x.name.size:Int)<0
 ·simp only[q1,decide_true,jR,jV];exact .inl rfl
 ·simp only[q1,decide_false,jS,jV];exact .inr ⟨_,by omega,by omega,by omega,rfl⟩
theorem w_szPilotServiceS_eq (l:List Sv) (n:Int) (h0:0≤n) (h1:n≤1048576) (hz:l.length≤maxLen∧∀x,x∈l→x.name.size≤maxLen):SzR (w_szPilotServiceS [.l (l.map Sv.e),.i n]) n (l.length≤1048576∧∀x,x∈l→x.name.size≤1048576):=by
 simp only[w_szPilotServiceS,w_szPilotServiceS.d3,apL,jC,jD,C.L_l,C.I_i,jW,sub_ok h0 h1 hz.1]
 by_cases hlt:n-(l.length:Int)<0
 ·simp only[hlt,decide_true,jR,jV];exact .inl rfl
 ·simp only[hlt,decide_false,jS]
  rcases sz_loop (l:=l) (e:=Sv.e) (body:=ap3 w_szPilotServiceS.d1) (fun x=>x.name.size≤1048576) (by omega)
   (fun i hi n h0 h1=>by
    simp only[apL,jC,jD,w_szPilotServiceS.d1,C.I_i,C.L_l,jW,jY,getD_map' Sv.e hi,w1 hi (show l.length<big by simp only[big];omega)]
    rcases w_szPilotService_eq l[i] n h0 h1 (hz.2 _ (List.getElem_mem hi)) with h|⟨m,m0,m1,hp,h⟩
    ·simp only[Sv.e,jA,jB] at h
     left;simp[hi,Sv.e,h,call1]
    ·simp only[Sv.e,jA,jB] at h
     have:¬m<0:=by omega
     right;exact ⟨m,m0,m1,hp,by simp[hi,Sv.e,h,call1,this]⟩)
   (fun n=>by simp[w_szPilotServiceS.d1]) l.length 0 (n-l.length) (by omega) (by omega) (by omega) with h|⟨m,m0,m1,hp,h⟩
  ·rw[Int.ofNat_zero] at h;rw[h];exact .inl rfl
  ·rw[Int.ofNat_zero] at h;rw[h];exact .inr ⟨m,m0,by omega,⟨by omega,all_of_get hp⟩,by simp[w_szPilotServiceS.d2]⟩
theorem w_szPilotLike_eq (x:Lk) (n:Int) (h0:0≤n) (h1:n≤1048576) (hz:x.sel.size≤maxLen):SzR (w_szPilotLike (x.e++[.i n])) n (x.sel.size≤1048576):=by
 simp only[w_szPilotLike,w_szPilotLike.d1,Lk.e,jA,jB,apL,jC,jD,C.S_s,C.I_i,sub_ok h0 h1 hz]
 by_cases q1:n-(x.sel.size:Int)<0
 ·simp only[q1,decide_true,jR,jV];exact .inl rfl
 ·simp only[q1,decide_false,jS,jV];exact .inr ⟨_,by omega,by omega,by omega,rfl⟩
theorem w_szPilotLikeS_eq (l:List Lk) (n:Int) (h0:0≤n) (h1:n≤1048576) (hz:l.length≤maxLen∧∀x,x∈l→x.sel.size≤maxLen):SzR (w_szPilotLikeS [.l (l.map Lk.e),.i n]) n (l.length≤1048576∧∀x,x∈l→x.sel.size≤1048576):=by
 simp only[w_szPilotLikeS,w_szPilotLikeS.d3,apL,jC,jD,C.L_l,C.I_i,jW,sub_ok h0 h1 hz.1]
 by_cases hlt:n-(l.length:Int)<0
 ·simp only[hlt,decide_true,jR,jV];exact .inl rfl
 ·simp only[hlt,decide_false,jS]
  rcases sz_loop (l:=l) (e:=Lk.e) (body:=ap3 w_szPilotLikeS.d1) (fun x=>x.sel.size≤1048576) (by omega)
   (fun i hi n h0 h1=>by
    simp only[apL,jC,jD,w_szPilotLikeS.d1,C.I_i,C.L_l,jW,jY,getD_map' Lk.e hi,w1 hi (show l.length<big by simp only[big];omega)]
    rcases w_szPilotLike_eq l[i] n h0 h1 (hz.2 _ (List.getElem_mem hi)) with h|⟨m,m0,m1,hp,h⟩
    ·simp only[Lk.e,jA,jB] at h
     left;simp[hi,Lk.e,h,call1]
    ·simp only[Lk.e,jA,jB] at h
     have:¬m<0:=by omega
     right;exact ⟨m,m0,m1,hp,by simp[hi,Lk.e,h,call1,this]⟩)
   (fun n=>by simp[w_szPilotLikeS.d1]) l.length 0 (n-l.length) (by omega) (by omega) (by omega) with h|⟨m,m0,m1,hp,h⟩
  ·rw[Int.ofNat_zero] at h;rw[h];exact .inl rfl
  ·rw[Int.ofNat_zero] at h;rw[h];exact .inr ⟨m,m0,by omega,⟨by omega,all_of_get hp⟩,by simp[w_szPilotLikeS.d2]⟩
theorem w_szPilotCopy_eq (x:Cp) (n:Int) (h0:0≤n) (h1:n≤1048576) (hz:x.Sz maxLen):SzR (w_szPilotCopy (x.e++[.i n])) n (x.Sz 1048576):=by
 obtain ⟨z1,z2,z3,z4,z5,z6,z7⟩:=hz
 simp only[w_szPilotCopy,w_szPilotCopy.d1,Cp.e,jA,jB,apL,jC,jD,C.S_s,C.I_i,sub_ok h0 h1 z1]
 by_cases q1:n-(x.name.size:Int)<0
 ·simp only[q1,decide_true,jR,jV];exact .inl rfl
 simp only[q1,decide_false,jS,sub_ok (n:=n-x.name.size) (by omega) (by omega) z2]
 by_cases q2:n-(x.name.size:Int)-(x.svc.size:Int)<0
 ·simp only[q2,decide_true,jR,jV];exact .inl rfl
 simp only[q2,decide_false,jS,sub_ok (n:=n-x.name.size-x.svc.size) (by omega) (by omega) z3]
 by_cases q3:n-(x.name.size:Int)-(x.svc.size:Int)-(x.sel.size:Int)<0
 ·simp only[q3,decide_true,jR,jV];exact .inl rfl
 simp only[q3,decide_false,jS]
 rcases w_szPilotLikeS_eq x.likes (n-x.name.size-x.svc.size-x.sel.size) (by omega) (by omega) z7 with h|⟨m,m0,m1,hp,h⟩
 ·rw[h];exact .inl rfl
 rw[h]
 have hm:¬m<0:=by omega
 simp only[call1,jI,jC,C.I_i,hm,decide_false,jS,sub_ok (n:=m) (by omega) (by omega) z4]
 by_cases q4:m-(x.near.size:Int)<0
 ·simp only[q4,decide_true,jR,jV];exact .inl rfl
 simp only[q4,decide_false,jS,sub_ok (n:=m-x.near.size) (by omega) (by omega) z5]
 by_cases q5:m-(x.near.size:Int)-(x.fixed.size:Int)<0
 ·simp only[q5,decide_true,jR,jV];exact .inl rfl
 simp only[q5,decide_false,jS,sub_ok (n:=m-x.near.size-x.fixed.size) (by omega) (by omega) z6]
 by_cases q6:m-(x.near.size:Int)-(x.fixed.size:Int)-(x.at_.size:Int)<0
 ·simp only[q6,decide_true,jR,jV];exact .inl rfl
 simp only[q6,decide_false,jS,jV]
 exact .inr ⟨_,by omega,by omega,⟨by omega,by omega,by omega,by omega,by omega,by omega,hp⟩,rfl⟩
theorem w_szPilotCopyS_eq (l:List Cp) (n:Int) (h0:0≤n) (h1:n≤1048576) (hz:l.length≤maxLen∧∀x,x∈l→x.Sz maxLen):SzR (w_szPilotCopyS [.l (l.map Cp.e),.i n]) n (l.length≤1048576∧∀x,x∈l→x.Sz 1048576):=by
 simp only[w_szPilotCopyS,w_szPilotCopyS.d3,apL,jC,jD,C.L_l,C.I_i,jW,sub_ok h0 h1 hz.1]
 by_cases hlt:n-(l.length:Int)<0
 ·simp only[hlt,decide_true,jR,jV];exact .inl rfl
 ·simp only[hlt,decide_false,jS]
  rcases sz_loop (l:=l) (e:=Cp.e) (body:=ap3 w_szPilotCopyS.d1) (fun x=>x.Sz 1048576) (by omega)
   (fun i hi n h0 h1=>by
    simp only[apL,jC,jD,w_szPilotCopyS.d1,C.I_i,C.L_l,jW,jY,getD_map' Cp.e hi,w1 hi (show l.length<big by simp only[big];omega)]
    rcases w_szPilotCopy_eq l[i] n h0 h1 (hz.2 _ (List.getElem_mem hi)) with h|⟨m,m0,m1,hp,h⟩
    ·simp only[Cp.e,jA,jB] at h
     left;simp[hi,Cp.e,h,call1]
    ·simp only[Cp.e,jA,jB] at h
     have:¬m<0:=by omega
     right;exact ⟨m,m0,m1,hp,by simp[hi,Cp.e,h,call1,this]⟩)
   (fun n=>by simp[w_szPilotCopyS.d1]) l.length 0 (n-l.length) (by omega) (by omega) (by omega) with h|⟨m,m0,m1,hp,h⟩
  ·rw[Int.ofNat_zero] at h;rw[h];exact .inl rfl
  ·rw[Int.ofNat_zero] at h;rw[h];exact .inr ⟨m,m0,by omega,⟨by omega,all_of_get hp⟩,by simp[w_szPilotCopyS.d2]⟩
theorem w_szPilotFleet_eq (f:Fl) (n:Int) (h0:0≤n) (h1:n≤1048576) (hz:f.Sz maxLen):SzR (w_szPilotFleet (f.e++[.i n])) n (f.Sz 1048576):=by
 obtain ⟨z1,z2,z3⟩:=hz
 simp only[w_szPilotFleet,w_szPilotFleet.d1,Fl.e,jA,jB,apL,jC,jD]
 rcases w_szPilotBerthS_eq f.bts n h0 h1 z1 with h|⟨m,m0,m1,hp,h⟩
 ·rw[h];exact .inl rfl
 rw[h]
 have hm:¬m<0:=by omega
 simp only[call1,jI,jC,C.I_i,hm,decide_false,jS]
 rcases w_szPilotServiceS_eq f.svs m m0 (by omega) z2 with h|⟨m',m0',m1',hp',h⟩
 ·rw[h];exact .inl rfl
 rw[h]
 have hm:¬m'<0:=by omega
 simp only[call1,jI,jC,C.I_i,hm,decide_false,jS]
 rcases w_szPilotCopyS_eq f.cps m' m0' (by omega) z3 with h|⟨m'',m0'',m1'',hp'',h⟩
 ·rw[h];exact .inl rfl
 rw[h]
 have hm:¬m''<0:=by omega
 simp only[call1,jI,jC,C.I_i,hm,decide_false,jS,jV]
 exact .inr ⟨m'',m0'',by omega,⟨hp,hp',hp''⟩,rfl⟩
end Go.Ev
namespace Go.Ev
theorem setCs_all (r m:List C) (h:r.length=m.length):setCs r 0 m=m:=by
 unfold setCs
 rw[List.drop_eq_nil_of_le (by omega)];simp
theorem len32 {n:Nat} (h:n≤1048576):(n:Int)≤4294967296:=by omega
theorem w_toStringS_eq (l:List Str) (hl:l.length≤1048576∧∀x,x∈l→True):w_toStringS [.l (l.map sE)]=some [.l (l.map sE)]:=by
 have h:=to_loop (l:=l) (e:=sE) (body:=ap3 w_toStringS.d1) [.s (bs #[])] (by omega)
  (fun i hi c hc hz=>by
   simp only[apL,jC,jD,w_toStringS.d1,C.I_i,C.L_l,jW,jY,getD_map' sE hi,w1 hi (show l.length<big by simp only[big];omega),hz,hc]
   simp[hi,sE,hc,hz,setCs_all])
  (fun c=>by simp[w_toStringS.d1]) l.length 0 rfl
 rw[Int.ofNat_zero] at h
 simp only[List.take_zero,List.map_nil,jB] at h
 simp only[w_toStringS,w_toStringS.d3,apL,jC,C.L_l,jW,jY,rows]
 simp[len32 hl.1,h,w_toStringS.d2]
def Bt.o (b:Bt):List C:=[.s b.name,.s b.zone,.i b.room,.i b.hold,.b b.shut,.l (b.marks.map sE)]
def Cp.o (c:Cp):List C:=[.s c.name,.s c.svc,.i c.rank,.i c.born,.i c.room,.i c.hold,.s c.sel,.i c.apart,.s c.near,.s c.fixed,.s c.at_,.l (c.likes.map Lk.e)]
theorem w_toPilotBerth_eq (b:Bt) (h:b.Sz 1048576):w_toPilotBerth b.e=some b.o:=by
 simp[w_toPilotBerth,w_toPilotBerth.d1,Bt.e,Bt.o,w_toStringS_eq b.marks ⟨h.2.2.1,fun _ _=>trivial⟩,call1]
theorem w_toPilotService_eq (b:Sv) (h:True):w_toPilotService b.e=some b.e:=rfl
theorem w_toPilotLike_eq (b:Lk) (h:True):w_toPilotLike b.e=some b.e:=rfl
theorem w_toPilotBerthS_eq (l:List Bt) (hl:l.length≤1048576∧∀x,x∈l→x.Sz 1048576):w_toPilotBerthS [.l (l.map Bt.e)]=some [.l (l.map Bt.e)]:=by
 have h:=to_loop (l:=l) (e:=Bt.e) (body:=ap3 w_toPilotBerthS.d1) [.s (bs #[]),.s (bs #[]),.l [],.i 0,.i 0,.b false] (by omega)
  (fun i hi c hc hz=>by
   simp only[apL,jC,jD,w_toPilotBerthS.d1,C.I_i,C.L_l,jW,jY,getD_map' Bt.e hi,w1 hi (show l.length<big by simp only[big];omega),hz,hc]
   have hx:=w_toPilotBerth_eq l[i] (hl.2 _ (List.getElem_mem hi))
   simp only[Bt.e,Bt.o] at hx
   simp[hi,Bt.e,hx,hc,hz,call1,call2,call6,call12,setCs_all])
  (fun c=>by simp[w_toPilotBerthS.d1]) l.length 0 rfl
 rw[Int.ofNat_zero] at h
 simp only[List.take_zero,List.map_nil,jB] at h
 simp only[w_toPilotBerthS,w_toPilotBerthS.d3,apL,jC,C.L_l,jW,jY,rows]
 simp[len32 hl.1,h,w_toPilotBerthS.d2]
theorem w_toPilotServiceS_eq (l:List Sv) (hl:l.length≤1048576∧∀x,x∈l→True):w_toPilotServiceS [.l (l.map Sv.e)]=some [.l (l.map Sv.e)]:=by
 have h:=to_loop (l:=l) (e:=Sv.e) (body:=ap3 w_toPilotServiceS.d1) [.s (bs #[]),.i 0] (by omega)
  (fun i hi c hc hz=>by
   simp only[apL,jC,jD,w_toPilotServiceS.d1,C.I_i,C.L_l,jW,jY,getD_map' Sv.e hi,w1 hi (show l.length<big by simp only[big];omega),hz,hc]
   have hx:=w_toPilotService_eq l[i] trivial
   simp only[Sv.e] at hx
   simp[hi,Sv.e,hx,hc,hz,call1,call2,call6,call12,setCs_all])
  (fun c=>by simp[w_toPilotServiceS.d1]) l.length 0 rfl
 rw[Int.ofNat_zero] at h
 simp only[List.take_zero,List.map_nil,jB] at h
 simp only[w_toPilotServiceS,w_toPilotServiceS.d3,apL,jC,C.L_l,jW,jY,rows]
 simp[len32 hl.1,h,w_toPilotServiceS.d2]
theorem w_toPilotLikeS_eq (l:List Lk) (hl:l.length≤1048576∧∀x,x∈l→True):w_toPilotLikeS [.l (l.map Lk.e)]=some [.l (l.map Lk.e)]:=by
 have h:=to_loop (l:=l) (e:=Lk.e) (body:=ap3 w_toPilotLikeS.d1) [.s (bs #[]),.i 0] (by omega)
  (fun i hi c hc hz=>by
   simp only[apL,jC,jD,w_toPilotLikeS.d1,C.I_i,C.L_l,jW,jY,getD_map' Lk.e hi,w1 hi (show l.length<big by simp only[big];omega),hz,hc]
   have hx:=w_toPilotLike_eq l[i] trivial
   simp only[Lk.e] at hx
   simp[hi,Lk.e,hx,hc,hz,call1,call2,call6,call12,setCs_all])
  (fun c=>by simp[w_toPilotLikeS.d1]) l.length 0 rfl
 rw[Int.ofNat_zero] at h
 simp only[List.take_zero,List.map_nil,jB] at h
 simp only[w_toPilotLikeS,w_toPilotLikeS.d3,apL,jC,C.L_l,jW,jY,rows]
 simp[len32 hl.1,h,w_toPilotLikeS.d2]
theorem w_toPilotCopy_eq (b:Cp) (h:b.Sz 1048576):w_toPilotCopy b.e=some b.o:=by
 simp[w_toPilotCopy,w_toPilotCopy.d1,Cp.e,Cp.o,w_toPilotLikeS_eq b.likes ⟨h.2.2.2.2.2.2.1,fun _ _=>trivial⟩,call1]
theorem w_toPilotCopyS_eq (l:List Cp) (hl:l.length≤1048576∧∀x,x∈l→x.Sz 1048576):w_toPilotCopyS [.l (l.map Cp.e)]=some [.l (l.map Cp.e)]:=by
 have h:=to_loop (l:=l) (e:=Cp.e) (body:=ap3 w_toPilotCopyS.d1) [.s (bs #[]),.s (bs #[]),.i 0,.i 0,.i 0,.i 0,.s (bs #[]),.l [],.i 0,.s (bs #[]),.s (bs #[]),.s (bs #[])] (by omega)
  (fun i hi c hc hz=>by
   simp only[apL,jC,jD,w_toPilotCopyS.d1,C.I_i,C.L_l,jW,jY,getD_map' Cp.e hi,w1 hi (show l.length<big by simp only[big];omega),hz,hc]
   have hx:=w_toPilotCopy_eq l[i] (hl.2 _ (List.getElem_mem hi))
   simp only[Cp.e,Cp.o] at hx
   simp[hi,Cp.e,hx,hc,hz,call1,call2,call6,call12,setCs_all])
  (fun c=>by simp[w_toPilotCopyS.d1]) l.length 0 rfl
 rw[Int.ofNat_zero] at h
 simp only[List.take_zero,List.map_nil,jB] at h
 simp only[w_toPilotCopyS,w_toPilotCopyS.d3,apL,jC,C.L_l,jW,jY,rows]
 simp[len32 hl.1,h,w_toPilotCopyS.d2]
theorem w_toPilotFleet_eq (f:Fl) (h:f.Sz 1048576):w_toPilotFleet f.e=some f.e:=by
 have h1:=w_toPilotBerthS_eq f.bts h.1
 have h2:=w_toPilotServiceS_eq f.svs ⟨h.2.1.1,fun _ _=>trivial⟩
 have h3:=w_toPilotCopyS_eq f.cps h.2.2
 simp[w_toPilotFleet,w_toPilotFleet.d1,Fl.e,h1,h2,h3,call1]
theorem w_eqStringS_eq (l:List Str) (hl:l.length≤1048576∧∀x,x∈l→True):w_eqStringS [.l (l.map sE),.l (l.map sE)]=some [.b true]:=by
 have h:=eq_loop (l:=l) (e:=sE) (body:=ap3 w_eqStringS.d1)
  (fun i hi=>by
   simp only[apL,jC,jD,w_eqStringS.d1,C.I_i,C.L_l,jW,jY,getD_map' sE hi,w1 hi (show l.length<big by simp only[big];omega)]
   simp[hi,sE])
  (by simp[w_eqStringS.d1]) l.length 0 rfl
 rw[Int.ofNat_zero] at h
 simp[w_eqStringS,w_eqStringS.d3,h,w_eqStringS.d2]
theorem w_eqPilotBerth_eq (b:Bt) (h:b.Sz 1048576):w_eqPilotBerth (b.e++b.e)=some [.b true]:=by
 simp[w_eqPilotBerth,w_eqPilotBerth.d1,Bt.e,w_eqStringS_eq b.marks ⟨h.2.2.1,fun _ _=>trivial⟩,call1]
theorem w_eqPilotService_eq (b:Sv) (h:True):w_eqPilotService (b.e++b.e)=some [.b true]:=by
 simp[w_eqPilotService,w_eqPilotService.d1,Sv.e]
theorem w_eqPilotLike_eq (b:Lk) (h:True):w_eqPilotLike (b.e++b.e)=some [.b true]:=by
 simp[w_eqPilotLike,w_eqPilotLike.d1,Lk.e]
theorem w_eqPilotBerthS_eq (l:List Bt) (hl:l.length≤1048576∧∀x,x∈l→x.Sz 1048576):w_eqPilotBerthS [.l (l.map Bt.e),.l (l.map Bt.e)]=some [.b true]:=by
 have h:=eq_loop (l:=l) (e:=Bt.e) (body:=ap3 w_eqPilotBerthS.d1)
  (fun i hi=>by
   simp only[apL,jC,jD,w_eqPilotBerthS.d1,C.I_i,C.L_l,jW,jY,getD_map' Bt.e hi,w1 hi (show l.length<big by simp only[big];omega)]
   have hx:=w_eqPilotBerth_eq l[i] (hl.2 _ (List.getElem_mem hi))
   simp only[Bt.e,jA,jB] at hx
   simp[hi,Bt.e,hx,call1])
  (by simp[w_eqPilotBerthS.d1]) l.length 0 rfl
 rw[Int.ofNat_zero] at h
 simp[w_eqPilotBerthS,w_eqPilotBerthS.d3,h,w_eqPilotBerthS.d2]
theorem w_eqPilotServiceS_eq (l:List Sv) (hl:l.length≤1048576∧∀x,x∈l→True):w_eqPilotServiceS [.l (l.map Sv.e),.l (l.map Sv.e)]=some [.b true]:=by
 have h:=eq_loop (l:=l) (e:=Sv.e) (body:=ap3 w_eqPilotServiceS.d1)
  (fun i hi=>by
   simp only[apL,jC,jD,w_eqPilotServiceS.d1,C.I_i,C.L_l,jW,jY,getD_map' Sv.e hi,w1 hi (show l.length<big by simp only[big];omega)]
   have hx:=w_eqPilotService_eq l[i] (hl.2 _ (List.getElem_mem hi))
   simp only[Sv.e,jA,jB] at hx
   simp[hi,Sv.e,hx,call1])
  (by simp[w_eqPilotServiceS.d1]) l.length 0 rfl
 rw[Int.ofNat_zero] at h
 simp[w_eqPilotServiceS,w_eqPilotServiceS.d3,h,w_eqPilotServiceS.d2]
theorem w_eqPilotLikeS_eq (l:List Lk) (hl:l.length≤1048576∧∀x,x∈l→True):w_eqPilotLikeS [.l (l.map Lk.e),.l (l.map Lk.e)]=some [.b true]:=by
 have h:=eq_loop (l:=l) (e:=Lk.e) (body:=ap3 w_eqPilotLikeS.d1)
  (fun i hi=>by
   simp only[apL,jC,jD,w_eqPilotLikeS.d1,C.I_i,C.L_l,jW,jY,getD_map' Lk.e hi,w1 hi (show l.length<big by simp only[big];omega)]
   have hx:=w_eqPilotLike_eq l[i] (hl.2 _ (List.getElem_mem hi))
   simp only[Lk.e,jA,jB] at hx
   simp[hi,Lk.e,hx,call1])
  (by simp[w_eqPilotLikeS.d1]) l.length 0 rfl
 rw[Int.ofNat_zero] at h
 simp[w_eqPilotLikeS,w_eqPilotLikeS.d3,h,w_eqPilotLikeS.d2]
theorem w_eqPilotCopy_eq (b:Cp) (h:b.Sz 1048576):w_eqPilotCopy (b.e++b.e)=some [.b true]:=by
 simp[w_eqPilotCopy,w_eqPilotCopy.d1,Cp.e,w_eqPilotLikeS_eq b.likes ⟨h.2.2.2.2.2.2.1,fun _ _=>trivial⟩,call1]
theorem w_eqPilotCopyS_eq (l:List Cp) (hl:l.length≤1048576∧∀x,x∈l→x.Sz 1048576):w_eqPilotCopyS [.l (l.map Cp.e),.l (l.map Cp.e)]=some [.b true]:=by
 have h:=eq_loop (l:=l) (e:=Cp.e) (body:=ap3 w_eqPilotCopyS.d1)
  (fun i hi=>by
   simp only[apL,jC,jD,w_eqPilotCopyS.d1,C.I_i,C.L_l,jW,jY,getD_map' Cp.e hi,w1 hi (show l.length<big by simp only[big];omega)]
   have hx:=w_eqPilotCopy_eq l[i] (hl.2 _ (List.getElem_mem hi))
   simp only[Cp.e,jA,jB] at hx
   simp[hi,Cp.e,hx,call1])
  (by simp[w_eqPilotCopyS.d1]) l.length 0 rfl
 rw[Int.ofNat_zero] at h
 simp[w_eqPilotCopyS,w_eqPilotCopyS.d3,h,w_eqPilotCopyS.d2]
theorem w_eqPilotFleet_eq (f:Fl) (h:f.Sz 1048576):w_eqPilotFleet (f.e++f.e)=some [.b true]:=by
 have h1:=w_eqPilotBerthS_eq f.bts h.1
 have h2:=w_eqPilotServiceS_eq f.svs ⟨h.2.1.1,fun _ _=>trivial⟩
 have h3:=w_eqPilotCopyS_eq f.cps h.2.2
 simp[w_eqPilotFleet,w_eqPilotFleet.d1,Fl.e,h1,h2,h3,call1]
end Go.Ev
namespace Go.Ev
def within (a b c:Int):Bool:=decide (b≤a)&&decide (a≤c)
theorem s_l1In_eq (a b c:Int):s_l1In [.i a,.i b,.i c]=some [.b (within a b c)]:=by
 simp only[s_l1In,s_l1In.d1,apL,jC,jD,C.I_i,within]
 cases h:decide (a≥b)<;>simp at h<;>simp[h]<;>omega
theorem i_within_eq (a b c:Int):i_within [.i a,.i b,.i c]=some [.b (within a b c)]:=by
 simp only[i_within,i_within.d1,apL,jC,jD,C.I_i,within]
 cases h:decide (a≥b)<;>simp at h<;>simp[h]<;>omega
def lettI (n:Int):Bool:=(decide (n≥97)&&decide (n≤122))||(decide (n≥48)&&decide (n≤57))||n==45||n==95
def lett (x:UInt8):Bool:=lettI (x.toNat:Int)
theorem s_l1Letter_eq (n:Int):s_l1Letter [.i n]=some [.b (lettI n)]:=by
 simp only[s_l1Letter,s_l1Letter.d1,apL,jC,C.I_i,lettI]
 cases decide (n≥97)<;>cases decide (n≤122)<;>cases decide (n≥48)<;>cases decide (n≤57)<;>cases n==45<;>simp
theorem i_pByte_eq (n:Int):i_pByte [.i n]=some [.b (lettI n)]:=s_l1Letter_eq n
def nameOk (s:Str):Bool:=within s.size 1 20&&s.data.toList.all lett
theorem sz_list (s:Str):s.size=s.data.toList.length:=Array.length_toList.symm
theorem arr_getD {s:Str} {i:Nat} (h:i<s.data.toList.length):s.data.getD i 0=s.data.toList[i]:=by
 have:i<s.data.size:=by simpa using h
 simp only[Array.getD,dif_pos this,Array.getInternal_eq_getElem,Array.getElem_toList]
theorem loopL_all {α:Type} (p:α→Bool) (b:Nat) (ys:List C) (K:List C→R):∀(l:List α) (n:Nat),bindBlk b (some (loopL (fun _ s (_:Unit)=>bif p s then .inl () else .inr (.ret [.b false])) (fun _=>.brk b ys) l n ())) K=bif l.all p then K ys else some (.ret [.b false])
 |[],n=>by simp[loopL]
 |x::r,n=>by
  simp only[loopL,List.all_cons]
  cases p x with
  |true=>simp only[jR,Bool.true_and];exact loopL_all p b ys K r (n+1)
  |false=>simp
theorem s_l1NameOk_eq (s:Str) (hl:s.size≤1048576):s_l1NameOk [.s s]=some [.b (nameOk s)]:=by
 have hsz:=sz_list s
 have h:=lim_list (l:=s.data.toList) (S:=fun i (_:Unit)=>[.s s,.i (i:Nat)]) (body:=ap2 s_l1NameOk.d1)
  (fun _ _=>True) (fun i b _=>bif lett b then .inl () else .inr (.ret [.b false])) (fun _=>.brk 0 [])
  (fun i _ hi _=>by
   have hi':i<s.size:=by omega
   cases hb:lett s.data.toList[i]<;>simp only[lett] at hb
   ·exact ⟨by simp only[apL,jC,jD,s_l1NameOk.d1,C.I_i,C.S_s,jY,arr_getD hi,s_l1Letter_eq,hb,call1];simp[hi'],trivial⟩
   ·exact ⟨by simp only[apL,jC,jD,s_l1NameOk.d1,C.I_i,C.S_s,jY,arr_getD hi,s_l1Letter_eq,hb,call1,w1 hi' (show s.size<big by simp only[big];omega)];simp[hi'],trivial⟩)
  (fun _ _=>⟨by rw[←hsz];simp[s_l1NameOk.d1],trivial⟩) _ 0 () rfl trivial
 simp only[Int.ofNat_zero,List.drop_zero] at h
 simp only[s_l1NameOk,s_l1NameOk.d3,apL,jC,C.S_s,s_l1In_eq,call1,jI,C.B_b,nameOk]
 cases hw:within s.size 1 20 with
 |false=>simp
 |true=>
  simp only[jZ,jS]
  erw[h,loopL_all]
  cases (s.data.toList.all lett)<;>simp[s_l1NameOk.d2]
theorem i_pName_eq (s:Str) (hl:s.size≤1048576):i_pName [.s s]=some [.b (nameOk s)]:=by
 have hsz:=sz_list s
 have h:=lim_list (l:=s.data.toList) (S:=fun i (_:Unit)=>[.s s,.i (s.size:Nat),.i (i:Nat)]) (body:=ap3 i_pName.d1)
  (fun _ _=>True) (fun i b _=>bif lett b then .inl () else .inr (.ret [.b false])) (fun _=>.brk 0 [])
  (fun i _ hi _=>by
   have hi':i<s.size:=by omega
   cases hb:lett s.data.toList[i]<;>simp only[lett] at hb
   ·exact ⟨by simp only[apL,jC,jD,i_pName.d1,C.I_i,C.S_s,jY,arr_getD hi,i_pByte_eq,hb,call1];simp[hi'],trivial⟩
   ·exact ⟨by simp only[apL,jC,jD,i_pName.d1,C.I_i,C.S_s,jY,arr_getD hi,i_pByte_eq,hb,call1,w1 hi' (show s.size<big by simp only[big];omega)];simp[hi'],trivial⟩)
  (fun _ _=>⟨by rw[←hsz];simp[i_pName.d1],trivial⟩) _ 0 () rfl trivial
 simp only[Int.ofNat_zero,List.drop_zero] at h
 simp only[i_pName,i_pName.d3,apL,jC,C.S_s,nameOk,within]
 by_cases q1:(s.size:Int)<1
 ·have:¬(1:Int)≤s.size:=by omega
  simp[q1,this]
 by_cases q2:(s.size:Int)>20
 ·have:¬(s.size:Int)≤20:=by omega
  simp only[q1,q2,this];simp
 ·have e1:(1:Int)≤s.size:=by omega
  have e2:(s.size:Int)≤20:=by omega
  simp only[q1,q2,e1,e2,decide_true,decide_false,ja,jR,jS,Bool.true_and]
  erw[h,loopL_all]
  cases (s.data.toList.all lett)<;>simp[i_pName.d2]
end Go.Ev
namespace Go.Ev
def mkS (l:List UInt8):Str:=⟨l.toArray⟩
theorem mkS_data (l:List UInt8):(mkS l).data.toList=l:=rfl
theorem mkS_size (l:List UInt8):(mkS l).size=l.length:=rfl
theorem mkS_of (s:Str):mkS s.data.toList=s:=rfl
theorem ext_mkS (s:Str) (i j:Nat):s.extract i j=mkS ((s.data.toList.take j).drop i):=by
 have:(s.extract i j).data=((s.data.toList.take j).drop i).toArray:=by
  rw[ByteArray.data_extract]
  apply Array.toList_inj.1
  simp only[Array.toList_extract,List.extract_eq_take_drop]
  rw[List.drop_take]
 cases h:s.extract i j with
 |mk d=>rw[h] at this;simp only at this;subst this;rfl
def sEq (a b:Str):Bool:=a.toList==b.toList
theorem toList_data' (s:Str):s.toList=s.data.toList:=ByteArray.toList_eq s
theorem sEq_iff (a b:Str):sEq a b=true↔a=b:=by
 unfold sEq
 rw[toList_data',toList_data',beq_iff_eq]
 constructor
 ·intro h
  cases a;cases b
  simp only at h
  exact congrArg _ (Array.toList_inj.1 h)
 ·rintro rfl;rfl
theorem sEq_mk (a b:List UInt8):sEq (mkS a) (mkS b)=(a==b):=by
 unfold sEq;rw[toList_data',toList_data',mkS_data,mkS_data]
theorem take_run {α:Type} (p:α→Bool):∀l:List α,l.take (l.takeWhile p).length=l.takeWhile p
 |[]=>rfl
 |x::r=>by
  rw[List.takeWhile_cons]
  cases p x with
  |true=>simp[take_run p r]
  |false=>simp
theorem drop_run {α:Type} (p:α→Bool):∀l:List α,l.drop (l.takeWhile p).length=l.dropWhile p
 |[]=>rfl
 |x::r=>by
  rw[List.takeWhile_cons,List.dropWhile_cons]
  cases p x with
  |true=>simp[drop_run p r]
  |false=>simp
theorem part_drop {α:Type} (l:List α) (i k:Nat):(l.take (i+k)).drop i=(l.drop i).take k:=by rw[List.drop_take];congr 1;omega
theorem run_len {α:Type} (p:α→Bool) (l:List α):(l.takeWhile p).length≤l.length:=(List.takeWhile_prefix p).length_le
theorem drop_cons {α:Type} {l r:List α} {i:Nat} {c:α} (h:l.drop i=c::r):∃hi:i<l.length,l[i]=c∧l.drop (i+1)=r:=by
 have hi:i<l.length:=by
  rcases Nat.lt_or_ge i l.length with h'|h'
  ·exact h'
  ·rw[List.drop_eq_nil_of_le h'] at h;simp at h
 rw[List.drop_eq_getElem_cons hi] at h
 simp only[List.cons.injEq] at h
 exact ⟨hi,h.1,h.2⟩
def lexT:List UInt8→List (List UInt8)
 |[]=>[]
 |c::r=>if c=32 then lexT r else if lett c then (c::r.takeWhile lett)::lexT (r.dropWhile lett) else [c]::lexT r
termination_by l=>l.length
decreasing_by
 ·simp
 ·have:=(List.dropWhile_suffix (l:=r) lett).length_le;simp;omega
 ·simp
def sym (c:UInt8):Bool:=c==124||c==38||c==33||c==40||c==41||c==61
def legal (c:UInt8):Bool:=c==32||lett c||sym c
theorem bn (c x:UInt8) (m:Int) (h:m=(x.toNat:Int)):(((c.toNat:Nat):Int)==m)=(c==x):=by
 subst h
 rw[Bool.eq_iff_iff,beq_iff_eq,beq_iff_eq]
 constructor
 ·intro h
  exact UInt8.toNat_inj.1 (by exact_mod_cast h)
 ·rintro rfl;rfl
theorem tokrun (s:Str) (hl:s.size≤1048576) (i:Nat) (o:C):∀(k n:Nat),k=s.data.toList.length-n→n≤s.data.toList.length→
  lim (ap4 s_l1Tokens.d1) [.s s,.i i,.i n,.l o.L]=some (.brk 2 [.s s,.i i,.i (n+((s.data.toList.drop n).takeWhile lett).length:Nat),.l o.L])
 |0,n,hk,hn=>by
  have e:n=s.size:=by rw[sz_list];omega
  have e2:s.data.toList.drop n=[]:=List.drop_eq_nil_of_le (by omega)
  rw[e2]
  refine lim_brk ?_
  simp[s_l1Tokens.d1,e]
 |k+1,n,hk,hn=>by
  have hi:n<s.data.toList.length:=by omega
  have hi':n<s.size:=by rw[sz_list];omega
  have e2:=List.drop_eq_getElem_cons hi
  rw[e2,List.takeWhile_cons]
  cases hb:lett s.data.toList[n] with
  |false=>
   refine lim_brk ?_
   simp only[lett] at hb
   simp only[apL,jC,jD,s_l1Tokens.d1,C.I_i,C.S_s,jY,arr_getD hi,s_l1Letter_eq,hb,call1]
   simp[hi']
  |true=>
   have h:ap4 s_l1Tokens.d1 [.s s,.i i,.i n,.l o.L]=some (.again [.s s,.i i,.i (n+1:Nat),.l o.L]):=by
    simp only[lett] at hb
    simp only[apL,jC,jD,s_l1Tokens.d1,C.I_i,C.S_s,jY,arr_getD hi,s_l1Letter_eq,hb,call1,w1 hi' (show s.size<big by simp only[big];omega)]
    simp[hi']
   rw[lim_again h,tokrun s hl i o k (n+1) (by omega) (by omega)]
   have:n+1+(List.takeWhile lett (s.data.toList.drop (n+1))).length=n+(s.data.toList[n]::List.takeWhile lett (s.data.toList.drop (n+1))).length:=by
    simp only[List.length_cons];omega
   simp only[if_true,this]
def tk (t:List UInt8):List C:=[.s (mkS t)]
theorem toks (s:Str) (hl:s.size≤1048576):∀(k i:Nat) (out:List (List C)),s.data.toList.length-i≤k→i≤s.data.toList.length→out.length≤i→
  (((s.data.toList.drop i).all legal=true∧lim (ap3 s_l1Tokens.d5) [.s s,.i i,.l out]=some (.brk 0 [.l (out++(lexT (s.data.toList.drop i)).map tk)]))∨
   ((s.data.toList.drop i).all legal=false∧∃o,lim (ap3 s_l1Tokens.d5) [.s s,.i i,.l out]=some (.ret [.b false,.l o])))
 |k,i,out,hk,hi,ho=>by
  cases hd:s.data.toList.drop i with
  |nil=>
   have:s.data.toList.length≤i:=by simpa using hd
   have e:i=s.size:=by rw[sz_list];omega
   left
   refine ⟨rfl,lim_brk ?_⟩
   simp[s_l1Tokens.d5,e,lexT]
  |cons c r=>
   obtain ⟨hi',hc,hr⟩:=drop_cons hd
   have his:i<s.size:=by rw[sz_list];exact hi'
   obtain ⟨k,rfl⟩:∃k',k=k'+1:=⟨k-1,by omega⟩
   have hw:=w1 his (show s.size<big by simp only[big];omega)
   have e32:=bn c 32 32 rfl
   by_cases h32:c=32
   ·subst h32
    have h:ap3 s_l1Tokens.d5 [.s s,.i i,.l out]=some (.again [.s s,.i (i+1:Nat),.l out]):=by
     simp only[apL,jC,jD,s_l1Tokens.d5,C.I_i,C.S_s,C.L_l,jY,arr_getD hi',hc,hw]
     simp[his,s_l1Tokens.d4]
    have ih:=toks s hl k (i+1) out (by omega) (by omega) (by omega)
    rw[lim_again h]
    rw[hr] at ih
    simpa [legal,lexT] using ih
   ·have hrun:=tokrun s hl i (.l out) _ i rfl hi
    rw[hd] at hrun
    simp only[C.L_l] at hrun
    have hne:(((c.toNat:Nat):Int)==32)=false:=by
     rw[e32,beq_eq_false_iff_ne];exact h32
    cases hlt:lett c with
    |true=>
     have hrl:=run_len lett r
     have hrlen:r.length=s.data.toList.length-(i+1):=by rw[←hr];simp
     have h:ap3 s_l1Tokens.d5 [.s s,.i i,.l out]=some (.again [.s s,.i (i+1+(r.takeWhile lett).length:Nat),.l (out++[tk (c::r.takeWhile lett)])]):=by
      have hext:s.extract i (i+1+(r.takeWhile lett).length)=mkS (c::r.takeWhile lett):=by
       rw[ext_mkS,Nat.add_assoc,part_drop,hd,Nat.add_comm 1,List.take_succ_cons,take_run]
      have e1:(((i+1+(r.takeWhile lett).length:Nat):Int)==(i:Int))=false:=by
       rw[beq_eq_false_iff_ne];omega
      have e2:(i:Int)≤((i+1+(r.takeWhile lett).length:Nat):Int):=by omega
      have e3:((i+1+(r.takeWhile lett).length:Nat):Int)≤(s.size:Int):=by rw[sz_list];omega
      have e4:out.length+1≤4294967296:=by omega
      have e0:i+(List.takeWhile lett (c::r)).length=i+1+(r.takeWhile lett).length:=by
       rw[List.takeWhile_cons,hlt];simp;omega
      rw[e0] at hrun
      simp only[apL,jC,jD,s_l1Tokens.d5,C.I_i,C.S_s,C.L_l,jY,arr_getD hi',hc,hne,hrun,bindBlk_self]
      simp only[s_l1Tokens.d3,C.I_i,C.S_s,C.L_l,e1,jY,hext]
      simp only[e2,e3,e4,his,decide_true,jR,jS,jX,rows,List.length_cons,List.length_nil,bindBlk_self,s_l1Tokens.d4,C.L_l,tk]
      simp[his,e4,s_l1Tokens.d4]
     have ih:=toks s hl k (i+1+(r.takeWhile lett).length) (out++[tk (c::r.takeWhile lett)]) (by omega) (by omega) (by simp;omega)
     rw[lim_again h]
     have hdr:s.data.toList.drop (i+1+(r.takeWhile lett).length)=r.dropWhile lett:=by
      rw[←List.drop_drop,hr,drop_run]
     rw[hdr] at ih
     have hall:(c::r).all legal=(r.dropWhile lett).all legal:=by
      have e1:∀r:List UInt8,r.all legal=(r.dropWhile lett).all legal:=by
       intro r
       induction r with
       |nil=>rfl
       |cons x r ih=>
        rw[List.dropWhile_cons]
        cases hx:lett x with
        |true=>simp[legal,hx,←ih]
        |false=>simp
      have:legal c=true:=by simp[legal,hlt]
      rw[List.all_cons,this,Bool.true_and];exact e1 r
     rw[hall]
     have hlex:lexT (c::r)=(c::r.takeWhile lett)::lexT (r.dropWhile lett):=by
      rw[lexT,if_neg h32,if_pos hlt]
     rw[hlex]
     simpa using ih
    |false=>
     have e0:i+(List.takeWhile lett (c::r)).length=i:=by
      rw[List.takeWhile_cons,hlt];simp
     rw[e0] at hrun
     have s1:=bn c 124 124 rfl
     have s2:=bn c 38 38 rfl
     have s3:=bn c 33 33 rfl
     have s4:=bn c 40 40 rfl
     have s5:=bn c 41 41 rfl
     have s6:=bn c 61 61 rfl
     have hsym:s_l1Tokens.d3 (.s s) (.i i) (.i i) (.l out)=s_l1Tokens.d2 (.s s) (.i i) (.i i) (.b (!sym c)) (.l out):=by
      simp only[s_l1Tokens.d3,C.I_i,C.S_s,C.L_l,jY,arr_getD hi',hc,bne,s1,s2,s3,s4,s5,s6,sym]
      cases (c==124)<;>cases (c==38)<;>cases (c==33)<;>cases (c==40)<;>cases (c==41)<;>cases (c==61)<;>simp[his]
     have hd2:s_l1Tokens.d2 (.s s) (.i i) (.i i) (.b (!sym c)) (.l out)=if sym c=true then some (.brk 1 [.s s,.i (i+1:Nat),.l (out++[tk [c]])]) else some (.ret [.b false,.l out]):=by
      have hext:s.extract i (i+1)=mkS [c]:=by
       rw[ext_mkS,part_drop,hd];rfl
      have e2:(i:Int)≤((i+1:Nat):Int):=by omega
      have e3:((i+1:Nat):Int)≤(s.size:Int):=by rw[sz_list];omega
      have e4:out.length+1≤4294967296:=by omega
      cases hs:sym c with
      |false=>simp[s_l1Tokens.d2]
      |true=>
       simp only[s_l1Tokens.d2,C.I_i,C.S_s,C.L_l,C.B_b,hw,jY,hext,e2,e3,decide_true,jR,jS,jX,rows,List.length_cons,List.length_nil,jZ,if_true,tk]
       simp[e4]
     have h0:ap3 s_l1Tokens.d5 [.s s,.i i,.l out]=bindBlk 1 (if sym c=true then some (.brk 1 [.s s,.i (i+1:Nat),.l (out++[tk [c]])]) else some (.ret [.b false,.l out])) (ap3 s_l1Tokens.d4):=by
      rw[←hd2,←hsym]
      simp only[apL,jC,jD,s_l1Tokens.d5,C.I_i,C.S_s,C.L_l,jY,arr_getD hi',hc,hne,hrun,bindBlk_self]
      simp[his]
     cases hs:sym c with
     |false=>
      right
      rw[hs] at h0
      refine ⟨by simp[legal,hlt,hs,h32],out,lim_ret (by rw[h0];simp)⟩
     |true=>
      rw[hs] at h0
      have h:ap3 s_l1Tokens.d5 [.s s,.i i,.l out]=some (.again [.s s,.i (i+1:Nat),.l (out++[tk [c]])]):=by rw[h0];simp[s_l1Tokens.d4]
      rw[lim_again h]
      have ih:=toks s hl k (i+1) (out++[tk [c]]) (by omega) (by omega) (by simp;omega)
      rw[hr] at ih
      have hlex:lexT (c::r)=[c]::lexT r:=by rw[lexT,if_neg h32,if_neg (by rw[hlt];simp)]
      have hall:(c::r).all legal=r.all legal:=by simp[legal,hs]
      rw[hlex,hall]
      simpa using ih
theorem s_l1Tokens_eq (s:Str) (hl:s.size≤1048576):
  (s.data.toList.all legal=true∧s_l1Tokens [.s s]=some [.b true,.l ((lexT s.data.toList).map tk)])∨(s.data.toList.all legal=false∧∃o,s_l1Tokens [.s s]=some [.b false,.l o]):=by
 have h:=toks s hl _ 0 [] (Nat.le_refl _) (by omega) (by simp)
 simp only[List.drop_zero,jB,Int.ofNat_zero] at h
 simp only[s_l1Tokens,s_l1Tokens.d7,apL,jC,nils]
 rcases h with ⟨h1,h2⟩|⟨h1,o,h2⟩
 ·exact .inl ⟨h1,by rw[h2];simp[s_l1Tokens.d6]⟩
 ·exact .inr ⟨h1,o,by rw[h2];simp⟩
end Go.Ev
namespace Go.Ev
abbrev Tok:=List UInt8
inductive Tr where
 |lf (k:Nat) (n v:Tok)
 |un (t:Tr)
 |bn (k:Nat) (a b:Tr)
def node (k:Nat) (n v:Tok) (m:Nat):List C:=[.i (k:Nat),.s (mkS n),.s (mkS v),.i (m:Nat)]
def Tr.flat:Tr→List (List C)
 |.lf k n v=>[node k n v 0]
 |.un t=>t.flat++[node 3 [] [] 1]
 |.bn k a b=>a.flat++b.flat++[node k [] [] 2]
def opL (f:List Tok→Option (Tr×List Tok)) (op:Tok) (kd:Nat):Nat→Tr→List Tok→Option (Tr×List Tok)
 |0,t,r=>some (t,r)
 |m+1,t,r=>match r with
  |[]=>some (t,[])
  |x::r'=>if x=op then match f r' with
    |none=>none
    |some (t',r'')=>opL f op kd m (.bn kd t t') r''
   else some (t,x::r')
def prs:Nat→Nat→List Tok→Option (Tr×List Tok)
 |0,_,_=>none
 |k+1,c,l=>match c with
  |0=>match prs k 1 l with
   |none=>none
   |some (t,r)=>opL (prs k 1) [124] 5 r.length t r
  |1=>match prs k 2 l with
   |none=>none
   |some (t,r)=>opL (prs k 2) [38] 4 r.length t r
  |_=>match l with
   |[]=>none
   |x::r=>if x=[33] then match prs k 2 r with
     |none=>none
     |some (t,r')=>some (.un t,r')
    else if x=[40] then match prs k 0 r with
     |some (t,y::r')=>if y=[41] then some (t,r') else none
     |_=>none
    else if nameOk (mkS x)=true then match r with
     |y::r'=>if y=[61] then match r' with
       |v::r''=>if nameOk (mkS v)=true then some (.lf 2 x v,r'') else none
       |[]=>none
      else some (.lf 1 x [],r)
     |[]=>some (.lf 1 x [],[])
    else none
theorem bs_nil:bs #[]=mkS []:=rfl
theorem s_over2 (k n:Int) (x y:List (List C)) (h:x.length+y.length≤1048576):
  s_l1Over [.i k,.i n,.l [[.l x],[.l y]]]=some [.l [[.l x],[.l y]],.l (x++y++[[.i k,.s (mkS []),.s (mkS []),.i n]])]:=by
 have b1:x.length≤4294967296:=by omega
 have b2:x.length+y.length≤4294967296:=by omega
 have b3:x.length+y.length+1≤4294967296:=by omega
 have b4:x.length+(y.length+1)≤4294967296:=by omega
 have w0:w64 1=1:=w64_of (by omega) (by omega)
 have w1:w64 2=2:=w64_of (by omega) (by omega)
 have h0:ap5 s_l1Over.d1 [.i k,.i n,.i 0,.l [[.l x],[.l y]],.l []]=some (.again [.i k,.i n,.i 1,.l [[.l x],[.l y]],.l x]):=by
  simp[s_l1Over.d1,b1,w0]
 have h1:ap5 s_l1Over.d1 [.i k,.i n,.i 1,.l [[.l x],[.l y]],.l x]=some (.again [.i k,.i n,.i 2,.l [[.l x],[.l y]],.l (x++y)]):=by
  have e:(1:Int)<2:=by omega
  simp[s_l1Over.d1,b2,w1,e]
 have h2:ap5 s_l1Over.d1 [.i k,.i n,.i 2,.l [[.l x],[.l y]],.l (x++y)]=some (.brk 0 [.i k,.i n,.l [[.l x],[.l y]],.l (x++y)]):=by
  simp[s_l1Over.d1]
 simp only[s_l1Over,s_l1Over.d3,apL,jC,jD,C.L_l,nils]
 rw[lim_again h0,lim_again h1,lim_brk h2,bindBlk_self]
 simp[s_l1Over.d2,b3,b4,bs_nil]
theorem s_over1 (k n:Int) (x:List (List C)) (h:x.length≤1048576):
  s_l1Over [.i k,.i n,.l [[.l x]]]=some [.l [[.l x]],.l (x++[[.i k,.s (mkS []),.s (mkS []),.i n]])]:=by
 have b1:x.length≤4294967296:=by omega
 have b3:x.length+1≤4294967296:=by omega
 have w0:w64 1=1:=w64_of (by omega) (by omega)
 have h0:ap5 s_l1Over.d1 [.i k,.i n,.i 0,.l [[.l x]],.l []]=some (.again [.i k,.i n,.i 1,.l [[.l x]],.l x]):=by
  simp[s_l1Over.d1,b1,w0]
 have h2:ap5 s_l1Over.d1 [.i k,.i n,.i 1,.l [[.l x]],.l x]=some (.brk 0 [.i k,.i n,.l [[.l x]],.l x]):=by
  simp[s_l1Over.d1]
 simp only[s_l1Over,s_l1Over.d3,apL,jC,jD,C.L_l,nils]
 rw[lim_again h0,lim_brk h2,bindBlk_self]
 simp[s_l1Over.d2,b3,bs_nil]
section
variable {T:List Tok} (hl:T.length≤1048576)
include hl
theorem s_take_eq (op:Tok) (a:Nat) (bad:Bool) (ha:a≤T.length):s_l1Parser_take [.s (mkS op),.l (T.map tk),.i a,.b bad]=
  match T.drop a with
  |[]=>some [.b false,.l (T.map tk),.i a,.b bad]
  |x::_=>if x=op then some [.b true,.l (T.map tk),.i (a+1:Nat),.b bad] else some [.b false,.l (T.map tk),.i a,.b bad]:=by
 simp only[s_l1Parser_take,s_l1Parser_take.d1,s_l1Parser_is,s_l1Parser_is.d1,apL,jC,jD,C.isP_p,C.P_p,C.I_i,C.L_l,jW,jY,jR]
 cases hd:T.drop a with
 |nil=>
  have:T.length≤a:=by simpa using hd
  have e:a=T.length:=by omega
  subst e
  simp[call1]
 |cons x r=>
  obtain ⟨hi,hx,_⟩:=drop_cons hd
  have hw:=w1 hi (show T.length<big by simp only[big];omega)
  rw[getD_map' tk hi,hx]
  have hq:((mkS x).toList==(mkS op).toList)=(x==op):=sEq_mk x op
  simp only[tk,jC,C.S_s,hq,hw]
  by_cases he:x=op
  ·subst he;simp[hi,call1]
  ·have hb:(x==op)=false:=by rw[beq_eq_false_iff_ne];exact he
   simp[hi,call1,hb,he]
theorem s_name_eq (hs:∀t,t∈T→t.length≤1048576) (a:Nat) (bad:Bool) (ha:a≤T.length):s_l1Parser_name [.l (T.map tk),.i a,.b bad]=
  match T.drop a with
  |[]=>some [.s (mkS []),.l (T.map tk),.i a,.b true]
  |x::_=>if nameOk (mkS x)=true then some [.s (mkS x),.l (T.map tk),.i (a+1:Nat),.b bad] else some [.s (mkS []),.l (T.map tk),.i a,.b true]:=by
 simp only[s_l1Parser_name,s_l1Parser_name.d1,apL,jC,jD,C.I_i,C.L_l,jW,jY]
 cases hd:T.drop a with
 |nil=>
  have:T.length≤a:=by simpa using hd
  have e:a=T.length:=by omega
  subst e
  simp[bs_nil]
 |cons x r=>
  obtain ⟨hi,hx,_⟩:=drop_cons hd
  have hw:=w1 hi (show T.length<big by simp only[big];omega)
  have hw2:w64 (((a+1:Nat):Int)-1)=a:=by rw[w64_of (by omega) (by omega)];omega
  rw[getD_map' tk hi,hx]
  have hxs:(mkS x).size≤1048576:=by rw[mkS_size];exact hs x (by rw[←hx];exact List.getElem_mem hi)
  have hge:¬T.length≤a:=by omega
  simp only[tk,jC,s_l1NameOk_eq _ hxs,call1,jI,C.B_b,hw,hw2,jY,getD_map' tk hi,hx]
  cases hn:nameOk (mkS x)<;>simp[hi,hge,bs_nil]
end
def Res (T:List Tok) (a:Nat) (p:Option (Tr×List Tok)) (nodes:List (List C)) (a':Nat) (bad:Bool):Prop:=
 a≤a'∧a'≤T.length∧nodes.length≤2*(a'-a)+1∧match p with
  |some (t,r)=>bad=false∧nodes=t.flat∧T.drop a'=r∧a<a'
  |none=>bad=true
def SP (T:List Tok) (G:List C→Option (List C)) (f:List Tok→Option (Tr×List Tok)) (a:Nat):Prop:=
 ∃nodes a' bad,G [.l (T.map tk),.i a,.b false]=some [.l nodes,.l (T.map tk),.i (a':Nat),.b bad]∧Res T a (f (T.drop a)) nodes a' bad
end Go.Ev
namespace Go.Ev
section
variable {T:List Tok} (hl:T.length≤1048576/4) (hs:∀t,t∈T→t.length≤1048576)
include hl
theorem s_loop (G:List C→Option (List C)) (f:List Tok→Option (Tr×List Tok)) (op:Tok) (kd:Nat) (body:C→C→C→C→R) (lo:Nat)
  (hb:∀a b c d,body a b c d=(bif (!d.B) then (call4 (s_l1Parser_take [.s (mkS op),b,c,d]) fun e f g h=>(bif e.B then (call4 (G [f,g,h]) fun i j k l=>(call2 (s_l1Over [.i (kd:Nat),.i 2,.l (rows [[a],[i]])]) fun m n=>(some (.again [.l n.L,j,k,l])))) else (some (.brk 0 [a,f,g,h])))) else (some (.brk 0 [a,b,c,d]))))
  (hG:∀a,lo≤a→a≤T.length→SP T G f a):
  ∀(m a:Nat) (t:Tr),T.length-a≤m→lo≤a+1→a≤T.length→t.flat.length≤2*a+1→
   ∃nodes a' bad,lim (ap4 body) [.l t.flat,.l (T.map tk),.i a,.b false]=some (.brk 0 [.l nodes,.l (T.map tk),.i (a':Nat),.b bad])∧
    a≤a'∧a'≤T.length∧nodes.length≤2*(a'-a)+t.flat.length∧match opL f op kd m t (T.drop a) with
     |some (u,r)=>bad=false∧nodes=u.flat∧T.drop a'=r
     |none=>bad=true
 |0,a,t,hm,hlo,ha,ht=>by
  have hd:T.drop a=[]:=List.drop_eq_nil_of_le (by omega)
  refine ⟨t.flat,a,false,lim_brk ?_,Nat.le_refl _,ha,by omega,?_⟩
  ·simp only[apL,jC,jD,hb,C.B_b,ja,jR]
   rw[s_take_eq (by omega) op a false ha,hd]
   simp[call4]
  ·simp[opL]
 |m+1,a,t,hm,hlo,ha,ht=>by
  have hstep:ap4 body [.l t.flat,.l (T.map tk),.i a,.b false]=(call4 (s_l1Parser_take [.s (mkS op),.l (T.map tk),.i a,.b false]) fun e f g h=>(bif e.B then (call4 (G [f,g,h]) fun i j k l=>(call2 (s_l1Over [.i (kd:Nat),.i 2,.l (rows [[.l t.flat],[i]])]) fun m n=>(some (.again [.l n.L,j,k,l])))) else (some (.brk 0 [.l t.flat,f,g,h])))):=by
   simp only[apL,jC,jD,hb,C.B_b,ja,jR]
  rw[s_take_eq (by omega) op a false ha] at hstep
  cases hd:T.drop a with
  |nil=>
   rw[hd] at hstep
   refine ⟨t.flat,a,false,lim_brk ?_,Nat.le_refl _,ha,by omega,?_⟩
   ·rw[hstep];simp[call4]
   ·simp[opL,hd]
  |cons x r=>
   rw[hd] at hstep
   obtain ⟨hi,hx,hr⟩:=drop_cons hd
   by_cases he:x=op
   ·simp only[if_pos he,call4,jI,jC,jD,C.B_b,jR] at hstep
    obtain ⟨nodes,a',bad,hg,h1,h2,h3,h4⟩:=hG (a+1) (by omega) (by omega)
    rw[hr] at h4
    rw[hg] at hstep
    have hsum:t.flat.length+nodes.length≤1048576:=by omega
    simp only[jI,jC,jD,rows,s_over2 (kd:Nat) 2 t.flat nodes hsum,call2,C.L_l] at hstep
    have hnd:t.flat++nodes++[[C.i (kd:Nat),.s (mkS []),.s (mkS []),.i 2]]=t.flat++nodes++[node kd [] [] 2]:=rfl
    rw[hnd] at hstep
    cases hf:f r with
    |none=>
     rw[hf] at h4
     simp only at h4
     subst h4
     have hend:ap4 body [.l (t.flat++nodes++[node kd [] [] 2]),.l (T.map tk),.i (a':Nat),.b true]=some (.brk 0 [.l (t.flat++nodes++[node kd [] [] 2]),.l (T.map tk),.i (a':Nat),.b true]):=by
      simp[hb]
     refine ⟨_,a',true,by rw[lim_again hstep];exact lim_brk hend,by omega,h2,by simp;omega,?_⟩
     simp[opL,hd,he,hf]
    |some p=>
     obtain ⟨u,r'⟩:=p
     rw[hf] at h4
     obtain ⟨rfl,rfl,h5,h6⟩:=h4
     have e:t.flat++u.flat++[node kd [] [] 2]=(Tr.bn kd t u).flat:=rfl
     rw[e] at hstep
     have hlen:(Tr.bn kd t u).flat.length=t.flat.length+u.flat.length+1:=by simp[Tr.flat];omega
     obtain ⟨nodes2,a2,bad2,q1,q2,q3,q4,q5⟩:=s_loop G f op kd body lo hb hG m a' (.bn kd t u) (by omega) (by omega) h2 (by omega)
     refine ⟨nodes2,a2,bad2,by rw[lim_again hstep];exact q1,by omega,q3,by omega,?_⟩
     simp only[opL,hd,if_pos he,hf]
     rw[h5] at q5
     exact q5
   ·simp only[if_neg he,call4,jI,jC,jD,C.B_b,jS] at hstep
    refine ⟨t.flat,a,false,lim_brk hstep,Nat.le_refl _,ha,by omega,?_⟩
    simp[opL,hd,he]
end
end Go.Ev
namespace Go.Ev
section
variable {T:List Tok} (hl:T.length≤1048576/4) (hs:∀t,t∈T→t.length≤1048576)
include hl hs
theorem s_ops (G:List C→Option (List C)) (f:List Tok→Option (Tr×List Tok)) (op:Tok) (kd:Nat) (body:C→C→C→C→R) (d2:C→C→C→C→R) (a:Nat) (ha:a≤T.length)
  (hb:∀a b c d,body a b c d=(bif (!d.B) then (call4 (s_l1Parser_take [.s (mkS op),b,c,d]) fun e f g h=>(bif e.B then (call4 (G [f,g,h]) fun i j k l=>(call2 (s_l1Over [.i (kd:Nat),.i 2,.l (rows [[a],[i]])]) fun m n=>(some (.again [.l n.L,j,k,l])))) else (some (.brk 0 [a,f,g,h])))) else (some (.brk 0 [a,b,c,d]))))
  (h2:∀a b c d,d2 a b c d=some (.ret [a,b,c,d])) (hG:∀b,a≤b→b≤T.length→SP T G f b):
  ∃nodes a' bad,finR (call4 (G [.l (T.map tk),.i a,.b false]) fun d e f g=>(bindBlk 0 (lim (ap4 body) [d,e,f,g]) (ap4 d2)))=some [.l nodes,.l (T.map tk),.i (a':Nat),.b bad]∧
   Res T a (match f (T.drop a) with
   |none=>none
   |some (t,r)=>opL f op kd r.length t r) nodes a' bad:=by
 obtain ⟨nodes,a',bad,hg,q1,q2,q3,q4⟩:=hG a (Nat.le_refl _) ha
 rw[hg]
 simp only[call4,jI,jC,jD]
 cases hf:f (T.drop a) with
 |none=>
  rw[hf] at q4
  simp only at q4
  subst q4
  refine ⟨nodes,a',true,?_,q1,q2,q3,rfl⟩
  rw[lim_brk (ys:=[.l nodes,.l (T.map tk),.i (a':Nat),.b true]) (i:=0) (by simp[hb])]
  simp[h2]
 |some p=>
  obtain ⟨t,r⟩:=p
  rw[hf] at q4
  obtain ⟨rfl,rfl,q5,q6⟩:=q4
  have hrl:r.length=T.length-a':=by rw[←q5];simp
  obtain ⟨n2,a2,b2,p1,p2,p3,p4,p5⟩:=s_loop hl G f op kd body a hb (fun b h1 h2=>hG b h1 h2) r.length a' t (by omega) (by omega) q2 (by omega)
  rw[p1]
  rw[q5] at p5
  have hres:Res T a (opL f op kd r.length t r) n2 a2 b2:=by
   refine ⟨by omega,p3,by omega,?_⟩
   cases ho:opL f op kd r.length t r with
   |none=>rw[ho] at p5;exact p5
   |some z=>
    obtain ⟨u,z⟩:=z
    rw[ho] at p5
    exact ⟨p5.1,p5.2.1,p5.2.2,by omega⟩
  exact ⟨n2,a2,b2,by simp[h2],hres⟩
theorem s_prs:∀(j c k a:Nat),c≤2→a≤T.length→3*(T.length-a)+(3-c)≤j→j≤k→SP T (s_l1Parser_or.g k c) (prs j c) a
 |0,c,k,a,hc,ha,hj,hk=>by omega
 |j+1,c,k,a,hc,ha,hj,hk=>by
  obtain ⟨k,rfl⟩:∃k',k=k'+1:=⟨k-1,by omega⟩
  have ih:=s_prs j
  rcases (show c=0∨c=1∨c=2 by omega) with rfl|rfl|rfl
  ·obtain ⟨nodes,a',bad,h1,h2⟩:=s_ops hl hs (s_l1Parser_or.g k 1) (prs j 1) [124] 5 (s_l1Parser_or.d1 (s_l1Parser_or.g k 0) (s_l1Parser_or.g k 1) (s_l1Parser_or.g k 2)) (s_l1Parser_or.d2 (s_l1Parser_or.g k 0) (s_l1Parser_or.g k 1) (s_l1Parser_or.g k 2)) a ha
    (fun _ _ _ _=>rfl) (fun _ _ _ _=>rfl) (fun b h1 h2=>ih 1 k b (by omega) h2 (by omega) (by omega))
   exact ⟨nodes,a',bad,h1,h2⟩
  ·obtain ⟨nodes,a',bad,h1,h2⟩:=s_ops hl hs (s_l1Parser_or.g k 2) (prs j 2) [38] 4 (s_l1Parser_and.d1 (s_l1Parser_or.g k 0) (s_l1Parser_or.g k 1) (s_l1Parser_or.g k 2)) (s_l1Parser_and.d2 (s_l1Parser_or.g k 0) (s_l1Parser_or.g k 1) (s_l1Parser_or.g k 2)) a ha
    (fun _ _ _ _=>rfl) (fun _ _ _ _=>rfl) (fun b h1 h2=>ih 2 k b (by omega) h2 (by omega) (by omega))
   exact ⟨nodes,a',bad,h1,h2⟩
  ·have hT:T.length≤1048576:=by omega
   have hstep:s_l1Parser_or.g (k+1) 2 [.l (T.map tk),.i a,.b false]=finR (s_l1Parser_not.d1 (s_l1Parser_or.g k 0) (s_l1Parser_or.g k 1) (s_l1Parser_or.g k 2) (.l (T.map tk)) (.i a) (.b false)):=rfl
   unfold SP
   rw[hstep]
   have e33:bs #[33]=mkS [33]:=rfl
   have e40:bs #[40]=mkS [40]:=rfl
   have e41:bs #[41]=mkS [41]:=rfl
   have e61:bs #[61]=mkS [61]:=rfl
   simp only[s_l1Parser_not.d1,C.B_b,jS,e33,e40,e41,e61,s_take_eq hT [33] a false ha]
   cases hd:T.drop a with
   |nil=>
    simp only[call4,jI,jC,jD,C.B_b,jS,s_take_eq hT [40] a false ha,s_name_eq hT hs a false ha,hd]
    simp only[jZ,jS,rows,bs_nil,jV]
    exact ⟨_,a,true,rfl,Nat.le_refl _,ha,by simp,by simp[prs]⟩
   |cons x r=>
    obtain ⟨hi,hx,hr⟩:=drop_cons hd
    have hsx:=hs x (by rw[←hx];exact List.getElem_mem hi)
    by_cases x33:x=[33]
    ·obtain ⟨nodes,a',bad,hg,q1,q2,q3,q4⟩:=ih 2 k (a+1) (by omega) (by omega) (by omega) (by omega)
     rw[hr] at q4
     simp only[if_pos x33,call4,jI,jC,jD,C.B_b,jR,hg,rows,call2]
     rw[show (3:Int)=((3:Nat):Int) from rfl,s_over1 _ _ nodes (by omega)]
     simp only[jI,jC,jD,C.L_l,jV]
     have hnd:nodes++[[C.i ((3:Nat):Int),.s (mkS []),.s (mkS []),.i 1]]=nodes++[node 3 [] [] 1]:=rfl
     rw[hnd]
     refine ⟨_,a',bad,rfl,by omega,q2,by simp;omega,?_⟩
     simp only[prs,x33,if_true]
     cases hf:prs j 2 r with
     |none=>rw[hf] at q4;exact q4
     |some p=>
      rw[hf] at q4
      obtain ⟨rfl,rfl,q5,q6⟩:=q4
      exact ⟨rfl,rfl,q5,by omega⟩
    simp only[if_neg x33,call4,jI,jC,jD,C.B_b,jS,s_take_eq hT [40] a false ha,hd]
    by_cases x40:x=[40]
    ·obtain ⟨nodes,a',bad,hg,q1,q2,q3,q4⟩:=ih 0 k (a+1) (by omega) (by omega) (by omega) (by omega)
     rw[hr] at q4
     simp only[if_pos x40,jI,jC,jD,C.B_b,jR,hg,s_take_eq hT [41] a' bad q2]
     have hp:prs (j+1) 2 (x::r)=match prs j 0 r with
       |some (t,y::r')=>if y=[41] then some (t,r') else none
       |_=>none:=by
      simp only[prs,if_neg x33,if_pos x40]<;>rcases prs j 0 r with _|⟨t,_|⟨y,r'⟩⟩<;>rfl
     rw[hp]
     cases hd2:T.drop a' with
     |nil=>
      simp only[jI,jC,jD,C.B_b,ja,jR,jV]
      refine ⟨_,a',true,rfl,by omega,q2,by omega,?_⟩
      cases hf:prs j 0 r with
      |none=>rfl
      |some p=>
       rw[hf] at q4
       obtain ⟨_,_,q5,_⟩:=q4
       obtain ⟨t,r'⟩:=p
       simp only at q5
       rw[hd2] at q5
       subst q5
       rfl
     |cons y r'=>
      obtain ⟨hi2,hx2,hr2⟩:=drop_cons hd2
      by_cases y41:y=[41]
      ·simp only[if_pos y41,jI,jC,jD,C.B_b,jZ,jS,jV]
       refine ⟨_,a'+1,bad,rfl,by omega,by omega,by omega,?_⟩
       cases hf:prs j 0 r with
       |none=>rw[hf] at q4;exact q4
       |some p=>
        rw[hf] at q4
        obtain ⟨q5,q6,q7,_⟩:=q4
        obtain ⟨t,z⟩:=p
        simp only at q7 q6
        rw[hd2] at q7
        subst q7
        simp only[if_pos y41]
        exact ⟨q5,q6,hr2,by omega⟩
      ·simp only[if_neg y41,jI,jC,jD,C.B_b,ja,jR,jV]
       refine ⟨_,a',true,rfl,by omega,q2,by omega,?_⟩
       cases hf:prs j 0 r with
       |none=>rfl
       |some p=>
        rw[hf] at q4
        obtain ⟨_,_,q7,_⟩:=q4
        obtain ⟨t,z⟩:=p
        simp only at q7
        rw[hd2] at q7
        subst q7
        simp only[if_neg y41]
    simp only[if_neg x40,jI,jC,jD,C.B_b,jS,s_name_eq hT hs a false ha,hd]
    cases hn:nameOk (mkS x) with
    |false=>
     simp only[Bool.false_eq_true,if_false,jI,jC,jD,C.B_b,jZ,jS,rows,jV]
     refine ⟨_,a,true,rfl,Nat.le_refl _,ha,by simp,?_⟩
     simp[prs,x33,x40,hn]
    |true=>
     simp only[if_true,jI,jC,jD,C.B_b,ja,jR,s_take_eq hT [61] (a+1) false (by omega),hr]
     cases r with
     |nil=>
      simp only[jI,jC,jD,C.B_b,jS,rows,bs_nil,jV]
      refine ⟨_,a+1,false,rfl,by omega,by omega,by simp,?_⟩
      simp only[prs,if_neg x33,if_neg x40,hn,if_true]
      exact ⟨by simp,rfl,hr,by omega⟩
     |cons y r'=>
      obtain ⟨hi2,hx2,hr2⟩:=drop_cons hr
      by_cases y61:y=[61]
      ·simp only[if_pos y61,jI,jC,jD,C.B_b,jR,s_name_eq hT hs (a+1+1) false (by omega),hr2]
       cases r' with
       |nil=>
        simp only[jI,jC,jD,rows,jV]
        refine ⟨_,a+1+1,true,rfl,by omega,by omega,by simp,?_⟩
        simp[prs,x33,x40,hn,y61]
       |cons v r''=>
        obtain ⟨hi3,hx3,hr3⟩:=drop_cons hr2
        cases hv:nameOk (mkS v) with
        |false=>
         simp only[hv,Bool.false_eq_true,if_false,jI,jC,jD,rows,jV]
         refine ⟨_,a+1+1,true,rfl,by omega,by omega,by simp,?_⟩
         simp[prs,x33,x40,hn,y61,hv]
        |true=>
         simp only[hv,if_true,jI,jC,jD,rows,jV]
         refine ⟨_,a+1+1+1,false,rfl,by omega,by omega,by simp,?_⟩
         simp only[prs,if_neg x33,if_neg x40,hn,if_true,y61,hv]
         exact ⟨by simp,rfl,hr3,by omega⟩
      ·simp only[if_neg y61,jI,jC,jD,C.B_b,jS,rows,bs_nil,jV]
       refine ⟨_,a+1,false,rfl,by omega,by omega,by simp,?_⟩
       simp only[prs,if_neg x33,if_neg x40,hn,if_true,if_neg y61]
       exact ⟨by simp,rfl,hr,by omega⟩
end
end Go.Ev
namespace Go.Ev
def sp (c:UInt8):Bool:=c==32
theorem lexT_gap:∀l:List UInt8,lexT (l.dropWhile sp)=lexT l
 |[]=>rfl
 |c::r=>by
  rw[List.dropWhile_cons]
  by_cases h:c=32
  ·subst h
   have:sp 32=true:=rfl
   rw[if_pos this,lexT_gap r]
   rw[lexT.eq_2,if_pos rfl]
  ·have:sp c=false:=by simp[sp,h]
   rw[this];simp
theorem gap_head {l r:List UInt8} {c:UInt8} (h:l.dropWhile sp=c::r):c≠32:=by
 have:=List.head?_dropWhile_not sp l
 rw[h] at this
 simp[sp] at this
 exact this
section
variable {s:Str} (hl:s.size≤1048576)
include hl
theorem i_gap_eq:∀(k i:Nat) (ok:Bool),s.data.toList.length-i≤k→i≤s.data.toList.length→
  lim (ap3 i_pParser_gap.d1) [.s s,.i i,.b ok]=some (.brk 0 [.s s,.i (i+((s.data.toList.drop i).takeWhile sp).length:Nat),.b ok])
 |k,i,ok,hk,hi=>by
  cases hd:s.data.toList.drop i with
  |nil=>
   have:s.data.toList.length≤i:=by simpa using hd
   have e:i=s.size:=by rw[sz_list];omega
   refine lim_brk ?_
   simp[i_pParser_gap.d1,e]
  |cons c r=>
   obtain ⟨hi',hc,hr⟩:=drop_cons hd
   have his:i<s.size:=by rw[sz_list];exact hi'
   obtain ⟨k,rfl⟩:∃k',k=k'+1:=⟨k-1,by omega⟩
   have hw:=w1 his (show s.size<big by simp only[big];omega)
   have e32:=bn c 32 32 rfl
   rw[List.takeWhile_cons]
   cases hs:sp c with
   |true=>
    have h:ap3 i_pParser_gap.d1 [.s s,.i i,.b ok]=some (.again [.s s,.i (i+1:Nat),.b ok]):=by
     simp only[sp] at hs
     simp only[apL,jC,jD,i_pParser_gap.d1,C.I_i,C.S_s,jY,arr_getD hi',hc,e32,hs,hw]
     simp[his]
    rw[lim_again h,i_gap_eq k (i+1) ok (by omega) (by omega),hr]
    simp only[if_true,List.length_cons]
    rw[show i+1+(List.takeWhile sp r).length=i+((List.takeWhile sp r).length+1) by omega]
   |false=>
    refine lim_brk ?_
    simp only[sp] at hs
    simp only[apL,jC,jD,i_pParser_gap.d1,C.I_i,C.S_s,jY,arr_getD hi',hc,e32,hs]
    simp[his]
def gp (s:Str) (i:Nat):Nat:=i+((s.data.toList.drop i).takeWhile sp).length
omit hl in
theorem gp_drop (i:Nat):s.data.toList.drop (gp s i)=(s.data.toList.drop i).dropWhile sp:=by
 rw[gp,←List.drop_drop,drop_run]
omit hl in
theorem gp_le {i:Nat} (hi:i≤s.data.toList.length):gp s i≤s.data.toList.length:=by
 have:=run_len sp (s.data.toList.drop i)
 rw[List.length_drop] at this
 unfold gp;omega
theorem i_gap (i:Nat) (ok:Bool) (hi:i≤s.data.toList.length):i_pParser_gap [.s s,.i i,.b ok]=some [.s s,.i (gp s i:Nat),.b ok]:=by
 simp only[i_pParser_gap,i_pParser_gap.d3,apL,jC,jD,i_gap_eq hl _ i ok (Nat.le_refl _) hi]
 simp[i_pParser_gap.d2,gp]
theorem i_take (c:UInt8) (hc:lett c=false) (hc2:c≠32) (i:Nat) (ok:Bool) (hi:i≤s.data.toList.length):∃i',i'≤s.data.toList.length∧∃b,i_pParser_take [.i (c.toNat:Nat),.s s,.i i,.b ok]=some [.b b,.s s,.i (i':Nat),.b ok]∧
  match lexT (s.data.toList.drop i) with
  |[]=>b=false∧lexT (s.data.toList.drop i')=[]
  |x::r=>if x=[c] then b=true∧lexT (s.data.toList.drop i')=r else b=false∧lexT (s.data.toList.drop i')=x::r:=by
 have hg:=gp_drop (s:=s) i
 have hle:=gp_le hi
 have hlex:=lexT_gap (s.data.toList.drop i)
 simp only[i_pParser_take,i_pParser_take.d1,apL,jC,jD,i_gap hl i ok hi,call3,jI,C.I_i,C.S_s,jY]
 rw[←hlex]
 cases hd:(s.data.toList.drop i).dropWhile sp with
 |nil=>
  rw[hd] at hg
  have:s.data.toList.length≤gp s i:=by simpa using hg
  have e:gp s i=s.size:=by rw[sz_list];omega
  refine ⟨gp s i,hle,false,by simp[e],?_⟩
  rw[hg]
  simp[lexT]
 |cons x r=>
  rw[hd] at hg
  obtain ⟨hi',hx,hr⟩:=drop_cons hg
  have his:gp s i<s.size:=by rw[sz_list];exact hi'
  have hw:=w1 his (show s.size<big by simp only[big];omega)
  have hne:=gap_head hd
  simp only[arr_getD hi',hx,bn x c _ rfl,hw]
  by_cases he:x=c
  ·subst he
   refine ⟨gp s i+1,by omega,true,by simp[his],?_⟩
   rw[lexT.eq_2,if_neg hne,if_neg (by rw[hc];simp),hr]
   simp
  ·have hb:(x==c)=false:=by rw[beq_eq_false_iff_ne];exact he
   refine ⟨gp s i,hle,false,by simp[his,hb],?_⟩
   rw[hg]
   have hneq:∀y r',lexT (x::r)=y::r'→y≠[c]:=by
    intro y r' h1 h2
    subst h2
    rw[lexT.eq_2,if_neg hne] at h1
    split at h1
    ·simp at h1;exact he h1.1.1
    ·simp at h1;exact he h1.1
   have hnn:lexT (x::r)≠[]:=by
    rw[lexT.eq_2,if_neg hne];split<;>simp
   cases hq:lexT (x::r) with
   |nil=>exact absurd hq hnn
   |cons y r'=>
    simp only
    rw[if_neg (hneq y r' hq)]
    exact ⟨trivial,trivial⟩
theorem i_run (o:Nat) (ok:Bool):∀(k i:Nat),s.data.toList.length-i≤k→i≤s.data.toList.length→
  lim (ap4 i_pParser_name.d1) [.i o,.s s,.i i,.b ok]=some (.brk 0 [.i o,.s s,.i (i+((s.data.toList.drop i).takeWhile lett).length:Nat),.b ok])
 |k,i,hk,hi=>by
  cases hd:s.data.toList.drop i with
  |nil=>
   have:s.data.toList.length≤i:=by simpa using hd
   have e:i=s.size:=by rw[sz_list];omega
   refine lim_brk ?_
   simp[i_pParser_name.d1,e]
  |cons c r=>
   obtain ⟨hi',hc,hr⟩:=drop_cons hd
   have his:i<s.size:=by rw[sz_list];exact hi'
   obtain ⟨k,rfl⟩:∃k',k=k'+1:=⟨k-1,by omega⟩
   have hw:=w1 his (show s.size<big by simp only[big];omega)
   rw[List.takeWhile_cons]
   cases hs:lett c with
   |true=>
    have h:ap4 i_pParser_name.d1 [.i o,.s s,.i i,.b ok]=some (.again [.i o,.s s,.i (i+1:Nat),.b ok]):=by
     simp only[lett] at hs
     simp only[apL,jC,jD,i_pParser_name.d1,C.I_i,C.S_s,jY,arr_getD hi',hc,i_pByte_eq,hs,hw,call1]
     simp[his]
    rw[lim_again h,i_run o ok k (i+1) (by omega) (by omega),hr]
    simp only[if_true,List.length_cons]
    rw[show i+1+(List.takeWhile lett r).length=i+((List.takeWhile lett r).length+1) by omega]
   |false=>
    refine lim_brk ?_
    simp only[lett] at hs
    simp only[apL,jC,jD,i_pParser_name.d1,C.I_i,C.S_s,jY,arr_getD hi',hc,i_pByte_eq,hs,call1]
    simp[his]
theorem i_name (i:Nat) (ok:Bool) (hi:i≤s.data.toList.length):∃i',i'≤s.data.toList.length∧∃z b,i_pParser_name [.s s,.i i,.b ok]=some [.s z,.s s,.i (i':Nat),.b b]∧
  match lexT (s.data.toList.drop i) with
  |[]=>b=false
  |x::r=>if nameOk (mkS x)=true then b=ok∧z=mkS x∧lexT (s.data.toList.drop i')=r else b=false:=by
 have hg:=gp_drop (s:=s) i
 have hle:=gp_le hi
 have hlex:=lexT_gap (s.data.toList.drop i)
 have hrun:=i_run hl (gp s i) ok _ (gp s i) (Nat.le_refl _) hle
 rw[hg] at hrun
 have hlen:=run_len lett ((s.data.toList.drop i).dropWhile sp)
 rw[←hg,List.length_drop] at hlen
 rw[hg] at hlen
 have hext:s.extract (gp s i) (gp s i+(((s.data.toList.drop i).dropWhile sp).takeWhile lett).length)=mkS (((s.data.toList.drop i).dropWhile sp).takeWhile lett):=by
  rw[ext_mkS,part_drop,hg,take_run]
 have hsz:(mkS (((s.data.toList.drop i).dropWhile sp).takeWhile lett)).size≤1048576:=by
  rw[mkS_size];rw[sz_list] at hl;omega
 have hres:i_pParser_name [.s s,.i i,.b ok]=some [.s (mkS (((s.data.toList.drop i).dropWhile sp).takeWhile lett)),.s s,.i (gp s i+(((s.data.toList.drop i).dropWhile sp).takeWhile lett).length:Nat),.b (nameOk (mkS (((s.data.toList.drop i).dropWhile sp).takeWhile lett))&&ok)]:=by
  have e1:gp s i+(((s.data.toList.drop i).dropWhile sp).takeWhile lett).length≤s.size:=by rw[sz_list];omega
  have e2:(gp s i:Int)≤((gp s i+(((s.data.toList.drop i).dropWhile sp).takeWhile lett).length:Nat):Int):=by omega
  have e3:((gp s i+(((s.data.toList.drop i).dropWhile sp).takeWhile lett).length:Nat):Int)≤(s.size:Int):=by omega
  simp only[i_pParser_name,i_pParser_name.d3,apL,jC,jD,i_gap hl i ok hi,call3,jI,hrun,bindBlk_self]
  simp only[i_pParser_name.d2,C.I_i,C.S_s,jY,hext,jX,e2,e3,decide_true,jR,i_pName_eq _ hsz,call1,jI,jC,C.B_b]
  cases nameOk (mkS (((s.data.toList.drop i).dropWhile sp).takeWhile lett))<;>rfl
 refine ⟨_,by omega,_,_,hres,?_⟩
 rw[←hlex,←List.drop_drop,hg,drop_run]
 have hnil:nameOk (mkS [])=false:=rfl
 cases hd:(s.data.toList.drop i).dropWhile sp with
 |nil=>simp[lexT,hnil]
 |cons x r=>
  have hne:=gap_head hd
  rw[lexT.eq_2,if_neg hne]
  cases hs:lett x with
  |true=>
   rw[if_pos rfl,List.takeWhile_cons,hs,List.dropWhile_cons,hs]
   simp only[if_true]
   cases nameOk (mkS (x::List.takeWhile lett r))<;>simp
  |false=>
   rw[if_neg (by simp),List.takeWhile_cons,hs]
   have h1:nameOk (mkS [x])=false:=by simp[nameOk,mkS_data,hs]
   simp[h1,hnil]
end
end Go.Ev
namespace Go.Ev
def Tr.enc:Tr→C
 |.lf k n v=>.p [.i (k:Nat),.s (mkS n),.s (mkS v),.l []]
 |.un t=>.p [.i 3,.s (mkS []),.s (mkS []),.l [[t.enc]]]
 |.bn k a b=>.p [.i (k:Nat),.s (mkS []),.s (mkS []),.l [[a.enc],[b.enc]]]
def IRes (s:Str) (n:Nat) (p:Option (Tr×List Tok)) (c:C) (i':Nat) (ok:Bool):Prop:=
 i'≤s.data.toList.length∧match p with
  |some (t,r)=>ok=true∧c=t.enc∧lexT (s.data.toList.drop i')=r∧r.length<n
  |none=>ok=false
def IP (s:Str) (G:List C→Option (List C)) (f:List Tok→Option (Tr×List Tok)) (i:Nat):Prop:=
 ∃c i' ok,G [.s s,.i i,.b true]=some [c,.s s,.i (i':Nat),.b ok]∧IRes s (lexT (s.data.toList.drop i)).length (f (lexT (s.data.toList.drop i))) c i' ok
section
variable {s:Str} (hl:s.size≤1048576)
include hl
theorem i_loop (G:List C→Option (List C)) (f:List Tok→Option (Tr×List Tok)) (op:UInt8) (kd:Nat) (body:C→C→C→C→R) (lo:Nat) (h1:lett op=false) (h2:op≠32)
  (hb:∀a b c d,body a b c d=(bif d.B then (call4 (i_pParser_take [.i (op.toNat:Nat),b,c,d]) fun e f g h=>(bif e.B then (call4 (G [f,g,h]) fun i j k l=>(some (.again [.p [.i (kd:Nat),.s (bs #[]),.s (bs #[]),.l (rows [[a],[i]])],j,k,l]))) else (some (.brk 0 [a,f,g,h])))) else (some (.brk 0 [a,b,c,d]))))
  (hG:∀i,i≤s.data.toList.length→(lexT (s.data.toList.drop i)).length≤lo→IP s G f i):
  ∀(m i:Nat) (t:Tr),(lexT (s.data.toList.drop i)).length≤m→(lexT (s.data.toList.drop i)).length≤lo+1→i≤s.data.toList.length→
   ∃c i' ok,lim (ap4 body) [t.enc,.s s,.i i,.b true]=some (.brk 0 [c,.s s,.i (i':Nat),.b ok])∧i'≤s.data.toList.length∧
    match opL f [op] kd m t (lexT (s.data.toList.drop i)) with
     |some (u,r)=>ok=true∧c=u.enc∧lexT (s.data.toList.drop i')=r∧r.length≤(lexT (s.data.toList.drop i)).length
     |none=>ok=false
 |m,i,t,hm,hlo,hi=>by
  obtain ⟨i',hi',b,ht,hm2⟩:=i_take hl op h1 h2 i true hi
  have hstep:ap4 body [t.enc,.s s,.i i,.b true]=(bif b then (call4 (G [.s s,.i (i':Nat),.b true]) fun i j k l=>(some (.again [.p [.i (kd:Nat),.s (mkS []),.s (mkS []),.l [[t.enc],[i]]],j,k,l]))) else (some (.brk 0 [t.enc,.s s,.i (i':Nat),.b true]))):=by
   simp only[apL,jC,jD,hb,C.B_b,jR,ht,call4,jI,bs_nil,rows]
  cases hd:lexT (s.data.toList.drop i) with
  |nil=>
   rw[hd] at hm2
   simp only at hm2
   obtain ⟨rfl,hm3⟩:=hm2
   refine ⟨t.enc,i',true,lim_brk hstep,hi',?_⟩
   cases m<;>simp[opL,hm3]
  |cons x r=>
   rw[hd] at hm2 hm hlo
   simp only[List.length_cons] at hm hlo
   obtain ⟨m,rfl⟩:∃m',m=m'+1:=⟨m-1,by omega⟩
   by_cases he:x=[op]
   ·simp only[if_pos he] at hm2
    obtain ⟨rfl,hm3⟩:=hm2
    obtain ⟨c,i2,ok,hg,q1,q2⟩:=hG i' hi' (by rw[hm3];omega)
    rw[hm3] at q2
    simp only[jR,hg,call4,jI,jC,jD] at hstep
    rw[lim_again hstep]
    simp only[opL,if_pos he]
    cases hf:f r with
    |none=>
     rw[hf] at q2
     simp only at q2
     subst q2
     exact ⟨.p [.i (kd:Nat),.s (mkS []),.s (mkS []),.l [[t.enc],[c]]],i2,false,lim_brk (by simp only[apL,jC,jD,hb,C.B_b,jS]),q1,rfl⟩
    |some p=>
     obtain ⟨u,r'⟩:=p
     rw[hf] at q2
     obtain ⟨rfl,rfl,q3,q4⟩:=q2
     obtain ⟨c3,i3,ok3,p1,p2,p3⟩:=i_loop G f op kd body lo h1 h2 hb hG m i2 (.bn kd t u) (by rw[q3];omega) (by rw[q3];omega) q1
     refine ⟨c3,i3,ok3,p1,p2,?_⟩
     rw[q3] at p3
     simp only
     cases ho:opL f [op] kd m (.bn kd t u) r' with
     |none=>rw[ho] at p3;exact p3
     |some z=>
      rw[ho] at p3
      exact ⟨p3.1,p3.2.1,p3.2.2.1,by simp only[List.length_cons];have:=p3.2.2.2;omega⟩
   ·simp only[if_neg he] at hm2
    obtain ⟨rfl,hm3⟩:=hm2
    refine ⟨t.enc,i',true,lim_brk hstep,hi',?_⟩
    simp[opL,he,hm3]
theorem i_ops (G:List C→Option (List C)) (f:List Tok→Option (Tr×List Tok)) (op:UInt8) (kd:Nat) (body:C→C→C→C→R) (d2:C→C→C→C→R) (i:Nat) (hi:i≤s.data.toList.length) (h1:lett op=false) (h2:op≠32)
  (hb:∀a b c d,body a b c d=(bif d.B then (call4 (i_pParser_take [.i (op.toNat:Nat),b,c,d]) fun e f g h=>(bif e.B then (call4 (G [f,g,h]) fun i j k l=>(some (.again [.p [.i (kd:Nat),.s (bs #[]),.s (bs #[]),.l (rows [[a],[i]])],j,k,l]))) else (some (.brk 0 [a,f,g,h])))) else (some (.brk 0 [a,b,c,d]))))
  (h3:∀a b c d,d2 a b c d=some (.ret [a,b,c,d])) (hG:∀i2,i2≤s.data.toList.length→(lexT (s.data.toList.drop i2)).length≤(lexT (s.data.toList.drop i)).length→IP s G f i2):
  ∃c i' ok,finR (call4 (G [.s s,.i i,.b true]) fun d e f g=>(bindBlk 0 (lim (ap4 body) [d,e,f,g]) (ap4 d2)))=some [c,.s s,.i (i':Nat),.b ok]∧
   IRes s (lexT (s.data.toList.drop i)).length (match f (lexT (s.data.toList.drop i)) with
   |none=>none
   |some (t,r)=>opL f [op] kd r.length t r) c i' ok:=by
 obtain ⟨c,i',ok,hg,q1,q2⟩:=hG i hi (Nat.le_refl _)
 rw[hg]
 simp only[call4,jI,jC,jD]
 cases hf:f (lexT (s.data.toList.drop i)) with
 |none=>
  rw[hf] at q2
  simp only at q2
  subst q2
  refine ⟨c,i',false,?_,q1,rfl⟩
  rw[lim_brk (ys:=[c,.s s,.i (i':Nat),.b false]) (i:=0) (by simp[hb])]
  simp[h3]
 |some p=>
  obtain ⟨t,r⟩:=p
  rw[hf] at q2
  obtain ⟨rfl,rfl,q3,q4⟩:=q2
  obtain ⟨c2,i2,ok2,p1,p2,p3⟩:=i_loop hl G f op kd body (lexT (s.data.toList.drop i)).length h1 h2 hb hG r.length i' t (by rw[q3];omega) (by rw[q3];omega) q1
  rw[p1]
  rw[q3] at p3
  have hres:IRes s (lexT (s.data.toList.drop i)).length (opL f [op] kd r.length t r) c2 i2 ok2:=by
   refine ⟨p2,?_⟩
   cases ho:opL f [op] kd r.length t r with
   |none=>rw[ho] at p3;exact p3
   |some z=>
    rw[ho] at p3
    exact ⟨p3.1,p3.2.1,p3.2.2.1,by have:=p3.2.2.2;omega⟩
  exact ⟨c2,i2,ok2,by simp[h3],hres⟩
theorem i_prs:∀(j c k i:Nat),c≤2→i≤s.data.toList.length→3*(lexT (s.data.toList.drop i)).length+(3-c)≤j→j≤k→IP s (i_pParser_or.g k c) (prs j c) i
 |0,c,k,i,hc,hi,hj,hk=>by omega
 |j+1,c,k,i,hc,hi,hj,hk=>by
  obtain ⟨k,rfl⟩:∃k',k=k'+1:=⟨k-1,by omega⟩
  have ih:=i_prs j
  rcases (show c=0∨c=1∨c=2 by omega) with rfl|rfl|rfl
  ·obtain ⟨c,i',ok,h1,h2⟩:=i_ops hl (i_pParser_or.g k 1) (prs j 1) 124 5 (i_pParser_or.d1 (i_pParser_or.g k 0) (i_pParser_or.g k 1) (i_pParser_or.g k 2)) (i_pParser_or.d2 (i_pParser_or.g k 0) (i_pParser_or.g k 1) (i_pParser_or.g k 2)) i hi rfl (by decide)
    (fun _ _ _ _=>rfl) (fun _ _ _ _=>rfl) (fun b h1 h2=>ih 1 k b (by omega) h1 (by omega) (by omega))
   exact ⟨c,i',ok,h1,h2⟩
  ·obtain ⟨c,i',ok,h1,h2⟩:=i_ops hl (i_pParser_or.g k 2) (prs j 2) 38 4 (i_pParser_and.d1 (i_pParser_or.g k 0) (i_pParser_or.g k 1) (i_pParser_or.g k 2)) (i_pParser_and.d2 (i_pParser_or.g k 0) (i_pParser_or.g k 1) (i_pParser_or.g k 2)) i hi rfl (by decide)
    (fun _ _ _ _=>rfl) (fun _ _ _ _=>rfl) (fun b h1 h2=>ih 2 k b (by omega) h1 (by omega) (by omega))
   exact ⟨c,i',ok,h1,h2⟩
  ·have hstep:i_pParser_or.g (k+1) 2 [.s s,.i i,.b true]=finR (i_pParser_not.d1 (i_pParser_or.g k 0) (i_pParser_or.g k 1) (i_pParser_or.g k 2) (.s s) (.i i) (.b true)):=rfl
   unfold IP
   rw[hstep]
   obtain ⟨i1,hi1,b1,ht1,hm1⟩:=i_take hl 33 rfl (by decide) i true hi
   have ht1:i_pParser_take [.i 33,.s s,.i i,.b true]=_:=ht1
   simp only[i_pParser_not.d1,C.B_b,jZ,jS,ht1,call4,jI,jC,jD]
   cases hd:lexT (s.data.toList.drop i) with
   |nil=>
    rw[hd] at hm1
    simp only at hm1
    obtain ⟨rfl,hm1⟩:=hm1
    obtain ⟨i2,hi2,b2,ht2,hm2⟩:=i_take hl 40 rfl (by decide) i1 true hi1
    have ht2:i_pParser_take [.i 40,.s s,.i i1,.b true]=_:=ht2
    rw[hm1] at hm2
    simp only at hm2
    obtain ⟨rfl,hm2⟩:=hm2
    obtain ⟨i3,hi3,z,b3,hn3,hm3⟩:=i_name hl i2 true hi2
    rw[hm2] at hm3
    simp only at hm3
    subst hm3
    simp only[jS,ht2,hn3,jI,jC,jD,C.B_b,jV]
    exact ⟨_,_,_,rfl,hi3,by simp[prs]⟩
   |cons x r=>
    rw[hd] at hm1 hj
    simp only[List.length_cons] at hj
    by_cases x33:x=[33]
    ·simp only[if_pos x33] at hm1
     obtain ⟨rfl,hm1⟩:=hm1
     obtain ⟨c,i2,ok,hg,q1,q2⟩:=ih 2 k i1 (by omega) hi1 (by rw[hm1];omega) (by omega)
     rw[hm1] at q2
     simp only[jR,hg,jI,jC,jD,rows,bs_nil,jV]
     refine ⟨_,_,_,rfl,q1,?_⟩
     simp only[prs,x33,if_true]
     cases hf:prs j 2 r with
     |none=>rw[hf] at q2;exact q2
     |some p=>
      rw[hf] at q2
      obtain ⟨rfl,rfl,q3,q4⟩:=q2
      exact ⟨rfl,rfl,q3,by simp only[List.length_cons];omega⟩
    simp only[if_neg x33] at hm1
    obtain ⟨rfl,hm1⟩:=hm1
    obtain ⟨i2,hi2,b2,ht2,hm2⟩:=i_take hl 40 rfl (by decide) i1 true hi1
    have ht2:i_pParser_take [.i 40,.s s,.i i1,.b true]=_:=ht2
    rw[hm1] at hm2
    simp only at hm2
    simp only[jS,ht2,jI,jC,jD,C.B_b]
    by_cases x40:x=[40]
    ·simp only[if_pos x40] at hm2
     obtain ⟨rfl,hm2⟩:=hm2
     obtain ⟨c,i3,ok,hg,q1,q2⟩:=ih 0 k i2 (by omega) hi2 (by rw[hm2];omega) (by omega)
     rw[hm2] at q2
     have hp:prs (j+1) 2 (x::r)=match prs j 0 r with
       |some (t,y::r')=>if y=[41] then some (t,r') else none
       |_=>none:=by
      simp only[prs,if_neg x33,if_pos x40]<;>rcases prs j 0 r with _|⟨t,_|⟨y,r'⟩⟩<;>rfl
     rw[hp]
     simp only[jR,hg,jI,jC,jD,C.B_b]
     cases hf:prs j 0 r with
     |none=>
      rw[hf] at q2
      simp only at q2
      subst q2
      simp only[jS,jV]
      exact ⟨_,_,_,rfl,q1,rfl⟩
     |some p=>
      obtain ⟨t,z⟩:=p
      rw[hf] at q2
      obtain ⟨rfl,rfl,q3,q4⟩:=q2
      obtain ⟨i4,hi4,b4,ht4,hm4⟩:=i_take hl 41 rfl (by decide) i3 true q1
      have ht4:i_pParser_take [.i 41,.s s,.i i3,.b true]=_:=ht4
      rw[q3] at hm4
      simp only[jR,ht4,jI,jC,jD,C.B_b,jV]
      refine ⟨_,_,_,rfl,hi4,?_⟩
      cases z with
      |nil=>exact hm4.1
      |cons y r'=>
       simp only at hm4⊢
       by_cases y41:y=[41]
       ·simp only[if_pos y41] at hm4⊢
        simp only[List.length_cons] at q4⊢
        exact ⟨hm4.1,trivial,hm4.2,by omega⟩
       ·simp only[if_neg y41] at hm4⊢
        exact hm4.1
    simp only[if_neg x40] at hm2
    obtain ⟨rfl,hm2⟩:=hm2
    obtain ⟨i3,hi3,z,b3,hn3,hm3⟩:=i_name hl i2 true hi2
    rw[hm2] at hm3
    simp only at hm3
    simp only[jS,hn3,jI,jC,jD,C.B_b]
    cases hn:nameOk (mkS x) with
    |false=>
     rw[hn] at hm3
     simp only[Bool.false_eq_true,if_false] at hm3
     subst hm3
     simp only[jS,jV]
     exact ⟨_,_,_,rfl,hi3,by simp[prs,x33,x40,hn]⟩
    |true=>
     rw[hn] at hm3
     simp only[if_true] at hm3
     obtain ⟨rfl,rfl,hm3⟩:=hm3
     obtain ⟨i4,hi4,b4,ht4,hm4⟩:=i_take hl 61 rfl (by decide) i3 true hi3
     have ht4:i_pParser_take [.i 61,.s s,.i i3,.b true]=_:=ht4
     rw[hm3] at hm4
     simp only[jR,ht4,jI,jC,jD,C.B_b]
     cases r with
     |nil=>
      simp only at hm4
      obtain ⟨rfl,hm4⟩:=hm4
      simp only[jS,rows,nils,bs_nil,jV]
      refine ⟨_,_,_,rfl,hi4,?_⟩
      simp only[prs,if_neg x33,if_neg x40,hn,if_true]
      exact ⟨trivial,rfl,hm4,by simp⟩
     |cons y r'=>
      simp only at hm4
      by_cases y61:y=[61]
      ·simp only[if_pos y61] at hm4
       obtain ⟨rfl,hm4⟩:=hm4
       obtain ⟨i5,hi5,z5,b5,hn5,hm5⟩:=i_name hl i4 true hi4
       rw[hm4] at hm5
       simp only[jR,hn5,jI,jC,jD,rows,nils,jV]
       refine ⟨_,_,_,rfl,hi5,?_⟩
       cases r' with
       |nil=>
        simp only at hm5
        subst hm5
        simp[prs,x33,x40,hn,y61]
       |cons v r''=>
        simp only at hm5
        cases hv:nameOk (mkS v) with
        |false=>
         rw[hv] at hm5
         simp only[Bool.false_eq_true,if_false] at hm5
         subst hm5
         simp[prs,x33,x40,hn,y61,hv]
        |true=>
         rw[hv] at hm5
         simp only[if_true] at hm5
         obtain ⟨rfl,rfl,hm5⟩:=hm5
         simp only[prs,if_neg x33,if_neg x40,hn,if_true,y61,hv]
         exact ⟨trivial,rfl,hm5,by simp only[List.length_cons];omega⟩
      ·simp only[if_neg y61] at hm4
       obtain ⟨rfl,hm4⟩:=hm4
       simp only[jS,rows,nils,bs_nil,jV]
       refine ⟨_,_,_,rfl,hi4,?_⟩
       simp only[prs,if_neg x33,if_neg x40,hn,if_true,if_neg y61]
       exact ⟨trivial,rfl,hm4,by simp⟩
end
end Go.Ev
