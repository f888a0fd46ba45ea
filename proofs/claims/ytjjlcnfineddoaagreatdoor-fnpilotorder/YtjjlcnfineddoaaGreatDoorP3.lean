/- Proved here: the law FnPilotOrderCard of the given program answers true at every input, and leaves the input as it was; no condition. This text: lemmas on the way (an evaluator of the program's code, sound once for all; the functions it prints; plain proofs on these). -/
import Derived.Test.YtjjlcnfineddoaaGreatDoorP2
set_option linter.all false
set_option autoImplicit false
set_option maxRecDepth 100000
namespace Go.Ev
open Go.Proofs
noncomputable section
def aE.d1 (a b c d:C):R:=(bif (decide (c.I<(a.S.size:Int))) then (bif (decide (0≤c.I)) then (bif (decide (c.I<(a.S.size:Int))) then (ae (gH [.i ((a.S.data.getD c.I.toNat 0).toNat:Int)]) fun e=>(bif e.B then (some (.again [a,b,.i (w64 (c.I+1)),.l d.L])) else (some (.brk 2 [a,b,c,.l d.L])))) else none) else none) else (some (.brk 2 [a,b,c,.l d.L])))
def aE.d2 (a b c d e:C):R:=(bif d.B then (some (.ret [.b false,.l e.L])) else (bif (decide (0≤b.I)) then (bif (decide (b.I≤(w64 (c.I+1)))) then (bif (decide ((w64 (c.I+1))≤(a.S.size:Int))) then (bif (decide (e.L.length+(rows [[.s (a.S.extract b.I.toNat (w64 (c.I+1)).toNat)]]).length≤4294967296)) then (some (.brk 1 [a,.i (w64 (c.I+1)),.l (e.L++(rows [[.s (a.S.extract b.I.toNat (w64 (c.I+1)).toNat)]]))])) else none) else none) else none) else none))
def aE.d3 (a b c d:C):R:=(bif (c.I==b.I) then (bR (bif (decide (0≤b.I)) then (bif (decide (b.I<(a.S.size:Int))) then (bif (((a.S.data.getD b.I.toNat 0).toNat:Int) !=124) then (bif (decide (0≤b.I)) then (bif (decide (b.I<(a.S.size:Int))) then (bif (((a.S.data.getD b.I.toNat 0).toNat:Int) !=38) then (bif (decide (0≤b.I)) then (bif (decide (b.I<(a.S.size:Int))) then (bif (((a.S.data.getD b.I.toNat 0).toNat:Int) !=33) then (bif (decide (0≤b.I)) then (bif (decide (b.I<(a.S.size:Int))) then (bif (((a.S.data.getD b.I.toNat 0).toNat:Int) !=40) then (bif (decide (0≤b.I)) then (bif (decide (b.I<(a.S.size:Int))) then (bif (((a.S.data.getD b.I.toNat 0).toNat:Int) !=41) then (bif (decide (0≤b.I)) then (bif (decide (b.I<(a.S.size:Int))) then (some (.nrm [a,b,c,.b (((a.S.data.getD b.I.toNat 0).toNat:Int) !=61),.l d.L])) else none) else none) else (some (.nrm [a,b,c,.b false,.l d.L]))) else none) else none) else (some (.nrm [a,b,c,.b false,.l d.L]))) else none) else none) else (some (.nrm [a,b,c,.b false,.l d.L]))) else none) else none) else (some (.nrm [a,b,c,.b false,.l d.L]))) else none) else none) else (some (.nrm [a,b,c,.b false,.l d.L]))) else none) else none) (apn 5 aE.d2)) else (bif (decide (0≤b.I)) then (bif (decide (b.I≤c.I)) then (bif (decide (c.I≤(a.S.size:Int))) then (bif (decide (d.L.length+(rows [[.s (a.S.extract b.I.toNat c.I.toNat)]]).length≤4294967296)) then (some (.brk 1 [a,c,.l (d.L++(rows [[.s (a.S.extract b.I.toNat c.I.toNat)]]))])) else none) else none) else none) else none))
def aE.d4 (a b c:C):R:=(some (.again [a,b,.l c.L]))
def aE.d5 (a b c:C):R:=(bif (decide (b.I<(a.S.size:Int))) then (ax 1 (bif (decide (0≤b.I)) then (bif (decide (b.I<(a.S.size:Int))) then (bif (((a.S.data.getD b.I.toNat 0).toNat:Int)==32) then (some (.brk 1 [a,.i (w64 (b.I+1)),.l c.L])) else (ax 2 (lim (apn 4 aE.d1) [a,b,b,.l c.L]) (apn 4 aE.d3))) else none) else none) (apn 3 aE.d4)) else (some (.brk 0 [.l c.L])))
def aE.d6 (a:C):R:=(some (.ret [.b true,.l a.L]))
def aE.d7 (a:C):R:=(ax 0 (lim (apn 3 aE.d5) [a,.i 0,.l ah]) (apn 1 aE.d6))
def aE:List C→Option (List C):=fun xs=>bl (apn 1 aE.d7 xs)
def l7:FS:=⟨1,⟨[(0,zt)],[]⟩,⟨[(0,(.tu [(.ow 3000),zo]))],[(3000,.arr 9 1)]⟩,[],aE⟩
theorem wT:aG Tryz.checked.prog T0 157 l7:=bO aI (fn:=Tryz.f157) (c:=Tryz.f157.body.getD .skip) l7 (.seq .leaf (.seq .leaf (.seq (.seq .leaf (.block ⟨[(4,(.ow 7))],[(7,.arr 9 1)]⟩ (.loop ⟨[(0,zt),(4,(.ow 7)),(5,zi)],[(7,.arr 9 1)]⟩ (.seq .leaf (.block ⟨[(0,zt),(4,(.ow 7)),(5,zi)],[(7,.arr 9 1)]⟩ (.seq .leaf (.seq .leaf (.seq (.block ⟨[(0,zt),(4,(.ow 7)),(5,zi),(6,zi)],[(7,.arr 9 1)]⟩ (.loop ⟨[(0,zt),(4,(.ow 7)),(5,zi),(6,zi)],[(7,.arr 9 1)]⟩ .leaf)) (.seq (.seq .leaf (.cond (.seq (.seq (.join ⟨[(0,zt),(4,(.ow 7)),(5,zi),(6,zi),(67,zo)],[(7,.arr 9 1)]⟩ .leaf) .leaf) .leaf) .leaf)) .leaf))))))))) .leaf))) [(119,some 27,jT)] (.cons qd .nil) (by kernel_rfl) (by kernel_rfl) (by kernel_rfl) (fun xs=>by kernel_rfl)
def gr.d1 (a b:C):R:=(bif a.isP then (bif a.isP then (bif (decide ((a.P.getD 1 .nil).I<(((a.P.getD 0 .nil).L).length:Int))) then (bif a.isP then (bif a.isP then (bif (decide (0≤(a.P.getD 1 .nil).I)) then (bif (decide ((a.P.getD 1 .nil).I<(((a.P.getD 0 .nil).L).length:Int))) then (some (.ret [.b ((((((a.P.getD 0 .nil).L).getD ((a.P.getD 1 .nil).I).toNat []).getD 0 .nil).S).toList==b.S.toList)])) else none) else none) else none) else none) else (some (.ret [.b false]))) else none) else none)
def gr:List C→Option (List C):=fun xs=>bl (apn 2 gr.d1 xs)
def jG:FS:=⟨2,⟨[(0,(.d (.pt 193))),(1,zt)],[]⟩,⟨[(0,zo)],[]⟩,[],gr⟩
theorem sC:aG Tryz.checked.prog T0 181 jG:=bO aI (fn:=Tryz.f181) (c:=Tryz.f181.body.getD .skip) jG .leaf [] .nil (by kernel_rfl) (by kernel_rfl) (by kernel_rfl) (fun xs=>by kernel_rfl)
def bM.d1 (a b c d:C):R:=(ae (gr [.p [b,c,d],a]) fun e=>(bif e.B then (some (.ret [.b true,b,.i (w64 (c.I+1)),d])) else (some (.ret [.b false,b,c,d]))))
def bM:List C→Option (List C):=fun xs=>bl (apn 4 bM.d1 xs)
def cZ:FS:=⟨2,⟨[(0,(.pt 2000 0)),(1,zt)],[(2000,.var 193 [(zl 9),zi,zo])]⟩,⟨[(0,zo)],[(2000,.var 193 [(zl 9),zi,zo])]⟩,[2000],bM⟩
theorem ei:aG Tryz.checked.prog T0 171 cZ:=bO aI (fn:=Tryz.f171) (c:=Tryz.f171.body.getD .skip) cZ .leaf [(181,some 7,jG)] (.cons sC .nil) (by kernel_rfl) (by kernel_rfl) (by kernel_rfl) (fun xs=>by kernel_rfl)
def dZ.d1 (a b c:C):R:=(bif (!(decide (b.I≥(a.L.length:Int)))) then (bif (decide (0≤b.I)) then (bif (decide (b.I<(a.L.length:Int))) then (ae (bd [((a.L.getD b.I.toNat []).getD 0 .nil)]) fun d=>(bif (!d.B) then (some (.ret [.s (bs #[]),a,b,.b true])) else (bif (decide (0≤(w64 ((w64 (b.I+1))-1)))) then (bif (decide ((w64 ((w64 (b.I+1))-1))<(a.L.length:Int))) then (some (.ret [((a.L.getD (w64 ((w64 (b.I+1))-1)).toNat []).getD 0 .nil),a,.i (w64 (b.I+1)),c])) else none) else none))) else none) else none) else (some (.ret [.s (bs #[]),a,b,.b true])))
def dZ:List C→Option (List C):=fun xs=>bl (apn 3 dZ.d1 xs)
def ga:FS:=⟨1,⟨[(0,(.pt 2000 0))],[(2000,.var 193 [(zl 9),zi,zo])]⟩,⟨[(0,zt)],[(2000,.var 193 [(zl 9),zi,zo])]⟩,[2000],dZ⟩
theorem lv:aG Tryz.checked.prog T0 186 ga:=bO aI (fn:=Tryz.f186) (c:=Tryz.f186.body.getD .skip) ga .leaf [(84,some 24,cf)] (.cons cL .nil) (by kernel_rfl) (by kernel_rfl) (by kernel_rfl) (fun xs=>by kernel_rfl)
def ao.d1 (G0 G1 G2:List C→Option (List C)) (a b c d:C):R:=(bif (!d.B) then (call4 (bM [.s (bs #[124]),b,c,d]) fun e f g h=>(bif e.B then (call4 (G1 [f,g,h]) fun i j k l=>(call2 (bH [.i 5,.i 2,.l (rows [[a],[i]])]) fun m n=>(some (.again [.l n.L,j,k,l])))) else (some (.brk 0 [a,f,g,h])))) else (some (.brk 0 [a,b,c,d])))
def ao.d2 (G0 G1 G2:List C→Option (List C)) (a b c d:C):R:=(some (.ret [a,b,c,d]))
def ao.d3 (G0 G1 G2:List C→Option (List C)) (a b c:C):R:=(call4 (G1 [a,b,c]) fun d e f g=>(ax 0 (lim (apn 4 (ao.d1 G0 G1 G2)) [d,e,f,g]) (apn 4 (ao.d2 G0 G1 G2))))
def ao.step (G0 G1 G2:List C→Option (List C)):List C→Option (List C):=fun xs=>bl (apn 3 (ao.d3 G0 G1 G2) xs)
def dq (G:List C→Option (List C)):FS:=⟨1,⟨[(0,(.pt 2000 0))],[(2000,.var 193 [(.d (.sl 9)),(.d (.int .i64)),(.d .bool)])]⟩,⟨[(0,(.d (.sl 190)))],[(2000,.var 193 [(.d (.sl 9)),(.d (.int .i64)),(.d .bool)])]⟩,[2000],G⟩
def cI.d1 (G0 G1 G2:List C→Option (List C)) (a b c d:C):R:=(bif (!d.B) then (call4 (bM [.s (bs #[38]),b,c,d]) fun e f g h=>(bif e.B then (call4 (G2 [f,g,h]) fun i j k l=>(call2 (bH [.i 4,.i 2,.l (rows [[a],[i]])]) fun m n=>(some (.again [.l n.L,j,k,l])))) else (some (.brk 0 [a,f,g,h])))) else (some (.brk 0 [a,b,c,d])))
def cI.d2 (G0 G1 G2:List C→Option (List C)) (a b c d:C):R:=(some (.ret [a,b,c,d]))
def cI.d3 (G0 G1 G2:List C→Option (List C)) (a b c:C):R:=(call4 (G2 [a,b,c]) fun d e f g=>(ax 0 (lim (apn 4 (cI.d1 G0 G1 G2)) [d,e,f,g]) (apn 4 (cI.d2 G0 G1 G2))))
def cI.step (G0 G1 G2:List C→Option (List C)):List C→Option (List C):=fun xs=>bl (apn 3 (cI.d3 G0 G1 G2) xs)
def dw (G:List C→Option (List C)):FS:=⟨1,⟨[(0,(.pt 2000 0))],[(2000,.var 193 [(.d (.sl 9)),(.d (.int .i64)),(.d .bool)])]⟩,⟨[(0,(.d (.sl 190)))],[(2000,.var 193 [(.d (.sl 9)),(.d (.int .i64)),(.d .bool)])]⟩,[2000],G⟩
def ey.d1 (G0 G1 G2:List C→Option (List C)) (a b c:C):R:=(bif c.B then (some (.ret [.l ah,a,b,c])) else (call4 (bM [.s (bs #[33]),a,b,c]) fun d e f g=>(bif d.B then (call4 (G2 [e,f,g]) fun h i j k=>(call2 (bH [.i 3,.i 1,.l (rows [[h]])]) fun l m=>(some (.ret [.l m.L,i,j,k])))) else (call4 (bM [.s (bs #[40]),e,f,g]) fun n o p q=>(bif n.B then (call4 (G0 [o,p,q]) fun r s t u=>(call4 (bM [.s (bs #[41]),s,t,u]) fun v w x y=>(bif (!v.B) then (some (.ret [r,w,x,.b true])) else (some (.ret [r,w,x,y]))))) else (call4 (dZ [o,p,q]) fun z a0 a1 a2=>(bif (!a2.B) then (call4 (bM [.s (bs #[61]),a0,a1,a2]) fun a3 a4 a5 a6=>(bif a3.B then (call4 (dZ [a4,a5,a6]) fun a7 a8 a9 b0=>(some (.ret [.l (rows [[.i 2,z,a7,.i 0]]),a8,a9,b0]))) else (some (.ret [.l (rows [[.i 1,z,.s (bs #[]),.i 0]]),a4,a5,a6])))) else (some (.ret [.l (rows [[.i 1,z,.s (bs #[]),.i 0]]),a0,a1,a2])))))))))
def ey.step (G0 G1 G2:List C→Option (List C)):List C→Option (List C):=fun xs=>bl (apn 3 (ey.d1 G0 G1 G2) xs)
def cT (G:List C→Option (List C)):FS:=⟨1,⟨[(0,(.pt 2000 0))],[(2000,.var 193 [(.d (.sl 9)),(.d (.int .i64)),(.d .bool)])]⟩,⟨[(0,(.d (.sl 190)))],[(2000,.var 193 [(.d (.sl 9)),(.d (.int .i64)),(.d .bool)])]⟩,[2000],G⟩
theorem sH {G0 G1 G2:List C→Option (List C)} (h0:aG Tryz.checked.prog T0 158 (dq G0)) (h1:aG Tryz.checked.prog T0 170 (dw G1)) (h2:aG Tryz.checked.prog T0 180 (cT G2)):aG Tryz.checked.prog T0 158 (dq (ao.step G0 G1 G2)):=bO aI (fn:=Tryz.f158) (c:=Tryz.f158.body.getD .skip) (dq (ao.step G0 G1 G2)) (.seq .leaf (.seq .leaf (.seq (.block ⟨[(3,(.d (.sl 190)))],[(2000,.var 193 [(.d (.sl 9)),(.d (.int .i64)),(.d .bool)])]⟩ (.loop ⟨[(0,(.pt 2000 0)),(3,(.d (.sl 190)))],[(2000,.var 193 [(.d (.sl 9)),(.d (.int .i64)),(.d .bool)])]⟩ .leaf)) .leaf))) [(146,some 19,eX),(170,some 5,(dw G1)),(170,some 17,(dw G1)),(171,some 13,cZ)] (.cons gG (.cons h1 (.cons h1 (.cons ei .nil)))) (by kernel_rfl) (by kernel_rfl) (by kernel_rfl) (fun xs=>by kernel_rfl)
theorem rS {G0 G1 G2:List C→Option (List C)} (h0:aG Tryz.checked.prog T0 158 (dq G0)) (h1:aG Tryz.checked.prog T0 170 (dw G1)) (h2:aG Tryz.checked.prog T0 180 (cT G2)):aG Tryz.checked.prog T0 170 (dw (cI.step G0 G1 G2)):=bO aI (fn:=Tryz.f170) (c:=Tryz.f170.body.getD .skip) (dw (cI.step G0 G1 G2)) (.seq .leaf (.seq .leaf (.seq (.block ⟨[(3,(.d (.sl 190)))],[(2000,.var 193 [(.d (.sl 9)),(.d (.int .i64)),(.d .bool)])]⟩ (.loop ⟨[(0,(.pt 2000 0)),(3,(.d (.sl 190)))],[(2000,.var 193 [(.d (.sl 9)),(.d (.int .i64)),(.d .bool)])]⟩ .leaf)) .leaf))) [(146,some 19,eX),(171,some 13,cZ),(180,some 5,(cT G2)),(180,some 17,(cT G2))] (.cons gG (.cons ei (.cons h2 (.cons h2 .nil)))) (by kernel_rfl) (by kernel_rfl) (by kernel_rfl) (fun xs=>by kernel_rfl)
theorem rY {G0 G1 G2:List C→Option (List C)} (h0:aG Tryz.checked.prog T0 158 (dq G0)) (h1:aG Tryz.checked.prog T0 170 (dw G1)) (h2:aG Tryz.checked.prog T0 180 (cT G2)):aG Tryz.checked.prog T0 180 (cT (ey.step G0 G1 G2)):=bO aI (fn:=Tryz.f180) (c:=Tryz.f180.body.getD .skip) (cT (ey.step G0 G1 G2)) (.seq .leaf (.seq (.seq .leaf (.cond (.seq .leaf (.frz [9] .leaf)) .leaf)) (.seq (.seq .leaf (.cond (.seq .leaf (.frz [68537] .leaf)) .leaf)) (.seq .leaf (.seq .leaf (.seq .leaf (.seq .leaf (.frz [44] .leaf)))))))) [(146,some 15,eX),(158,some 19,(dq G0)),(171,some 11,cZ),(171,some 17,cZ),(171,some 21,cZ),(171,some 37,cZ),(180,some 13,(cT G2)),(186,some 28,ga),(186,some 41,ga)] (.cons gG (.cons h0 (.cons ei (.cons ei (.cons ei (.cons ei (.cons h2 (.cons lv (.cons lv .nil))))))))) (by kernel_rfl) (by kernel_rfl) (by kernel_rfl) (fun xs=>by kernel_rfl)
def ao.g:Nat→Nat→List C→Option (List C)
 |0,_=>fun _=>none
 |k+1,0=>ao.step (ao.g k 0) (ao.g k 1) (ao.g k 2)
 |k+1,1=>cI.step (ao.g k 0) (ao.g k 1) (ao.g k 2)
 |k+1,2=>ey.step (ao.g k 0) (ao.g k 1) (ao.g k 2)
 |_,_=>fun _=>none
theorem cu:∀k:Nat,aG Tryz.checked.prog T0 158 (dq (ao.g k 0))∧aG Tryz.checked.prog T0 170 (dw (ao.g k 1))∧aG Tryz.checked.prog T0 180 (cT (ao.g k 2))
 |0=>⟨kD (fn:=Tryz.f158) (c:=Tryz.f158.body.getD .skip) (1) (⟨[(0,(.pt 2000 0))],[(2000,.var 193 [(.d (.sl 9)),(.d (.int .i64)),(.d .bool)])]⟩) (⟨[(0,(.d (.sl 190)))],[(2000,.var 193 [(.d (.sl 9)),(.d (.int .i64)),(.d .bool)])]⟩) [2000] (by kernel_rfl) (by kernel_rfl) (by kernel_rfl),kD (fn:=Tryz.f170) (c:=Tryz.f170.body.getD .skip) (1) (⟨[(0,(.pt 2000 0))],[(2000,.var 193 [(.d (.sl 9)),(.d (.int .i64)),(.d .bool)])]⟩) (⟨[(0,(.d (.sl 190)))],[(2000,.var 193 [(.d (.sl 9)),(.d (.int .i64)),(.d .bool)])]⟩) [2000] (by kernel_rfl) (by kernel_rfl) (by kernel_rfl),kD (fn:=Tryz.f180) (c:=Tryz.f180.body.getD .skip) (1) (⟨[(0,(.pt 2000 0))],[(2000,.var 193 [(.d (.sl 9)),(.d (.int .i64)),(.d .bool)])]⟩) (⟨[(0,(.d (.sl 190)))],[(2000,.var 193 [(.d (.sl 9)),(.d (.int .i64)),(.d .bool)])]⟩) [2000] (by kernel_rfl) (by kernel_rfl) (by kernel_rfl)⟩
 |k+1=>⟨sH (cu k).1 (cu k).2.1 (cu k).2.2,rS (cu k).1 (cu k).2.1 (cu k).2.2,rY (cu k).1 (cu k).2.1 (cu k).2.2⟩
def ao:List C→Option (List C):=ao.g iW 0
theorem sx:aG Tryz.checked.prog T0 158 (dq ao):=(cu iW).1
def cI:List C→Option (List C):=ao.g iW 1
def ey:List C→Option (List C):=ao.g iW 2
def fA.d1 (a:C):R:=(bif (decide ((a.S.size:Int)>200)) then (some (.ret [.l ah,.i 1])) else (call2 (aE [a]) fun b c=>(bif (!b.B) then (some (.ret [.l ah,.i 2])) else (bif ((c.L.length:Int)==0) then (some (.ret [.l (rows [[.i 0,.s (bs #[]),.s (bs #[]),.i 0]]),.i 0])) else (call4 (ao [.l c.L,.i 0,.b false]) fun d e f g=>(bif (!g.B) then (bif (decide (f.I<(c.L.length:Int))) then (some (.ret [.l ah,.i 2])) else (ae (fi [d]) fun h=>(bif (!h.B) then (some (.ret [.l ah,.i 3])) else (some (.ret [d,.i 0]))))) else (some (.ret [.l ah,.i 2]))))))))
def fA:List C→Option (List C):=fun xs=>bl (apn 1 fA.d1 xs)
def iw:FS:=⟨1,⟨[(0,zt)],[]⟩,⟨[(0,(.tu [(.ag [(zl 190)]),zi]))],[]⟩,[],fA⟩
theorem nT:aG Tryz.checked.prog T0 137 iw:=bO aI (fn:=Tryz.f137) (c:=Tryz.f137.body.getD .skip) iw (.seq .leaf (.seq .leaf (.seq .leaf (.seq .leaf (.seq (.seq .leaf (.cond (.seq .leaf (.frz [24] .leaf)) .leaf)) (.seq .leaf (.seq (.frz [64440] .leaf) .leaf))))))) [(142,some 47,iZ),(157,some 14,l7),(158,some 30,(dq ao))] (.cons mS (.cons wT (.cons sx .nil))) (by kernel_rfl) (by kernel_rfl) (by kernel_rfl) (fun xs=>by kernel_rfl)
def fB.d1 (a:C):R:=(call2 (fA [a]) fun b c=>(some (.ret [.b (c.I==0)])))
def fB:List C→Option (List C):=fun xs=>bl (apn 1 fB.d1 xs)
def iy:FS:=⟨1,⟨[(0,zt)],[]⟩,⟨[(0,zo)],[]⟩,[],fB⟩
theorem nN:aG Tryz.checked.prog T0 120 iy:=bO aI (fn:=Tryz.f120) (c:=Tryz.f120.body.getD .skip) iy .leaf [(137,some 7,iw)] (.cons nT .nil) (by kernel_rfl) (by kernel_rfl) (by kernel_rfl) (fun xs=>by kernel_rfl)
def bU.d1 (a b c d e f g h i j k l m:C):R:=(bif (decide (a.I<(i.L.length:Int))) then (bif (decide (0≤a.I)) then (bif (decide (a.I<(i.L.length:Int))) then (ae (fB [((i.L.getD a.I.toNat []).getD 0 .nil)]) fun n=>(bif (!(!n.B)) then (bif (decide (0≤a.I)) then (bif (decide (a.I<(i.L.length:Int))) then (ae (fZ [((i.L.getD a.I.toNat []).getD 1 .nil),.i (-9),.i 9]) fun o=>(bif (!o.B) then (some (.ret [.b false])) else (some (.again [.i (w64 (a.I+1)),b,c,d,e,f,g,h,i,j,k,l,m])))) else none) else none) else (some (.ret [.b false])))) else none) else none) else (some (.brk 0 [])))
def bU.d2:R:=(some (.ret [.b true]))
def bU.d3 (a b c d e f g h i j k l m:C):R:=(bif a.B then (some (.ret [.b false])) else (ax 0 (lim (apn 13 bU.d1) [.i 0,b,c,d,e,f,g,h,i,j,k,l,m]) (fun xs=>bU.d2)))
def bU.d4 (a b c d e f g h i j k l:C):R:=(ae (bd [a]) fun m=>(bif (!(!m.B)) then (ae (bd [b]) fun n=>(bif (!(!n.B)) then (ae (fZ [c,.i 0,.i 100]) fun o=>(bif (!(!o.B)) then (ae (fZ [d,.i 0,.i 1000000]) fun p=>(bif (!(!p.B)) then (ae (fZ [e,.i 0,.i 1000]) fun q=>(bif (!(!q.B)) then (ae (fZ [f,.i 0,.i 1000]) fun r=>(bif (!r.B) then (some (.ret [.b false])) else (bR (ae (fB [g]) fun s=>(bif (!(!s.B)) then (bif (!(decide ((h.L.length:Int)>5))) then (ae (fZ [i,.i 0,.i 2]) fun t=>(bif (!(!t.B)) then (bif (!(j.S.toList==(bs #[]).toList)) then (ae (bd [j]) fun u=>(bif (!(!u.B)) then (bif (!(k.S.toList==(bs #[]).toList)) then (ae (bd [k]) fun v=>(some (.nrm [.b (!v.B),a,b,c,d,e,f,g,h,i,j,k,l]))) else (some (.nrm [.b false,a,b,c,d,e,f,g,h,i,j,k,l]))) else (some (.nrm [.b true,a,b,c,d,e,f,g,h,i,j,k,l])))) else (bif (!(k.S.toList==(bs #[]).toList)) then (ae (bd [k]) fun w=>(some (.nrm [.b (!w.B),a,b,c,d,e,f,g,h,i,j,k,l]))) else (some (.nrm [.b false,a,b,c,d,e,f,g,h,i,j,k,l])))) else (some (.nrm [.b true,a,b,c,d,e,f,g,h,i,j,k,l])))) else (some (.nrm [.b true,a,b,c,d,e,f,g,h,i,j,k,l]))) else (some (.nrm [.b true,a,b,c,d,e,f,g,h,i,j,k,l])))) (apn 13 bU.d3)))) else (some (.ret [.b false])))) else (some (.ret [.b false])))) else (some (.ret [.b false])))) else (some (.ret [.b false])))) else (some (.ret [.b false]))))
def bU:List C→Option (List C):=fun xs=>bl (apn 12 bU.d4 xs)
def ma:FS:=⟨1,⟨[(0,z5)],[]⟩,⟨[(0,zo)],[]⟩,[],bU⟩
theorem wY:aG Tryz.checked.prog T0 85 ma:=bO aI (fn:=Tryz.f85) (c:=Tryz.f85.body.getD .skip) ma (.seq .leaf (.seq .leaf (.seq (.seq (.join ⟨[(1,(.pt 1 0)),(75,zo)],[(1,z2)]⟩ .leaf) .leaf) (.seq (.seq .leaf (.block ⟨[],[]⟩ (.loop ⟨[(1,(.pt 1 0)),(3,zi)],[(1,z2)]⟩ .leaf))) .leaf)))) [(39,some 17,eE),(39,some 23,eE),(39,some 29,eE),(39,some 35,eE),(39,some 51,eE),(39,some 98,eE),(84,some 6,cf),(84,some 11,cf),(84,some 61,cf),(84,some 72,cf),(120,some 40,iy),(120,some 89,iy)] (.cons fk (.cons fk (.cons fk (.cons fk (.cons fk (.cons fk (.cons cL (.cons cL (.cons cL (.cons cL (.cons nN (.cons nN .nil)))))))))))) (by kernel_rfl) (by kernel_rfl) (by kernel_rfl) (fun xs=>by kernel_rfl)
def cP.d1 (a b c d e f:C):R:=(bif (decide (b.I<(e.L.length:Int))) then (bif (decide (0≤b.I)) then (bif (decide (b.I<(e.L.length:Int))) then (bif ((((e.L.getD b.I.toNat []).getD 0 .nil).S).toList==a.S.toList) then (some (.ret [b])) else (some (.again [a,.i (w64 (b.I+1)),c,d,e,f]))) else none) else none) else (some (.brk 0 [])))
def cP.d2:R:=(some (.ret [.i (-1)]))
def cP.d3 (a b c d e:C):R:=(ax 0 (lim (apn 6 cP.d1) [e,.i 0,a,b,c,d]) (fun xs=>cP.d2))
def cP:List C→Option (List C):=fun xs=>bl (apn 5 cP.d3 xs)
def lz:FS:=⟨2,⟨[(0,z3),(1,zt)],[]⟩,⟨[(0,zi)],[]⟩,[],cP⟩
theorem vL:aG Tryz.checked.prog T0 86 lz:=bO aI (fn:=Tryz.f86) (c:=Tryz.f86.body.getD .skip) lz (.seq .leaf (.seq (.seq .leaf (.block ⟨[],[]⟩ (.loop ⟨[(1,zt),(2,(.pt 2 0)),(5,zi)],[(2,z0)]⟩ .leaf))) .leaf)) [] .nil (by kernel_rfl) (by kernel_rfl) (by kernel_rfl) (fun xs=>by kernel_rfl)
def cW.d1 (a b c d e f:C):R:=(bif (decide (b.I<(d.L.length:Int))) then (bif (decide (0≤b.I)) then (bif (decide (b.I<(d.L.length:Int))) then (bif ((((d.L.getD b.I.toNat []).getD 0 .nil).S).toList==a.S.toList) then (some (.ret [b])) else (some (.again [a,.i (w64 (b.I+1)),c,d,e,f]))) else none) else none) else (some (.brk 0 [])))
def cW.d2:R:=(some (.ret [.i (-1)]))
def cW.d3 (a b c d e:C):R:=(ax 0 (lim (apn 6 cW.d1) [e,.i 0,a,b,c,d]) (fun xs=>cW.d2))
def cW:List C→Option (List C):=fun xs=>bl (apn 5 cW.d3 xs)
def fX:FS:=⟨2,⟨[(0,z3),(1,zt)],[]⟩,⟨[(0,zi)],[]⟩,[],cW⟩
theorem ji:aG Tryz.checked.prog T0 87 fX:=bO aI (fn:=Tryz.f87) (c:=Tryz.f87.body.getD .skip) fX (.seq .leaf (.seq (.seq .leaf (.block ⟨[],[]⟩ (.loop ⟨[(1,zt),(2,(.pt 2 0)),(5,zi)],[(2,z0)]⟩ .leaf))) .leaf)) [] .nil (by kernel_rfl) (by kernel_rfl) (by kernel_rfl) (fun xs=>by kernel_rfl)
def bI.d1 (a b c d e f g h i:C):R:=(bif e.B then (bif (decide (0≤d.I)) then (bif (decide (d.I<(i.L.length:Int))) then (bif (decide (0≤d.I)) then (bif (decide (d.I<(i.L.length:Int))) then (some (.again [a,.i (w64 (b.I+((i.L.getD d.I.toNat []).getD 4 .nil).I)),.i (w64 (c.I+((i.L.getD d.I.toNat []).getD 5 .nil).I)),.i (w64 (d.I+1)),f,g,h,i])) else none) else none) else none) else none) else (some (.again [a,b,c,.i (w64 (d.I+1)),f,g,h,i])))
def bI.d2 (a b c d e f g h:C):R:=(bif (decide (d.I<(h.L.length:Int))) then (bR (bif (!(a.S.toList==(bs #[]).toList)) then (bif (decide (0≤d.I)) then (bif (decide (d.I<(h.L.length:Int))) then (some (.nrm [a,b,c,d,.b ((((h.L.getD d.I.toNat []).getD 11 .nil).S).toList==a.S.toList),e,f,g,h])) else none) else none) else (some (.nrm [a,b,c,d,.b false,e,f,g,h]))) (apn 9 bI.d1)) else (some (.brk 0 [b,c])))
def bI.d3 (a b:C):R:=(some (.ret [a,b]))
def bI.d4 (a b c d e:C):R:=(ae (cW [a,b,c,d,e]) fun f=>(bif (decide (f.I<0)) then (some (.ret [.i 0,.i 0])) else (ax 0 (lim (apn 8 bI.d2) [e,.i 0,.i 0,.i 0,a,b,c,d]) (apn 2 bI.d3))))
def bI:List C→Option (List C):=fun xs=>bl (apn 5 bI.d4 xs)
def lC:FS:=⟨2,⟨[(0,z3),(1,zt)],[]⟩,⟨[(0,(.tu [zi,zi]))],[]⟩,[],bI⟩
theorem uH:aG Tryz.checked.prog T0 88 lC:=bO aI (fn:=Tryz.f88) (c:=Tryz.f88.body.getD .skip) lC (.seq .leaf (.seq .leaf (.seq .leaf (.seq .leaf (.seq (.seq .leaf (.block ⟨[(6,zi),(7,zi)],[]⟩ (.loop ⟨[(1,zt),(2,(.pt 2 0)),(6,zi),(7,zi),(8,zi)],[(2,z0)]⟩ (.seq .leaf (.seq (.skip (.seq (.join ⟨[(1,zt),(2,(.pt 2 0)),(6,zi),(7,zi),(8,zi),(31,zo)],[(2,z0)]⟩ .leaf) .leaf)) .leaf))))) .leaf))))) [(87,some 11,fX)] (.cons ji .nil) (by kernel_rfl) (by kernel_rfl) (by kernel_rfl) (fun xs=>by kernel_rfl)
def dE.d1 (a b:C):R:=(bif (decide (b.I<(a.S.size:Int))) then (bif (decide (0≤b.I)) then (bif (decide (b.I<(a.S.size:Int))) then (bif (((a.S.data.getD b.I.toNat 0).toNat:Int)==61) then (bif (decide (0≤b.I)) then (bif (decide (b.I≤(a.S.size:Int))) then (bif (decide (0≤(w64 (b.I+1)))) then (bif (decide ((w64 (b.I+1))≤(a.S.size:Int))) then (bif (decide ((a.S.size:Int)≤(a.S.size:Int))) then (bif (decide (0≤b.I)) then (bif (decide (b.I≤(a.S.size:Int))) then (ae (bd [.s (a.S.extract 0 b.I.toNat)]) fun c=>(bif c.B then (bif (decide (0≤(w64 (b.I+1)))) then (bif (decide ((w64 (b.I+1))≤(a.S.size:Int))) then (bif (decide ((a.S.size:Int)≤(a.S.size:Int))) then (ae (bd [.s (a.S.extract (w64 (b.I+1)).toNat (a.S.size:Int).toNat)]) fun d=>(some (.ret [.s (a.S.extract 0 b.I.toNat),.s (a.S.extract (w64 (b.I+1)).toNat (a.S.size:Int).toNat),.b d.B]))) else none) else none) else none) else (some (.ret [.s (a.S.extract 0 b.I.toNat),.s (a.S.extract (w64 (b.I+1)).toNat (a.S.size:Int).toNat),.b false])))) else none) else none) else none) else none) else none) else none) else none) else (some (.again [a,.i (w64 (b.I+1))]))) else none) else none) else (some (.brk 0 [a])))
def dE.d2 (a:C):R:=(ae (bd [a]) fun b=>(some (.ret [a,.s (bs #[]),.b b.B])))
def dE.d3 (a:C):R:=(ax 0 (lim (apn 2 dE.d1) [a,.i 0]) (apn 1 dE.d2))
def dE:List C→Option (List C):=fun xs=>bl (apn 1 dE.d3 xs)
def kb:FS:=⟨1,⟨[(0,zt)],[]⟩,⟨[(0,(.tu [zt,zt,zo]))],[]⟩,[],dE⟩
theorem pj:aG Tryz.checked.prog T0 138 kb:=bO aI (fn:=Tryz.f138) (c:=Tryz.f138.body.getD .skip) kb (.seq .leaf (.seq (.seq .leaf (.block ⟨[(0,zt)],[]⟩ (.loop ⟨[(0,zt),(5,zi)],[]⟩ .leaf))) .leaf)) [(84,some 26,cf),(84,some 32,cf),(84,some 36,cf)] (.cons cL (.cons cL (.cons cL .nil))) (by kernel_rfl) (by kernel_rfl) (by kernel_rfl) (fun xs=>by kernel_rfl)
def bf.d1 (a b c d:C):R:=(bif (decide (d.I<b.I)) then (bif (decide (0≤d.I)) then (bif (decide (d.I<(a.L.length:Int))) then (call3 (dE [((a.L.getD d.I.toNat []).getD 0 .nil)]) fun e f g=>(bif (e.S.toList==c.S.toList) then (some (.ret [.b false])) else (some (.again [a,b,c,.i (w64 (d.I+1))])))) else none) else none) else (some (.brk 2 [a,b,c])))
def bf.d2 (a b c:C):R:=(some (.again [a,c,.i (w64 (b.I+1))]))
def bf.d3 (a b c:C):R:=(ax 2 (lim (apn 4 bf.d1) [a,b,c,.i 0]) (apn 3 bf.d2))
def bf.d4 (a b c:C):R:=(bif (decide (c.I<(a.L.length:Int))) then (bif (decide (0≤c.I)) then (bif (decide (c.I<(a.L.length:Int))) then (call3 (dE [((a.L.getD c.I.toNat []).getD 0 .nil)]) fun d e f=>(bR (bif (!(!f.B)) then (bif (decide (c.I>0)) then (bif (decide (0≤(w64 (c.I-1)))) then (bif (decide ((w64 (c.I-1))<(a.L.length:Int))) then (bif (decide (0≤c.I)) then (bif (decide (c.I<(a.L.length:Int))) then (bif (!(!(Op.bytesLess (((a.L.getD (w64 (c.I-1)).toNat []).getD 0 .nil).S).toList (((a.L.getD c.I.toNat []).getD 0 .nil).S).toList))) then (bif (d.S.toList==b.S.toList) then (some (.ret [.b false])) else (some (.nrm [a,c,d]))) else (some (.ret [.b false]))) else none) else none) else none) else none) else (some (.nrm [a,c,d]))) else (some (.ret [.b false]))) (apn 3 bf.d3))) else none) else none) else (some (.brk 0 [])))
def bf.d5:R:=(some (.ret [.b true]))
def bf.d6 (a:C):R:=(bif (decide ((a.L.length:Int)>10)) then (some (.ret [.b false])) else (ax 0 (lim (apn 3 bf.d4) [a,.s (bs #[]),.i 0]) (fun xs=>bf.d5)))
def bf:List C→Option (List C):=fun xs=>bl (apn 1 bf.d6 xs)
def k9:FS:=⟨1,⟨[(0,(zl 9))],[]⟩,⟨[(0,zo)],[]⟩,[],bf⟩
theorem wo:aG Tryz.checked.prog T0 121 k9:=bO aI (fn:=Tryz.f121) (c:=Tryz.f121.body.getD .skip) k9 (.seq .leaf (.seq .leaf (.seq .leaf (.seq (.seq .leaf (.block ⟨[],[]⟩ (.loop ⟨[(0,(zl 9)),(3,zt),(4,zi)],[]⟩ (.seq .leaf (.seq (.skip (.seq .leaf (.seq (.join ⟨[(0,(zl 9)),(4,zi),(5,zt)],[]⟩ .leaf) (.seq (.seq .leaf (.block ⟨[(0,(zl 9)),(4,zi),(5,zt)],[]⟩ (.loop ⟨[(0,(zl 9)),(4,zi),(5,zt),(8,zi)],[]⟩ .leaf))) .leaf)))) .leaf))))) .leaf)))) [(138,some 26,kb),(138,some 63,kb)] (.cons pj (.cons pj .nil)) (by kernel_rfl) (by kernel_rfl) (by kernel_rfl) (fun xs=>by kernel_rfl)
def gL.d1 (a b c d e f:C):R:=(ae (bd [a]) fun g=>(bif g.B then (ae (bd [b]) fun h=>(bif h.B then (ae (bf [c]) fun i=>(bif i.B then (ae (fZ [d,.i 0,.i 1000]) fun j=>(bif j.B then (ae (fZ [e,.i 0,.i 1000]) fun k=>(some (.ret [.b k.B]))) else (some (.ret [.b false])))) else (some (.ret [.b false])))) else (some (.ret [.b false])))) else (some (.ret [.b false]))))
def gL:List C→Option (List C):=fun xs=>bl (apn 6 gL.d1 xs)
def kU:FS:=⟨1,⟨[(0,z7)],[]⟩,⟨[(0,zo)],[]⟩,[],gL⟩
theorem vO:aG Tryz.checked.prog T0 89 kU:=bO aI (fn:=Tryz.f89) (c:=Tryz.f89.body.getD .skip) kU .leaf [(39,some 19,eE),(39,some 24,eE),(84,some 5,cf),(84,some 9,cf),(121,some 14,k9)] (.cons fk (.cons fk (.cons cL (.cons cL (.cons wo .nil))))) (by kernel_rfl) (by kernel_rfl) (by kernel_rfl) (fun xs=>by kernel_rfl)
def dY.d1 (a b c d e f g:C):R:=(bif (decide (c.I<(g.L.length:Int))) then (bif (decide (0≤c.I)) then (bif (decide (c.I<(g.L.length:Int))) then (bif ((((g.L.getD c.I.toNat []).getD 11 .nil).S).toList==a.S.toList) then (some (.again [a,.i (w64 (b.I+1)),.i (w64 (c.I+1)),d,e,f,g])) else (some (.again [a,b,.i (w64 (c.I+1)),d,e,f,g]))) else none) else none) else (some (.brk 0 [b])))
def dY.d2 (a:C):R:=(some (.ret [a]))
def dY.d3 (a b c d e:C):R:=(ax 0 (lim (apn 7 dY.d1) [e,.i 0,.i 0,a,b,c,d]) (apn 1 dY.d2))
def dY:List C→Option (List C):=fun xs=>bl (apn 5 dY.d3 xs)
def ng:FS:=⟨2,⟨[(0,z3),(1,zt)],[]⟩,⟨[(0,zi)],[]⟩,[],dY⟩
theorem yT:aG Tryz.checked.prog T0 90 ng:=bO aI (fn:=Tryz.f90) (c:=Tryz.f90.body.getD .skip) ng (.seq .leaf (.seq .leaf (.seq (.seq .leaf (.block ⟨[(5,zi)],[]⟩ (.loop ⟨[(1,zt),(2,(.pt 2 0)),(5,zi),(6,zi)],[(2,z0)]⟩ .leaf))) .leaf))) [] .nil (by kernel_rfl) (by kernel_rfl) (by kernel_rfl) (fun xs=>by kernel_rfl)
def aC.d1 (a b c d e:C):R:=(bif (decide (a.I<(d.L.length:Int))) then (bif (decide (0≤a.I)) then (bif (decide (a.I<(d.L.length:Int))) then (ae (bd [((d.L.getD a.I.toNat []).getD 0 .nil)]) fun f=>(bif (!(!f.B)) then (bif (decide (a.I>0)) then (bif (decide (0≤(w64 (a.I-1)))) then (bif (decide ((w64 (a.I-1))<(d.L.length:Int))) then (bif (!(!(Op.bytesLess (((d.L.getD (w64 (a.I-1)).toNat []).getD 0 .nil).S).toList (((d.L.getD a.I.toNat []).getD 0 .nil).S).toList))) then (ae (fZ [((d.L.getD a.I.toNat []).getD 1 .nil),.i 0,.i 60]) fun g=>(bif (!g.B) then (some (.ret [.b false])) else (some (.again [.i (w64 (a.I+1)),b,c,d,e])))) else (some (.ret [.b false]))) else none) else none) else (ae (fZ [((d.L.getD a.I.toNat []).getD 1 .nil),.i 0,.i 60]) fun h=>(bif (!h.B) then (some (.ret [.b false])) else (some (.again [.i (w64 (a.I+1)),b,c,d,e]))))) else (some (.ret [.b false])))) else none) else none) else (some (.brk 0 [b,c,d,e])))
def aC.d2 (a b c d e f:C):R:=(bif b.B then (some (.ret [.b false])) else (some (.again [.i (w64 (a.I+1)),c,d,e,f])))
def aC.d3 (a b c d e:C):R:=(bif (decide (a.I<(e.L.length:Int))) then (bif (decide (0≤a.I)) then (bif (decide (a.I<(e.L.length:Int))) then (bR (ae (bU [((e.L.getD a.I.toNat []).getD 0 .nil),((e.L.getD a.I.toNat []).getD 1 .nil),((e.L.getD a.I.toNat []).getD 2 .nil),((e.L.getD a.I.toNat []).getD 3 .nil),((e.L.getD a.I.toNat []).getD 4 .nil),((e.L.getD a.I.toNat []).getD 5 .nil),((e.L.getD a.I.toNat []).getD 6 .nil),((e.L.getD a.I.toNat []).getD 7 .nil),((e.L.getD a.I.toNat []).getD 8 .nil),((e.L.getD a.I.toNat []).getD 9 .nil),((e.L.getD a.I.toNat []).getD 10 .nil),((e.L.getD a.I.toNat []).getD 11 .nil)]) fun f=>(bif (!(!f.B)) then (bif (decide (a.I>0)) then (bif (decide (0≤(w64 (a.I-1)))) then (bif (decide ((w64 (a.I-1))<(e.L.length:Int))) then (bif (!(!(Op.bytesLess (((e.L.getD (w64 (a.I-1)).toNat []).getD 0 .nil).S).toList (((e.L.getD a.I.toNat []).getD 0 .nil).S).toList))) then (ae (cP [b,c,d,e,((e.L.getD a.I.toNat []).getD 1 .nil)]) fun g=>(bif (!(decide (g.I<0))) then (bif (!((((e.L.getD a.I.toNat []).getD 11 .nil).S).toList==(bs #[]).toList)) then (ae (cW [b,c,d,e,((e.L.getD a.I.toNat []).getD 11 .nil)]) fun h=>(some (.nrm [a,.b (decide (h.I<0)),b,c,d,e]))) else (some (.nrm [a,.b false,b,c,d,e]))) else (some (.nrm [a,.b true,b,c,d,e])))) else (some (.nrm [a,.b true,b,c,d,e]))) else none) else none) else (ae (cP [b,c,d,e,((e.L.getD a.I.toNat []).getD 1 .nil)]) fun i=>(bif (!(decide (i.I<0))) then (bif (!((((e.L.getD a.I.toNat []).getD 11 .nil).S).toList==(bs #[]).toList)) then (ae (cW [b,c,d,e,((e.L.getD a.I.toNat []).getD 11 .nil)]) fun j=>(some (.nrm [a,.b (decide (j.I<0)),b,c,d,e]))) else (some (.nrm [a,.b false,b,c,d,e]))) else (some (.nrm [a,.b true,b,c,d,e]))))) else (some (.nrm [a,.b true,b,c,d,e])))) (apn 6 aC.d2)) else none) else none) else (some (.brk 2 [b,c,d,e])))
def aC.d4 (a b c d e:C):R:=(bif (decide (a.I<(c.L.length:Int))) then (bif (decide (0≤a.I)) then (bif (decide (a.I<(c.L.length:Int))) then (call2 (bI [b,c,d,e,((c.L.getD a.I.toNat []).getD 0 .nil)]) fun f g=>(ae (gL [((c.L.getD a.I.toNat []).getD 0 .nil),((c.L.getD a.I.toNat []).getD 1 .nil),((c.L.getD a.I.toNat []).getD 2 .nil),((c.L.getD a.I.toNat []).getD 3 .nil),((c.L.getD a.I.toNat []).getD 4 .nil),((c.L.getD a.I.toNat []).getD 5 .nil)]) fun h=>(bif (!(!h.B)) then (bif (decide (a.I>0)) then (bif (decide (0≤(w64 (a.I-1)))) then (bif (decide ((w64 (a.I-1))<(c.L.length:Int))) then (bif (!(!(Op.bytesLess (((c.L.getD (w64 (a.I-1)).toNat []).getD 0 .nil).S).toList (((c.L.getD a.I.toNat []).getD 0 .nil).S).toList))) then (bif (!(decide (f.I>((c.L.getD a.I.toNat []).getD 3 .nil).I))) then (bif (!(decide (g.I>((c.L.getD a.I.toNat []).getD 4 .nil).I))) then (ae (dY [b,c,d,e,((c.L.getD a.I.toNat []).getD 0 .nil)]) fun i=>(bif (decide (i.I>10)) then (some (.ret [.b false])) else (some (.again [.i (w64 (a.I+1)),b,c,d,e])))) else (some (.ret [.b false]))) else (some (.ret [.b false]))) else (some (.ret [.b false]))) else none) else none) else (bif (!(decide (f.I>((c.L.getD a.I.toNat []).getD 3 .nil).I))) then (bif (!(decide (g.I>((c.L.getD a.I.toNat []).getD 4 .nil).I))) then (ae (dY [b,c,d,e,((c.L.getD a.I.toNat []).getD 0 .nil)]) fun j=>(bif (decide (j.I>10)) then (some (.ret [.b false])) else (some (.again [.i (w64 (a.I+1)),b,c,d,e])))) else (some (.ret [.b false]))) else (some (.ret [.b false])))) else (some (.ret [.b false]))))) else none) else none) else (some (.brk 4 [])))
def aC.d5:R:=(some (.ret [.b true]))
def aC.d6 (a b c d:C):R:=(ax 4 (lim (apn 5 aC.d4) [.i 0,a,b,c,d]) (fun xs=>aC.d5))
def aC.d7 (a b c d:C):R:=(ax 2 (lim (apn 5 aC.d3) [.i 0,a,b,c,d]) (apn 4 aC.d6))
def aC.d8 (a b c d:C):R:=(bif (!(decide ((b.L.length:Int)>12))) then (bif (!(decide ((c.L.length:Int)>30))) then (bif (decide ((d.L.length:Int)>60)) then (some (.ret [.b false])) else (ax 0 (lim (apn 5 aC.d1) [.i 0,a,b,c,d]) (apn 4 aC.d7))) else (some (.ret [.b false]))) else (some (.ret [.b false])))
def aC:List C→Option (List C):=fun xs=>bl (apn 4 aC.d8 xs)
def iB:FS:=⟨1,⟨[(0,z3)],[]⟩,⟨[(0,zo)],[]⟩,[],aC⟩
theorem nV:aG Tryz.checked.prog T0 37 iB:=bO aI (fn:=Tryz.f37) (c:=Tryz.f37.body.getD .skip) iB (.seq .leaf (.seq .leaf (.seq (.seq .leaf (.block ⟨[(1,(.pt 1 0))],[(1,z0)]⟩ (.loop ⟨[(1,(.pt 1 0)),(3,zi)],[(1,z0)]⟩ .leaf))) (.seq (.seq .leaf (.block ⟨[(1,(.pt 1 0))],[(1,z0)]⟩ (.loop ⟨[(1,(.pt 1 0)),(5,zi)],[(1,z0)]⟩ (.seq .leaf (.seq (.skip (.seq .leaf (.seq (.join ⟨[(1,(.pt 1 0)),(5,zi),(114,zo)],[(1,z0)]⟩ .leaf) .leaf))) .leaf))))) (.seq (.seq .leaf (.block ⟨[],[]⟩ (.loop ⟨[(1,(.pt 1 0)),(7,zi)],[(1,z0)]⟩ .leaf))) .leaf))))) [(39,some 62,eE),(84,some 41,cf),(85,some 78,ma),(86,some 100,lz),(87,some 111,fX),(88,some 131,lC),(89,some 135,kU),(90,some 169,ng)] (.cons fk (.cons cL (.cons wY (.cons vL (.cons ji (.cons uH (.cons vO (.cons yT .nil)))))))) (by kernel_rfl) (by kernel_rfl) (by kernel_rfl) (fun xs=>by kernel_rfl)
def fS.d1 (a b c d e f:C):R:=(bif (decide (ah.length+c.L.length≤4294967296)) then (some (.ret [a,b,d,e,f,.l (ah++c.L)])) else none)
def fS:List C→Option (List C):=fun xs=>bl (apn 6 fS.d1 xs)
def jm:FS:=⟨1,⟨[(0,z7)],[]⟩,⟨[(0,(.ag [zt,zt,(.ow 3000),zi,zi,zo]))],[(3000,.arr 9 1)]⟩,[],fS⟩
theorem oE:aG Tryz.checked.prog T0 92 jm:=bO aI (fn:=Tryz.f92) (c:=Tryz.f92.body.getD .skip) jm .leaf [] .nil (by kernel_rfl) (by kernel_rfl) (by kernel_rfl) (fun xs=>by kernel_rfl)
def gN.d1 (a b c d e f g h i j k l:C):R:=(bif (decide (ah.length+h.L.length≤4294967296)) then (some (.ret [a,b,c,d,e,f,g,i,j,k,l,.l (ah++h.L)])) else none)
def gN:List C→Option (List C):=fun xs=>bl (apn 12 gN.d1 xs)
def j1:FS:=⟨1,⟨[(0,z5)],[]⟩,⟨[(0,(.ag [zt,zt,zi,zi,zi,zi,zt,(.ow 3000),zi,zt,zt,zt]))],[(3000,.arr 122 1)]⟩,[],gN⟩
theorem pV:aG Tryz.checked.prog T0 93 j1:=bO aI (fn:=Tryz.f93) (c:=Tryz.f93.body.getD .skip) j1 .leaf [] .nil (by kernel_rfl) (by kernel_rfl) (by kernel_rfl) (fun xs=>by kernel_rfl)
def cj.d1 (a b c d e f g h i j k l m:C):R:=(bif (decide (a.I<(c.L.length:Int))) then (bif (decide (0≤a.I)) then (bif (decide (a.I<(c.L.length:Int))) then (call6 (fS [((c.L.getD a.I.toNat []).getD 0 .nil),((c.L.getD a.I.toNat []).getD 1 .nil),((c.L.getD a.I.toNat []).getD 2 .nil),((c.L.getD a.I.toNat []).getD 3 .nil),((c.L.getD a.I.toNat []).getD 4 .nil),((c.L.getD a.I.toNat []).getD 5 .nil)]) fun n o p q r s=>(bif (decide (k.L.length+(rows [[n,o,.l s.L,p,q,r]]).length≤4294967296)) then (some (.again [.i (w64 (a.I+1)),b,c,d,e,f,g,.l h.L,.l i.L,.l j.L,.l (k.L++(rows [[n,o,.l s.L,p,q,r]])),.l l.L,.l m.L])) else none)) else none) else none) else (some (.brk 0 [b,c,d,e,f,g,.l h.L,.l i.L,.l j.L,.l k.L,.l l.L,.l m.L])))
def cj.d2 (a b c d e f g h i j k l m:C):R:=(bif (decide (a.I<(e.L.length:Int))) then (bif (decide (0≤a.I)) then (bif (decide (a.I<(e.L.length:Int))) then (call12 (gN [((e.L.getD a.I.toNat []).getD 0 .nil),((e.L.getD a.I.toNat []).getD 1 .nil),((e.L.getD a.I.toNat []).getD 2 .nil),((e.L.getD a.I.toNat []).getD 3 .nil),((e.L.getD a.I.toNat []).getD 4 .nil),((e.L.getD a.I.toNat []).getD 5 .nil),((e.L.getD a.I.toNat []).getD 6 .nil),((e.L.getD a.I.toNat []).getD 7 .nil),((e.L.getD a.I.toNat []).getD 8 .nil),((e.L.getD a.I.toNat []).getD 9 .nil),((e.L.getD a.I.toNat []).getD 10 .nil),((e.L.getD a.I.toNat []).getD 11 .nil)]) fun n o p q r s t u v w x y=>(bif (decide (m.L.length+(rows [[n,o,p,q,r,s,t,.l y.L,u,v,w,x]]).length≤4294967296)) then (some (.again [.i (w64 (a.I+1)),b,c,d,e,f,g,.l h.L,.l i.L,.l j.L,.l k.L,.l l.L,.l (m.L++(rows [[n,o,p,q,r,s,t,.l y.L,u,v,w,x]]))])) else none)) else none) else none) else (some (.brk 2 [f,g,.l h.L,.l i.L,.l j.L,.l k.L,.l l.L,.l m.L])))
def cj.d3 (a b c d e f g h:C):R:=(some (.ret [b,.l f.L,.l g.L,.l h.L]))
def cj.d4 (a b c d e f g h i j k l:C):R:=(ax 2 (lim (apn 13 cj.d2) [.i 0,a,b,c,d,e,f,.l g.L,.l h.L,.l i.L,.l j.L,.l k.L,.l l.L]) (apn 8 cj.d3))
def cj.d5 (a b c d:C):R:=(bif (decide (ah.length+c.L.length≤4294967296)) then (ax 0 (lim (apn 13 cj.d1) [.i 0,a,b,c,d,.b false,.b a.B,.l ah,.l ah,.l ah,.l ah,.l (ah++c.L),.l ah]) (apn 12 cj.d4)) else none)
def cj:List C→Option (List C):=fun xs=>bl (apn 4 cj.d5 xs)
def kJ:FS:=⟨1,⟨[(0,z3)],[]⟩,⟨[(0,z12)],[(3000,.arr 30 1),(3001,.arr 86 1),(3002,.arr 33 1)]⟩,[],cj⟩
theorem rJ:aG Tryz.checked.prog T0 91 kJ:=uO aI [28,46] false (fn:=Tryz.f91) (c:=Tryz.f91.body.getD .skip) kJ (.seq .leaf (.seq .leaf (.seq (.seq .leaf (.block ⟨[(1,(.pt 1 0)),(2,(.pt 2 0)),(3,(.pt 3 0))],[(1,z0),(2,z14),(3,.var 27 [zo,(.ow 1148103),(.ow 8),(.ow 1148104)]),(1148100,.arr 30 1),(1148101,.arr 86 1),(1148102,.arr 33 1),(1148103,.arr 30 1),(8,.arr 86 1),(1148104,.arr 33 1)]⟩ (.loop ⟨[(1,(.pt 1 0)),(2,(.pt 2 0)),(3,(.pt 3 0)),(4,zi)],[(1,z0),(2,z14),(3,.var 27 [zo,(.ow 1148103),(.ow 8),(.ow 1148104)]),(1148100,.arr 30 1),(1148101,.arr 86 1),(1148102,.arr 33 1),(1148103,.arr 30 1),(8,.arr 86 1),(1148104,.arr 33 1)]⟩ .leaf))) (.seq (.seq .leaf (.block ⟨[(2,(.pt 2 0)),(3,(.pt 3 0))],[(2,z14),(3,.var 27 [zo,(.ow 1148103),(.ow 8),(.ow 1148104)]),(1148100,.arr 30 1),(1148101,.arr 86 1),(1148102,.arr 33 1),(1148103,.arr 30 1),(8,.arr 86 1),(1148104,.arr 33 1)]⟩ (.loop ⟨[(1,(.pt 1 0)),(2,(.pt 2 0)),(3,(.pt 3 0)),(5,zi)],[(1,z0),(2,z14),(3,.var 27 [zo,(.ow 1148103),(.ow 8),(.ow 1148104)]),(1148100,.arr 30 1),(1148101,.arr 86 1),(1148102,.arr 33 1),(1148103,.arr 30 1),(8,.arr 86 1),(1148104,.arr 33 1)]⟩ .leaf))) .leaf)))) [(92,some 27,jm),(93,some 45,j1)] (.cons oE (.cons pV .nil)) (by kernel_rfl) (by kernel_rfl) (by kernel_rfl) (fun xs=>by kernel_rfl)
def eI.d1 (a b c d e f:C):R:=(bif (decide (b.I<(f.L.length:Int))) then (bif (decide (0≤b.I)) then (bif (decide (b.I<(f.L.length:Int))) then (bif ((((f.L.getD b.I.toNat []).getD 0 .nil).S).toList==a.S.toList) then (some (.ret [b])) else (some (.again [a,.i (w64 (b.I+1)),c,d,e,f]))) else none) else none) else (some (.brk 0 [])))
def eI.d2:R:=(some (.ret [.i (-1)]))
def eI.d3 (a b c d e:C):R:=(ax 0 (lim (apn 6 eI.d1) [e,.i 0,a,b,c,d]) (fun xs=>eI.d2))
def eI:List C→Option (List C):=fun xs=>bl (apn 5 eI.d3 xs)
def lM:FS:=⟨2,⟨[(0,z3),(1,zt)],[]⟩,⟨[(0,zi)],[]⟩,[],eI⟩
theorem ta:aG Tryz.checked.prog T0 94 lM:=bO aI (fn:=Tryz.f94) (c:=Tryz.f94.body.getD .skip) lM (.seq .leaf (.seq (.seq .leaf (.block ⟨[],[]⟩ (.loop ⟨[(1,zt),(2,(.pt 2 0)),(5,zi)],[(2,z0)]⟩ .leaf))) .leaf)) [] .nil (by kernel_rfl) (by kernel_rfl) (by kernel_rfl) (fun xs=>by kernel_rfl)
end
end Go.Ev
namespace Go.Ev
open Go.Proofs
noncomputable section
def ak.d1 (a b c d e f g h i j k l m n o p q r s t u v w x y z a0 a1 a2 a3:C):R:=(bif (decide (a.I<(a1.L.length:Int))) then (bif (decide (0≤a.I)) then (bif (decide (a.I<(a1.L.length:Int))) then (bif (Op.bytesLess (((a1.L.getD a.I.toNat []).getD 0 .nil).S).toList c.S.toList) then (some (.again [.i (w64 (a.I+1)),b,c,d,e,f,g,h,i,j,k,l,m,n,o,p,q,r,s,t,u,v,w,x,.l y.L,.l z.L,.l a0.L,.l a1.L,.l a2.L,.l a3.L])) else (some (.brk 1 [a,b,c,d,e,f,g,h,i,j,k,l,m,n,o,p,q,r,s,t,u,v,w,x,.l y.L,.l z.L,.l a0.L,.l a1.L,.l a2.L,.l a3.L]))) else none) else none) else (some (.brk 1 [a,b,c,d,e,f,g,h,i,j,k,l,m,n,o,p,q,r,s,t,u,v,w,x,.l y.L,.l z.L,.l a0.L,.l a1.L,.l a2.L,.l a3.L])))
def ak.d2 (a b c d e f g h i j k l m n o p q r s t u v w x y z a0 a1 a2 a3 a4:C):R:=(bif (decide (0≤a.I)) then (bif (decide (a.I≤(z.L.length:Int))) then (bif (decide (ah.length+((z.L.take a.I.toNat).drop 0).length≤4294967296)) then (call6 (fS [d,e,f,g,h,i]) fun a5 a6 a7 a8 a9 b0=>(bif (decide ((ah++((z.L.take a.I.toNat).drop 0)).length+(rows [[a5,a6,.l b0.L,a7,a8,a9]]).length≤4294967296)) then (bif (decide (((ah++((z.L.take a.I.toNat).drop 0))++(rows [[a5,a6,.l b0.L,a7,a8,a9]])).length+b.L.length≤4294967296)) then (some (.ret [y,.b true,.l (((ah++((z.L.take a.I.toNat).drop 0))++(rows [[a5,a6,.l b0.L,a7,a8,a9]]))++b.L),.l a3.L,.l a4.L])) else none) else none)) else none) else none) else none)
def ak.d3 (a b c d e f g h i j k l m n o p q r s t u v w x y z a0 a1 a2 a3:C):R:=(bif (decide (0≤a.I)) then (bif (decide (a.I≤(a1.L.length:Int))) then (bif (decide ((a1.L.length:Int)≤(a1.L.length:Int))) then (bR (bif (decide ((((a1.L.take (a1.L.length:Int).toNat).drop a.I.toNat).length:Int)>0)) then (bif (decide (0<(((a1.L.take (a1.L.length:Int).toNat).drop a.I.toNat).length:Int))) then (bif ((((((a1.L.take (a1.L.length:Int).toNat).drop a.I.toNat).getD 0 []).getD 0 .nil).S).toList==c.S.toList) then (bif (decide (1≤(((a1.L.take (a1.L.length:Int).toNat).drop a.I.toNat).length:Int))) then (bif (decide ((((a1.L.take (a1.L.length:Int).toNat).drop a.I.toNat).length:Int)≤(((a1.L.take (a1.L.length:Int).toNat).drop a.I.toNat).length:Int))) then (some (.nrm [a,.l ((((a1.L.take (a1.L.length:Int).toNat).drop a.I.toNat).take (((a1.L.take (a1.L.length:Int).toNat).drop a.I.toNat).length:Int).toNat).drop 1),b,c,d,e,f,g,h,i,j,k,l,m,n,o,p,q,r,s,t,u,v,w,x,.l a1.L,.l y.L,.l z.L,.l a0.L,.l a2.L,.l a3.L])) else none) else none) else (some (.nrm [a,.l ((a1.L.take (a1.L.length:Int).toNat).drop a.I.toNat),b,c,d,e,f,g,h,i,j,k,l,m,n,o,p,q,r,s,t,u,v,w,x,.l a1.L,.l y.L,.l z.L,.l a0.L,.l a2.L,.l a3.L]))) else none) else (some (.nrm [a,.l ((a1.L.take (a1.L.length:Int).toNat).drop a.I.toNat),b,c,d,e,f,g,h,i,j,k,l,m,n,o,p,q,r,s,t,u,v,w,x,.l a1.L,.l y.L,.l z.L,.l a0.L,.l a2.L,.l a3.L]))) (apn 31 ak.d2)) else none) else none) else none)
def ak.d4 (a b c d e f g h i j k l m n o p q r s t u v w x y z a0 a1 a2 a3:C):R:=(bif (decide (a.I<(a3.L.length:Int))) then (bif (decide (0≤a.I)) then (bif (decide (a.I<(a3.L.length:Int))) then (bif ((((a3.L.getD a.I.toNat []).getD 11 .nil).S).toList==u.S.toList) then (bif (decide (0≤a.I)) then (bif (decide (a.I<(a3.L.length:Int))) then (some (.again [.i (w64 (a.I+1)),b,c,d,e,f,g,h,i,j,k,l,m,n,o,p,q,r,s,t,u,v,w,x,.l y.L,.l z.L,.l a0.L,.l a1.L,.l a2.L,.l (a3.L.set a.I.toNat (aK (a3.L.getD a.I.toNat []) 11 [.s (bs #[])]))])) else none) else none) else (some (.again [.i (w64 (a.I+1)),b,c,d,e,f,g,h,i,j,k,l,m,n,o,p,q,r,s,t,u,v,w,x,.l y.L,.l z.L,.l a0.L,.l a1.L,.l a2.L,.l a3.L]))) else none) else none) else (some (.brk 3 [w,x,.l y.L,.l z.L,.l a0.L,.l a1.L,.l a2.L,.l a3.L])))
def ak.d5 (a b c d e f g h:C):R:=(some (.ret [b,.b true,.l f.L,.l g.L,.l h.L]))
def ak.d6 (a b c d e f g h i j k l m n o p q r s t u v w x y z a0 a1 a2 a3:C):R:=(bif (decide (a.I<(a3.L.length:Int))) then (bif (decide (0≤a.I)) then (bif (decide (a.I<(a3.L.length:Int))) then (bif (Op.bytesLess (((a3.L.getD a.I.toNat []).getD 0 .nil).S).toList i.S.toList) then (some (.again [.i (w64 (a.I+1)),b,c,d,e,f,g,h,i,j,k,l,m,n,o,p,q,r,s,t,u,v,w,x,.l y.L,.l z.L,.l a0.L,.l a1.L,.l a2.L,.l a3.L])) else (some (.brk 5 [a,b,c,d,e,f,g,h,i,j,k,l,m,n,o,p,q,r,s,t,u,v,w,x,.l y.L,.l z.L,.l a0.L,.l a1.L,.l a2.L,.l a3.L]))) else none) else none) else (some (.brk 5 [a,b,c,d,e,f,g,h,i,j,k,l,m,n,o,p,q,r,s,t,u,v,w,x,.l y.L,.l z.L,.l a0.L,.l a1.L,.l a2.L,.l a3.L])))
def ak.d7 (a b c d e f g h i j k l m n o p q r s t u v w x y z a0 a1 a2 a3 a4:C):R:=(bif (decide (0≤a.I)) then (bif (decide (a.I≤(z.L.length:Int))) then (bif (decide (ah.length+((z.L.take a.I.toNat).drop 0).length≤4294967296)) then (call12 (gN [j,k,l,m,n,o,p,q,r,s,t,u]) fun a5 a6 a7 a8 a9 b0 b1 b2 b3 b4 b5 b6=>(bif (decide ((ah++((z.L.take a.I.toNat).drop 0)).length+(rows [[a5,a6,a7,a8,a9,b0,b1,.l b6.L,b2,b3,b4,b5]]).length≤4294967296)) then (bif (decide (((ah++((z.L.take a.I.toNat).drop 0))++(rows [[a5,a6,a7,a8,a9,b0,b1,.l b6.L,b2,b3,b4,b5]])).length+b.L.length≤4294967296)) then (some (.ret [y,.b true,.l a3.L,.l a4.L,.l (((ah++((z.L.take a.I.toNat).drop 0))++(rows [[a5,a6,a7,a8,a9,b0,b1,.l b6.L,b2,b3,b4,b5]]))++b.L)])) else none) else none)) else none) else none) else none)
def ak.d8 (a b c d e f g h i j k l m n o p q r s t u v w x y z a0 a1 a2 a3:C):R:=(bif (decide (0≤a.I)) then (bif (decide (a.I≤(a3.L.length:Int))) then (bif (decide ((a3.L.length:Int)≤(a3.L.length:Int))) then (bR (bif (decide ((((a3.L.take (a3.L.length:Int).toNat).drop a.I.toNat).length:Int)>0)) then (bif (decide (0<(((a3.L.take (a3.L.length:Int).toNat).drop a.I.toNat).length:Int))) then (bif ((((((a3.L.take (a3.L.length:Int).toNat).drop a.I.toNat).getD 0 []).getD 0 .nil).S).toList==i.S.toList) then (bif (decide (1≤(((a3.L.take (a3.L.length:Int).toNat).drop a.I.toNat).length:Int))) then (bif (decide ((((a3.L.take (a3.L.length:Int).toNat).drop a.I.toNat).length:Int)≤(((a3.L.take (a3.L.length:Int).toNat).drop a.I.toNat).length:Int))) then (some (.nrm [a,.l ((((a3.L.take (a3.L.length:Int).toNat).drop a.I.toNat).take (((a3.L.take (a3.L.length:Int).toNat).drop a.I.toNat).length:Int).toNat).drop 1),b,c,d,e,f,g,h,i,j,k,l,m,n,o,p,q,r,s,t,u,v,w,x,.l a3.L,.l y.L,.l z.L,.l a0.L,.l a1.L,.l a2.L])) else none) else none) else (some (.nrm [a,.l ((a3.L.take (a3.L.length:Int).toNat).drop a.I.toNat),b,c,d,e,f,g,h,i,j,k,l,m,n,o,p,q,r,s,t,u,v,w,x,.l a3.L,.l y.L,.l z.L,.l a0.L,.l a1.L,.l a2.L]))) else none) else (some (.nrm [a,.l ((a3.L.take (a3.L.length:Int).toNat).drop a.I.toNat),b,c,d,e,f,g,h,i,j,k,l,m,n,o,p,q,r,s,t,u,v,w,x,.l a3.L,.l y.L,.l z.L,.l a0.L,.l a1.L,.l a2.L]))) (apn 31 ak.d7)) else none) else none) else none)
def ak.d9 (a b c d e f g h i j k l m n o p q r s t u v w x y:C):R:=(call4 (cj [a,b,c,d]) fun z a0 a1 a2=>(bif (e.I==1) then (ax 1 (lim (apn 30 ak.d1) [.i 0,e,f,g,h,i,j,k,l,m,n,o,p,q,r,s,t,u,v,w,x,y,.b false,z,.l ah,.l ah,.l ah,.l a0.L,.l a1.L,.l a2.L]) (apn 30 ak.d3)) else (bif (e.I==2) then (ae (cW [z,.l a0.L,.l a1.L,.l a2.L,x]) fun a3=>(bif (decide (a3.I<0)) then (some (.ret [z,.b false,.l a0.L,.l a1.L,.l a2.L])) else (bif (decide (0≤a3.I)) then (bif (decide (a3.I≤(a0.L.length:Int))) then (bif (decide (ah.length+((a0.L.take a3.I.toNat).drop 0).length≤4294967296)) then (bif (decide (0≤(w64 (a3.I+1)))) then (bif (decide ((w64 (a3.I+1))≤(a0.L.length:Int))) then (bif (decide ((a0.L.length:Int)≤(a0.L.length:Int))) then (bif (decide ((ah++((a0.L.take a3.I.toNat).drop 0)).length+((a0.L.take (a0.L.length:Int).toNat).drop (w64 (a3.I+1)).toNat).length≤4294967296)) then (ax 3 (lim (apn 30 ak.d4) [.i 0,e,f,g,h,i,j,k,l,m,n,o,p,q,r,s,t,u,v,w,x,y,.b false,z,.l ah,.l ah,.l ah,.l ((ah++((a0.L.take a3.I.toNat).drop 0))++((a0.L.take (a0.L.length:Int).toNat).drop (w64 (a3.I+1)).toNat)),.l a1.L,.l a2.L]) (apn 8 ak.d5)) else none) else none) else none) else none) else none) else none) else none))) else (bif (e.I==3) then (ax 5 (lim (apn 30 ak.d6) [.i 0,e,f,g,h,i,j,k,l,m,n,o,p,q,r,s,t,u,v,w,x,y,.b false,z,.l ah,.l ah,.l ah,.l a0.L,.l a1.L,.l a2.L]) (apn 30 ak.d8)) else (bif (e.I==4) then (ae (eI [z,.l a0.L,.l a1.L,.l a2.L,x]) fun a4=>(bif (decide (a4.I<0)) then (some (.ret [z,.b false,.l a0.L,.l a1.L,.l a2.L])) else (bif (decide (0≤a4.I)) then (bif (decide (a4.I≤(a2.L.length:Int))) then (bif (decide (ah.length+((a2.L.take a4.I.toNat).drop 0).length≤4294967296)) then (bif (decide (0≤(w64 (a4.I+1)))) then (bif (decide ((w64 (a4.I+1))≤(a2.L.length:Int))) then (bif (decide ((a2.L.length:Int)≤(a2.L.length:Int))) then (bif (decide ((ah++((a2.L.take a4.I.toNat).drop 0)).length+((a2.L.take (a2.L.length:Int).toNat).drop (w64 (a4.I+1)).toNat).length≤4294967296)) then (some (.ret [z,.b true,.l a0.L,.l a1.L,.l ((ah++((a2.L.take a4.I.toNat).drop 0))++((a2.L.take (a2.L.length:Int).toNat).drop (w64 (a4.I+1)).toNat))])) else none) else none) else none) else none) else none) else none) else none))) else (bif (e.I==5) then (ae (eI [z,.l a0.L,.l a1.L,.l a2.L,x]) fun a5=>(bif (!(decide (a5.I<0))) then (bif (!(y.S.toList==(bs #[]).toList)) then (ae (cW [z,.l a0.L,.l a1.L,.l a2.L,y]) fun a6=>(bif (decide (a6.I<0)) then (some (.ret [z,.b false,.l a0.L,.l a1.L,.l a2.L])) else (bif (decide (0≤a5.I)) then (bif (decide (a5.I<(a2.L.length:Int))) then (some (.ret [z,.b true,.l a0.L,.l a1.L,.l (a2.L.set a5.I.toNat (aK (a2.L.getD a5.I.toNat []) 11 [y]))])) else none) else none))) else (bif (decide (0≤a5.I)) then (bif (decide (a5.I<(a2.L.length:Int))) then (some (.ret [z,.b true,.l a0.L,.l a1.L,.l (a2.L.set a5.I.toNat (aK (a2.L.getD a5.I.toNat []) 11 [y]))])) else none) else none)) else (some (.ret [z,.b false,.l a0.L,.l a1.L,.l a2.L])))) else (some (.ret [z,.b true,.l a0.L,.l a1.L,.l a2.L]))))))))
def ak:List C→Option (List C):=fun xs=>bl (apn 25 ak.d9 xs)
def mR:FS:=⟨2,⟨[(0,z3),(1,z9)],[]⟩,⟨[(0,(.tu [z12,zo]))],[(3000,.arr 30),(3001,.arr 86 1),(3002,.arr 33)]⟩,[],ak⟩
theorem yd:aG Tryz.checked.prog T0 38 mR:=uO aI [68,165] false (fn:=Tryz.f38) (c:=Tryz.f38.body.getD .skip) mR (.seq .leaf (.seq .leaf (.seq (.seq .leaf (.skip (.seq .leaf (.cond (.seq .leaf (.seq (.block ⟨[(3,(.pt 3 0)),(4,(.pt 4 0)),(6,(.pt 6 0)),(7,zi)],[(3,z4),(4,.var 27 [zo,(.ow 1136500),(.ow 1136501),(.ow 1136502)]),(6,.var 27 [zo,(.ow 72632),(.ow 72633),(.ow 72634)]),(1136500,.arr 30 1),(1136501,.arr 86 1),(1136502,.arr 33 1),(72632,.arr 30 1),(72633,.arr 86 1),(72634,.arr 33 1)]⟩ (.loop ⟨[(3,(.pt 3 0)),(4,(.pt 4 0)),(6,(.pt 6 0)),(7,zi)],[(3,z4),(4,.var 27 [zo,(.ow 1136500),(.ow 1136501),(.ow 1136502)]),(6,.var 27 [zo,(.ow 72632),(.ow 72633),(.ow 72634)]),(1136500,.arr 30 1),(1136501,.arr 86 1),(1136502,.arr 33 1),(72632,.arr 30 1),(72633,.arr 86 1),(72634,.arr 33 1)]⟩ .leaf)) (.seq .leaf (.seq (.join ⟨[(3,(.pt 3 0)),(4,(.pt 4 0)),(6,(.pt 6 0)),(7,zi),(8,(zl 30))],[(3,z4),(4,.var 27 [zo,(.ow 1136500),(.ow 1136501),(.ow 1136502)]),(6,.var 27 [zo,(zl 30),(.ow 72633),(.ow 72634)]),(1136500,.arr 30 1),(1136501,.arr 86 1),(1136502,.arr 33 1),(72633,.arr 86 1),(72634,.arr 33 1)]⟩ (.frz [72632] .leaf)) .leaf)))) (.seq .leaf (.cond (.seq .leaf (.seq .leaf (.seq .leaf (.seq .leaf (.block ⟨[(4,(.pt 4 0)),(6,(.pt 6 0))],[(4,.var 27 [zo,(.ow 1140100),(.ow 1140101),(.ow 1140102)]),(6,.var 27 [zo,(.ow 82),(.ow 72633),(.ow 72634)]),(1140100,.arr 30 1),(1140101,.arr 86 1),(1140102,.arr 33 1),(82,.arr 30),(72633,.arr 86 1),(72634,.arr 33 1)]⟩ (.loop ⟨[(3,(.pt 3 0)),(4,(.pt 4 0)),(6,(.pt 6 0)),(10,zi)],[(3,z4),(4,.var 27 [zo,(.ow 1140100),(.ow 1140101),(.ow 1140102)]),(6,.var 27 [zo,(.ow 82),(.ow 72633),(.ow 72634)]),(1140100,.arr 30 1),(1140101,.arr 86 1),(1140102,.arr 33 1),(82,.arr 30),(72633,.arr 86 1),(72634,.arr 33 1)]⟩ .leaf)))))) (.seq .leaf (.cond (.seq .leaf (.seq (.block ⟨[(3,(.pt 3 0)),(4,(.pt 4 0)),(6,(.pt 6 0)),(11,zi)],[(3,z4),(4,.var 27 [zo,(.ow 1142300),(.ow 1142301),(.ow 1142302)]),(6,.var 27 [zo,(.ow 72632),(.ow 72633),(.ow 72634)]),(1142300,.arr 30 1),(1142301,.arr 86 1),(1142302,.arr 33 1),(72632,.arr 30 1),(72633,.arr 86 1),(72634,.arr 33 1)]⟩ (.loop ⟨[(3,(.pt 3 0)),(4,(.pt 4 0)),(6,(.pt 6 0)),(11,zi)],[(3,z4),(4,.var 27 [zo,(.ow 1142300),(.ow 1142301),(.ow 1142302)]),(6,.var 27 [zo,(.ow 72632),(.ow 72633),(.ow 72634)]),(1142300,.arr 30 1),(1142301,.arr 86 1),(1142302,.arr 33 1),(72632,.arr 30 1),(72633,.arr 86 1),(72634,.arr 33 1)]⟩ .leaf)) (.seq .leaf (.seq (.join ⟨[(3,(.pt 3 0)),(4,(.pt 4 0)),(6,(.pt 6 0)),(11,zi),(12,(zl 33))],[(3,z4),(4,.var 27 [zo,(.ow 1142300),(.ow 1142301),(.ow 1142302)]),(6,.var 27 [zo,(.ow 72632),(.ow 72633),(zl 33)]),(1142300,.arr 30 1),(1142301,.arr 86 1),(1142302,.arr 33 1),(72632,.arr 30 1),(72633,.arr 86 1)]⟩ (.frz [72634] .leaf)) .leaf)))) .leaf)))))))) .leaf))) [(87,some 78,fX),(87,some 208,fX),(91,some 16,kJ),(92,some 67,jm),(93,some 164,j1),(94,some 175,lM),(94,some 197,lM)] (.cons ji (.cons ji (.cons rJ (.cons oE (.cons pV (.cons ta (.cons ta .nil))))))) (by kernel_rfl) (by kernel_rfl) (by kernel_rfl) (fun xs=>by kernel_rfl)
def bm.d1 (a b c d e f g h i j k l m n o p q r s t u v w x y z a0 a1 a2 a3:C):R:=(bif (!a.B) then (some (.ret [.b false,.i 3,.l ah,.l ah,.l ah])) else (ae (fZ [b,.i 1,.i 5]) fun a4=>(bif (!a4.B) then (some (.ret [.b false,.i 4,.l ah,.l ah,.l ah])) else (some (.ret [x,.i 0,.l a1.L,.l a2.L,.l a3.L])))))
def bm.d2 (a b c d e f g h i j k l m n o p q r s t u v w x y:C):R:=(ae (aC [a,b,c,d]) fun z=>(bif (!z.B) then (some (.ret [.b false,.i 1,.l ah,.l ah,.l ah])) else (call5 (ak [a,b,c,d,e,f,g,h,i,j,k,l,m,n,o,p,q,r,s,t,u,v,w,x,y]) fun a0 a1 a2 a3 a4=>(bR (bif a1.B then (ae (aC [a0,.l a2.L,.l a3.L,.l a4.L]) fun a5=>(bif (!a5.B) then (some (.ret [.b false,.i 2,.l ah,.l ah,.l ah])) else (some (.nrm [.b a1.B,e,f,g,h,i,j,k,l,m,n,o,p,q,r,s,t,u,v,w,x,y,.b false,a0,.l ah,.l ah,.l ah,.l a2.L,.l a3.L,.l a4.L])))) else (some (.nrm [.b a1.B,e,f,g,h,i,j,k,l,m,n,o,p,q,r,s,t,u,v,w,x,y,.b false,a0,.l ah,.l ah,.l ah,.l a2.L,.l a3.L,.l a4.L]))) (apn 30 bm.d1)))))
def bm:List C→Option (List C):=fun xs=>bl (apn 25 bm.d2 xs)
def fO:FS:=⟨2,⟨[(0,z3),(1,z9)],[]⟩,⟨[(0,(.tu [z12,zi]))],[(3000,.arr 30),(3001,.arr 86 1),(3002,.arr 33)]⟩,[],bm⟩
theorem jt:aG Tryz.checked.prog T0 7 fO:=bO aI (fn:=Tryz.f7) (c:=Tryz.f7.body.getD .skip) fO (.seq .leaf (.seq .leaf (.seq .leaf (.seq (.join ⟨[(3,(.pt 3 0)),(4,(.pt 4 0)),(6,(.pt 6 0)),(7,zo)],[(3,z4),(4,.var 27 [zo,(.ow 1075300),(.ow 1075301),(.ow 1075302)]),(6,.var 27 [zo,(.ow 68536),(.ow 68537),(.ow 68538)]),(1075300,.arr 30 1),(1075301,.arr 86 1),(1075302,.arr 33 1),(68536,.arr 30),(68537,.arr 86 1),(68538,.arr 33)]⟩ .leaf) .leaf)))) [(37,some 9,iB),(37,some 21,iB),(38,some 15,mR),(39,some 30,eE)] (.cons nV (.cons nV (.cons yd (.cons fk .nil)))) (by kernel_rfl) (by kernel_rfl) (by kernel_rfl) (fun xs=>by kernel_rfl)
def js.d1 (a b c d e f:C):R:=(bif (decide (ah.length+c.L.length≤4294967296)) then (bif (decide ((bs #[122,111,110,101,61]).size+b.S.size≤4294967296)) then (bif (decide ((ah++c.L).length+(rows [[.s ((bs #[122,111,110,101,61])++b.S)]]).length≤4294967296)) then (some (.ret [.l ((ah++c.L)++(rows [[.s ((bs #[122,111,110,101,61])++b.S)]]))])) else none) else none) else none)
def js:List C→Option (List C):=fun xs=>bl (apn 6 js.d1 xs)
def mY:FS:=⟨1,⟨[(0,z7)],[]⟩,⟨[(0,(.ow 3000))],[(3000,.arr 9 1)]⟩,[],js⟩
theorem yA:aG Tryz.checked.prog T0 140 mY:=bO aI (fn:=Tryz.f140) (c:=Tryz.f140.body.getD .skip) mY .leaf [] .nil (by kernel_rfl) (by kernel_rfl) (by kernel_rfl) (fun xs=>by kernel_rfl)
def ba.d1 (G0:List C→Option (List C)) (a b c d e f g:C):R:=(bif c.B then (some (.ret [.b true])) else (some (.again [a,.i (w64 (b.I+1)),d,e,f,g])))
def ba.d2 (G0:List C→Option (List C)) (a b c d e f:C):R:=(bif (decide (b.I<(a.L.length:Int))) then (bif (decide (0≤b.I)) then (bif (decide (b.I<(a.L.length:Int))) then (call3 (dE [((a.L.getD b.I.toNat []).getD 0 .nil)]) fun g h i=>(bR (bif i.B then (bif (g.S.toList==d.S.toList) then (bif (!(c.I==1)) then (some (.nrm [a,b,.b (h.S.toList==e.S.toList),c,d,e,f])) else (some (.nrm [a,b,.b true,c,d,e,f]))) else (some (.nrm [a,b,.b false,c,d,e,f]))) else (some (.nrm [a,b,.b false,c,d,e,f]))) (apn 7 (ba.d1 G0)))) else none) else none) else (some (.brk 1 [])))
def ba.d3 (G0:List C→Option (List C)):R:=(some (.ret [.b false]))
def ba.d4 (G0:List C→Option (List C)) (a b c d:C):R:=(bif (decide (0≤c.I)) then (bif (decide (c.I<(a.L.length:Int))) then (bif (((a.L.getD c.I.toNat []).getD 0 .nil).I==0) then (some (.ret [.b true])) else (bif (((a.L.getD c.I.toNat []).getD 0 .nil).I==3) then (bif (decide (0≤c.I)) then (bif (decide (c.I<(b.L.length:Int))) then (bif (decide (0<((((b.L.getD c.I.toNat []).getD 0 .nil).L).length:Int))) then (ae (G0 [a,b,(((((b.L.getD c.I.toNat []).getD 0 .nil).L).getD 0 []).getD 0 .nil),d]) fun e=>(some (.ret [.b (!e.B)]))) else none) else none) else none) else (bif (((a.L.getD c.I.toNat []).getD 0 .nil).I==4) then (bif (decide (0≤c.I)) then (bif (decide (c.I<(b.L.length:Int))) then (bif (decide (0<((((b.L.getD c.I.toNat []).getD 0 .nil).L).length:Int))) then (ae (G0 [a,b,(((((b.L.getD c.I.toNat []).getD 0 .nil).L).getD 0 []).getD 0 .nil),d]) fun f=>(bif f.B then (bif (decide (0≤c.I)) then (bif (decide (c.I<(b.L.length:Int))) then (bif (decide (1<((((b.L.getD c.I.toNat []).getD 0 .nil).L).length:Int))) then (ae (G0 [a,b,(((((b.L.getD c.I.toNat []).getD 0 .nil).L).getD 1 []).getD 0 .nil),d]) fun g=>(some (.ret [.b g.B]))) else none) else none) else none) else (some (.ret [.b false])))) else none) else none) else none) else (bif (((a.L.getD c.I.toNat []).getD 0 .nil).I==5) then (bif (decide (0≤c.I)) then (bif (decide (c.I<(b.L.length:Int))) then (bif (decide (0<((((b.L.getD c.I.toNat []).getD 0 .nil).L).length:Int))) then (ae (G0 [a,b,(((((b.L.getD c.I.toNat []).getD 0 .nil).L).getD 0 []).getD 0 .nil),d]) fun h=>(bif (!h.B) then (bif (decide (0≤c.I)) then (bif (decide (c.I<(b.L.length:Int))) then (bif (decide (1<((((b.L.getD c.I.toNat []).getD 0 .nil).L).length:Int))) then (ae (G0 [a,b,(((((b.L.getD c.I.toNat []).getD 0 .nil).L).getD 1 []).getD 0 .nil),d]) fun i=>(some (.ret [.b i.B]))) else none) else none) else none) else (some (.ret [.b true])))) else none) else none) else none) else (ax 1 (lim (apn 6 (ba.d2 G0)) [d,.i 0,((a.L.getD c.I.toNat []).getD 0 .nil),((a.L.getD c.I.toNat []).getD 1 .nil),((a.L.getD c.I.toNat []).getD 2 .nil),((a.L.getD c.I.toNat []).getD 3 .nil)]) (fun xs=>(ba.d3 G0))))))) else none) else none)
def ba.step (G0:List C→Option (List C)):List C→Option (List C):=fun xs=>bl (apn 4 (ba.d4 G0) xs)
def dR (G:List C→Option (List C)):FS:=⟨4,⟨[(0,(.ag [(.d (.sl 190))])),(1,(.d (.sl 67))),(2,(.d (.int .i64))),(3,(.d (.sl 9)))],[]⟩,⟨[(0,(.d .bool))],[]⟩,[],G⟩
theorem yt {G0:List C→Option (List C)} (h0:aG Tryz.checked.prog T0 159 (dR G0)):aG Tryz.checked.prog T0 159 (dR (ba.step G0)):=bO aI (fn:=Tryz.f159) (c:=Tryz.f159.body.getD .skip) (dR (ba.step G0)) (.seq .leaf (.seq .leaf (.seq .leaf (.seq (.seq .leaf (.block ⟨[],[]⟩ (.loop ⟨[(3,(.d (.sl 9))),(9,(.pt 9 0)),(10,(.d (.int .i64)))],[(9,.var 190 [(.d (.int .i64)),(.d .str),(.d .str),(.d (.int .i64))])]⟩ (.seq .leaf (.seq (.skip (.seq .leaf (.seq (.join ⟨[(3,(.d (.sl 9))),(9,(.pt 9 0)),(10,(.d (.int .i64))),(116,(.d .bool))],[(9,.var 190 [(.d (.int .i64)),(.d .str),(.d .str),(.d (.int .i64))])]⟩ .leaf) .leaf))) .leaf))))) .leaf)))) [(138,some 95,kb),(159,some 34,(dR G0)),(159,some 47,(dR G0)),(159,some 58,(dR G0)),(159,some 71,(dR G0)),(159,some 82,(dR G0))] (.cons pj (.cons h0 (.cons h0 (.cons h0 (.cons h0 (.cons h0 .nil)))))) (by kernel_rfl) (by kernel_rfl) (by kernel_rfl) (fun xs=>by kernel_rfl)
def ba.g:Nat→Nat→List C→Option (List C)
 |0,_=>fun _=>none
 |k+1,0=>ba.step (ba.g k 0)
 |_,_=>fun _=>none
theorem p9:∀k:Nat,aG Tryz.checked.prog T0 159 (dR (ba.g k 0))
 |0=>kD (fn:=Tryz.f159) (c:=Tryz.f159.body.getD .skip) (4) (⟨[(0,(.ag [(.d (.sl 190))])),(1,(.d (.sl 67))),(2,(.d (.int .i64))),(3,(.d (.sl 9)))],[]⟩) (⟨[(0,(.d .bool))],[]⟩) [] (by kernel_rfl) (by kernel_rfl) (by kernel_rfl)
 |k+1=>yt (p9 k)
def ba:List C→Option (List C):=ba.g iW 0
theorem yW:aG Tryz.checked.prog T0 159 (dR ba):=p9 iW
def fV.d1 (a b:C):R:=(ae (fi [a]) fun c=>(bif (!c.B) then (some (.ret [.b false])) else (call2 (dD [a]) fun d e=>(ae (ba [a,.l e.L,.i (w64 ((a.L.length:Int)-1)),b]) fun f=>(some (.ret [.b f.B]))))))
def fV:List C→Option (List C):=fun xs=>bl (apn 2 fV.d1 xs)
def kA:FS:=⟨2,⟨[(0,(.ag [(zl 190)])),(1,(zl 9))],[]⟩,⟨[(0,zo)],[]⟩,[],fV⟩
theorem tW:aG Tryz.checked.prog T0 139 kA:=bO aI (fn:=Tryz.f139) (c:=Tryz.f139.body.getD .skip) kA .leaf [(142,some 8,iZ),(143,some 12,iP),(159,some 22,(dR ba))] (.cons mS (.cons lV (.cons yW .nil))) (by kernel_rfl) (by kernel_rfl) (by kernel_rfl) (fun xs=>by kernel_rfl)
def iH.d1 (a b c d e f g:C):R:=(call2 (fA [a]) fun h i=>(bif (i.I==0) then (ae (js [b,c,d,e,f,g]) fun j=>(ae (fV [h,.l j.L]) fun k=>(some (.ret [.b k.B])))) else (some (.ret [.b false]))))
def iH:List C→Option (List C):=fun xs=>bl (apn 7 iH.d1 xs)
def mf:FS:=⟨2,⟨[(0,zt),(1,z7)],[]⟩,⟨[(0,zo)],[]⟩,[],iH⟩
theorem wL:aG Tryz.checked.prog T0 125 mf:=bO aI (fn:=Tryz.f125) (c:=Tryz.f125.body.getD .skip) mf .leaf [(137,some 9,iw),(139,some 18,kA),(140,some 17,mY)] (.cons nT (.cons tW (.cons yA .nil))) (by kernel_rfl) (by kernel_rfl) (by kernel_rfl) (fun xs=>by kernel_rfl)
def gM.d1 (a b c d e:C):R:=(ae (cW [a,b,c,d,e]) fun f=>(bif (decide (f.I<0)) then (some (.ret [.s (bs #[])])) else (bif (decide (0≤f.I)) then (bif (decide (f.I<(b.L.length:Int))) then (some (.ret [((b.L.getD f.I.toNat []).getD 1 .nil)])) else none) else none)))
def gM:List C→Option (List C):=fun xs=>bl (apn 5 gM.d1 xs)
def jU:FS:=⟨2,⟨[(0,z3),(1,zt)],[]⟩,⟨[(0,zt)],[]⟩,[],gM⟩
theorem qc:aG Tryz.checked.prog T0 141 jU:=bO aI (fn:=Tryz.f141) (c:=Tryz.f141.body.getD .skip) jU .leaf [(87,some 8,fX)] (.cons ji .nil) (by kernel_rfl) (by kernel_rfl) (by kernel_rfl) (fun xs=>by kernel_rfl)
def bh.d1 (a b c d e f g h i j k l m n o p q r s t u v w x y z a0 a1 a2 a3 a4 a5 a6 a7 a8:C):R:=(ae (gM [b,c,d,e,a8]) fun a9=>(bif (a9.S.toList==s.S.toList) then (bif (!(a5.I==2)) then (bif (n.I==2) then (some (.ret [.b true])) else (some (.brk 1 [a,b,c,d,e,f,g,h,i,j,k,l,m,n,o,p,q,r,s,t,u,v,w]))) else (some (.ret [.b true]))) else (some (.brk 1 [a,b,c,d,e,f,g,h,i,j,k,l,m,n,o,p,q,r,s,t,u,v,w]))))
def bh.d2 (a b c d e f g h i j k l m n o p q r s t u v w:C):R:=(some (.again [.i (w64 (a.I+1)),b,c,d,e,f,g,h,i,j,k,l,m,n,o,p,q,r,s,t,u,v,w]))
def bh.d3 (a b c d e f g h i j k l m n o p q r s t u v w:C):R:=(bif (decide (a.I<(e.L.length:Int))) then (ax 1 (bif (decide (0≤a.I)) then (bif (decide (a.I<(e.L.length:Int))) then (bif (!((((e.L.getD a.I.toNat []).getD 0 .nil).S).toList==f.S.toList)) then (bif (!(!((((e.L.getD a.I.toNat []).getD 1 .nil).S).toList==g.S.toList))) then (bif ((((e.L.getD a.I.toNat []).getD 11 .nil).S).toList==(bs #[]).toList) then (some (.brk 1 [a,b,c,d,e,f,g,h,i,j,k,l,m,n,o,p,q,r,s,t,u,v,w])) else (bR (bif ((((e.L.getD a.I.toNat []).getD 11 .nil).S).toList==r.S.toList) then (bif (!(((e.L.getD a.I.toNat []).getD 8 .nil).I !=0)) then (bif (n.I !=0) then (some (.ret [.b true])) else (some (.nrm [a,b,c,d,e,f,g,h,i,j,k,l,m,n,o,p,q,r,s,t,u,v,w,((e.L.getD a.I.toNat []).getD 0 .nil),((e.L.getD a.I.toNat []).getD 1 .nil),((e.L.getD a.I.toNat []).getD 2 .nil),((e.L.getD a.I.toNat []).getD 3 .nil),((e.L.getD a.I.toNat []).getD 4 .nil),((e.L.getD a.I.toNat []).getD 5 .nil),((e.L.getD a.I.toNat []).getD 6 .nil),((e.L.getD a.I.toNat []).getD 7 .nil),((e.L.getD a.I.toNat []).getD 8 .nil),((e.L.getD a.I.toNat []).getD 9 .nil),((e.L.getD a.I.toNat []).getD 10 .nil),((e.L.getD a.I.toNat []).getD 11 .nil)]))) else (some (.ret [.b true]))) else (some (.nrm [a,b,c,d,e,f,g,h,i,j,k,l,m,n,o,p,q,r,s,t,u,v,w,((e.L.getD a.I.toNat []).getD 0 .nil),((e.L.getD a.I.toNat []).getD 1 .nil),((e.L.getD a.I.toNat []).getD 2 .nil),((e.L.getD a.I.toNat []).getD 3 .nil),((e.L.getD a.I.toNat []).getD 4 .nil),((e.L.getD a.I.toNat []).getD 5 .nil),((e.L.getD a.I.toNat []).getD 6 .nil),((e.L.getD a.I.toNat []).getD 7 .nil),((e.L.getD a.I.toNat []).getD 8 .nil),((e.L.getD a.I.toNat []).getD 9 .nil),((e.L.getD a.I.toNat []).getD 10 .nil),((e.L.getD a.I.toNat []).getD 11 .nil)]))) (apn 35 bh.d1))) else (some (.brk 1 [a,b,c,d,e,f,g,h,i,j,k,l,m,n,o,p,q,r,s,t,u,v,w]))) else (some (.brk 1 [a,b,c,d,e,f,g,h,i,j,k,l,m,n,o,p,q,r,s,t,u,v,w]))) else none) else none) (apn 23 bh.d2)) else (some (.brk 0 [])))
def bh.d4:R:=(some (.ret [.b false]))
def bh.d5 (a b c d e f g h i j k l m n o p q r s t u v:C):R:=(ax 0 (lim (apn 23 bh.d3) [.i 0,a,b,c,d,e,f,g,h,i,j,k,l,m,n,o,p,q,r,s,t,u,v]) (fun xs=>bh.d4))
def bh:List C→Option (List C):=fun xs=>bl (apn 22 bh.d5 xs)
def kx:FS:=⟨3,⟨[(0,z3),(1,z5),(2,z7)],[]⟩,⟨[(0,zo)],[]⟩,[],bh⟩
theorem tJ:aG Tryz.checked.prog T0 126 kx:=bO aI (fn:=Tryz.f126) (c:=Tryz.f126.body.getD .skip) kx (.seq .leaf (.seq (.seq .leaf (.block ⟨[],[]⟩ (.loop ⟨[(3,(.pt 3 0)),(4,(.pt 4 0)),(5,(.pt 5 0)),(7,zi)],[(3,z0),(4,z2),(5,z8)]⟩ (.seq .leaf (.seq (.block ⟨[(3,(.pt 3 0)),(4,(.pt 4 0)),(5,(.pt 5 0)),(7,zi)],[(3,z0),(4,z2),(5,z8)]⟩ (.seq .leaf (.seq .leaf (.seq (.join ⟨[(3,(.pt 3 0)),(4,(.pt 4 0)),(5,(.pt 5 0)),(7,zi),(8,(.pt 8 0))],[(3,z0),(4,z2),(5,z8),(8,z2)]⟩ .leaf) .leaf)))) .leaf))))) .leaf)) [(141,some 56,jU)] (.cons qc .nil) (by kernel_rfl) (by kernel_rfl) (by kernel_rfl) (fun xs=>by kernel_rfl)
def eo.d1 (a b c d e f g h i j k l m n o p q r s t u v w x:C):R:=(some (.again [a,.i (w64 (b.I+1)),c,d,e,f,g,h,i,j,k,l,m,n,o,p,q,r,s,t,u,v,w,x]))
def eo.d2 (a b c d e f g h i j k l m n o p q r s t u v w x:C):R:=(bif (decide (b.I<(f.L.length:Int))) then (ax 1 (bif (decide (0≤b.I)) then (bif (decide (b.I<(f.L.length:Int))) then (bif (!((((f.L.getD b.I.toNat []).getD 0 .nil).S).toList==g.S.toList)) then (bif (!(!((((f.L.getD b.I.toNat []).getD 1 .nil).S).toList==p.S.toList))) then (bif ((((f.L.getD b.I.toNat []).getD 11 .nil).S).toList==(bs #[]).toList) then (some (.brk 1 [a,b,c,d,e,f,g,h,i,j,k,l,m,n,o,p,q,r,s,t,u,v,w,x])) else (ae (gM [c,d,e,f,((f.L.getD b.I.toNat []).getD 11 .nil)]) fun y=>(bif (y.S.toList==t.S.toList) then (some (.ret [.b false])) else (some (.brk 1 [.b true,b,c,d,e,f,g,h,i,j,k,l,m,n,o,p,q,r,s,t,u,v,w,x]))))) else (some (.brk 1 [a,b,c,d,e,f,g,h,i,j,k,l,m,n,o,p,q,r,s,t,u,v,w,x]))) else (some (.brk 1 [a,b,c,d,e,f,g,h,i,j,k,l,m,n,o,p,q,r,s,t,u,v,w,x]))) else none) else none) (apn 24 eo.d1)) else (some (.brk 0 [a,g,h,i,j,k,l,m,n,o,p,q,r])))
def eo.d3 (a b c d e f g h i j k l m:C):R:=(bif (!a.B) then (some (.ret [.b (!(k.S.toList==c.S.toList))])) else (some (.ret [.b true])))
def eo.d4 (a b c d e f g h i j k l m n o p q r s t u v:C):R:=(bif (n.S.toList==(bs #[]).toList) then (some (.ret [.b false])) else (ax 0 (lim (apn 24 eo.d2) [.b false,.i 0,a,b,c,d,e,f,g,h,i,j,k,l,m,n,o,p,q,r,s,t,u,v]) (apn 13 eo.d3)))
def eo:List C→Option (List C):=fun xs=>bl (apn 22 eo.d4 xs)
def qp:FS:=⟨3,⟨[(0,z3),(1,z5),(2,z7)],[]⟩,⟨[(0,zo)],[]⟩,[],eo⟩
theorem Bc:aG Tryz.checked.prog T0 127 qp:=bO aI (fn:=Tryz.f127) (c:=Tryz.f127.body.getD .skip) qp (.seq .leaf (.seq .leaf (.seq .leaf (.seq (.seq .leaf (.block ⟨[(4,(.pt 4 0)),(7,zo)],[(4,z2)]⟩ (.loop ⟨[(3,(.pt 3 0)),(4,(.pt 4 0)),(5,(.pt 5 0)),(7,zo),(8,zi)],[(3,z0),(4,z2),(5,z8)]⟩ (.seq .leaf (.seq (.block ⟨[(3,(.pt 3 0)),(4,(.pt 4 0)),(5,(.pt 5 0)),(7,zo),(8,zi)],[(3,z0),(4,z2),(5,z8)]⟩ .leaf) .leaf))))) .leaf)))) [(141,some 45,jU)] (.cons qc .nil) (by kernel_rfl) (by kernel_rfl) (by kernel_rfl) (fun xs=>by kernel_rfl)
def cH.d1 (a b c d e f g h i j k l m n o p q r s t u v w x y z a0 a1 a2 a3 a4 a5 a6 a7 a8 a9 b0 b1 b2 b3:C):R:=(bif f.B then (some (.again [a,.i (w64 (b.I+a6.I)),.i (w64 (c.I+a7.I)),.i (w64 (d.I+1)),.i (w64 (e.I+1)),g,h,i,j,k,l,m,n,o,p,q,r,s,t,u,v,w,x,y,z,a0,a1])) else (some (.again [a,b,c,d,.i (w64 (e.I+1)),g,h,i,j,k,l,m,n,o,p,q,r,s,t,u,v,w,x,y,z,a0,a1])))
def cH.d2 (a b c d e f g h i j k l m n o p q r s t u v w x y z a0:C):R:=(bif (decide (e.I<(i.L.length:Int))) then (bif (decide (0≤e.I)) then (bif (decide (e.I<(i.L.length:Int))) then (bR (bif (!((((i.L.getD e.I.toNat []).getD 0 .nil).S).toList==j.S.toList)) then (some (.nrm [a,b,c,d,e,.b ((((i.L.getD e.I.toNat []).getD 11 .nil).S).toList==v.S.toList),f,g,h,i,j,k,l,m,n,o,p,q,r,s,t,u,v,w,x,y,z,a0,((i.L.getD e.I.toNat []).getD 0 .nil),((i.L.getD e.I.toNat []).getD 1 .nil),((i.L.getD e.I.toNat []).getD 2 .nil),((i.L.getD e.I.toNat []).getD 3 .nil),((i.L.getD e.I.toNat []).getD 4 .nil),((i.L.getD e.I.toNat []).getD 5 .nil),((i.L.getD e.I.toNat []).getD 6 .nil),((i.L.getD e.I.toNat []).getD 7 .nil),((i.L.getD e.I.toNat []).getD 8 .nil),((i.L.getD e.I.toNat []).getD 9 .nil),((i.L.getD e.I.toNat []).getD 10 .nil),((i.L.getD e.I.toNat []).getD 11 .nil)])) else (some (.nrm [a,b,c,d,e,.b false,f,g,h,i,j,k,l,m,n,o,p,q,r,s,t,u,v,w,x,y,z,a0,((i.L.getD e.I.toNat []).getD 0 .nil),((i.L.getD e.I.toNat []).getD 1 .nil),((i.L.getD e.I.toNat []).getD 2 .nil),((i.L.getD e.I.toNat []).getD 3 .nil),((i.L.getD e.I.toNat []).getD 4 .nil),((i.L.getD e.I.toNat []).getD 5 .nil),((i.L.getD e.I.toNat []).getD 6 .nil),((i.L.getD e.I.toNat []).getD 7 .nil),((i.L.getD e.I.toNat []).getD 8 .nil),((i.L.getD e.I.toNat []).getD 9 .nil),((i.L.getD e.I.toNat []).getD 10 .nil),((i.L.getD e.I.toNat []).getD 11 .nil)]))) (apn 40 cH.d1)) else none) else none) else (some (.brk 0 [a,b,c,d,f,g,h,i,j,k,l,m,n,o,p,q,r,s,t,u,v,w,x,y,z,a0])))
def cH.d3 (a b c d e f g h i j k l m n o p q r s t u v w x y z:C):R:=(bif d.B then (some (.ret [.i 2])) else (ae (iH [o,u,v,w,x,y,z]) fun a0=>(bif (!a0.B) then (some (.ret [.i 3])) else (ae (bh [e,f,g,h,i,j,k,l,m,n,o,p,q,r,s,t,u,v,w,x,y,z]) fun a1=>(bif a1.B then (some (.ret [.i 4])) else (ae (eo [e,f,g,h,i,j,k,l,m,n,o,p,q,r,s,t,u,v,w,x,y,z]) fun a2=>(bif a2.B then (some (.ret [.i 5])) else (bif (decide (c.I≥10)) then (some (.ret [.i 6])) else (bif (decide (a.I>x.I)) then (some (.ret [.i 7])) else (bif (decide (b.I>y.I)) then (some (.ret [.i 8])) else (some (.ret [.i 0]))))))))))))
def cH.d4 (a b c d e f g h i j k l m n o p q r s t u v w x y z:C):R:=(bif d.B then (some (.ret [.i 1])) else (bR (bif (!(s.S.toList==(bs #[]).toList)) then (some (.nrm [a,b,c,.b (!(s.S.toList==u.S.toList)),e,f,g,h,i,j,k,l,m,n,o,p,q,r,s,t,u,v,w,x,y,z])) else (some (.nrm [a,b,c,.b false,e,f,g,h,i,j,k,l,m,n,o,p,q,r,s,t,u,v,w,x,y,z]))) (apn 26 cH.d3)))
def cH.d5 (a b c d e f g h i j k l m n o p q r s t u v w x y z:C):R:=(bR (bif z.B then (some (.nrm [b,c,d,.b (!a.B),e,f,g,h,i,j,k,l,m,n,o,p,q,r,s,t,u,v,w,x,y,z])) else (some (.nrm [b,c,d,.b false,e,f,g,h,i,j,k,l,m,n,o,p,q,r,s,t,u,v,w,x,y,z]))) (apn 26 cH.d4))
def cH.d6 (a b c d e f g h i j k l m n o p q r s t u v w:C):R:=(ax 0 (lim (apn 27 cH.d2) [w,i,j,.i 0,.i 0,a,b,c,d,e,f,g,h,i,j,k,l,m,n,o,p,q,r,s,t,u,v]) (apn 26 cH.d5))
def cH:List C→Option (List C):=fun xs=>bl (apn 23 cH.d6 xs)
def oP:FS:=⟨4,⟨[(0,z3),(1,z5),(2,z7),(3,zo)],[]⟩,⟨[(0,zi)],[]⟩,[],cH⟩
theorem zG:aG Tryz.checked.prog T0 110 oP:=bO aI (fn:=Tryz.f110) (c:=Tryz.f110.body.getD .skip) oP (.seq .leaf (.seq .leaf (.seq .leaf (.seq .leaf (.seq (.seq .leaf (.block ⟨[(3,zo),(4,(.pt 4 0)),(5,(.pt 5 0)),(6,(.pt 6 0)),(9,zi),(10,zi),(11,zi)],[(4,z0),(5,z2),(6,z8)]⟩ (.loop ⟨[(3,zo),(4,(.pt 4 0)),(5,(.pt 5 0)),(6,(.pt 6 0)),(9,zi),(10,zi),(11,zi),(12,zi)],[(4,z0),(5,z2),(6,z8)]⟩ (.seq .leaf (.seq (.skip (.seq .leaf (.seq (.join ⟨[(3,zo),(4,(.pt 4 0)),(5,(.pt 5 0)),(6,(.pt 6 0)),(9,zi),(10,zi),(11,zi),(12,zi),(13,(.pt 13 0)),(41,zo)],[(4,z0),(5,z2),(6,z8),(13,z2)]⟩ .leaf) .leaf))) .leaf))))) (.seq (.skip (.seq (.join ⟨[(4,(.pt 4 0)),(5,(.pt 5 0)),(6,(.pt 6 0)),(9,zi),(10,zi),(11,zi),(52,zo)],[(4,z0),(5,z2),(6,z8)]⟩ .leaf) (.cond .leaf (.seq (.join ⟨[(4,(.pt 4 0)),(5,(.pt 5 0)),(6,(.pt 6 0)),(9,zi),(10,zi),(11,zi),(59,zo)],[(4,z0),(5,z2),(6,z8)]⟩ .leaf) .leaf)))) .leaf)))))) [(125,some 74,mf),(126,some 80,kx),(127,some 85,qp)] (.cons wL (.cons tJ (.cons Bc .nil))) (by kernel_rfl) (by kernel_rfl) (by kernel_rfl) (fun xs=>by kernel_rfl)
def aJ.d1 (a b c d e f g h i j k l:C):R:=(bif (decide (b.I<a.I)) then (ae (cw [b]) fun m=>(bif (decide ((bs #[98]).size+m.S.size≤4294967296)) then (call8 (eQ [.s ((bs #[98])++m.S),c,d]) fun n o p q r s t u=>(bif (decide (j.L.length+(rows [[n,o,.l u.L,p,q,r]]).length≤4294967296)) then (some (.again [a,.i (w64 (b.I+1)),s,t,e,f,.l g.L,.l h.L,.l i.L,.l (j.L++(rows [[n,o,.l u.L,p,q,r]])),.l k.L,.l l.L])) else none)) else none)) else (some (.brk 0 [c,d,e,f,.l g.L,.l h.L,.l i.L,.l j.L,.l k.L,.l l.L])))
def aJ.d2 (a b c d e f g h i j k:C):R:=(bif (decide (a.I<4)) then (bif (decide (0≤a.I)) then (bif (decide (a.I<((rows [[.s (bs #[99,97,99,104,101])],[.s (bs #[100,98])],[.s (bs #[106,111,98])],[.s (bs #[119,101,98])]]).length:Int))) then (call3 (ad [.i 5,b,c]) fun l m n=>(bif (decide (j.L.length+(rows [[(((rows [[.s (bs #[99,97,99,104,101])],[.s (bs #[100,98])],[.s (bs #[106,111,98])],[.s (bs #[119,101,98])]]).getD a.I.toNat []).getD 0 .nil),l]]).length≤4294967296)) then (some (.again [.i (w64 (a.I+1)),m,n,d,e,.l f.L,.l g.L,.l h.L,.l i.L,.l (j.L++(rows [[(((rows [[.s (bs #[99,97,99,104,101])],[.s (bs #[100,98])],[.s (bs #[106,111,98])],[.s (bs #[119,101,98])]]).getD a.I.toNat []).getD 0 .nil),l]])),.l k.L])) else none)) else none) else none) else (some (.brk 2 [b,c,d,e,.l f.L,.l g.L,.l h.L,.l i.L,.l j.L,.l k.L])))
def aJ.d3 (a b c d e f g h i j k l:C):R:=(bif (decide (b.I>0)) then (call14 (bW [b,c,d]) fun m n o p q r s t u v w x y z=>(call5 (bm [f,g,h,i,.i 3,.s (bs #[]),.s (bs #[]),.l ah,.i 0,.i 0,.b false,m,n,o,p,q,r,s,t,u,v,w,x,.s (bs #[]),.s (bs #[])]) fun a0 a1 a2 a3 a4=>(bif (a1.I==0) then (some (.again [a,.i (w64 (b.I-1)),y,z,e,a0,.l a2.L,.l a3.L,.l a4.L,.l j.L,.l k.L,.l l.L])) else (some (.again [a,.i (w64 (b.I-1)),y,z,e,f,g,h,i,.l j.L,.l k.L,.l l.L]))))) else (some (.brk 4 [a,c,d,e,f,g,h,i,.l j.L,.l k.L,.l l.L])))
def aJ.d4 (a b c d e f g h i j k l m n o p q r s:C):R:=(bif c.B then (bif (decide (0≤b.I)) then (bif (decide (b.I<(j.L.length:Int))) then (call5 (bm [g,h,i,j,.i 5,.s (bs #[]),.s (bs #[]),.l ah,.i 0,.i 0,.b false,.s (bs #[]),.s (bs #[]),.i 0,.i 0,.i 0,.i 0,.s (bs #[]),.l ah,.i 0,.s (bs #[]),.s (bs #[]),.s (bs #[]),((j.L.getD b.I.toNat []).getD 0 .nil),k]) fun t u v w x=>(bif (u.I==0) then (some (.again [a,.i (w64 (b.I+1)),d,e,f,t,.l v.L,.l w.L,.l x.L,.l q.L,.l r.L,.l s.L])) else (some (.again [a,.i (w64 (b.I+1)),d,e,f,g,h,i,j,.l q.L,.l r.L,.l s.L])))) else none) else none) else (some (.again [a,.i (w64 (b.I+1)),d,e,f,g,h,i,j,.l q.L,.l r.L,.l s.L])))
def aJ.d5 (a b c d e f g h i j k l:C):R:=(bif (decide (b.I<(i.L.length:Int))) then (call3 (ad [.i 4,c,d]) fun m n o=>(bif (decide (m.I<a.I)) then (call3 (ad [.i (g.L.length:Int),n,o]) fun p q r=>(bif (decide (0≤p.I)) then (bif (decide (p.I<(g.L.length:Int))) then (bif (decide (0≤b.I)) then (bif (decide (b.I<(i.L.length:Int))) then (ae (cH [f,g,h,i,((i.L.getD b.I.toNat []).getD 0 .nil),((i.L.getD b.I.toNat []).getD 1 .nil),((i.L.getD b.I.toNat []).getD 2 .nil),((i.L.getD b.I.toNat []).getD 3 .nil),((i.L.getD b.I.toNat []).getD 4 .nil),((i.L.getD b.I.toNat []).getD 5 .nil),((i.L.getD b.I.toNat []).getD 6 .nil),((i.L.getD b.I.toNat []).getD 7 .nil),((i.L.getD b.I.toNat []).getD 8 .nil),((i.L.getD b.I.toNat []).getD 9 .nil),((i.L.getD b.I.toNat []).getD 10 .nil),((i.L.getD b.I.toNat []).getD 11 .nil),((g.L.getD p.I.toNat []).getD 0 .nil),((g.L.getD p.I.toNat []).getD 1 .nil),((g.L.getD p.I.toNat []).getD 2 .nil),((g.L.getD p.I.toNat []).getD 3 .nil),((g.L.getD p.I.toNat []).getD 4 .nil),((g.L.getD p.I.toNat []).getD 5 .nil),.b true]) fun s=>(bR (bif (!(s.I==0)) then (bif (decide (s.I<6)) then (call3 (ad [.i 8,q,r]) fun t u v=>(some (.nrm [a,b,.b (t.I==0),u,v,e,f,g,h,i,((g.L.getD p.I.toNat []).getD 0 .nil),((g.L.getD p.I.toNat []).getD 1 .nil),((g.L.getD p.I.toNat []).getD 2 .nil),((g.L.getD p.I.toNat []).getD 3 .nil),((g.L.getD p.I.toNat []).getD 4 .nil),((g.L.getD p.I.toNat []).getD 5 .nil),.l j.L,.l k.L,.l l.L]))) else (some (.nrm [a,b,.b false,q,r,e,f,g,h,i,((g.L.getD p.I.toNat []).getD 0 .nil),((g.L.getD p.I.toNat []).getD 1 .nil),((g.L.getD p.I.toNat []).getD 2 .nil),((g.L.getD p.I.toNat []).getD 3 .nil),((g.L.getD p.I.toNat []).getD 4 .nil),((g.L.getD p.I.toNat []).getD 5 .nil),.l j.L,.l k.L,.l l.L]))) else (some (.nrm [a,b,.b true,q,r,e,f,g,h,i,((g.L.getD p.I.toNat []).getD 0 .nil),((g.L.getD p.I.toNat []).getD 1 .nil),((g.L.getD p.I.toNat []).getD 2 .nil),((g.L.getD p.I.toNat []).getD 3 .nil),((g.L.getD p.I.toNat []).getD 4 .nil),((g.L.getD p.I.toNat []).getD 5 .nil),.l j.L,.l k.L,.l l.L]))) (apn 19 aJ.d4))) else none) else none) else none) else none)) else (some (.again [a,.i (w64 (b.I+1)),n,o,e,f,g,h,i,.l j.L,.l k.L,.l l.L])))) else (some (.brk 6 [c,d,e,f,g,h,i,.l j.L,.l k.L,.l l.L])))
def aJ.d6 (a b c d e f g h i j:C):R:=(some (.ret [d,e,f,g,a,b]))
def aJ.d7 (a b c d e f g h i j k:C):R:=(ax 6 (lim (apn 12 aJ.d5) [a,.i 0,b,c,d,e,f,g,h,.l i.L,.l j.L,.l k.L]) (apn 10 aJ.d6))
def aJ.d8 (a b c d e f g h i j:C):R:=(call3 (ad [.i 4,a,b]) fun k l m=>(call3 (ad [.i 14,l,m]) fun n o p=>(ax 4 (lim (apn 12 aJ.d3) [k,.i (w64 (1+n.I)),o,p,c,d,.l h.L,.l i.L,.l j.L,.l e.L,.l f.L,.l g.L]) (apn 11 aJ.d7))))
def aJ.d9 (a b c d e f g h i j:C):R:=(ax 2 (lim (apn 11 aJ.d2) [.i 0,a,b,c,d,.l e.L,.l f.L,.l g.L,.l h.L,.l i.L,.l j.L]) (apn 10 aJ.d8))
def aJ.d10 (a b:C):R:=(call3 (ad [.i 2,a,b]) fun c d e=>(call3 (ad [.i 5,d,e]) fun f g h=>(ax 0 (lim (apn 12 aJ.d1) [.i (w64 (1+f.I)),.i 0,g,h,.b false,.b (c.I==0),.l ah,.l ah,.l ah,.l ah,.l ah,.l ah]) (apn 10 aJ.d9))))
def aJ:List C→Option (List C):=fun xs=>bl (apn 2 aJ.d10 xs)
def oM:FS:=⟨1,⟨[(0,(.pt 2000 0))],[(2000,z1)]⟩,⟨[(0,z3)],[(2000,z1)]⟩,[2000],aJ⟩
theorem Ac:aG Tryz.checked.prog T0 66 oM:=uO aI [35] false (fn:=Tryz.f66) (c:=Tryz.f66.body.getD .skip) oM (.seq .leaf (.seq .leaf (.seq .leaf (.seq (.seq .leaf (.block ⟨[(0,(.pt 2000 0)),(2,(.pt 2 0)),(3,(.pt 3 0))],[(2000,z1),(2,z6),(3,z15),(1020700,.arr 30 1),(1020701,.arr 86 1),(1020702,.arr 33 1),(1020703,.arr 30 1),(1020704,.arr 86 1),(1020705,.arr 33 1)]⟩ (.loop ⟨[(0,(.pt 2000 0)),(2,(.pt 2 0)),(3,(.pt 3 0)),(4,zi),(5,zi)],[(2000,z1),(2,z6),(3,z15),(1020700,.arr 30 1),(1020701,.arr 86 1),(1020702,.arr 33 1),(1020703,.arr 30 1),(1020704,.arr 86 1),(1020705,.arr 33 1)]⟩ .leaf))) (.seq (.seq .leaf (.block ⟨[(0,(.pt 2000 0)),(2,(.pt 2 0)),(3,(.pt 3 0))],[(2000,z1),(2,z6),(3,z15),(1020700,.arr 30 1),(1020701,.arr 86 1),(1020702,.arr 33 1),(1020703,.arr 30 1),(1020704,.arr 86 1),(1020705,.arr 33 1)]⟩ (.loop ⟨[(0,(.pt 2000 0)),(2,(.pt 2 0)),(3,(.pt 3 0)),(6,zi)],[(2000,z1),(2,z6),(3,z15),(1020700,.arr 30 1),(1020701,.arr 86 1),(1020702,.arr 33 1),(1020703,.arr 30 1),(1020704,.arr 86 1),(1020705,.arr 33 1)]⟩ .leaf))) (.seq .leaf (.seq (.seq .leaf (.block ⟨[(0,(.pt 2000 0)),(2,(.pt 2 0)),(3,(.pt 3 0)),(7,zi)],[(2000,z1),(2,z6),(3,z0),(1020700,.arr 30 1),(1020701,.arr 86 1),(1020702,.arr 33 1)]⟩ (.loop ⟨[(0,(.pt 2000 0)),(2,(.pt 2 0)),(3,(.pt 3 0)),(7,zi),(8,zi)],[(2000,z1),(2,z6),(3,z0),(1020700,.arr 30 1),(1020701,.arr 86 1),(1020702,.arr 33 1)]⟩ (.seq .leaf (.seq (.skip (.seq (.frz [1020703,1020704,1020705] .leaf) .leaf)) .leaf))))) (.seq (.seq .leaf (.block ⟨[(2,(.pt 2 0)),(3,(.pt 3 0))],[(2000,z1),(2,z6),(3,z0),(1020700,.arr 30 1),(1020701,.arr 86 1),(1020702,.arr 33 1)]⟩ (.loop ⟨[(0,(.pt 2000 0)),(2,(.pt 2 0)),(3,(.pt 3 0)),(7,zi),(11,zi)],[(2000,z1),(2,z6),(3,z0),(1020700,.arr 30 1),(1020701,.arr 86 1),(1020702,.arr 33 1)]⟩ (.seq .leaf (.seq (.skip (.seq .leaf (.cond (.seq .leaf (.seq .leaf (.seq (.join ⟨[(0,(.pt 2000 0)),(2,(.pt 2 0)),(3,(.pt 3 0)),(7,zi),(11,zi),(12,(.pt 12 0)),(113,zo)],[(2000,z1),(2,z6),(3,z0),(12,z8),(1020700,.arr 30 1),(1020701,.arr 86 1),(1020702,.arr 33 1)]⟩ .leaf) (.cond (.seq (.frz [1020703] .leaf) .leaf) .leaf)))) .leaf))) .leaf))))) .leaf)))))))) [(7,some 69,fO),(7,some 125,fO),(22,some 17,aa),(22,some 21,aa),(22,some 49,aa),(22,some 55,aa),(22,some 57,aa),(22,some 83,aa),(22,some 92,aa),(22,some 110,aa),(68,some 34,gX),(69,some 32,(dP cw)),(71,some 67,ku),(110,some 102,oP)] (.cons jt (.cons jt (.cons ab (.cons ab (.cons ab (.cons ab (.cons ab (.cons ab (.cons ab (.cons ab (.cons mO (.cons iE (.cons tP (.cons zG .nil)))))))))))))) (by kernel_rfl) (by kernel_rfl) (by kernel_rfl) (fun xs=>by kernel_rfl)
end
end Go.Ev
namespace Go.Ev
open Go.Proofs
noncomputable section
def eA.d1 (a b c:C):R:=(bif (decide (b.I>0)) then (bif ((b.I.tmod 2)==1) then (bif (decide (c.S.size+a.S.size≤4294967296)) then (bif (decide (a.S.size+a.S.size≤4294967296)) then (some (.again [.s (a.S++a.S),.i (w64 (b.I.tdiv 2)),.s (c.S++a.S)])) else none) else none) else (bif (decide (a.S.size+a.S.size≤4294967296)) then (some (.again [.s (a.S++a.S),.i (w64 (b.I.tdiv 2)),c])) else none)) else (some (.brk 0 [c])))
def eA.d2 (a:C):R:=(some (.ret [a]))
def eA.d3 (a b:C):R:=(ax 0 (lim (apn 3 eA.d1) [a,b,.s (bs #[])]) (apn 1 eA.d2))
def eA:List C→Option (List C):=fun xs=>bl (apn 2 eA.d3 xs)
def lJ:FS:=⟨2,⟨[(0,zt),(1,zi)],[]⟩,⟨[(0,zt)],[]⟩,[],eA⟩
theorem tn:aG Tryz.checked.prog T0 111 lJ:=bO aI (fn:=Tryz.f111) (c:=Tryz.f111.body.getD .skip) lJ (.seq .leaf (.seq .leaf (.seq (.block ⟨[(5,zt)],[]⟩ (.loop ⟨[(0,zt),(1,zi),(5,zt)],[]⟩ .leaf)) .leaf))) [] .nil (by kernel_rfl) (by kernel_rfl) (by kernel_rfl) (fun xs=>by kernel_rfl)
def bL.d1 (a b c d e f g h i j k l:C):R:=(bif (decide (0≤a.I)) then (bif (decide (a.I<(l.L.length:Int))) then (bif (decide ((((l.L.getD a.I.toNat []).getD 7 .nil).L.length:Int)<b.I)) then (bif (decide (0≤a.I)) then (bif (decide (a.I<(l.L.length:Int))) then (call3 (ad [.i 2,c,d]) fun m n o=>(call3 (ad [.i 2,n,o]) fun p q r=>(bif (decide (((l.L.getD a.I.toNat []).getD 7 .nil).L.length+(rows [[.s (bs #[]),.i (w64 (9+(w64 (m.I*p.I))))]]).length≤4294967296)) then (bif (decide (0≤a.I)) then (bif (decide (a.I<((l.L.set a.I.toNat (aK (l.L.getD a.I.toNat []) 7 [.nil])).length:Int))) then (bif (List.all ((l.L.set a.I.toNat (aK (l.L.getD a.I.toNat []) 7 [.nil])).set a.I.toNat (aK ((l.L.set a.I.toNat (aK (l.L.getD a.I.toNat []) 7 [.nil])).getD a.I.toNat []) 7 [.l (((l.L.getD a.I.toNat []).getD 7 .nil).L++(rows [[.s (bs #[]),.i (w64 (9+(w64 (m.I*p.I))))]]))])) (oH [.str,.str,(.int .i64),(.int .i64),(.int .i64),(.int .i64),.str,(.sl 122),(.int .i64),.str,.str,.str])) then (some (.again [a,b,q,r,e,f,.l g.L,.l h.L,.l i.L,.l j.L,.l k.L,.l ((l.L.set a.I.toNat (aK (l.L.getD a.I.toNat []) 7 [.nil])).set a.I.toNat (aK ((l.L.set a.I.toNat (aK (l.L.getD a.I.toNat []) 7 [.nil])).getD a.I.toNat []) 7 [.l (((l.L.getD a.I.toNat []).getD 7 .nil).L++(rows [[.s (bs #[]),.i (w64 (9+(w64 (m.I*p.I))))]]))]))])) else none) else none) else none) else none))) else none) else none) else (some (.brk 1 [c,d,e,f,.l g.L,.l h.L,.l i.L,.l j.L,.l k.L,.l l.L]))) else none) else none)
def bL.d2 (a b c d e f g h i j:C):R:=(some (.nrm [a,b,c,d,.l j.L,.l e.L,.l f.L,.l g.L,.l h.L,.l i.L]))
def bL.d3 (a b c d e f g h i j k l m:C):R:=(bif (decide (c.I<b.I)) then (bif (decide ((bs #[99]).size+(ke (rows [[.i (IntKind.wrap .u8 (w64 (97+c.I)))]])).size≤4294967296)) then (bif (decide (0≤a.I)) then (bif (decide (a.I<(k.L.length:Int))) then (bif (decide (m.L.length+(rows [[.s ((bs #[99])++(ke (rows [[.i (IntKind.wrap .u8 (w64 (97+c.I)))]]))),.s (bs #[119,101,98]),.i 0,.i 0,.i 0,.i 0,.s (bs #[]),.l ah,.i 0,.s (bs #[]),.s (bs #[]),((k.L.getD a.I.toNat []).getD 0 .nil)]]).length≤4294967296)) then (some (.again [a,b,.i (w64 (c.I+1)),d,e,f,g,.l h.L,.l i.L,.l j.L,.l k.L,.l l.L,.l (m.L++(rows [[.s ((bs #[99])++(ke (rows [[.i (IntKind.wrap .u8 (w64 (97+c.I)))]]))),.s (bs #[119,101,98]),.i 0,.i 0,.i 0,.i 0,.s (bs #[]),.l ah,.i 0,.s (bs #[]),.s (bs #[]),((k.L.getD a.I.toNat []).getD 0 .nil)]]))])) else none) else none) else none) else none) else (some (.brk 3 [d,e,f,g,.l h.L,.l i.L,.l j.L,.l k.L,.l l.L,.l m.L])))
def bL.d4 (a b c d e f g h i j:C):R:=(some (.ret [d,e,a,b,.l i.L,.l j.L]))
def bL.d5 (a b c d e f:C):R:=(call4 (cj [a,b,c,d]) fun g h i j=>(call3 (ad [.i (h.L.length:Int),e,f]) fun k l m=>(call3 (ad [.i (j.L.length:Int),l,m]) fun n o p=>(bif (!((h.L.length:Int)==0)) then (bif ((j.L.length:Int)==0) then (some (.ret [.b false,.l ah,o,p,.l ah,.l (rows [[.s (bs #[]),.i 0]])])) else (bR (call3 (ad [.i 16,o,p]) fun q r s=>(bif (q.I==0) then (call3 (ad [.i 2,r,s]) fun t u v=>(ae (eA [.s (bs #[110]),.i (w64 (20+t.I))]) fun w=>(call3 (ad [.i 4,u,v]) fun x y z=>(bif (decide (0≤x.I)) then (bif (decide (x.I<((rows [[.s (bs #[])],[.s (bs #[65])],[.s (bs #[122,122])],[w]]).length:Int))) then (bif (decide (0≤k.I)) then (bif (decide (k.I<(h.L.length:Int))) then (some (.nrm [y,z,.b false,g,.l j.L,.l ah,.l ah,.l ah,.l (h.L.set k.I.toNat (aK (h.L.getD k.I.toNat []) 0 [(((rows [[.s (bs #[])],[.s (bs #[65])],[.s (bs #[122,122])],[w]]).getD x.I.toNat []).getD 0 .nil)])),.l i.L])) else none) else none) else none) else none)))) else (bif (q.I==1) then (call3 (ad [.i 2,r,s]) fun a0 a1 a2=>(bif (decide (0≤a0.I)) then (bif (decide (a0.I<((rows [[.s (bs #[])],[.s (bs #[120,32,121])]]).length:Int))) then (bif (decide (0≤k.I)) then (bif (decide (k.I<(h.L.length:Int))) then (some (.nrm [a1,a2,.b false,g,.l j.L,.l ah,.l ah,.l ah,.l (h.L.set k.I.toNat (aK (h.L.getD k.I.toNat []) 1 [(((rows [[.s (bs #[])],[.s (bs #[120,32,121])]]).getD a0.I.toNat []).getD 0 .nil)])),.l i.L])) else none) else none) else none) else none)) else (bif (q.I==2) then (call3 (ad [.i 6,r,s]) fun a3 a4 a5=>(bif (decide (0≤a3.I)) then (bif (decide (a3.I<((rows [[.l (rows [[.s (bs #[98])],[.s (bs #[97])]])],[.l (rows [[.s (bs #[97])],[.s (bs #[97,61,98])]])],[.l (rows [[.s (bs #[97,61,98])],[.s (bs #[97,61,99])]])],[.l (rows [[.s (bs #[65])]])],[.l (rows [[.s (bs #[97])],[.s (bs #[97,45,120])],[.s (bs #[97,61,98])]])],[.l (rows [[.s (bs #[49])],[.s (bs #[50])],[.s (bs #[51])],[.s (bs #[52])],[.s (bs #[53])],[.s (bs #[54])],[.s (bs #[55])],[.s (bs #[56])],[.s (bs #[57])],[.s (bs #[97])],[.s (bs #[98])]])]]).length:Int))) then (bif (decide (0≤k.I)) then (bif (decide (k.I<(h.L.length:Int))) then (some (.nrm [a4,a5,.b false,g,.l j.L,.l ah,.l ah,.l ah,.l (h.L.set k.I.toNat (aK (h.L.getD k.I.toNat []) 2 [(((rows [[.l (rows [[.s (bs #[98])],[.s (bs #[97])]])],[.l (rows [[.s (bs #[97])],[.s (bs #[97,61,98])]])],[.l (rows [[.s (bs #[97,61,98])],[.s (bs #[97,61,99])]])],[.l (rows [[.s (bs #[65])]])],[.l (rows [[.s (bs #[97])],[.s (bs #[97,45,120])],[.s (bs #[97,61,98])]])],[.l (rows [[.s (bs #[49])],[.s (bs #[50])],[.s (bs #[51])],[.s (bs #[52])],[.s (bs #[53])],[.s (bs #[54])],[.s (bs #[55])],[.s (bs #[56])],[.s (bs #[57])],[.s (bs #[97])],[.s (bs #[98])]])]]).getD a3.I.toNat []).getD 0 .nil)])),.l i.L])) else none) else none) else none) else none)) else (bif (q.I==3) then (call3 (ad [.i 4,r,s]) fun a6 a7 a8=>(bif (decide (0≤a6.I)) then (bif (decide (a6.I<((rows [[.i (-1)],[.i 0],[.i 1000],[.i 1001]]).length:Int))) then (bif (decide (0≤k.I)) then (bif (decide (k.I<(h.L.length:Int))) then (some (.nrm [a7,a8,.b false,g,.l j.L,.l ah,.l ah,.l ah,.l (h.L.set k.I.toNat (aK (h.L.getD k.I.toNat []) 3 [(((rows [[.i (-1)],[.i 0],[.i 1000],[.i 1001]]).getD a6.I.toNat []).getD 0 .nil)])),.l i.L])) else none) else none) else none) else none)) else (bif (q.I==4) then (bif (decide (0≤k.I)) then (bif (decide (k.I<(h.L.length:Int))) then (bif (decide (h.L.length+(rows [[((h.L.getD k.I.toNat []).getD 0 .nil),((h.L.getD k.I.toNat []).getD 1 .nil),((h.L.getD k.I.toNat []).getD 2 .nil),((h.L.getD k.I.toNat []).getD 3 .nil),((h.L.getD k.I.toNat []).getD 4 .nil),((h.L.getD k.I.toNat []).getD 5 .nil)]]).length≤4294967296)) then (some (.nrm [r,s,.b false,g,.l j.L,.l ah,.l ah,.l ah,.l (h.L++(rows [[((h.L.getD k.I.toNat []).getD 0 .nil),((h.L.getD k.I.toNat []).getD 1 .nil),((h.L.getD k.I.toNat []).getD 2 .nil),((h.L.getD k.I.toNat []).getD 3 .nil),((h.L.getD k.I.toNat []).getD 4 .nil),((h.L.getD k.I.toNat []).getD 5 .nil)]])),.l i.L])) else none) else none) else none) else (bif (q.I==5) then (call3 (ad [.i 4,r,s]) fun a9 b0 b1=>(call3 (ad [.i 3,b0,b1]) fun b2 b3 b4=>(bif (decide (0≤b2.I)) then (bif (decide (b2.I<((rows [[.i (-1)],[.i 60],[.i 61]]).length:Int))) then (bif (decide (0≤a9.I)) then (bif (decide (a9.I<(i.L.length:Int))) then (some (.nrm [b3,b4,.b false,g,.l j.L,.l ah,.l ah,.l ah,.l h.L,.l (i.L.set a9.I.toNat (aK (i.L.getD a9.I.toNat []) 1 [(((rows [[.i (-1)],[.i 60],[.i 61]]).getD b2.I.toNat []).getD 0 .nil)]))])) else none) else none) else none) else none))) else (bif (q.I==6) then (call3 (ad [.i 3,r,s]) fun b5 b6 b7=>(bif (decide (0≤b5.I)) then (bif (decide (b5.I<((rows [[.i (-1)],[.i 100],[.i 101]]).length:Int))) then (bif (decide (0≤n.I)) then (bif (decide (n.I<(j.L.length:Int))) then (some (.nrm [b6,b7,.b false,g,.l (j.L.set n.I.toNat (aK (j.L.getD n.I.toNat []) 2 [(((rows [[.i (-1)],[.i 100],[.i 101]]).getD b5.I.toNat []).getD 0 .nil)])),.l ah,.l ah,.l ah,.l h.L,.l i.L])) else none) else none) else none) else none)) else (bif (q.I==7) then (call3 (ad [.i 3,r,s]) fun b8 b9 c0=>(bif (decide (0≤b8.I)) then (bif (decide (b8.I<((rows [[.i (-1)],[.i 1000000],[.i 1000001]]).length:Int))) then (bif (decide (0≤n.I)) then (bif (decide (n.I<(j.L.length:Int))) then (some (.nrm [b9,c0,.b false,g,.l (j.L.set n.I.toNat (aK (j.L.getD n.I.toNat []) 3 [(((rows [[.i (-1)],[.i 1000000],[.i 1000001]]).getD b8.I.toNat []).getD 0 .nil)])),.l ah,.l ah,.l ah,.l h.L,.l i.L])) else none) else none) else none) else none)) else (bif (q.I==8) then (call3 (ad [.i 3,r,s]) fun c1 c2 c3=>(bif (decide (0≤c1.I)) then (bif (decide (c1.I<((rows [[.i (-1)],[.i 1000],[.i 1001]]).length:Int))) then (bif (decide (0≤n.I)) then (bif (decide (n.I<(j.L.length:Int))) then (some (.nrm [c2,c3,.b false,g,.l (j.L.set n.I.toNat (aK (j.L.getD n.I.toNat []) 4 [(((rows [[.i (-1)],[.i 1000],[.i 1001]]).getD c1.I.toNat []).getD 0 .nil)])),.l ah,.l ah,.l ah,.l h.L,.l i.L])) else none) else none) else none) else none)) else (bif (q.I==9) then (ae (eA [.s (bs #[97]),.i 201]) fun c4=>(call3 (ad [.i 4,r,s]) fun c5 c6 c7=>(bif (decide (0≤c5.I)) then (bif (decide (c5.I<((rows [[.s (bs #[97,32,98])],[.s (bs #[33])],[c4],[.s (bs #[120])]]).length:Int))) then (bif (decide (0≤n.I)) then (bif (decide (n.I<(j.L.length:Int))) then (some (.nrm [c6,c7,.b false,g,.l (j.L.set n.I.toNat (aK (j.L.getD n.I.toNat []) 6 [(((rows [[.s (bs #[97,32,98])],[.s (bs #[33])],[c4],[.s (bs #[120])]]).getD c5.I.toNat []).getD 0 .nil)])),.l ah,.l ah,.l ah,.l h.L,.l i.L])) else none) else none) else none) else none))) else (bif (q.I==10) then (call3 (ad [.i 2,r,s]) fun c8 c9 d0=>(ax 1 (lim (apn 12 bL.d1) [n,.i (w64 (5+c8.I)),c9,d0,.b false,g,.l ah,.l ah,.l ah,.l h.L,.l i.L,.l j.L]) (apn 10 bL.d2))) else (bif (q.I==11) then (call3 (ad [.i 2,r,s]) fun d1 d2 d3=>(bif (decide (0≤d1.I)) then (bif (decide (d1.I<((rows [[.i (-1)],[.i 3]]).length:Int))) then (bif (decide (0≤n.I)) then (bif (decide (n.I<(j.L.length:Int))) then (some (.nrm [d2,d3,.b false,g,.l (j.L.set n.I.toNat (aK (j.L.getD n.I.toNat []) 8 [(((rows [[.i (-1)],[.i 3]]).getD d1.I.toNat []).getD 0 .nil)])),.l ah,.l ah,.l ah,.l h.L,.l i.L])) else none) else none) else none) else none)) else (bif (q.I==12) then (call3 (ad [.i 3,r,s]) fun d4 d5 d6=>(bif (decide (0≤d4.I)) then (bif (decide (d4.I<((rows [[.s (bs #[103,111,110,101])],[.s (bs #[98,48])],[.s (bs #[98,49])]]).length:Int))) then (bif (decide (0≤n.I)) then (bif (decide (n.I<(j.L.length:Int))) then (some (.nrm [d5,d6,.b false,g,.l (j.L.set n.I.toNat (aK (j.L.getD n.I.toNat []) 11 [(((rows [[.s (bs #[103,111,110,101])],[.s (bs #[98,48])],[.s (bs #[98,49])]]).getD d4.I.toNat []).getD 0 .nil)])),.l ah,.l ah,.l ah,.l h.L,.l i.L])) else none) else none) else none) else none)) else (bif (q.I==13) then (call3 (ad [.i 2,r,s]) fun d7 d8 d9=>(bif (decide (0≤d7.I)) then (bif (decide (d7.I<((rows [[.s (bs #[110,111,110,101])],[.s (bs #[])]]).length:Int))) then (bif (decide (0≤n.I)) then (bif (decide (n.I<(j.L.length:Int))) then (some (.nrm [d8,d9,.b false,g,.l (j.L.set n.I.toNat (aK (j.L.getD n.I.toNat []) 1 [(((rows [[.s (bs #[110,111,110,101])],[.s (bs #[])]]).getD d7.I.toNat []).getD 0 .nil)])),.l ah,.l ah,.l ah,.l h.L,.l i.L])) else none) else none) else none) else none)) else (bif (q.I==14) then (call3 (ad [.i 2,r,s]) fun e0 e1 e2=>(ax 3 (lim (apn 13 bL.d3) [k,.i (w64 (10+e0.I)),.i 0,e1,e2,.b false,g,.l ah,.l ah,.l ah,.l h.L,.l i.L,.l ah]) (apn 10 bL.d2))) else (call3 (ad [.i 2,r,s]) fun e3 e4 e5=>(bif (decide (0≤e3.I)) then (bif (decide (e3.I<((rows [[.s (bs #[65])],[.s (bs #[119,101,98])]]).length:Int))) then (bif (decide (0≤n.I)) then (bif (decide (n.I<(j.L.length:Int))) then (call3 (ad [.i 2,e4,e5]) fun e6 e7 e8=>(bif (decide (0≤e6.I)) then (bif (decide (e6.I<((rows [[.s (bs #[120,32,121])],[.s (bs #[98,48])]]).length:Int))) then (bif (decide (0≤n.I)) then (bif (decide (n.I<((j.L.set n.I.toNat (aK (j.L.getD n.I.toNat []) 9 [(((rows [[.s (bs #[65])],[.s (bs #[119,101,98])]]).getD e3.I.toNat []).getD 0 .nil)])).length:Int))) then (some (.nrm [e7,e8,.b false,g,.l ((j.L.set n.I.toNat (aK (j.L.getD n.I.toNat []) 9 [(((rows [[.s (bs #[65])],[.s (bs #[119,101,98])]]).getD e3.I.toNat []).getD 0 .nil)])).set n.I.toNat (aK ((j.L.set n.I.toNat (aK (j.L.getD n.I.toNat []) 9 [(((rows [[.s (bs #[65])],[.s (bs #[119,101,98])]]).getD e3.I.toNat []).getD 0 .nil)])).getD n.I.toNat []) 10 [(((rows [[.s (bs #[120,32,121])],[.s (bs #[98,48])]]).getD e6.I.toNat []).getD 0 .nil)])),.l ah,.l ah,.l ah,.l h.L,.l i.L])) else none) else none) else none) else none)) else none) else none) else none) else none)))))))))))))))))) (apn 10 bL.d4))) else (some (.ret [.b false,.l ah,o,p,.l ah,.l (rows [[.s (bs #[]),.i 0]])]))))))
def bL:List C→Option (List C):=fun xs=>bl (apn 6 bL.d5 xs)
def mW:FS:=⟨2,⟨[(0,(.pt 2000 0)),(1,z3)],[(2000,z1)]⟩,⟨[(0,(.ag [zo,(.ow 3001),(.ow 3002),(zl 33)]))],[(2000,z1),(3001,.arr 30),(3002,.arr 86 1)]⟩,[2000],bL⟩
theorem yF:aG Tryz.checked.prog T0 67 mW:=Gs aI [125,287] true [30,86] (fn:=Tryz.f67) (c:=Tryz.f67.body.getD .skip) mW (.seq .leaf (.seq .leaf (.seq .leaf (.seq .leaf (.seq .leaf (.seq (.join ⟨[(4,(.pt 4 0)),(5,(.pt 5 0))],[(2000,z1),(4,.var 27 [zo,(.ow 1189200),(.ow 1189201),(.ow 1189202)]),(5,.var 27 [zo,(.ow 56248),(.ow 56249),(zl 33)]),(1189200,.arr 30 1),(1189201,.arr 86 1),(1189202,.arr 33 1),(56248,.arr 30),(56249,.arr 86 1)]⟩ (.seq .leaf (.skip (.seq .leaf (.cond .leaf (.seq .leaf (.cond .leaf (.seq .leaf (.cond .leaf (.seq .leaf (.cond .leaf (.seq .leaf (.cond .leaf (.seq .leaf (.cond .leaf (.seq .leaf (.cond .leaf (.seq .leaf (.cond .leaf (.seq .leaf (.cond .leaf (.seq .leaf (.cond .leaf (.seq .leaf (.cond (.seq .leaf (.block ⟨[(4,(.pt 4 0)),(5,(.pt 5 0))],[(2000,z1),(4,.var 27 [zo,(.ow 1189200),(.ow 1189201),(.ow 1189202)]),(5,.var 27 [zo,(.ow 56248),(.ow 56249),(.ow 56250)]),(1189200,.arr 30 1),(1189201,.arr 86 1),(1189202,.arr 33 1),(56248,.arr 30 1),(56249,.arr 86 1),(56250,.arr 33 2)]⟩ (.loop ⟨[(0,(.pt 2000 0)),(4,(.pt 4 0)),(5,(.pt 5 0)),(7,zi),(8,zi)],[(2000,z1),(4,.var 27 [zo,(.ow 1189200),(.ow 1189201),(.ow 1189202)]),(5,.var 27 [zo,(.ow 56248),(.ow 56249),(.ow 56250)]),(1189200,.arr 30 1),(1189201,.arr 86 1),(1189202,.arr 33 1),(56248,.arr 30 1),(56249,.arr 86 1),(56250,.arr 33 2)]⟩ .leaf))) (.seq .leaf (.cond .leaf (.seq .leaf (.cond .leaf (.seq .leaf (.cond .leaf (.seq .leaf (.cond (.seq .leaf (.seq .leaf (.seq .leaf (.block ⟨[(4,(.pt 4 0)),(5,(.pt 5 0))],[(2000,z1),(4,.var 27 [zo,(.ow 1192300),(.ow 1192301),(.ow 1192302)]),(5,.var 27 [zo,(.ow 56248),(.ow 56249),(.ow 265)]),(1192300,.arr 30 1),(1192301,.arr 86 1),(1192302,.arr 33 1),(56248,.arr 30 1),(56249,.arr 86 1),(265,.arr 33 1)]⟩ (.loop ⟨[(4,(.pt 4 0)),(5,(.pt 5 0)),(6,zi),(9,zi),(10,zi)],[(2000,z1),(4,.var 27 [zo,(.ow 1192300),(.ow 1192301),(.ow 1192302)]),(5,.var 27 [zo,(.ow 56248),(.ow 56249),(.ow 265)]),(1192300,.arr 30 1),(1192301,.arr 86 1),(1192302,.arr 33 1),(56248,.arr 30 1),(56249,.arr 86 1),(265,.arr 33 1)]⟩ .leaf))))) .leaf))))))))))))))))))))))))))))))))) .leaf)))))) [(22,some 17,aa),(22,some 22,aa),(22,some 37,aa),(22,some 43,aa),(22,some 53,aa),(22,some 64,aa),(22,some 69,aa),(22,some 81,aa),(22,some 99,aa),(22,some 111,aa),(22,some 133,aa),(22,some 136,aa),(22,some 148,aa),(22,some 160,aa),(22,some 172,aa),(22,some 185,aa),(22,some 193,aa),(22,some 214,aa),(22,some 216,aa),(22,some 231,aa),(22,some 243,aa),(22,some 255,aa),(22,some 263,aa),(91,some 12,kJ),(111,some 66,lJ),(111,some 182,lJ)] (.cons ab (.cons ab (.cons ab (.cons ab (.cons ab (.cons ab (.cons ab (.cons ab (.cons ab (.cons ab (.cons ab (.cons ab (.cons ab (.cons ab (.cons ab (.cons ab (.cons ab (.cons ab (.cons ab (.cons ab (.cons ab (.cons ab (.cons ab (.cons rJ (.cons tn (.cons tn .nil)))))))))))))))))))))))))) (by kernel_rfl) (by kernel_rfl) (by kernel_rfl) (fun xs=>by kernel_rfl)
def nE.d1 (a b:C):R:=(call3 (ad [.i 12,a,b]) fun c d e=>(bif (c.I==0) then (call6 (cC [d,e]) fun f g h i j k=>(some (.ret [f,.l i.L,.l j.L,.l k.L,g,h]))) else (call6 (aJ [d,e]) fun l m n o p q=>(call3 (ad [.i 16,p,q]) fun r s t=>(bif (r.I==0) then (call6 (bL [l,m,n,o,s,t]) fun u v w x y z=>(some (.ret [u,.l y.L,.l z.L,v,w,x]))) else (some (.ret [l,m,n,o,s,t])))))))
def nE:List C→Option (List C):=fun xs=>bl (apn 2 nE.d1 xs)
def qN:FS:=⟨1,⟨[(0,(.pt 2000 0))],[(2000,z1)]⟩,⟨[(0,z3)],[(2000,z1)]⟩,[2000],nE⟩
theorem Bl:aG Tryz.checked.prog T0 20 qN:=bO aI (fn:=Tryz.f20) (c:=Tryz.f20.body.getD .skip) qN (.seq .leaf (.seq (.seq .leaf (.cond (.seq .leaf (.frz [39865,39866,39867] .leaf)) .leaf)) (.seq .leaf (.seq (.seq .leaf (.cond (.seq .leaf (.frz [72633,72634] .leaf)) .leaf)) .leaf)))) [(22,some 5,aa),(22,some 12,aa),(65,some 8,pn),(66,some 10,oM),(67,some 16,mW)] (.cons ab (.cons ab (.cons AB (.cons Ac (.cons yF .nil))))) (by kernel_rfl) (by kernel_rfl) (by kernel_rfl) (fun xs=>by kernel_rfl)
def gq.d1 (a b c d e f:C):R:=(bif (!((b.L.length:Int)==0)) then (call3 (ad [.i 16,e,f]) fun g h i=>(bif (g.I==0) then (call3 (ad [.i 2,h,i]) fun j k l=>(bif (decide (0≤j.I)) then (bif (decide (j.I<((rows [[.s (bs #[])],[.s (bs #[103,111,110,101])]]).length:Int))) then (some (.ret [(((rows [[.s (bs #[])],[.s (bs #[103,111,110,101])]]).getD j.I.toNat []).getD 0 .nil),k,l])) else none) else none)) else (call3 (ad [.i (b.L.length:Int),h,i]) fun m n o=>(bif (decide (0≤m.I)) then (bif (decide (m.I<(b.L.length:Int))) then (some (.ret [((b.L.getD m.I.toNat []).getD 0 .nil),n,o])) else none) else none)))) else (call3 (ad [.i 2,e,f]) fun p q r=>(bif (decide (0≤p.I)) then (bif (decide (p.I<((rows [[.s (bs #[])],[.s (bs #[103,111,110,101])]]).length:Int))) then (some (.ret [(((rows [[.s (bs #[])],[.s (bs #[103,111,110,101])]]).getD p.I.toNat []).getD 0 .nil),q,r])) else none) else none)))
def gq:List C→Option (List C):=fun xs=>bl (apn 6 gq.d1 xs)
def jl:FS:=⟨2,⟨[(0,(.pt 2000 0)),(1,z3)],[(2000,z1)]⟩,⟨[(0,zt)],[(2000,z1)]⟩,[2000],gq⟩
theorem mV:aG Tryz.checked.prog T0 70 jl:=bO aI (fn:=Tryz.f70) (c:=Tryz.f70.body.getD .skip) jl .leaf [(22,some 11,aa),(22,some 16,aa),(22,some 25,aa)] (.cons ab (.cons ab (.cons ab .nil))) (by kernel_rfl) (by kernel_rfl) (by kernel_rfl) (fun xs=>by kernel_rfl)
def bT.d1 (a b c d e f g h i j k l m n o p q r s t u v w x y z a0 a1:C):R:=(bif (decide (b.I>0)) then (call3 (dB [c,d]) fun a2 a3 a4=>(call3 (ad [.i 19,a3,a4]) fun a5 a6 a7=>(bif (decide (a1.L.length+(rows [[a2,.i (w64 (a5.I-9))]]).length≤4294967296)) then (some (.again [a,.i (w64 (b.I-1)),a6,a7,e,f,g,h,i,j,k,l,m,n,o,p,q,r,s,t,u,v,w,x,y,z,.l a0.L,.l (a1.L++(rows [[a2,.i (w64 (a5.I-9))]]))])) else none))) else (some (.brk 0 [a,c,d,e,f,g,h,i,j,k,l,m,n,o,p,q,r,s,t,u,v,w,x,y,z,.l a0.L,.l a1.L])))
def bT.d2 (a b c d e f g h i j k l m n o p q r s t u v w x y z a0:C):R:=(call3 (ad [.i 8,b,c]) fun a1 a2 a3=>(bif (a1.I==0) then (some (.ret [o,p,q,r,s,t,u,.i 1,w,x,y,a2,a3,.l a0.L])) else (bif (a1.I==1) then (some (.ret [o,p,q,r,s,t,u,.i 2,w,x,y,a2,a3,.l a0.L])) else (bif (a1.I==2) then (call3 (ad [.i 4,a2,a3]) fun a4 a5 a6=>(bif (decide (0≤a4.I)) then (bif (decide (a4.I<((rows [[.s (bs #[119,101,98])],[.s (bs #[100,98])],[.s (bs #[103,111,110,101])],[a]]).length:Int))) then (some (.ret [o,p,q,r,s,t,u,v,(((rows [[.s (bs #[119,101,98])],[.s (bs #[100,98])],[.s (bs #[103,111,110,101])],[a]]).getD a4.I.toNat []).getD 0 .nil),x,y,a5,a6,.l a0.L])) else none) else none)) else (bif (a1.I==3) then (call3 (ad [.i 3,a2,a3]) fun a7 a8 a9=>(bif (a7.I==0) then (call3 (ad [.i 4,a8,a9]) fun b0 b1 b2=>(ae (cw [b0]) fun b3=>(bif (decide ((bs #[98]).size+b3.S.size≤4294967296)) then (some (.ret [o,p,q,r,s,t,u,v,w,.s ((bs #[98])++b3.S),y,b1,b2,.l a0.L])) else none))) else (some (.ret [o,p,q,r,s,t,u,v,w,x,y,a8,a9,.l a0.L])))) else (some (.ret [o,p,q,r,s,t,u,v,w,x,y,a2,a3,.l a0.L])))))))
def bT.d3 (a b c:C):R:=(call3 (ad [.i 4,b,c]) fun d e f=>(bif (decide (0≤d.I)) then (bif (decide (d.I<((rows [[.s (bs #[119,101,98])],[.s (bs #[100,98])],[.s (bs #[106,111,98])],[.s (bs #[99,97,99,104,101])]]).length:Int))) then (bif (decide (((((rows [[.s (bs #[119,101,98])],[.s (bs #[100,98])],[.s (bs #[106,111,98])],[.s (bs #[99,97,99,104,101])]]).getD d.I.toNat []).getD 0 .nil).S).size+(bs #[45]).size≤4294967296)) then (ae (cw [a]) fun g=>(bif (decide (((((rows [[.s (bs #[119,101,98])],[.s (bs #[100,98])],[.s (bs #[106,111,98])],[.s (bs #[99,97,99,104,101])]]).getD d.I.toNat []).getD 0 .nil).S++(bs #[45])).size+g.S.size≤4294967296)) then (call3 (ad [.i 6,e,f]) fun h i j=>(bif (decide (0≤h.I)) then (bif (decide (h.I<((rows [[.i 1],[.i 1],[.i 5],[.i 5],[.i 9],[.i 50]]).length:Int))) then (call3 (ad [.i 30,i,j]) fun k l m=>(call3 (ad [.i 7,l,m]) fun n o p=>(call3 (ad [.i 8,o,p]) fun q r s=>(call3 (dB [r,s]) fun t u v=>(call3 (ad [.i 5,u,v]) fun w x y=>(ax 0 (lim (apn 28 bT.d1) [(((rows [[.s (bs #[119,101,98])],[.s (bs #[100,98])],[.s (bs #[106,111,98])],[.s (bs #[99,97,99,104,101])]]).getD d.I.toNat []).getD 0 .nil),.i (w64 (w.I-2)),x,y,.s (bs #[]),.s (bs #[]),.i 0,.i 0,.i 0,.i 0,.s (bs #[]),.i 0,.s (bs #[]),.s (bs #[]),.s (bs #[]),.s (((((rows [[.s (bs #[119,101,98])],[.s (bs #[100,98])],[.s (bs #[106,111,98])],[.s (bs #[99,97,99,104,101])]]).getD d.I.toNat []).getD 0 .nil).S++(bs #[45]))++g.S),(((rows [[.s (bs #[119,101,98])],[.s (bs #[100,98])],[.s (bs #[106,111,98])],[.s (bs #[99,97,99,104,101])]]).getD d.I.toNat []).getD 0 .nil),(((rows [[.i 1],[.i 1],[.i 5],[.i 5],[.i 9],[.i 50]]).getD h.I.toNat []).getD 0 .nil),k,.i (w64 (1+n.I)),q,t,.i 0,.s (bs #[]),.s (bs #[]),.s (bs #[]),.l ah,.l ah]) (apn 27 bT.d2))))))) else none) else none)) else none)) else none) else none) else none))
def bT:List C→Option (List C):=fun xs=>bl (apn 3 bT.d3 xs)
def iG:FS:=⟨2,⟨[(0,(.pt 2000 0)),(1,zi)],[(2000,z1)]⟩,⟨[(0,(.ag [zt,zt,zi,zi,zi,zi,zt,(.ow 3001),zi,zt,zt,zt]))],[(2000,z1),(3001,.arr 122 1)]⟩,[2000],bT⟩
theorem qD:aG Tryz.checked.prog T0 71 iG:=bO aI (fn:=Tryz.f71) (c:=Tryz.f71.body.getD .skip) iG (.seq .leaf (.seq .leaf (.seq .leaf (.seq (.seq .leaf (.block ⟨[(0,(.pt 2000 0)),(4,(.pt 4 0)),(5,zt),(6,(.pt 6 0))],[(2000,z1),(4,z10),(6,z11),(1033800,.arr 122 1),(1033801,.arr 122 1)]⟩ (.loop ⟨[(0,(.pt 2000 0)),(4,(.pt 4 0)),(5,zt),(6,(.pt 6 0)),(7,zi)],[(2000,z1),(4,z10),(6,z11),(1033800,.arr 122 1),(1033801,.arr 122 1)]⟩ .leaf))) .leaf)))) [(22,some 10,aa),(22,some 21,aa),(22,some 25,aa),(22,some 27,aa),(22,some 30,aa),(22,some 35,aa),(22,some 46,aa),(22,some 53,aa),(22,some 65,aa),(22,some 72,aa),(22,some 75,aa),(69,some 16,(dP cw)),(69,some 76,(dP cw)),(113,some 32,eC),(113,some 44,eC)] (.cons ab (.cons ab (.cons ab (.cons ab (.cons ab (.cons ab (.cons ab (.cons ab (.cons ab (.cons ab (.cons ab (.cons iE (.cons iE (.cons gx (.cons gx .nil))))))))))))))) (by kernel_rfl) (by kernel_rfl) (by kernel_rfl) (fun xs=>by kernel_rfl)
def iq.d1 (a b c d e f:C):R:=(bif (!((d.L.length:Int)==0)) then (call3 (ad [.i 16,e,f]) fun g h i=>(bif (g.I==0) then (call3 (ad [.i 2,h,i]) fun j k l=>(bif (decide (0≤j.I)) then (bif (decide (j.I<((rows [[.s (bs #[])],[.s (bs #[103,111,110,101])]]).length:Int))) then (some (.ret [(((rows [[.s (bs #[])],[.s (bs #[103,111,110,101])]]).getD j.I.toNat []).getD 0 .nil),k,l])) else none) else none)) else (call3 (ad [.i (d.L.length:Int),h,i]) fun m n o=>(bif (decide (0≤m.I)) then (bif (decide (m.I<(d.L.length:Int))) then (some (.ret [((d.L.getD m.I.toNat []).getD 0 .nil),n,o])) else none) else none)))) else (call3 (ad [.i 2,e,f]) fun p q r=>(bif (decide (0≤p.I)) then (bif (decide (p.I<((rows [[.s (bs #[])],[.s (bs #[103,111,110,101])]]).length:Int))) then (some (.ret [(((rows [[.s (bs #[])],[.s (bs #[103,111,110,101])]]).getD p.I.toNat []).getD 0 .nil),q,r])) else none) else none)))
def iq:List C→Option (List C):=fun xs=>bl (apn 6 iq.d1 xs)
def kj:FS:=⟨2,⟨[(0,(.pt 2000 0)),(1,z3)],[(2000,z1)]⟩,⟨[(0,zt)],[(2000,z1)]⟩,[2000],iq⟩
theorem oj:aG Tryz.checked.prog T0 72 kj:=bO aI (fn:=Tryz.f72) (c:=Tryz.f72.body.getD .skip) kj .leaf [(22,some 11,aa),(22,some 16,aa),(22,some 25,aa)] (.cons ab (.cons ab (.cons ab .nil))) (by kernel_rfl) (by kernel_rfl) (by kernel_rfl) (fun xs=>by kernel_rfl)
def fJ.d1 (a b c d e f g h i j k l m n o p q r s t u v w x y z a0 a1 a2:C):R:=(bif b.B then (call3 (ad [.i 16,c,d]) fun a3 a4 a5=>(call14 (bT [a3,a4,a5]) fun a6 a7 a8 a9 b0 b1 b2 b3 b4 b5 b6 b7 b8 b9=>(call3 (ad [.i 3,b7,b8]) fun c0 c1 c2=>(bif (c0.I==0) then (call3 (gq [e,f,g,h,c1,c2]) fun c3 c4 c5=>(some (.ret [.i 3,.s (bs #[]),.s (bs #[]),.i 0,.i 0,.b false,a6,a7,a8,a9,b0,b1,b2,b3,b4,b5,c3,.s (bs #[]),.s (bs #[]),c4,c5,.l ah,.l b9.L]))) else (some (.ret [.i 3,.s (bs #[]),.s (bs #[]),.i 0,.i 0,.b false,a6,a7,a8,a9,b0,b1,b2,b3,b4,b5,b6,.s (bs #[]),.s (bs #[]),c1,c2,.l ah,.l b9.L])))))) else (bif (a.I==5) then (call3 (iq [e,f,g,h,c,d]) fun c6 c7 c8=>(some (.ret [.i 4,.s (bs #[]),.s (bs #[]),.i 0,.i 0,.b false,.s (bs #[]),.s (bs #[]),.i 0,.i 0,.i 0,.i 0,.s (bs #[]),.i 0,.s (bs #[]),.s (bs #[]),.s (bs #[]),c6,.s (bs #[]),c7,c8,.l ah,.l ah]))) else (bif (a.I==6) then (call3 (iq [e,f,g,h,c,d]) fun c9 d0 d1=>(some (.ret [.i 5,.s (bs #[]),.s (bs #[]),.i 0,.i 0,.b false,.s (bs #[]),.s (bs #[]),.i 0,.i 0,.i 0,.i 0,.s (bs #[]),.i 0,.s (bs #[]),.s (bs #[]),.s (bs #[]),c9,.s (bs #[]),d0,d1,.l ah,.l ah]))) else (call3 (iq [e,f,g,h,c,d]) fun d2 d3 d4=>(call3 (gq [e,f,g,h,d3,d4]) fun d5 d6 d7=>(some (.ret [.i 5,.s (bs #[]),.s (bs #[]),.i 0,.i 0,.b false,.s (bs #[]),.s (bs #[]),.i 0,.i 0,.i 0,.i 0,.s (bs #[]),.i 0,.s (bs #[]),.s (bs #[]),.s (bs #[]),d2,d5,d6,d7,.l ah,.l ah])))))))
def fJ.d2 (a b c d e f:C):R:=(call3 (ad [.i 10,e,f]) fun g h i=>(bif (g.I==0) then (call3 (ad [.i 7,h,i]) fun j k l=>(ae (cw [j]) fun m=>(bif (decide ((bs #[98]).size+m.S.size≤4294967296)) then (call8 (eQ [.s ((bs #[98])++m.S),k,l]) fun n o p q r s t u=>(some (.ret [.i 1,n,o,p,q,r,.s (bs #[]),.s (bs #[]),.i 0,.i 0,.i 0,.i 0,.s (bs #[]),.i 0,.s (bs #[]),.s (bs #[]),.s (bs #[]),.s (bs #[]),.s (bs #[]),s,t,.l u.L,.l ah]))) else none))) else (bif (g.I==1) then (call3 (gq [a,b,c,d,h,i]) fun v w x=>(some (.ret [.i 2,.s (bs #[]),.s (bs #[]),.i 0,.i 0,.b false,.s (bs #[]),.s (bs #[]),.i 0,.i 0,.i 0,.i 0,.s (bs #[]),.i 0,.s (bs #[]),.s (bs #[]),.s (bs #[]),v,.s (bs #[]),w,x,.l ah,.l ah]))) else (bR (bif (g.I==2) then (some (.nrm [g,.b (g.I==2),h,i,a,b,c,d,.i 0,.s (bs #[]),.s (bs #[]),.i 0,.i 0,.b false,.s (bs #[]),.s (bs #[]),.i 0,.i 0,.i 0,.i 0,.s (bs #[]),.i 0,.s (bs #[]),.s (bs #[]),.s (bs #[]),.s (bs #[]),.s (bs #[]),.l ah,.l ah])) else (bif (g.I==3) then (some (.nrm [g,.b (g.I==3),h,i,a,b,c,d,.i 0,.s (bs #[]),.s (bs #[]),.i 0,.i 0,.b false,.s (bs #[]),.s (bs #[]),.i 0,.i 0,.i 0,.i 0,.s (bs #[]),.i 0,.s (bs #[]),.s (bs #[]),.s (bs #[]),.s (bs #[]),.s (bs #[]),.l ah,.l ah])) else (some (.nrm [g,.b (g.I==4),h,i,a,b,c,d,.i 0,.s (bs #[]),.s (bs #[]),.i 0,.i 0,.b false,.s (bs #[]),.s (bs #[]),.i 0,.i 0,.i 0,.i 0,.s (bs #[]),.i 0,.s (bs #[]),.s (bs #[]),.s (bs #[]),.s (bs #[]),.s (bs #[]),.l ah,.l ah])))) (apn 29 fJ.d1)))))
def fJ:List C→Option (List C):=fun xs=>bl (apn 6 fJ.d2 xs)
def oS:FS:=⟨2,⟨[(0,(.pt 2000 0)),(1,z3)],[(2000,z1)]⟩,⟨[(0,(.ag [zi,zt,zt,(.ow 3001),zi,zi,zo,zt,zt,zi,zi,zi,zi,zt,(.ow 3002),zi,zt,zt,zt,zt,zt]))],[(2000,z1),(3001,.arr 9 1),(3002,.arr 122 1)]⟩,[2000],fJ⟩
theorem zW:aG Tryz.checked.prog T0 21 oS:=bO aI (fn:=Tryz.f21) (c:=Tryz.f21.body.getD .skip) oS (.seq .leaf (.seq (.seq .leaf (.skip (.seq .leaf (.cond .leaf (.seq .leaf (.cond .leaf (.seq (.join ⟨[(0,(.pt 2000 0)),(3,(.pt 3 0)),(4,(.pt 4 0)),(7,zi),(23,zo)],[(2000,z1),(3,z0),(4,.var 35 [zi,zt,zt,(.ow 1198500),zi,zi,zo,zt,zt,zi,zi,zi,zi,zt,(.ow 1198501),zi,zt,zt,zt,zt,zt]),(1198500,.arr 9 1),(1198501,.arr 122 1)]⟩ .leaf) .leaf))))))) .leaf)) [(22,some 7,aa),(22,some 12,aa),(22,some 29,aa),(22,some 32,aa),(68,some 15,gX),(69,some 13,(dP cw)),(70,some 21,jl),(70,some 36,jl),(70,some 57,jl),(71,some 30,iG),(72,some 44,kj),(72,some 50,kj),(72,some 54,kj)] (.cons ab (.cons ab (.cons ab (.cons ab (.cons mO (.cons iE (.cons mV (.cons mV (.cons mV (.cons qD (.cons oj (.cons oj (.cons oj .nil))))))))))))) (by kernel_rfl) (by kernel_rfl) (by kernel_rfl) (fun xs=>by kernel_rfl)
def dy.d1 (a:C):R:=(call2 (lG [a]) fun b c=>(call6 (nE [b,c]) fun d e f g h i=>(call23 (fJ [d,e,f,g,h,i]) fun j k l m n o p q r s t u v w x y z a0 a1 a2 a3 a4 a5=>(call3 (ad [.i 16,a2,a3]) fun a6 a7 a8=>(bif (a6.I==0) then (call3 (ad [.i 3,a7,a8]) fun a9 b0 b1=>(bif (decide (0≤a9.I)) then (bif (decide (a9.I<((rows [[.i 0],[.i 6],[.i (-1)]]).length:Int))) then (some (.ret [d,e,f,g,(((rows [[.i 0],[.i 6],[.i (-1)]]).getD a9.I.toNat []).getD 0 .nil),k,l,m,n,o,p,q,r,s,t,u,v,w,x,y,z,a0,a1,.l a4.L,.l a5.L])) else none) else none)) else (some (.ret [d,e,f,g,j,k,l,m,n,o,p,q,r,s,t,u,v,w,x,y,z,a0,a1,.l a4.L,.l a5.L])))))))
def dy:List C→Option (List C):=fun xs=>bl (apn 1 dy.d1 xs)
def fw:FS:=⟨1,⟨[(0,(zl 5))],[]⟩,⟨[(0,(.tu [z3,(.ag [zi,zt,zt,(.ow 3000),zi,zi,zo,zt,zt,zi,zi,zi,zi,zt,(.ow 3001),zi,zt,zt,zt,zt,zt])]))],[(3000,.arr 9 1),(3001,.arr 122 1)]⟩,[],dy⟩
theorem kp:aG Tryz.checked.prog T0 5 fw:=bO aI (fn:=Tryz.f5) (c:=Tryz.f5.body.getD .skip) fw .leaf [(19,some 8,oo),(20,some 10,qN),(21,some 13,oS),(22,some 15,aa),(22,some 19,aa)] (.cons Az (.cons Bl (.cons zW (.cons ab (.cons ab .nil))))) (by kernel_rfl) (by kernel_rfl) (by kernel_rfl) (fun xs=>by kernel_rfl)
def pL.d1 (a:C):R:=(bif (decide (a.I≥97)) then (bif (!(decide (a.I≤122))) then (bif (decide (a.I≥48)) then (bif (!(decide (a.I≤57))) then (bif (!(a.I==45)) then (some (.ret [.b (a.I==95)])) else (some (.ret [.b true]))) else (some (.ret [.b true]))) else (bif (!(a.I==45)) then (some (.ret [.b (a.I==95)])) else (some (.ret [.b true])))) else (some (.ret [.b true]))) else (bif (decide (a.I≥48)) then (bif (!(decide (a.I≤57))) then (bif (!(a.I==45)) then (some (.ret [.b (a.I==95)])) else (some (.ret [.b true]))) else (some (.ret [.b true]))) else (bif (!(a.I==45)) then (some (.ret [.b (a.I==95)])) else (some (.ret [.b true])))))
def pL:List C→Option (List C):=fun xs=>bl (apn 1 pL.d1 xs)
def nD:FS:=⟨1,⟨[(0,(.d (.int .u8)))],[]⟩,⟨[(0,zo)],[]⟩,[],pL⟩
theorem wy:aG Tryz.checked.prog T0 115 nD:=bO aI (fn:=Tryz.f115) (c:=Tryz.f115.body.getD .skip) nD .leaf [] .nil (by kernel_rfl) (by kernel_rfl) (by kernel_rfl) (fun xs=>by kernel_rfl)
def dF.d1 (a b c:C):R:=(bif (decide (c.I<b.I)) then (bif (decide (0≤c.I)) then (bif (decide (c.I<(a.S.size:Int))) then (ae (pL [.i ((a.S.data.getD c.I.toNat 0).toNat:Int)]) fun d=>(bif (!d.B) then (some (.ret [.b false])) else (some (.again [a,b,.i (w64 (c.I+1))])))) else none) else none) else (some (.brk 0 [])))
def dF.d2:R:=(some (.ret [.b true]))
def dF.d3 (a:C):R:=(bif (!(decide ((a.S.size:Int)<1))) then (bif (decide ((a.S.size:Int)>20)) then (some (.ret [.b false])) else (ax 0 (lim (apn 3 dF.d1) [a,.i (a.S.size:Int),.i 0]) (fun xs=>dF.d2))) else (some (.ret [.b false])))
def dF:List C→Option (List C):=fun xs=>bl (apn 1 dF.d3 xs)
def eW:FS:=⟨1,⟨[(0,zt)],[]⟩,⟨[(0,zo)],[]⟩,[],dF⟩
theorem fY:aG Tryz.checked.prog T0 74 eW:=bO aI (fn:=Tryz.f74) (c:=Tryz.f74.body.getD .skip) eW (.seq .leaf (.seq .leaf (.seq (.seq .leaf (.block ⟨[],[]⟩ (.loop ⟨[(0,zt),(13,zi),(14,zi)],[]⟩ .leaf))) .leaf))) [(115,some 20,nD)] (.cons wy .nil) (by kernel_rfl) (by kernel_rfl) (by kernel_rfl) (fun xs=>by kernel_rfl)
def eZ.d1 (a b c:C):R:=(bif (decide (a.I≥b.I)) then (some (.ret [.b (decide (a.I≤c.I))])) else (some (.ret [.b false])))
def eZ:List C→Option (List C):=fun xs=>bl (apn 3 eZ.d1 xs)
def ez:FS:=⟨3,⟨[(0,zi),(1,zi),(2,zi)],[]⟩,⟨[(0,zo)],[]⟩,[],eZ⟩
theorem fu:aG Tryz.checked.prog T0 75 ez:=bO aI (fn:=Tryz.f75) (c:=Tryz.f75.body.getD .skip) ez .leaf [] .nil (by kernel_rfl) (by kernel_rfl) (by kernel_rfl) (fun xs=>by kernel_rfl)
def eh:List C→Option (List C):=ibF
def fc:FS:=⟨2,⟨[(0,.d .str),(1,.d (.int .u8))],[]⟩,⟨[(0,.d (.int .i64))],[]⟩,[],eh⟩
theorem iY:aG Tryz.checked.prog T0 172 fc:=HD
def aS.d1 (a b c d:C):R:=(bif d.B then (some (.ret [.i 0])) else (bif (c.I==1) then (bif (decide (0<(b.S.size:Int))) then (ae (eh [a,.i ((b.S.data.getD 0 0).toNat:Int)]) fun e=>(some (.ret [e]))) else none) else (bif (decide (c.I≥(a.S.size:Int))) then (some (.ret [.i (-1)])) else none)))
def aS.d2 (a b:C):R:=(bR (bif (!((b.S.size:Int)==0)) then (some (.nrm [a,b,.i (b.S.size:Int),.b (b.S.toList==a.S.toList)])) else (some (.nrm [a,b,.i (b.S.size:Int),.b true]))) (apn 4 aS.d1))
def aS:List C→Option (List C):=fun xs=>bl (apn 2 aS.d2 xs)
def eB:FS:=⟨2,⟨[(0,zt),(1,zt)],[]⟩,⟨[(0,zi)],[]⟩,[],aS⟩
theorem kg:aG Tryz.checked.prog T0 164 eB:=bO aI (fn:=Tryz.f164) (c:=Tryz.f164.body.getD .skip) eB (.seq .leaf (.seq .leaf (.seq (.skip (.seq (.join ⟨[(0,zt),(1,zt),(5,zi),(16,zo)],[]⟩ .leaf) .leaf)) .leaf))) [(172,some 30,fc)] (.cons iY .nil) (by kernel_rfl) (by kernel_rfl) (by kernel_rfl) (fun xs=>by kernel_rfl)
def cO.d1 (a b:C):R:=(ae (aS [a,b]) fun c=>(bif (decide (c.I≥0)) then (bif (decide (0≤c.I)) then (bif (decide (c.I≤(a.S.size:Int))) then (bif (decide (0≤(w64 (c.I+(b.S.size:Int))))) then (bif (decide ((w64 (c.I+(b.S.size:Int)))≤(a.S.size:Int))) then (bif (decide ((a.S.size:Int)≤(a.S.size:Int))) then (some (.ret [.s (a.S.extract 0 c.I.toNat),.s (a.S.extract (w64 (c.I+(b.S.size:Int))).toNat (a.S.size:Int).toNat),.b true])) else none) else none) else none) else none) else none) else (some (.ret [a,.s (bs #[]),.b false]))))
def cO:List C→Option (List C):=fun xs=>bl (apn 2 cO.d1 xs)
def eO:FS:=⟨2,⟨[(0,zt),(1,zt)],[]⟩,⟨[(0,(.tu [zt,zt,zo]))],[]⟩,[],cO⟩
theorem kP:aG Tryz.checked.prog T0 147 eO:=bO aI (fn:=Tryz.f147) (c:=Tryz.f147.body.getD .skip) eO .leaf [(164,some 10,eB)] (.cons kg .nil) (by kernel_rfl) (by kernel_rfl) (by kernel_rfl) (fun xs=>by kernel_rfl)
def iS.d1 (a b:C):R:=(call3 (cO [a,b]) fun c d e=>(some (.ret [c,d,.b e.B])))
def iS:List C→Option (List C):=fun xs=>bl (apn 2 iS.d1 xs)
def kZ:FS:=⟨2,⟨[(0,zt),(1,zt)],[]⟩,⟨[(0,(.tu [zt,zt,zo]))],[]⟩,[],iS⟩
theorem wu:aG Tryz.checked.prog T0 130 kZ:=bO aI (fn:=Tryz.f130) (c:=Tryz.f130.body.getD .skip) kZ .leaf [(147,some 9,eO)] (.cons kP .nil) (by kernel_rfl) (by kernel_rfl) (by kernel_rfl) (fun xs=>by kernel_rfl)
def nv.d1 (a:C):R:=(call3 (iS [a,.s (bs #[61])]) fun b c d=>(ae (dF [b]) fun e=>(bif e.B then (bif (!(!d.B)) then (ae (dF [c]) fun f=>(some (.ret [b,c,.b f.B]))) else (some (.ret [b,c,.b true]))) else (some (.ret [b,c,.b false])))))
def nv:List C→Option (List C):=fun xs=>bl (apn 1 nv.d1 xs)
def qn:FS:=⟨1,⟨[(0,zt)],[]⟩,⟨[(0,(.tu [zt,zt,zo]))],[]⟩,[],nv⟩
theorem Bd:aG Tryz.checked.prog T0 114 qn:=bO aI (fn:=Tryz.f114) (c:=Tryz.f114.body.getD .skip) qn .leaf [(74,some 17,eW),(74,some 23,eW),(130,some 10,kZ)] (.cons fY (.cons fY (.cons wu .nil))) (by kernel_rfl) (by kernel_rfl) (by kernel_rfl) (fun xs=>by kernel_rfl)
def du.d1 (a b c d e f g h i j:C):R:=(bif (decide (c.I<b.I)) then (bif (decide (0≤c.I)) then (bif (decide (c.I<(a.L.length:Int))) then (call3 (nv [((a.L.getD c.I.toNat []).getD 0 .nil)]) fun k l m=>(bif (!(!m.B)) then (bif (!((kK (.b false) k.S j.L).B)) then (bif (decide (c.I>0)) then (bif (decide (0≤(w64 (c.I-1)))) then (bif (decide ((w64 (c.I-1))<(f.L.length:Int))) then (bif ((Op.bytesLess (((a.L.getD c.I.toNat []).getD 0 .nil).S).toList (((f.L.getD (w64 (c.I-1)).toNat []).getD 0 .nil).S).toList)||((((a.L.getD c.I.toNat []).getD 0 .nil).S).toList==(((f.L.getD (w64 (c.I-1)).toNat []).getD 0 .nil).S).toList)) then (some (.ret [.b false])) else (some (.again [a,b,.i (w64 (c.I+1)),d,e,f,g,h,i,.l (lI k.S (.b true) j.L)]))) else none) else none) else (some (.again [a,b,.i (w64 (c.I+1)),d,e,f,g,h,i,.l (lI k.S (.b true) j.L)]))) else (some (.ret [.b false]))) else (some (.ret [.b false])))) else none) else none) else (some (.brk 0 [])))
def du.d2:R:=(some (.ret [.b true]))
def du.d3 (a b c d e f:C):R:=(ae (dF [a]) fun g=>(bif (!(!g.B)) then (ae (dF [b]) fun h=>(bif (!(!h.B)) then (bif (!(decide ((c.L.length:Int)>10))) then (ae (eZ [d,.i 0,.i 1000]) fun i=>(bif (!(!i.B)) then (ae (eZ [e,.i 0,.i 1000]) fun j=>(bif (!j.B) then (some (.ret [.b false])) else (ax 0 (lim (apn 10 du.d1) [c,.i (c.L.length:Int),.i 0,a,b,c,d,e,f,.l ah]) (fun xs=>du.d2)))) else (some (.ret [.b false])))) else (some (.ret [.b false]))) else (some (.ret [.b false])))) else (some (.ret [.b false]))))
def du:List C→Option (List C):=fun xs=>bl (apn 6 du.d3 xs)
def mc:FS:=⟨1,⟨[(0,z7)],[]⟩,⟨[(0,zo)],[]⟩,[],du⟩
theorem wN:aG Tryz.checked.prog T0 73 mc:=bO aI (fn:=Tryz.f73) (c:=Tryz.f73.body.getD .skip) mc (.seq .leaf (.seq .leaf (.seq .leaf (.seq (.seq .leaf (.block ⟨[],[]⟩ (.loop ⟨[(1,(.pt 1 0)),(3,(.mp 37)),(39,(zl 9)),(40,zi),(41,zi)],[(1,z8),(37,.mp 4)]⟩ .leaf))) .leaf)))) [(74,some 11,eW),(74,some 16,eW),(75,some 28,ez),(75,some 34,ez),(114,some 48,qn)] (.cons fY (.cons fY (.cons fu (.cons fu (.cons Bd .nil))))) (by kernel_rfl) (by kernel_rfl) (by kernel_rfl) (fun xs=>by kernel_rfl)
def aM.d1 (a b:C):R:=(bif (decide ((a.S.size:Int)>0)) then (bif (decide (0≤(w64 ((a.S.size:Int)-1)))) then (bif (decide ((w64 ((a.S.size:Int)-1))<(a.S.size:Int))) then (bif (((a.S.data.getD (w64 ((a.S.size:Int)-1)).toNat 0).toNat:Int)==b.I) then (bif (decide (0≤(w64 ((a.S.size:Int)-1)))) then (bif (decide ((w64 ((a.S.size:Int)-1))≤(a.S.size:Int))) then (some (.again [.s (a.S.extract 0 (w64 ((a.S.size:Int)-1)).toNat),b])) else none) else none) else (some (.brk 0 [a]))) else none) else none) else (some (.brk 0 [a])))
def aM.d2 (a:C):R:=(some (.ret [a]))
def aM.d3 (a b:C):R:=(ax 0 (lim (apn 2 aM.d1) [a,b]) (apn 1 aM.d2))
def aM:List C→Option (List C):=fun xs=>bl (apn 2 aM.d3 xs)
def fD:FS:=⟨2,⟨[(0,zt),(1,(.d (.int .u8)))],[]⟩,⟨[(0,zt)],[]⟩,[],aM⟩
theorem mj:aG Tryz.checked.prog T0 149 fD:=bO aI (fn:=Tryz.f149) (c:=Tryz.f149.body.getD .skip) fD (.seq .leaf (.seq (.block ⟨[(0,zt)],[]⟩ (.loop ⟨[(0,zt),(1,(.d (.int .u8)))],[]⟩ .leaf)) .leaf)) [] .nil (by kernel_rfl) (by kernel_rfl) (by kernel_rfl) (fun xs=>by kernel_rfl)
def aQ.d1 (a b:C):R:=(bif (decide ((a.S.size:Int)>0)) then (bif (decide (0<(a.S.size:Int))) then (bif (((a.S.data.getD 0 0).toNat:Int)==b.I) then (bif (decide (1≤(a.S.size:Int))) then (bif (decide ((a.S.size:Int)≤(a.S.size:Int))) then (some (.again [.s (a.S.extract 1 (a.S.size:Int).toNat),b])) else none) else none) else (some (.brk 0 [a]))) else none) else (some (.brk 0 [a])))
def aQ.d2 (a:C):R:=(some (.ret [a]))
def aQ.d3 (a b:C):R:=(ax 0 (lim (apn 2 aQ.d1) [a,b]) (apn 1 aQ.d2))
def aQ:List C→Option (List C):=fun xs=>bl (apn 2 aQ.d3 xs)
def fM:FS:=⟨2,⟨[(0,zt),(1,(.d (.int .u8)))],[]⟩,⟨[(0,zt)],[]⟩,[],aQ⟩
theorem mN:aG Tryz.checked.prog T0 148 fM:=bO aI (fn:=Tryz.f148) (c:=Tryz.f148.body.getD .skip) fM (.seq .leaf (.seq (.block ⟨[(0,zt)],[]⟩ (.loop ⟨[(0,zt),(1,(.d (.int .u8)))],[]⟩ .leaf)) .leaf)) [] .nil (by kernel_rfl) (by kernel_rfl) (by kernel_rfl) (fun xs=>by kernel_rfl)
def ft.d1 (a:C):R:=none
def ft:List C→Option (List C):=fun xs=>bl (apn 1 ft.d1 xs)
def fK:FS:=⟨1,⟨[(0,zt)],[]⟩,⟨[],[]⟩,[],ft⟩
theorem mI:aG Tryz.checked.prog T0 150 fK:=bO aI (fn:=Tryz.f150) (c:=Tryz.f150.body.getD .skip) fK .leaf [] .nil (by kernel_rfl) (by kernel_rfl) (by kernel_rfl) (fun xs=>by kernel_rfl)
def eN.d1 (a b:C):R:=(gB (ft [b]) fun _=>none)
def eN.d2 (a b:C):R:=(bif (!(a.S.toList==(bs #[]).toList)) then (bif (b.S.toList==(bs #[]).toList) then (some (.ret [a])) else (bR (bif ((b.S.size:Int)==1) then (bif (decide (0<(b.S.size:Int))) then (bif (decide (((b.S.data.getD 0 0).toNat:Int)<128)) then (bif (decide (0<(b.S.size:Int))) then (ae (aM [a,.i ((b.S.data.getD 0 0).toNat:Int)]) fun c=>(bif (decide (0<(b.S.size:Int))) then (ae (aQ [c,.i ((b.S.data.getD 0 0).toNat:Int)]) fun d=>(some (.ret [d]))) else none)) else none) else (some (.nrm [a,b]))) else none) else (some (.nrm [a,b]))) (apn 2 eN.d1))) else (some (.ret [a])))
def eN:List C→Option (List C):=fun xs=>bl (apn 2 eN.d2 xs)
def kB:FS:=⟨2,⟨[(0,zt),(1,zt)],[]⟩,⟨[(0,zt)],[]⟩,[],eN⟩
theorem tM:aG Tryz.checked.prog T0 131 kB:=bO aI (fn:=Tryz.f131) (c:=Tryz.f131.body.getD .skip) kB (.seq .leaf (.seq .leaf (.seq (.join ⟨[(0,zt),(1,zt)],[]⟩ .leaf) .leaf))) [(148,some 28,fM),(149,some 25,fD),(150,some 31,fK)] (.cons mN (.cons mj (.cons mI .nil))) (by kernel_rfl) (by kernel_rfl) (by kernel_rfl) (fun xs=>by kernel_rfl)
def bG.d1 (a b c:C):R:=(bif (decide (b.I<(a.S.size:Int))) then (bif (decide (0≤b.I)) then (bif (decide (b.I<(a.S.size:Int))) then (bif (((a.S.data.getD b.I.toNat 0).toNat:Int)==32) then (some (.again [a,.i (w64 (b.I+1)),c])) else (some (.brk 0 [a,b,c]))) else none) else none) else (some (.brk 0 [a,b,c])))
def bG.d2 (a b c:C):R:=(some (.ret [a,b,c]))
def bG.d3 (a b c:C):R:=(ax 0 (lim (apn 3 bG.d1) [a,b,c]) (apn 3 bG.d2))
def bG:List C→Option (List C):=fun xs=>bl (apn 3 bG.d3 xs)
def fL:FS:=⟨1,⟨[(0,(.pt 2000 0))],[(2000,.var 163 [zt,zi,zo])]⟩,⟨[(0,(.tu []))],[(2000,.var 163 [zt,zi,zo])]⟩,[2000],bG⟩
theorem jq:aG Tryz.checked.prog T0 133 fL:=bO aI (fn:=Tryz.f133) (c:=Tryz.f133.body.getD .skip) fL (.block ⟨[],[(2000,.var 163 [zt,zi,zo])]⟩ (.loop ⟨[(0,(.pt 2000 0))],[(2000,.var 163 [zt,zi,zo])]⟩ .leaf)) [] .nil (by kernel_rfl) (by kernel_rfl) (by kernel_rfl) (fun xs=>by kernel_rfl)
def bq.d1 (a b c d:C):R:=(call3 (bG [b,c,d]) fun e f g=>(bif (decide (f.I<(e.S.size:Int))) then (bif (decide (0≤f.I)) then (bif (decide (f.I<(e.S.size:Int))) then (bif (((e.S.data.getD f.I.toNat 0).toNat:Int)==a.I) then (some (.ret [.b true,e,.i (w64 (f.I+1)),g])) else (some (.ret [.b false,e,f,g]))) else none) else none) else (some (.ret [.b false,e,f,g]))))
def bq:List C→Option (List C):=fun xs=>bl (apn 4 bq.d1 xs)
def dx:FS:=⟨2,⟨[(0,(.pt 2000 0)),(1,(.d (.int .u8)))],[(2000,.var 163 [zt,zi,zo])]⟩,⟨[(0,zo)],[(2000,.var 163 [zt,zi,zo])]⟩,[2000],bq⟩
theorem eD:aG Tryz.checked.prog T0 156 dx:=bO aI (fn:=Tryz.f156) (c:=Tryz.f156.body.getD .skip) dx .leaf [(133,some 6,fL)] (.cons jq .nil) (by kernel_rfl) (by kernel_rfl) (by kernel_rfl) (fun xs=>by kernel_rfl)
def br.d1 (a b c d:C):R:=(bif (decide (c.I<(b.S.size:Int))) then (bif (decide (0≤c.I)) then (bif (decide (c.I<(b.S.size:Int))) then (ae (pL [.i ((b.S.data.getD c.I.toNat 0).toNat:Int)]) fun e=>(bif e.B then (some (.again [a,b,.i (w64 (c.I+1)),d])) else (some (.brk 0 [a,b,c,d])))) else none) else none) else (some (.brk 0 [a,b,c,d])))
def br.d2 (a b c d:C):R:=(bif (decide (0≤a.I)) then (bif (decide (a.I≤c.I)) then (bif (decide (c.I≤(b.S.size:Int))) then (ae (dF [.s (b.S.extract a.I.toNat c.I.toNat)]) fun e=>(bif (!e.B) then (bif (decide (0≤a.I)) then (bif (decide (a.I≤c.I)) then (bif (decide (c.I≤(b.S.size:Int))) then (some (.ret [.s (b.S.extract a.I.toNat c.I.toNat),b,c,.b false])) else none) else none) else none) else (bif (decide (0≤a.I)) then (bif (decide (a.I≤c.I)) then (bif (decide (c.I≤(b.S.size:Int))) then (some (.ret [.s (b.S.extract a.I.toNat c.I.toNat),b,c,d])) else none) else none) else none))) else none) else none) else none)
def br.d3 (a b c:C):R:=(call3 (bG [a,b,c]) fun d e f=>(ax 0 (lim (apn 4 br.d1) [e,d,e,f]) (apn 4 br.d2)))
def br:List C→Option (List C):=fun xs=>bl (apn 3 br.d3 xs)
def gD:FS:=⟨1,⟨[(0,(.pt 2000 0))],[(2000,.var 163 [zt,zi,zo])]⟩,⟨[(0,zt)],[(2000,.var 163 [zt,zi,zo])]⟩,[2000],br⟩
theorem lR:aG Tryz.checked.prog T0 179 gD:=bO aI (fn:=Tryz.f179) (c:=Tryz.f179.body.getD .skip) gD (.seq .leaf (.seq .leaf (.seq .leaf (.seq (.block ⟨[(0,(.pt 2000 0)),(3,zi)],[(2000,.var 163 [zt,zi,zo])]⟩ (.loop ⟨[(0,(.pt 2000 0)),(3,zi)],[(2000,.var 163 [zt,zi,zo])]⟩ .leaf)) .leaf)))) [(74,some 49,eW),(115,some 30,nD),(133,some 5,fL)] (.cons fY (.cons wy (.cons jq .nil))) (by kernel_rfl) (by kernel_rfl) (by kernel_rfl) (fun xs=>by kernel_rfl)
end
end Go.Ev
namespace Go.Ev
open Go.Proofs
noncomputable section
def av.d1 (G0 G1 G2:List C→Option (List C)) (a b c d:C):R:=(bif d.B then (call4 (bq [.i 124,b,c,d]) fun e f g h=>(bif e.B then (call4 (G1 [f,g,h]) fun i j k l=>(some (.again [.p [.i 5,.s (bs #[]),.s (bs #[]),.l (rows [[a],[i]])],j,k,l]))) else (some (.brk 0 [a,f,g,h])))) else (some (.brk 0 [a,b,c,d])))
def av.d2 (G0 G1 G2:List C→Option (List C)) (a b c d:C):R:=(some (.ret [a,b,c,d]))
def av.d3 (G0 G1 G2:List C→Option (List C)) (a b c:C):R:=(call4 (G1 [a,b,c]) fun d e f g=>(ax 0 (lim (apn 4 (av.d1 G0 G1 G2)) [d,e,f,g]) (apn 4 (av.d2 G0 G1 G2))))
def av.step (G0 G1 G2:List C→Option (List C)):List C→Option (List C):=fun xs=>bl (apn 3 (av.d3 G0 G1 G2) xs)
def dH (G:List C→Option (List C)):FS:=⟨1,⟨[(0,(.pt 2000 0))],[(2000,.var 163 [(.d .str),(.d (.int .i64)),(.d .bool)])]⟩,⟨[(0,(.d (.pt 160)))],[(2000,.var 163 [(.d .str),(.d (.int .i64)),(.d .bool)])]⟩,[2000],G⟩
def dk.d1 (G0 G1 G2:List C→Option (List C)) (a b c d:C):R:=(bif d.B then (call4 (bq [.i 38,b,c,d]) fun e f g h=>(bif e.B then (call4 (G2 [f,g,h]) fun i j k l=>(some (.again [.p [.i 4,.s (bs #[]),.s (bs #[]),.l (rows [[a],[i]])],j,k,l]))) else (some (.brk 0 [a,f,g,h])))) else (some (.brk 0 [a,b,c,d])))
def dk.d2 (G0 G1 G2:List C→Option (List C)) (a b c d:C):R:=(some (.ret [a,b,c,d]))
def dk.d3 (G0 G1 G2:List C→Option (List C)) (a b c:C):R:=(call4 (G2 [a,b,c]) fun d e f g=>(ax 0 (lim (apn 4 (dk.d1 G0 G1 G2)) [d,e,f,g]) (apn 4 (dk.d2 G0 G1 G2))))
def dk.step (G0 G1 G2:List C→Option (List C)):List C→Option (List C):=fun xs=>bl (apn 3 (dk.d3 G0 G1 G2) xs)
def dL (G:List C→Option (List C)):FS:=⟨1,⟨[(0,(.pt 2000 0))],[(2000,.var 163 [(.d .str),(.d (.int .i64)),(.d .bool)])]⟩,⟨[(0,(.d (.pt 160)))],[(2000,.var 163 [(.d .str),(.d (.int .i64)),(.d .bool)])]⟩,[2000],G⟩
def eP.d1 (G0 G1 G2:List C→Option (List C)) (a b c:C):R:=(bif (!c.B) then (some (.ret [.p [.i 0,.s (bs #[]),.s (bs #[]),.l ah],a,b,c])) else (call4 (bq [.i 33,a,b,c]) fun d e f g=>(bif d.B then (call4 (G2 [e,f,g]) fun h i j k=>(some (.ret [.p [.i 3,.s (bs #[]),.s (bs #[]),.l (rows [[h]])],i,j,k]))) else (call4 (bq [.i 40,e,f,g]) fun l m n o=>(bif l.B then (call4 (G0 [m,n,o]) fun p q r s=>(bif s.B then (call4 (bq [.i 41,q,r,s]) fun t u v w=>(some (.ret [p,u,v,.b t.B]))) else (some (.ret [p,q,r,.b false])))) else (call4 (br [m,n,o]) fun x y z a0=>(bif a0.B then (call4 (bq [.i 61,y,z,a0]) fun a1 a2 a3 a4=>(bif a1.B then (call4 (br [a2,a3,a4]) fun a5 a6 a7 a8=>(some (.ret [.p [.i 2,x,a5,.l ah],a6,a7,a8]))) else (some (.ret [.p [.i 1,x,.s (bs #[]),.l ah],a2,a3,a4])))) else (some (.ret [.p [.i 1,x,.s (bs #[]),.l ah],y,z,a0])))))))))
def eP.step (G0 G1 G2:List C→Option (List C)):List C→Option (List C):=fun xs=>bl (apn 3 (eP.d1 G0 G1 G2) xs)
def dp (G:List C→Option (List C)):FS:=⟨1,⟨[(0,(.pt 2000 0))],[(2000,.var 163 [(.d .str),(.d (.int .i64)),(.d .bool)])]⟩,⟨[(0,(.d (.pt 160)))],[(2000,.var 163 [(.d .str),(.d (.int .i64)),(.d .bool)])]⟩,[2000],G⟩
theorem tL {G0 G1 G2:List C→Option (List C)} (h0:aG Tryz.checked.prog T0 132 (dH G0)) (h1:aG Tryz.checked.prog T0 155 (dL G1)) (h2:aG Tryz.checked.prog T0 169 (dp G2)):aG Tryz.checked.prog T0 132 (dH (av.step G0 G1 G2)):=bO aI (fn:=Tryz.f132) (c:=Tryz.f132.body.getD .skip) (dH (av.step G0 G1 G2)) (.seq .leaf (.seq .leaf (.seq (.block ⟨[(3,(.d (.pt 160)))],[(2000,.var 163 [(.d .str),(.d (.int .i64)),(.d .bool)])]⟩ (.loop ⟨[(0,(.pt 2000 0)),(3,(.d (.pt 160)))],[(2000,.var 163 [(.d .str),(.d (.int .i64)),(.d .bool)])]⟩ .leaf)) .leaf))) [(155,some 5,(dL G1)),(155,some 16,(dL G1)),(156,some 12,dx)] (.cons h1 (.cons h1 (.cons eD .nil))) (by kernel_rfl) (by kernel_rfl) (by kernel_rfl) (fun xs=>by kernel_rfl)
theorem r8 {G0 G1 G2:List C→Option (List C)} (h0:aG Tryz.checked.prog T0 132 (dH G0)) (h1:aG Tryz.checked.prog T0 155 (dL G1)) (h2:aG Tryz.checked.prog T0 169 (dp G2)):aG Tryz.checked.prog T0 155 (dL (dk.step G0 G1 G2)):=bO aI (fn:=Tryz.f155) (c:=Tryz.f155.body.getD .skip) (dL (dk.step G0 G1 G2)) (.seq .leaf (.seq .leaf (.seq (.block ⟨[(3,(.d (.pt 160)))],[(2000,.var 163 [(.d .str),(.d (.int .i64)),(.d .bool)])]⟩ (.loop ⟨[(0,(.pt 2000 0)),(3,(.d (.pt 160)))],[(2000,.var 163 [(.d .str),(.d (.int .i64)),(.d .bool)])]⟩ .leaf)) .leaf))) [(156,some 12,dx),(169,some 5,(dp G2)),(169,some 16,(dp G2))] (.cons eD (.cons h2 (.cons h2 .nil))) (by kernel_rfl) (by kernel_rfl) (by kernel_rfl) (fun xs=>by kernel_rfl)
theorem su {G0 G1 G2:List C→Option (List C)} (h0:aG Tryz.checked.prog T0 132 (dH G0)) (h1:aG Tryz.checked.prog T0 155 (dL G1)) (h2:aG Tryz.checked.prog T0 169 (dp G2)):aG Tryz.checked.prog T0 169 (dp (eP.step G0 G1 G2)):=bO aI (fn:=Tryz.f169) (c:=Tryz.f169.body.getD .skip) (dp (eP.step G0 G1 G2)) (.seq .leaf (.seq (.skip (.seq .leaf (.cond (.seq .leaf (.frz [12] .leaf)) (.seq .leaf (.cond (.seq .leaf (.frz [18,20] .leaf)) .leaf))))) (.seq .leaf (.seq .leaf (.seq .leaf (.frz [41] .leaf)))))) [(132,some 25,(dH G0)),(156,some 15,dx),(156,some 23,dx),(156,some 33,dx),(156,some 48,dx),(169,some 17,(dp G2)),(179,some 39,gD),(179,some 53,gD)] (.cons h0 (.cons eD (.cons eD (.cons eD (.cons eD (.cons h2 (.cons lR (.cons lR .nil)))))))) (by kernel_rfl) (by kernel_rfl) (by kernel_rfl) (fun xs=>by kernel_rfl)
def av.g:Nat→Nat→List C→Option (List C)
 |0,_=>fun _=>none
 |k+1,0=>av.step (av.g k 0) (av.g k 1) (av.g k 2)
 |k+1,1=>dk.step (av.g k 0) (av.g k 1) (av.g k 2)
 |k+1,2=>eP.step (av.g k 0) (av.g k 1) (av.g k 2)
 |_,_=>fun _=>none
theorem cM:∀k:Nat,aG Tryz.checked.prog T0 132 (dH (av.g k 0))∧aG Tryz.checked.prog T0 155 (dL (av.g k 1))∧aG Tryz.checked.prog T0 169 (dp (av.g k 2))
 |0=>⟨kD (fn:=Tryz.f132) (c:=Tryz.f132.body.getD .skip) (1) (⟨[(0,(.pt 2000 0))],[(2000,.var 163 [(.d .str),(.d (.int .i64)),(.d .bool)])]⟩) (⟨[(0,(.d (.pt 160)))],[(2000,.var 163 [(.d .str),(.d (.int .i64)),(.d .bool)])]⟩) [2000] (by kernel_rfl) (by kernel_rfl) (by kernel_rfl),kD (fn:=Tryz.f155) (c:=Tryz.f155.body.getD .skip) (1) (⟨[(0,(.pt 2000 0))],[(2000,.var 163 [(.d .str),(.d (.int .i64)),(.d .bool)])]⟩) (⟨[(0,(.d (.pt 160)))],[(2000,.var 163 [(.d .str),(.d (.int .i64)),(.d .bool)])]⟩) [2000] (by kernel_rfl) (by kernel_rfl) (by kernel_rfl),kD (fn:=Tryz.f169) (c:=Tryz.f169.body.getD .skip) (1) (⟨[(0,(.pt 2000 0))],[(2000,.var 163 [(.d .str),(.d (.int .i64)),(.d .bool)])]⟩) (⟨[(0,(.d (.pt 160)))],[(2000,.var 163 [(.d .str),(.d (.int .i64)),(.d .bool)])]⟩) [2000] (by kernel_rfl) (by kernel_rfl) (by kernel_rfl)⟩
 |k+1=>⟨tL (cM k).1 (cM k).2.1 (cM k).2.2,r8 (cM k).1 (cM k).2.1 (cM k).2.2,su (cM k).1 (cM k).2.1 (cM k).2.2⟩
def av:List C→Option (List C):=av.g iW 0
theorem tO:aG Tryz.checked.prog T0 132 (dH av):=(cM iW).1
def dk:List C→Option (List C):=av.g iW 1
def eP:List C→Option (List C):=av.g iW 2
def aw.d1 (G0:List C→Option (List C)) (a b c d:C):R:=(bif (decide (d.I<c.I)) then (bif (decide (0≤d.I)) then (bif (decide (d.I<(b.L.length:Int))) then (ae (G0 [((b.L.getD d.I.toNat []).getD 0 .nil)]) fun e=>(some (.again [.i (if (w64 (e.I+1))>a.I then (w64 (e.I+1)) else a.I),b,c,.i (w64 (d.I+1))]))) else none) else none) else (some (.brk 0 [a])))
def aw.d2 (G0:List C→Option (List C)) (a:C):R:=(some (.ret [a]))
def aw.d3 (G0:List C→Option (List C)) (a:C):R:=(bif a.isP then (ax 0 (lim (apn 4 (aw.d1 G0)) [.i 0,(a.P.getD 3 .nil),.i (((a.P.getD 3 .nil).L).length:Int),.i 0]) (apn 1 (aw.d2 G0))) else none)
def aw.step (G0:List C→Option (List C)):List C→Option (List C):=fun xs=>bl (apn 1 (aw.d3 G0) xs)
def eF (G:List C→Option (List C)):FS:=⟨1,⟨[(0,(.d (.pt 160)))],[]⟩,⟨[(0,(.d (.int .i64)))],[]⟩,[],G⟩
theorem tR {G0:List C→Option (List C)} (h0:aG Tryz.checked.prog T0 134 (eF G0)):aG Tryz.checked.prog T0 134 (eF (aw.step G0)):=bO aI (fn:=Tryz.f134) (c:=Tryz.f134.body.getD .skip) (eF (aw.step G0)) (.seq .leaf (.seq .leaf (.seq (.seq .leaf (.block ⟨[(3,(.d (.int .i64)))],[]⟩ (.loop ⟨[(3,(.d (.int .i64))),(9,(.d (.sl 141))),(10,(.d (.int .i64))),(11,(.d (.int .i64)))],[]⟩ .leaf))) .leaf))) [(134,some 17,(eF G0))] (.cons h0 .nil) (by kernel_rfl) (by kernel_rfl) (by kernel_rfl) (fun xs=>by kernel_rfl)
def aw.g:Nat→Nat→List C→Option (List C)
 |0,_=>fun _=>none
 |k+1,0=>aw.step (aw.g k 0)
 |_,_=>fun _=>none
theorem mq:∀k:Nat,aG Tryz.checked.prog T0 134 (eF (aw.g k 0))
 |0=>kD (fn:=Tryz.f134) (c:=Tryz.f134.body.getD .skip) (1) (⟨[(0,(.d (.pt 160)))],[]⟩) (⟨[(0,(.d (.int .i64)))],[]⟩) [] (by kernel_rfl) (by kernel_rfl) (by kernel_rfl)
 |k+1=>tR (mq k)
def aw:List C→Option (List C):=aw.g iW 0
theorem tN:aG Tryz.checked.prog T0 134 (eF aw):=mq iW
def ko.d1 (a:C):R:=(bif (decide ((a.S.size:Int)>200)) then (some (.ret [.nil,.i 1])) else (ae (eN [a,.s (bs #[32])]) fun b=>(bif (b.S.toList==(bs #[]).toList) then (some (.ret [.p [.i 0,.s (bs #[]),.s (bs #[]),.l ah],.i 0])) else (call4 (av [a,.i 0,.b true]) fun c d e f=>(call3 (bG [d,e,f]) fun g h i=>(bif (!(!i.B)) then (bif (decide (h.I<(a.S.size:Int))) then (some (.ret [.nil,.i 2])) else (ae (aw [c]) fun j=>(bif (decide (j.I>20)) then (some (.ret [.nil,.i 3])) else (some (.ret [c,.i 0]))))) else (some (.ret [.nil,.i 2]))))))))
def ko:List C→Option (List C):=fun xs=>bl (apn 1 ko.d1 xs)
def lK:FS:=⟨1,⟨[(0,zt)],[]⟩,⟨[(0,(.tu [(.d (.pt 160)),zi]))],[]⟩,[],ko⟩
theorem tG:aG Tryz.checked.prog T0 116 lK:=bO aI (fn:=Tryz.f116) (c:=Tryz.f116.body.getD .skip) lK (.seq .leaf (.seq .leaf (.seq (.seq .leaf (.cond (.seq .leaf (.frz [13] .leaf)) .leaf)) .leaf))) [(131,some 10,kB),(132,some 18,(dH av)),(133,some 20,fL),(134,some 36,(eF aw))] (.cons tM (.cons tO (.cons jq (.cons tN .nil)))) (by kernel_rfl) (by kernel_rfl) (by kernel_rfl) (fun xs=>by kernel_rfl)
def cN.d1 (a b c:C):R:=(bif (decide (c.I<b.I)) then (bif (decide (0≤c.I)) then (bif (decide (c.I<(a.L.length:Int))) then (call2 (ko [((a.L.getD c.I.toNat []).getD 0 .nil)]) fun d e=>(bif (!(e.I !=0)) then (ae (eZ [((a.L.getD c.I.toNat []).getD 1 .nil),.i (-9),.i 9]) fun f=>(bif (!f.B) then (some (.ret [.b false])) else (some (.again [a,b,.i (w64 (c.I+1))])))) else (some (.ret [.b false])))) else none) else none) else (some (.brk 0 [])))
def cN.d2:R:=(some (.ret [.b true]))
def cN.d3 (a b c d e f g h i j k l m:C):R:=(bif a.B then (some (.ret [.b false])) else (call2 (ko [h]) fun n o=>(bif (o.I !=0) then (some (.ret [.b false])) else (ax 0 (lim (apn 3 cN.d1) [i,.i (i.L.length:Int),.i 0]) (fun xs=>cN.d2)))))
def cN.d4 (a b c d e f g h i j k l:C):R:=(bR (ae (dF [a]) fun m=>(bif (!(!m.B)) then (ae (eZ [c,.i 0,.i 100]) fun n=>(bif (!(!n.B)) then (ae (eZ [d,.i 0,.i 1000000]) fun o=>(bif (!(!o.B)) then (ae (eZ [e,.i 0,.i 1000]) fun p=>(bif (!(!p.B)) then (ae (eZ [f,.i 0,.i 1000]) fun q=>(bif (!(!q.B)) then (bif (!(decide ((h.L.length:Int)>5))) then (ae (eZ [i,.i 0,.i 2]) fun r=>(bif (!(!r.B)) then (bif (!(j.S.toList==(bs #[]).toList)) then (ae (dF [j]) fun s=>(bif (!(!s.B)) then (bif (!(k.S.toList==(bs #[]).toList)) then (ae (dF [k]) fun t=>(some (.nrm [.b (!t.B),a,b,c,d,e,f,g,h,i,j,k,l]))) else (some (.nrm [.b false,a,b,c,d,e,f,g,h,i,j,k,l]))) else (some (.nrm [.b true,a,b,c,d,e,f,g,h,i,j,k,l])))) else (bif (!(k.S.toList==(bs #[]).toList)) then (ae (dF [k]) fun u=>(some (.nrm [.b (!u.B),a,b,c,d,e,f,g,h,i,j,k,l]))) else (some (.nrm [.b false,a,b,c,d,e,f,g,h,i,j,k,l])))) else (some (.nrm [.b true,a,b,c,d,e,f,g,h,i,j,k,l])))) else (some (.nrm [.b true,a,b,c,d,e,f,g,h,i,j,k,l]))) else (some (.nrm [.b true,a,b,c,d,e,f,g,h,i,j,k,l])))) else (some (.nrm [.b true,a,b,c,d,e,f,g,h,i,j,k,l])))) else (some (.nrm [.b true,a,b,c,d,e,f,g,h,i,j,k,l])))) else (some (.nrm [.b true,a,b,c,d,e,f,g,h,i,j,k,l])))) else (some (.nrm [.b true,a,b,c,d,e,f,g,h,i,j,k,l])))) (apn 13 cN.d3))
def cN:List C→Option (List C):=fun xs=>bl (apn 12 cN.d4 xs)
def ni:FS:=⟨1,⟨[(0,z5)],[]⟩,⟨[(0,zo)],[]⟩,[],cN⟩
theorem yj:aG Tryz.checked.prog T0 76 ni:=bO aI (fn:=Tryz.f76) (c:=Tryz.f76.body.getD .skip) ni (.seq .leaf (.seq (.seq (.join ⟨[(1,(.pt 1 0)),(70,zo)],[(1,z2)]⟩ .leaf) .leaf) (.seq .leaf (.seq (.seq .leaf (.block ⟨[],[]⟩ (.loop ⟨[(80,(zl 122)),(81,zi),(82,zi)],[]⟩ .leaf))) .leaf)))) [(74,some 11,eW),(74,some 56,eW),(74,some 67,eW),(75,some 16,ez),(75,some 22,ez),(75,some 28,ez),(75,some 34,ez),(75,some 46,ez),(75,some 97,ez),(116,some 74,lK),(116,some 89,lK)] (.cons fY (.cons fY (.cons fY (.cons fu (.cons fu (.cons fu (.cons fu (.cons fu (.cons fu (.cons tG (.cons tG .nil))))))))))) (by kernel_rfl) (by kernel_rfl) (by kernel_rfl) (fun xs=>by kernel_rfl)
def gQ.d1 (a b c d e f g:C):R:=(bif g.isP then (some (.ret [.b (a.S.toList==((g.P.getD 0 .nil).S).toList)])) else none)
def gQ:List C→Option (List C):=fun xs=>bl (apn 7 gQ.d1 xs)
def ky:FS:=⟨2,⟨[(0,z7),(1,(.d (.pt 9)))],[]⟩,⟨[(0,zo)],[]⟩,[],gQ⟩
theorem tV:aG Tryz.checked.prog T0 78 ky:=bO aI (fn:=Tryz.f78) (c:=Tryz.f78.body.getD .skip) ky .leaf [] .nil (by kernel_rfl) (by kernel_rfl) (by kernel_rfl) (fun xs=>by kernel_rfl)
def aF.d1 (a b c d:C):R:=(bif (decide (d.I<c.I)) then (bif (decide (0≤d.I)) then (bif (decide (d.I<(a.L.length:Int))) then (ae (gQ [((a.L.getD d.I.toNat []).getD 0 .nil),((a.L.getD d.I.toNat []).getD 1 .nil),((a.L.getD d.I.toNat []).getD 2 .nil),((a.L.getD d.I.toNat []).getD 3 .nil),((a.L.getD d.I.toNat []).getD 4 .nil),((a.L.getD d.I.toNat []).getD 5 .nil),b]) fun e=>(bif e.B then (some (.ret [d])) else (some (.again [a,b,c,.i (w64 (d.I+1))])))) else none) else none) else (some (.brk 0 [])))
def aF.d2:R:=(some (.ret [.i (-1)]))
def aF.d3 (a b:C):R:=(ax 0 (lim (apn 4 aF.d1) [a,b,.i (a.L.length:Int),.i 0]) (fun xs=>aF.d2))
def aF:List C→Option (List C):=fun xs=>bl (apn 2 aF.d3 xs)
def eg:FS:=⟨2,⟨[(0,(zl 30)),(1,(.fn 78 [(.d (.pt 9))]))],[]⟩,⟨[(0,zi)],[]⟩,[],aF⟩
theorem jH:aG Tryz.checked.prog T0 27 eg:=bO aI (fn:=Tryz.f27) (c:=Tryz.f27.body.getD .skip) eg (.seq .leaf (.seq (.seq .leaf (.block ⟨[],[]⟩ (.loop ⟨[(0,(zl 30)),(1,(.fn 78 [(.d (.pt 9))])),(7,zi),(8,zi)],[]⟩ .leaf))) .leaf)) [(78,some 16,ky)] (.cons tV .nil) (by kernel_rfl) (by kernel_rfl) (by kernel_rfl) (fun xs=>by kernel_rfl)
def eG.d1 (a b c d e:C):R:=(ae (aF [b,.p [e]]) fun f=>(some (.ret [f])))
def eG:List C→Option (List C):=fun xs=>bl (apn 5 eG.d1 xs)
def fG:FS:=⟨2,⟨[(0,z3),(1,zt)],[]⟩,⟨[(0,zi)],[]⟩,[],eG⟩
theorem ik:aG Tryz.checked.prog T0 26 fG:=bO aI (fn:=Tryz.f26) (c:=Tryz.f26.body.getD .skip) fG .leaf [(27,some 8,eg)] (.cons jH .nil) (by kernel_rfl) (by kernel_rfl) (by kernel_rfl) (fun xs=>by kernel_rfl)
def dh.d1 (a b c d e f:C):R:=(bif (decide (f.I<e.I)) then (bif (decide (0≤f.I)) then (bif (decide (f.I<(d.L.length:Int))) then (bif ((((d.L.getD f.I.toNat []).getD 11 .nil).S).toList==a.S.toList) then (some (.again [a,.i (w64 (b.I+((d.L.getD f.I.toNat []).getD 4 .nil).I)),.i (w64 (c.I+((d.L.getD f.I.toNat []).getD 5 .nil).I)),d,e,.i (w64 (f.I+1))])) else (some (.again [a,b,c,d,e,.i (w64 (f.I+1))]))) else none) else none) else (some (.brk 0 [b,c])))
def dh.d2 (a b:C):R:=(some (.ret [a,b]))
def dh.d3 (a b c d e:C):R:=(bif (!(e.S.toList==(bs #[]).toList)) then (ae (eG [a,b,c,d,e]) fun f=>(bif (decide (f.I<0)) then (some (.ret [.i 0,.i 0])) else (ax 0 (lim (apn 6 dh.d1) [e,.i 0,.i 0,d,.i (d.L.length:Int),.i 0]) (apn 2 dh.d2)))) else (some (.ret [.i 0,.i 0])))
def dh:List C→Option (List C):=fun xs=>bl (apn 5 dh.d3 xs)
def lD:FS:=⟨2,⟨[(0,z3),(1,zt)],[]⟩,⟨[(0,(.tu [zi,zi]))],[]⟩,[],dh⟩
theorem uN:aG Tryz.checked.prog T0 77 lD:=bO aI (fn:=Tryz.f77) (c:=Tryz.f77.body.getD .skip) lD (.seq .leaf (.seq .leaf (.seq .leaf (.seq (.seq .leaf (.block ⟨[(6,zi),(7,zi)],[]⟩ (.loop ⟨[(1,zt),(6,zi),(7,zi),(19,(zl 33)),(20,zi),(21,zi)],[]⟩ .leaf))) .leaf)))) [(26,some 15,fG)] (.cons ik .nil) (by kernel_rfl) (by kernel_rfl) (by kernel_rfl) (fun xs=>by kernel_rfl)
def ai.d1 (a b c d e f g:C):R:=(bif (decide (c.I<b.I)) then (bif (decide (0≤c.I)) then (bif (decide (c.I<(a.L.length:Int))) then (ae (du [((a.L.getD c.I.toNat []).getD 0 .nil),((a.L.getD c.I.toNat []).getD 1 .nil),((a.L.getD c.I.toNat []).getD 2 .nil),((a.L.getD c.I.toNat []).getD 3 .nil),((a.L.getD c.I.toNat []).getD 4 .nil),((a.L.getD c.I.toNat []).getD 5 .nil)]) fun h=>(bif (!(!h.B)) then (bif (decide (c.I>0)) then (bif (decide (0≤(w64 (c.I-1)))) then (bif (decide ((w64 (c.I-1))<(e.L.length:Int))) then (bif ((Op.bytesLess (((a.L.getD c.I.toNat []).getD 0 .nil).S).toList (((e.L.getD (w64 (c.I-1)).toNat []).getD 0 .nil).S).toList)||((((a.L.getD c.I.toNat []).getD 0 .nil).S).toList==(((e.L.getD (w64 (c.I-1)).toNat []).getD 0 .nil).S).toList)) then (some (.ret [.b false])) else (some (.again [a,b,.i (w64 (c.I+1)),d,e,f,g]))) else none) else none) else (some (.again [a,b,.i (w64 (c.I+1)),d,e,f,g]))) else (some (.ret [.b false])))) else none) else none) else (some (.brk 0 [d,e,f,g])))
def ai.d2 (a b c d e f g h:C):R:=(bif (decide (c.I<b.I)) then (bif (decide (0≤c.I)) then (bif (decide (c.I<(a.L.length:Int))) then (ae (dF [((a.L.getD c.I.toNat []).getD 0 .nil)]) fun i=>(bif (!(!i.B)) then (ae (eZ [((a.L.getD c.I.toNat []).getD 1 .nil),.i 0,.i 60]) fun j=>(bif (!(!j.B)) then (bif (decide (c.I>0)) then (bif (decide (0≤(w64 (c.I-1)))) then (bif (decide ((w64 (c.I-1))<(f.L.length:Int))) then (bif ((Op.bytesLess (((a.L.getD c.I.toNat []).getD 0 .nil).S).toList (((f.L.getD (w64 (c.I-1)).toNat []).getD 0 .nil).S).toList)||((((a.L.getD c.I.toNat []).getD 0 .nil).S).toList==(((f.L.getD (w64 (c.I-1)).toNat []).getD 0 .nil).S).toList)) then (some (.ret [.b false])) else (some (.again [a,b,.i (w64 (c.I+1)),d,e,f,g,.l (lI (((a.L.getD c.I.toNat []).getD 0 .nil).S) (.b true) h.L)]))) else none) else none) else (some (.again [a,b,.i (w64 (c.I+1)),d,e,f,g,.l (lI (((a.L.getD c.I.toNat []).getD 0 .nil).S) (.b true) h.L)]))) else (some (.ret [.b false])))) else (some (.ret [.b false])))) else none) else none) else (some (.brk 2 [d,e,f,g,.l h.L])))
def ai.d3 (a b c d e f g h i j k l m n o p q r s t u v:C):R:=(bif d.B then (some (.ret [.b false])) else (some (.again [a,b,.i (w64 (c.I+1)),e,f,g,h,.l i.L,.l (lI v.S (.i (w64 ((kK (.i 0) v.S j.L).I+1))) j.L)])))
def ai.d4 (a b c d e f g h i:C):R:=(bif (decide (c.I<b.I)) then (bif (decide (0≤c.I)) then (bif (decide (c.I<(a.L.length:Int))) then (bR (ae (cN [((a.L.getD c.I.toNat []).getD 0 .nil),((a.L.getD c.I.toNat []).getD 1 .nil),((a.L.getD c.I.toNat []).getD 2 .nil),((a.L.getD c.I.toNat []).getD 3 .nil),((a.L.getD c.I.toNat []).getD 4 .nil),((a.L.getD c.I.toNat []).getD 5 .nil),((a.L.getD c.I.toNat []).getD 6 .nil),((a.L.getD c.I.toNat []).getD 7 .nil),((a.L.getD c.I.toNat []).getD 8 .nil),((a.L.getD c.I.toNat []).getD 9 .nil),((a.L.getD c.I.toNat []).getD 10 .nil),((a.L.getD c.I.toNat []).getD 11 .nil)]) fun j=>(bif (!(!j.B)) then (bif (!(!((kK (.b false) (((a.L.getD c.I.toNat []).getD 1 .nil).S) h.L).B))) then (bif (decide (c.I>0)) then (bif (decide (0≤(w64 (c.I-1)))) then (bif (decide ((w64 (c.I-1))<(g.L.length:Int))) then (bif (!((Op.bytesLess (((a.L.getD c.I.toNat []).getD 0 .nil).S).toList (((g.L.getD (w64 (c.I-1)).toNat []).getD 0 .nil).S).toList)||((((a.L.getD c.I.toNat []).getD 0 .nil).S).toList==(((g.L.getD (w64 (c.I-1)).toNat []).getD 0 .nil).S).toList))) then (bif (!((((a.L.getD c.I.toNat []).getD 11 .nil).S).toList==(bs #[]).toList)) then (ae (eG [d,e,f,g,((a.L.getD c.I.toNat []).getD 11 .nil)]) fun k=>(some (.nrm [a,b,c,.b (decide (k.I<0)),d,e,f,g,.l h.L,.l i.L,((a.L.getD c.I.toNat []).getD 0 .nil),((a.L.getD c.I.toNat []).getD 1 .nil),((a.L.getD c.I.toNat []).getD 2 .nil),((a.L.getD c.I.toNat []).getD 3 .nil),((a.L.getD c.I.toNat []).getD 4 .nil),((a.L.getD c.I.toNat []).getD 5 .nil),((a.L.getD c.I.toNat []).getD 6 .nil),((a.L.getD c.I.toNat []).getD 7 .nil),((a.L.getD c.I.toNat []).getD 8 .nil),((a.L.getD c.I.toNat []).getD 9 .nil),((a.L.getD c.I.toNat []).getD 10 .nil),((a.L.getD c.I.toNat []).getD 11 .nil)]))) else (some (.nrm [a,b,c,.b false,d,e,f,g,.l h.L,.l i.L,((a.L.getD c.I.toNat []).getD 0 .nil),((a.L.getD c.I.toNat []).getD 1 .nil),((a.L.getD c.I.toNat []).getD 2 .nil),((a.L.getD c.I.toNat []).getD 3 .nil),((a.L.getD c.I.toNat []).getD 4 .nil),((a.L.getD c.I.toNat []).getD 5 .nil),((a.L.getD c.I.toNat []).getD 6 .nil),((a.L.getD c.I.toNat []).getD 7 .nil),((a.L.getD c.I.toNat []).getD 8 .nil),((a.L.getD c.I.toNat []).getD 9 .nil),((a.L.getD c.I.toNat []).getD 10 .nil),((a.L.getD c.I.toNat []).getD 11 .nil)]))) else (some (.nrm [a,b,c,.b true,d,e,f,g,.l h.L,.l i.L,((a.L.getD c.I.toNat []).getD 0 .nil),((a.L.getD c.I.toNat []).getD 1 .nil),((a.L.getD c.I.toNat []).getD 2 .nil),((a.L.getD c.I.toNat []).getD 3 .nil),((a.L.getD c.I.toNat []).getD 4 .nil),((a.L.getD c.I.toNat []).getD 5 .nil),((a.L.getD c.I.toNat []).getD 6 .nil),((a.L.getD c.I.toNat []).getD 7 .nil),((a.L.getD c.I.toNat []).getD 8 .nil),((a.L.getD c.I.toNat []).getD 9 .nil),((a.L.getD c.I.toNat []).getD 10 .nil),((a.L.getD c.I.toNat []).getD 11 .nil)]))) else none) else none) else (bif (!((((a.L.getD c.I.toNat []).getD 11 .nil).S).toList==(bs #[]).toList)) then (ae (eG [d,e,f,g,((a.L.getD c.I.toNat []).getD 11 .nil)]) fun l=>(some (.nrm [a,b,c,.b (decide (l.I<0)),d,e,f,g,.l h.L,.l i.L,((a.L.getD c.I.toNat []).getD 0 .nil),((a.L.getD c.I.toNat []).getD 1 .nil),((a.L.getD c.I.toNat []).getD 2 .nil),((a.L.getD c.I.toNat []).getD 3 .nil),((a.L.getD c.I.toNat []).getD 4 .nil),((a.L.getD c.I.toNat []).getD 5 .nil),((a.L.getD c.I.toNat []).getD 6 .nil),((a.L.getD c.I.toNat []).getD 7 .nil),((a.L.getD c.I.toNat []).getD 8 .nil),((a.L.getD c.I.toNat []).getD 9 .nil),((a.L.getD c.I.toNat []).getD 10 .nil),((a.L.getD c.I.toNat []).getD 11 .nil)]))) else (some (.nrm [a,b,c,.b false,d,e,f,g,.l h.L,.l i.L,((a.L.getD c.I.toNat []).getD 0 .nil),((a.L.getD c.I.toNat []).getD 1 .nil),((a.L.getD c.I.toNat []).getD 2 .nil),((a.L.getD c.I.toNat []).getD 3 .nil),((a.L.getD c.I.toNat []).getD 4 .nil),((a.L.getD c.I.toNat []).getD 5 .nil),((a.L.getD c.I.toNat []).getD 6 .nil),((a.L.getD c.I.toNat []).getD 7 .nil),((a.L.getD c.I.toNat []).getD 8 .nil),((a.L.getD c.I.toNat []).getD 9 .nil),((a.L.getD c.I.toNat []).getD 10 .nil),((a.L.getD c.I.toNat []).getD 11 .nil)])))) else (some (.nrm [a,b,c,.b true,d,e,f,g,.l h.L,.l i.L,((a.L.getD c.I.toNat []).getD 0 .nil),((a.L.getD c.I.toNat []).getD 1 .nil),((a.L.getD c.I.toNat []).getD 2 .nil),((a.L.getD c.I.toNat []).getD 3 .nil),((a.L.getD c.I.toNat []).getD 4 .nil),((a.L.getD c.I.toNat []).getD 5 .nil),((a.L.getD c.I.toNat []).getD 6 .nil),((a.L.getD c.I.toNat []).getD 7 .nil),((a.L.getD c.I.toNat []).getD 8 .nil),((a.L.getD c.I.toNat []).getD 9 .nil),((a.L.getD c.I.toNat []).getD 10 .nil),((a.L.getD c.I.toNat []).getD 11 .nil)]))) else (some (.nrm [a,b,c,.b true,d,e,f,g,.l h.L,.l i.L,((a.L.getD c.I.toNat []).getD 0 .nil),((a.L.getD c.I.toNat []).getD 1 .nil),((a.L.getD c.I.toNat []).getD 2 .nil),((a.L.getD c.I.toNat []).getD 3 .nil),((a.L.getD c.I.toNat []).getD 4 .nil),((a.L.getD c.I.toNat []).getD 5 .nil),((a.L.getD c.I.toNat []).getD 6 .nil),((a.L.getD c.I.toNat []).getD 7 .nil),((a.L.getD c.I.toNat []).getD 8 .nil),((a.L.getD c.I.toNat []).getD 9 .nil),((a.L.getD c.I.toNat []).getD 10 .nil),((a.L.getD c.I.toNat []).getD 11 .nil)])))) (apn 22 ai.d3)) else none) else none) else (some (.brk 4 [d,e,f,g,.l i.L])))
def ai.d5 (a b c d e f g h:C):R:=(bif (decide (c.I<b.I)) then (bif (decide (0≤c.I)) then (bif (decide (c.I<(a.L.length:Int))) then (call2 (dh [d,e,f,g,((a.L.getD c.I.toNat []).getD 0 .nil)]) fun i j=>(bif (!(decide ((kK (.i 0) (((a.L.getD c.I.toNat []).getD 0 .nil).S) h.L).I>10))) then (bif (!(decide (i.I>((a.L.getD c.I.toNat []).getD 3 .nil).I))) then (bif (decide (j.I>((a.L.getD c.I.toNat []).getD 4 .nil).I)) then (some (.ret [.b false])) else (some (.again [a,b,.i (w64 (c.I+1)),d,e,f,g,.l h.L]))) else (some (.ret [.b false]))) else (some (.ret [.b false])))) else none) else none) else (some (.brk 6 [])))
def ai.d6:R:=(some (.ret [.b true]))
def ai.d7 (a b c d e:C):R:=(ax 6 (lim (apn 8 ai.d5) [b,.i (b.L.length:Int),.i 0,a,b,c,d,.l e.L]) (fun xs=>ai.d6))
def ai.d8 (a b c d e:C):R:=(ax 4 (lim (apn 9 ai.d4) [d,.i (d.L.length:Int),.i 0,a,b,c,d,.l e.L,.l ah]) (apn 5 ai.d7))
def ai.d9 (a b c d:C):R:=(ax 2 (lim (apn 8 ai.d2) [c,.i (c.L.length:Int),.i 0,a,b,c,d,.l ah]) (apn 5 ai.d8))
def ai.d10 (a b c d:C):R:=(bif (!(decide ((b.L.length:Int)>12))) then (bif (!(decide ((c.L.length:Int)>30))) then (bif (decide ((d.L.length:Int)>60)) then (some (.ret [.b false])) else (ax 0 (lim (apn 7 ai.d1) [b,.i (b.L.length:Int),.i 0,a,b,c,d]) (apn 4 ai.d9))) else (some (.ret [.b false]))) else (some (.ret [.b false])))
def ai:List C→Option (List C):=fun xs=>bl (apn 4 ai.d10 xs)
def iu:FS:=⟨1,⟨[(0,z3)],[]⟩,⟨[(0,zo)],[]⟩,[],ai⟩
theorem nM:aG Tryz.checked.prog T0 23 iu:=bO aI (fn:=Tryz.f23) (c:=Tryz.f23.body.getD .skip) iu (.seq .leaf (.seq .leaf (.seq (.seq .leaf (.block ⟨[(1,(.pt 1 0))],[(1,z0)]⟩ (.loop ⟨[(1,(.pt 1 0)),(32,(zl 30)),(33,zi),(34,zi)],[(1,z0)]⟩ .leaf))) (.seq .leaf (.seq (.seq .leaf (.block ⟨[(1,(.pt 1 0)),(5,(.mp 59))],[(1,z0),(59,.mp 4)]⟩ (.loop ⟨[(1,(.pt 1 0)),(5,(.mp 59)),(61,(zl 86)),(62,zi),(63,zi)],[(1,z0),(59,.mp 4)]⟩ .leaf))) (.seq .leaf (.seq (.seq .leaf (.block ⟨[(1,(.pt 1 0)),(8,(.mp 98))],[(1,z0),(98,.mp 3)]⟩ (.loop ⟨[(1,(.pt 1 0)),(5,(.mp 59)),(8,(.mp 98)),(100,(zl 33)),(101,zi),(102,zi)],[(1,z0),(59,.mp 4),(98,.mp 3)]⟩ (.seq .leaf (.seq .leaf (.seq (.skip (.seq .leaf (.seq (.seq (.join ⟨[(1,(.pt 1 0)),(5,(.mp 59)),(8,(.mp 98)),(10,(.pt 10 0)),(100,(zl 33)),(101,zi),(102,zi),(144,zo)],[(1,z0),(59,.mp 4),(98,.mp 3),(10,z2)]⟩ .leaf) .leaf) .leaf))) .leaf)))))) (.seq (.seq .leaf (.block ⟨[],[]⟩ (.loop ⟨[(1,(.pt 1 0)),(8,(.mp 98)),(152,(zl 30)),(153,zi),(154,zi)],[(1,z0),(98,.mp 3)]⟩ .leaf))) .leaf)))))))) [(26,some 141,fG),(73,some 40,mc),(74,some 70,eW),(75,some 75,ez),(76,some 108,ni),(77,some 162,lD)] (.cons ik (.cons wN (.cons fY (.cons fu (.cons yj (.cons uN .nil)))))) (by kernel_rfl) (by kernel_rfl) (by kernel_rfl) (fun xs=>by kernel_rfl)
def eR.d1 (a b c d e f:C):R:=(bif (decide (c.L.length≤4294967296)) then (some (.ret [a,b,d,e,f,.l c.L])) else none)
def eR:List C→Option (List C):=fun xs=>bl (apn 6 eR.d1 xs)
def gW:FS:=⟨1,⟨[(0,z7)],[]⟩,⟨[(0,(.ag [zt,zt,(.ow 3000),zi,zi,zo]))],[(3000,.arr 9 1)]⟩,[],eR⟩
theorem mG:aG Tryz.checked.prog T0 25 gW:=bO aI (fn:=Tryz.f25) (c:=Tryz.f25.body.getD .skip) gW .leaf [] .nil (by kernel_rfl) (by kernel_rfl) (by kernel_rfl) (fun xs=>by kernel_rfl)
def fo.d1 (a b c d e f g h i j k l:C):R:=(bif (decide (h.L.length≤4294967296)) then (some (.ret [a,b,c,d,e,f,g,i,j,k,l,.l h.L])) else none)
def fo:List C→Option (List C):=fun xs=>bl (apn 12 fo.d1 xs)
def iv:FS:=⟨1,⟨[(0,z5)],[]⟩,⟨[(0,(.ag [zt,zt,zi,zi,zi,zi,zt,(.ow 3000),zi,zt,zt,zt]))],[(3000,.arr 122 1)]⟩,[],fo⟩
theorem nP:aG Tryz.checked.prog T0 31 iv:=bO aI (fn:=Tryz.f31) (c:=Tryz.f31.body.getD .skip) iv .leaf [] .nil (by kernel_rfl) (by kernel_rfl) (by kernel_rfl) (fun xs=>by kernel_rfl)
def da.d1 (a b c d e f g h i j k l m n o:C):R:=(bif (decide (c.I<b.I)) then (bif (decide (0≤c.I)) then (bif (decide (c.I<(a.L.length:Int))) then (call6 (eR [((a.L.getD c.I.toNat []).getD 0 .nil),((a.L.getD c.I.toNat []).getD 1 .nil),((a.L.getD c.I.toNat []).getD 2 .nil),((a.L.getD c.I.toNat []).getD 3 .nil),((a.L.getD c.I.toNat []).getD 4 .nil),((a.L.getD c.I.toNat []).getD 5 .nil)]) fun p q r s t u=>(bif (decide (m.L.length+(rows [[p,q,.l u.L,r,s,t]]).length≤4294967296)) then (some (.again [a,b,.i (w64 (c.I+1)),d,e,f,g,h,i,.l j.L,.l k.L,.l l.L,.l (m.L++(rows [[p,q,.l u.L,r,s,t]])),.l n.L,.l o.L])) else none)) else none) else none) else (some (.brk 0 [d,e,f,g,h,i,.l j.L,.l k.L,.l l.L,.l m.L,.l n.L,.l o.L])))
def da.d2 (a b c d e f g h i j k:C):R:=(bif (decide (c.I<b.I)) then (bif (decide (0≤c.I)) then (bif (decide (c.I<(a.L.length:Int))) then (call12 (fo [((a.L.getD c.I.toNat []).getD 0 .nil),((a.L.getD c.I.toNat []).getD 1 .nil),((a.L.getD c.I.toNat []).getD 2 .nil),((a.L.getD c.I.toNat []).getD 3 .nil),((a.L.getD c.I.toNat []).getD 4 .nil),((a.L.getD c.I.toNat []).getD 5 .nil),((a.L.getD c.I.toNat []).getD 6 .nil),((a.L.getD c.I.toNat []).getD 7 .nil),((a.L.getD c.I.toNat []).getD 8 .nil),((a.L.getD c.I.toNat []).getD 9 .nil),((a.L.getD c.I.toNat []).getD 10 .nil),((a.L.getD c.I.toNat []).getD 11 .nil)]) fun l m n o p q r s t u v w=>(bif (decide (k.L.length+(rows [[l,m,n,o,p,q,r,.l w.L,s,t,u,v]]).length≤4294967296)) then (some (.again [a,b,.i (w64 (c.I+1)),d,e,.l f.L,.l g.L,.l h.L,.l i.L,.l j.L,.l (k.L++(rows [[l,m,n,o,p,q,r,.l w.L,s,t,u,v]]))])) else none)) else none) else none) else (some (.brk 2 [d,e,.l f.L,.l g.L,.l h.L,.l i.L,.l j.L,.l k.L])))
def da.d3 (a b c d e f g h:C):R:=(some (.ret [b,.l f.L,.l g.L,.l h.L]))
def da.d4 (a b c d e f g h i j k l:C):R:=(ax 2 (lim (apn 11 da.d2) [d,.i (d.L.length:Int),.i 0,e,f,.l g.L,.l h.L,.l i.L,.l j.L,.l k.L,.l l.L]) (apn 8 da.d3))
def da.d5 (a b c d:C):R:=(bif (decide (c.L.length≤4294967296)) then (ax 0 (lim (apn 15 da.d1) [b,.i (b.L.length:Int),.i 0,a,b,c,d,.b false,.b a.B,.l ah,.l ah,.l ah,.l ah,.l c.L,.l ah]) (apn 12 da.d4)) else none)
def da:List C→Option (List C):=fun xs=>bl (apn 4 da.d5 xs)
def po:FS:=⟨1,⟨[(0,z3)],[]⟩,⟨[(0,z12)],[(3000,.arr 30 1),(3001,.arr 86 1),(3002,.arr 33 1)]⟩,[],da⟩
theorem zD:aG Tryz.checked.prog T0 24 po:=uO aI [25,40] false (fn:=Tryz.f24) (c:=Tryz.f24.body.getD .skip) po (.seq .leaf (.seq .leaf (.seq (.seq .leaf (.block ⟨[(1,(.pt 1 0)),(2,(.pt 2 0)),(3,(.pt 3 0))],[(1,z0),(2,z16),(3,.var 27 [zo,(.ow 1295003),(.ow 12),(.ow 1295004)]),(1295000,.arr 30 1),(1295001,.arr 86 1),(1295002,.arr 33 1),(1295003,.arr 30 1),(12,.arr 86 1),(1295004,.arr 33 1)]⟩ (.loop ⟨[(1,(.pt 1 0)),(2,(.pt 2 0)),(3,(.pt 3 0)),(15,(zl 30)),(16,zi),(17,zi)],[(1,z0),(2,z16),(3,.var 27 [zo,(.ow 1295003),(.ow 12),(.ow 1295004)]),(1295000,.arr 30 1),(1295001,.arr 86 1),(1295002,.arr 33 1),(1295003,.arr 30 1),(12,.arr 86 1),(1295004,.arr 33 1)]⟩ .leaf))) (.seq (.seq .leaf (.block ⟨[(2,(.pt 2 0)),(3,(.pt 3 0))],[(2,z16),(3,.var 27 [zo,(.ow 1295003),(.ow 12),(.ow 1295004)]),(1295000,.arr 30 1),(1295001,.arr 86 1),(1295002,.arr 33 1),(1295003,.arr 30 1),(12,.arr 86 1),(1295004,.arr 33 1)]⟩ (.loop ⟨[(2,(.pt 2 0)),(3,(.pt 3 0)),(30,(zl 33)),(31,zi),(32,zi)],[(2,z16),(3,.var 27 [zo,(.ow 1295003),(.ow 12),(.ow 1295004)]),(1295000,.arr 30 1),(1295001,.arr 86 1),(1295002,.arr 33 1),(1295003,.arr 30 1),(12,.arr 86 1),(1295004,.arr 33 1)]⟩ .leaf))) .leaf)))) [(25,some 24,gW),(31,some 39,iv)] (.cons mG (.cons nP .nil)) (by kernel_rfl) (by kernel_rfl) (by kernel_rfl) (fun xs=>by kernel_rfl)
def fj.d1 (a b c d e f g:C):R:=(bif g.isP then (some (.ret [.b (!((Op.bytesLess a.S.toList ((g.P.getD 0 .nil).S).toList)||(a.S.toList==((g.P.getD 0 .nil).S).toList)))])) else none)
def fj:List C→Option (List C):=fun xs=>bl (apn 7 fj.d1 xs)
def iD:FS:=⟨2,⟨[(0,z7),(1,(.d (.pt 30)))],[]⟩,⟨[(0,zo)],[]⟩,[],fj⟩
theorem qt:aG Tryz.checked.prog T0 28 iD:=bO aI (fn:=Tryz.f28) (c:=Tryz.f28.body.getD .skip) iD .leaf [] .nil (by kernel_rfl) (by kernel_rfl) (by kernel_rfl) (fun xs=>by kernel_rfl)
def az.d1 (a b c d:C):R:=(bif (decide (d.I<c.I)) then (bif (decide (0≤d.I)) then (bif (decide (d.I<(a.L.length:Int))) then (ae (fj [((a.L.getD d.I.toNat []).getD 0 .nil),((a.L.getD d.I.toNat []).getD 1 .nil),((a.L.getD d.I.toNat []).getD 2 .nil),((a.L.getD d.I.toNat []).getD 3 .nil),((a.L.getD d.I.toNat []).getD 4 .nil),((a.L.getD d.I.toNat []).getD 5 .nil),b]) fun e=>(bif e.B then (some (.ret [d])) else (some (.again [a,b,c,.i (w64 (d.I+1))])))) else none) else none) else (some (.brk 0 [])))
def az.d2:R:=(some (.ret [.i (-1)]))
def az.d3 (a b:C):R:=(ax 0 (lim (apn 4 az.d1) [a,b,.i (a.L.length:Int),.i 0]) (fun xs=>az.d2))
def az:List C→Option (List C):=fun xs=>bl (apn 2 az.d3 xs)
def dN:FS:=⟨2,⟨[(0,(zl 30)),(1,(.fn 28 [(.d (.pt 30))]))],[]⟩,⟨[(0,zi)],[]⟩,[],az⟩
theorem iX:aG Tryz.checked.prog T0 27 dN:=bO aI (fn:=Tryz.f27) (c:=Tryz.f27.body.getD .skip) dN (.seq .leaf (.seq (.seq .leaf (.block ⟨[],[]⟩ (.loop ⟨[(0,(zl 30)),(1,(.fn 28 [(.d (.pt 30))])),(7,zi),(8,zi)],[]⟩ .leaf))) .leaf)) [(28,some 16,iD)] (.cons qt .nil) (by kernel_rfl) (by kernel_rfl) (by kernel_rfl) (fun xs=>by kernel_rfl)
def dC:List C→Option (List C):=ti
def gy:FS:=⟨3,wm 30,mg 30,[],dC⟩
theorem kM:aG Tryz.checked.prog T0 29 gy:=Ew
def fF:List C→Option (List C):=sX
def gF:FS:=⟨3,wO 30,mg 30,[],fF⟩
theorem kE:aG Tryz.checked.prog T0 30 gF:=EK
def iK.d1 (a b c d e f g h i j k l m:C):R:=(bif m.isP then (some (.ret [.b (a.S.toList==((m.P.getD 0 .nil).S).toList)])) else none)
def iK:List C→Option (List C):=fun xs=>bl (apn 13 iK.d1 xs)
def kW:FS:=⟨2,⟨[(0,z5),(1,(.d (.pt 9)))],[]⟩,⟨[(0,zo)],[]⟩,[],iK⟩
theorem uQ:aG Tryz.checked.prog T0 81 kW:=bO aI (fn:=Tryz.f81) (c:=Tryz.f81.body.getD .skip) kW .leaf [] .nil (by kernel_rfl) (by kernel_rfl) (by kernel_rfl) (fun xs=>by kernel_rfl)
def aH.d1 (a b c d:C):R:=(bif (decide (d.I<c.I)) then (bif (decide (0≤d.I)) then (bif (decide (d.I<(a.L.length:Int))) then (ae (iK [((a.L.getD d.I.toNat []).getD 0 .nil),((a.L.getD d.I.toNat []).getD 1 .nil),((a.L.getD d.I.toNat []).getD 2 .nil),((a.L.getD d.I.toNat []).getD 3 .nil),((a.L.getD d.I.toNat []).getD 4 .nil),((a.L.getD d.I.toNat []).getD 5 .nil),((a.L.getD d.I.toNat []).getD 6 .nil),((a.L.getD d.I.toNat []).getD 7 .nil),((a.L.getD d.I.toNat []).getD 8 .nil),((a.L.getD d.I.toNat []).getD 9 .nil),((a.L.getD d.I.toNat []).getD 10 .nil),((a.L.getD d.I.toNat []).getD 11 .nil),b]) fun e=>(bif e.B then (some (.ret [d])) else (some (.again [a,b,c,.i (w64 (d.I+1))])))) else none) else none) else (some (.brk 0 [])))
def aH.d2:R:=(some (.ret [.i (-1)]))
def aH.d3 (a b:C):R:=(ax 0 (lim (apn 4 aH.d1) [a,b,.i (a.L.length:Int),.i 0]) (fun xs=>aH.d2))
def aH:List C→Option (List C):=fun xs=>bl (apn 2 aH.d3 xs)
def ew:FS:=⟨2,⟨[(0,(zl 33)),(1,(.fn 81 [(.d (.pt 9))]))],[]⟩,⟨[(0,zi)],[]⟩,[],aH⟩
theorem ka:aG Tryz.checked.prog T0 33 ew:=bO aI (fn:=Tryz.f33) (c:=Tryz.f33.body.getD .skip) ew (.seq .leaf (.seq (.seq .leaf (.block ⟨[],[]⟩ (.loop ⟨[(0,(zl 33)),(1,(.fn 81 [(.d (.pt 9))])),(7,zi),(8,zi)],[]⟩ .leaf))) .leaf)) [(81,some 16,kW)] (.cons uQ .nil) (by kernel_rfl) (by kernel_rfl) (by kernel_rfl) (fun xs=>by kernel_rfl)
def gZ.d1 (a b c d e:C):R:=(ae (aH [d,.p [e]]) fun f=>(some (.ret [f])))
def gZ:List C→Option (List C):=fun xs=>bl (apn 5 gZ.d1 xs)
def jk:FS:=⟨2,⟨[(0,z3),(1,zt)],[]⟩,⟨[(0,zi)],[]⟩,[],gZ⟩
theorem na:aG Tryz.checked.prog T0 32 jk:=bO aI (fn:=Tryz.f32) (c:=Tryz.f32.body.getD .skip) jk .leaf [(33,some 8,ew)] (.cons ka .nil) (by kernel_rfl) (by kernel_rfl) (by kernel_rfl) (fun xs=>by kernel_rfl)
def fm.d1 (a b c d e f g h i j k l m:C):R:=(bif m.isP then (some (.ret [.b (!((Op.bytesLess a.S.toList ((m.P.getD 0 .nil).S).toList)||(a.S.toList==((m.P.getD 0 .nil).S).toList)))])) else none)
def fm:List C→Option (List C):=fun xs=>bl (apn 13 fm.d1 xs)
def iC:FS:=⟨2,⟨[(0,z5),(1,(.d (.pt 33)))],[]⟩,⟨[(0,zo)],[]⟩,[],fm⟩
theorem qL:aG Tryz.checked.prog T0 34 iC:=bO aI (fn:=Tryz.f34) (c:=Tryz.f34.body.getD .skip) iC .leaf [] .nil (by kernel_rfl) (by kernel_rfl) (by kernel_rfl) (fun xs=>by kernel_rfl)
def aB.d1 (a b c d:C):R:=(bif (decide (d.I<c.I)) then (bif (decide (0≤d.I)) then (bif (decide (d.I<(a.L.length:Int))) then (ae (fm [((a.L.getD d.I.toNat []).getD 0 .nil),((a.L.getD d.I.toNat []).getD 1 .nil),((a.L.getD d.I.toNat []).getD 2 .nil),((a.L.getD d.I.toNat []).getD 3 .nil),((a.L.getD d.I.toNat []).getD 4 .nil),((a.L.getD d.I.toNat []).getD 5 .nil),((a.L.getD d.I.toNat []).getD 6 .nil),((a.L.getD d.I.toNat []).getD 7 .nil),((a.L.getD d.I.toNat []).getD 8 .nil),((a.L.getD d.I.toNat []).getD 9 .nil),((a.L.getD d.I.toNat []).getD 10 .nil),((a.L.getD d.I.toNat []).getD 11 .nil),b]) fun e=>(bif e.B then (some (.ret [d])) else (some (.again [a,b,c,.i (w64 (d.I+1))])))) else none) else none) else (some (.brk 0 [])))
def aB.d2:R:=(some (.ret [.i (-1)]))
def aB.d3 (a b:C):R:=(ax 0 (lim (apn 4 aB.d1) [a,b,.i (a.L.length:Int),.i 0]) (fun xs=>aB.d2))
def aB:List C→Option (List C):=fun xs=>bl (apn 2 aB.d3 xs)
def dS:FS:=⟨2,⟨[(0,(zl 33)),(1,(.fn 34 [(.d (.pt 33))]))],[]⟩,⟨[(0,zi)],[]⟩,[],aB⟩
theorem jn:aG Tryz.checked.prog T0 33 dS:=bO aI (fn:=Tryz.f33) (c:=Tryz.f33.body.getD .skip) dS (.seq .leaf (.seq (.seq .leaf (.block ⟨[],[]⟩ (.loop ⟨[(0,(zl 33)),(1,(.fn 34 [(.d (.pt 33))])),(7,zi),(8,zi)],[]⟩ .leaf))) .leaf)) [(34,some 16,iC)] (.cons qL .nil) (by kernel_rfl) (by kernel_rfl) (by kernel_rfl) (fun xs=>by kernel_rfl)
def dJ:List C→Option (List C):=ti
def gI:FS:=⟨3,wm 33,mg 33,[],dJ⟩
theorem lB:aG Tryz.checked.prog T0 35 gI:=Ey
def fI:List C→Option (List C):=sX
def gO:FS:=⟨3,wO 33,mg 33,[],fI⟩
theorem ly:aG Tryz.checked.prog T0 36 gO:=Ez
end
end Go.Ev
namespace Go.Ev
open Go.Proofs
noncomputable section
def au.d1 (a b c d e f g h i j k l m n o p q r s t u v w x y z a0 a1 a2 a3 a4:C):R:=(bif (decide (b.I<a.I)) then (bif (decide (0≤b.I)) then (bif (decide (b.I<(a4.L.length:Int))) then (bif ((((a4.L.getD b.I.toNat []).getD 11 .nil).S).toList==v.S.toList) then (bif (decide (0≤b.I)) then (bif (decide (b.I<(a4.L.length:Int))) then (some (.again [a,.i (w64 (b.I+1)),c,d,e,f,g,h,i,j,k,l,m,n,o,p,q,r,s,t,u,v,w,x,y,.l z.L,.l a0.L,.l a1.L,.l a2.L,.l a3.L,.l (a4.L.set b.I.toNat (aK (a4.L.getD b.I.toNat []) 11 [.s (bs #[])]))])) else none) else none) else (some (.again [a,.i (w64 (b.I+1)),c,d,e,f,g,h,i,j,k,l,m,n,o,p,q,r,s,t,u,v,w,x,y,.l z.L,.l a0.L,.l a1.L,.l a2.L,.l a3.L,.l a4.L]))) else none) else none) else (some (.brk 1 [x,y,.l z.L,.l a0.L,.l a1.L,.l a2.L,.l a3.L,.l a4.L])))
def au.d2 (a b c d e f g h:C):R:=(ae (ai [b,.l f.L,.l g.L,.l h.L]) fun i=>(bif (!i.B) then (some (.ret [.b false,.i 2,.l ah,.l ah,.l ah])) else (some (.ret [b,.i 0,.l f.L,.l g.L,.l h.L]))))
def au.d3 (a b c d e f g h i j k l m n o p q r s t u v w x y:C):R:=(ae (ai [a,b,c,d]) fun z=>(bif (!z.B) then (some (.ret [.b false,.i 1,.l ah,.l ah,.l ah])) else (call4 (da [a,b,c,d]) fun a0 a1 a2 a3=>(bif (e.I==1) then (call6 (eR [f,g,h,i,j,k]) fun a4 a5 a6 a7 a8 a9=>(ae (eG [a0,.l a1.L,.l a2.L,.l a3.L,a4]) fun b0=>(bif (decide (b0.I≥0)) then (bif (decide (0≤b0.I)) then (bif (decide (b0.I<(a1.L.length:Int))) then (ae (ai [a0,.l (a1.L.set b0.I.toNat (aK (a1.L.getD b0.I.toNat []) 0 [a4,a5,.l a9.L,a6,a7,a8])),.l a2.L,.l a3.L]) fun b1=>(bif (!b1.B) then (some (.ret [.b false,.i 2,.l ah,.l ah,.l ah])) else (some (.ret [a0,.i 0,.l (a1.L.set b0.I.toNat (aK (a1.L.getD b0.I.toNat []) 0 [a4,a5,.l a9.L,a6,a7,a8])),.l a2.L,.l a3.L])))) else none) else none) else (ae (az [.l a1.L,.p [a4,a5,.l a9.L,a6,a7,a8]]) fun b2=>(bif (decide (b2.I<0)) then (ae (dC [.i (a1.L.length:Int),.l a1.L,.l (rows [[a4,a5,.l a9.L,a6,a7,a8]])]) fun b3=>(ae (ai [a0,.l b3.L,.l a2.L,.l a3.L]) fun b4=>(bif (!b4.B) then (some (.ret [.b false,.i 2,.l ah,.l ah,.l ah])) else (some (.ret [a0,.i 0,.l b3.L,.l a2.L,.l a3.L]))))) else (ae (dC [b2,.l a1.L,.l (rows [[a4,a5,.l a9.L,a6,a7,a8]])]) fun b5=>(ae (ai [a0,.l b5.L,.l a2.L,.l a3.L]) fun b6=>(bif (!b6.B) then (some (.ret [.b false,.i 2,.l ah,.l ah,.l ah])) else (some (.ret [a0,.i 0,.l b5.L,.l a2.L,.l a3.L])))))))))) else (bif (e.I==2) then (ae (eG [a0,.l a1.L,.l a2.L,.l a3.L,x]) fun b7=>(bif (decide (b7.I<0)) then (some (.ret [.b false,.i 3,.l ah,.l ah,.l ah])) else (ae (fF [b7,.i (w64 (b7.I+1)),.l a1.L]) fun b8=>(ax 1 (lim (apn 31 au.d1) [.i (a3.L.length:Int),.i 0,e,f,g,h,i,j,k,l,m,n,o,p,q,r,s,t,u,v,w,x,y,.b false,a0,.l ah,.l ah,.l ah,.l b8.L,.l a2.L,.l a3.L]) (apn 8 au.d2))))) else (bif (e.I==3) then (call12 (fo [l,m,n,o,p,q,r,s,t,u,v,w]) fun b9 c0 c1 c2 c3 c4 c5 c6 c7 c8 c9 d0=>(ae (gZ [a0,.l a1.L,.l a2.L,.l a3.L,b9]) fun d1=>(bif (decide (d1.I≥0)) then (bif (decide (0≤d1.I)) then (bif (decide (d1.I<(a3.L.length:Int))) then (ae (ai [a0,.l a1.L,.l a2.L,.l (a3.L.set d1.I.toNat (aK (a3.L.getD d1.I.toNat []) 0 [b9,c0,c1,c2,c3,c4,c5,.l d0.L,c6,c7,c8,c9]))]) fun d2=>(bif (!d2.B) then (some (.ret [.b false,.i 2,.l ah,.l ah,.l ah])) else (some (.ret [a0,.i 0,.l a1.L,.l a2.L,.l (a3.L.set d1.I.toNat (aK (a3.L.getD d1.I.toNat []) 0 [b9,c0,c1,c2,c3,c4,c5,.l d0.L,c6,c7,c8,c9]))])))) else none) else none) else (ae (aB [.l a3.L,.p [b9,c0,c1,c2,c3,c4,c5,.l d0.L,c6,c7,c8,c9]]) fun d3=>(bif (decide (d3.I<0)) then (ae (dJ [.i (a3.L.length:Int),.l a3.L,.l (rows [[b9,c0,c1,c2,c3,c4,c5,.l d0.L,c6,c7,c8,c9]])]) fun d4=>(ae (ai [a0,.l a1.L,.l a2.L,.l d4.L]) fun d5=>(bif (!d5.B) then (some (.ret [.b false,.i 2,.l ah,.l ah,.l ah])) else (some (.ret [a0,.i 0,.l a1.L,.l a2.L,.l d4.L]))))) else (ae (dJ [d3,.l a3.L,.l (rows [[b9,c0,c1,c2,c3,c4,c5,.l d0.L,c6,c7,c8,c9]])]) fun d6=>(ae (ai [a0,.l a1.L,.l a2.L,.l d6.L]) fun d7=>(bif (!d7.B) then (some (.ret [.b false,.i 2,.l ah,.l ah,.l ah])) else (some (.ret [a0,.i 0,.l a1.L,.l a2.L,.l d6.L])))))))))) else (bif (e.I==4) then (ae (gZ [a0,.l a1.L,.l a2.L,.l a3.L,x]) fun d8=>(bif (decide (d8.I<0)) then (some (.ret [.b false,.i 3,.l ah,.l ah,.l ah])) else (ae (fI [d8,.i (w64 (d8.I+1)),.l a3.L]) fun d9=>(ae (ai [a0,.l a1.L,.l a2.L,.l d9.L]) fun e0=>(bif (!e0.B) then (some (.ret [.b false,.i 2,.l ah,.l ah,.l ah])) else (some (.ret [a0,.i 0,.l a1.L,.l a2.L,.l d9.L]))))))) else (bif (e.I==5) then (ae (gZ [a0,.l a1.L,.l a2.L,.l a3.L,x]) fun e1=>(bif (!(decide (e1.I<0))) then (bif (!(y.S.toList==(bs #[]).toList)) then (ae (eG [a0,.l a1.L,.l a2.L,.l a3.L,y]) fun e2=>(bif (decide (e2.I<0)) then (some (.ret [.b false,.i 3,.l ah,.l ah,.l ah])) else (bif (decide (0≤e1.I)) then (bif (decide (e1.I<(a3.L.length:Int))) then (ae (ai [a0,.l a1.L,.l a2.L,.l (a3.L.set e1.I.toNat (aK (a3.L.getD e1.I.toNat []) 11 [y]))]) fun e3=>(bif (!e3.B) then (some (.ret [.b false,.i 2,.l ah,.l ah,.l ah])) else (some (.ret [a0,.i 0,.l a1.L,.l a2.L,.l (a3.L.set e1.I.toNat (aK (a3.L.getD e1.I.toNat []) 11 [y]))])))) else none) else none))) else (bif (decide (0≤e1.I)) then (bif (decide (e1.I<(a3.L.length:Int))) then (ae (ai [a0,.l a1.L,.l a2.L,.l (a3.L.set e1.I.toNat (aK (a3.L.getD e1.I.toNat []) 11 [y]))]) fun e4=>(bif (!e4.B) then (some (.ret [.b false,.i 2,.l ah,.l ah,.l ah])) else (some (.ret [a0,.i 0,.l a1.L,.l a2.L,.l (a3.L.set e1.I.toNat (aK (a3.L.getD e1.I.toNat []) 11 [y]))])))) else none) else none)) else (some (.ret [.b false,.i 3,.l ah,.l ah,.l ah])))) else (some (.ret [.b false,.i 4,.l ah,.l ah,.l ah]))))))))))
def au:List C→Option (List C):=fun xs=>bl (apn 25 au.d3 xs)
def eU:FS:=⟨2,⟨[(0,z3),(1,z9)],[]⟩,⟨[(0,(.tu [z12,zi]))],[(3000,.arr 30 1),(3001,.arr 86 1),(3002,.arr 33 1)]⟩,[],au⟩
theorem gY:aG Tryz.checked.prog T0 6 eU:=bO aI (fn:=Tryz.f6) (c:=Tryz.f6.body.getD .skip) eU (.seq .leaf (.seq .leaf (.seq .leaf (.seq (.seq .leaf (.skip (.seq .leaf (.cond .leaf (.seq .leaf (.cond (.seq .leaf (.seq .leaf (.seq .leaf (.seq .leaf (.block ⟨[(4,(.pt 4 0)),(6,(.pt 6 0))],[(4,.var 27 [zo,(.ow 1210200),(.ow 1210201),(.ow 1210202)]),(6,.var 27 [zo,(.ow 97208),(.ow 97209),(.ow 97210)]),(1210200,.arr 30 1),(1210201,.arr 86 1),(1210202,.arr 33 1),(97208,.arr 30 1),(97209,.arr 86 1),(97210,.arr 33 1)]⟩ (.loop ⟨[(3,(.pt 3 0)),(4,(.pt 4 0)),(6,(.pt 6 0)),(76,zi),(77,zi)],[(3,z4),(4,.var 27 [zo,(.ow 1210200),(.ow 1210201),(.ow 1210202)]),(6,.var 27 [zo,(.ow 97208),(.ow 97209),(.ow 97210)]),(1210200,.arr 30 1),(1210201,.arr 86 1),(1210202,.arr 33 1),(97208,.arr 30 1),(97209,.arr 86 1),(97210,.arr 33 1)]⟩ .leaf)))))) .leaf)))))) .leaf)))) [(23,some 18,iu),(23,some 172,iu),(24,some 22,po),(25,some 30,gW),(26,some 34,fG),(26,some 63,fG),(26,some 159,fG),(27,some 45,dN),(29,some 56,gy),(30,some 72,gF),(31,some 99,iv),(32,some 103,jk),(32,some 132,jk),(32,some 148,jk),(33,some 114,dS),(35,some 125,gI),(36,some 141,gO)] (.cons nM (.cons nM (.cons zD (.cons mG (.cons ik (.cons ik (.cons ik (.cons iX (.cons kM (.cons kE (.cons nP (.cons na (.cons na (.cons na (.cons jn (.cons lB (.cons ly .nil))))))))))))))))) (by kernel_rfl) (by kernel_rfl) (by kernel_rfl) (fun xs=>by kernel_rfl)
def ej.d1 (a b c:C):R:=(bif (decide (c.I<(a.L.length:Int))) then (bif (decide (0≤c.I)) then (bif (decide (c.I<(a.L.length:Int))) then (bif (decide (0≤c.I)) then (bif (decide (c.I<(b.L.length:Int))) then (bif (!((((a.L.getD c.I.toNat []).getD 0 .nil).S).toList==(((b.L.getD c.I.toNat []).getD 0 .nil).S).toList)) then (some (.ret [.b false])) else (some (.again [a,b,.i (w64 (c.I+1))]))) else none) else none) else none) else none) else (some (.brk 0 [])))
def ej.d2:R:=(some (.ret [.b true]))
def ej.d3 (a b:C):R:=(bif ((a.L.length:Int) !=(b.L.length:Int)) then (some (.ret [.b false])) else (ax 0 (lim (apn 3 ej.d1) [a,b,.i 0]) (fun xs=>ej.d2)))
def ej:List C→Option (List C):=fun xs=>bl (apn 2 ej.d3 xs)
def nq:FS:=⟨2,⟨[(0,(zl 9)),(1,(zl 9))],[]⟩,⟨[(0,zo)],[]⟩,[],ej⟩
theorem yI:aG Tryz.checked.prog T0 95 nq:=bO aI (fn:=Tryz.f95) (c:=Tryz.f95.body.getD .skip) nq (.seq .leaf (.seq .leaf (.seq (.seq .leaf (.block ⟨[],[]⟩ (.loop ⟨[(0,(zl 9)),(1,(zl 9)),(5,zi)],[]⟩ .leaf))) .leaf))) [] .nil (by kernel_rfl) (by kernel_rfl) (by kernel_rfl) (fun xs=>by kernel_rfl)
def jN.d1 (a b c d e f g h i j k l:C):R:=(bif (a.S.toList==g.S.toList) then (bif (b.S.toList==h.S.toList) then (bif (d.I==j.I) then (bif (e.I==k.I) then (bif (f.B==l.B) then (ae (ej [c,i]) fun m=>(some (.ret [.b m.B]))) else (some (.ret [.b false]))) else (some (.ret [.b false]))) else (some (.ret [.b false]))) else (some (.ret [.b false]))) else (some (.ret [.b false])))
def jN:List C→Option (List C):=fun xs=>bl (apn 12 jN.d1 xs)
def nj:FS:=⟨2,⟨[(0,z7),(1,z7)],[]⟩,⟨[(0,zo)],[]⟩,[],jN⟩
theorem yL:aG Tryz.checked.prog T0 40 nj:=bO aI (fn:=Tryz.f40) (c:=Tryz.f40.body.getD .skip) nj .leaf [(95,some 43,nq)] (.cons yI .nil) (by kernel_rfl) (by kernel_rfl) (by kernel_rfl) (fun xs=>by kernel_rfl)
def eY.d1 (a b c d e f g h i j k l m n o p q r s t u v w x y:C):R:=(bif (decide (a.I<(i.L.length:Int))) then (bif (decide (0≤a.I)) then (bif (decide (a.I<(i.L.length:Int))) then (bif (decide (0≤a.I)) then (bif (decide (a.I<(u.L.length:Int))) then (bif (!(((((i.L.getD a.I.toNat []).getD 0 .nil).S).toList==(((u.L.getD a.I.toNat []).getD 0 .nil).S).toList)&&((((i.L.getD a.I.toNat []).getD 1 .nil).I==((u.L.getD a.I.toNat []).getD 1 .nil).I)&&true))) then (some (.ret [.b false])) else (some (.again [.i (w64 (a.I+1)),b,c,d,e,f,g,h,i,j,k,l,m,n,o,p,q,r,s,t,u,v,w,x,y]))) else none) else none) else none) else none) else (some (.brk 0 [])))
def eY.d2:R:=(some (.ret [.b true]))
def eY.d3 (a b c d e f g h i j k l m n o p q r s t u v w x:C):R:=(bif (!(!(a.S.toList==m.S.toList))) then (bif (!(!(b.S.toList==n.S.toList))) then (bif (!(c.I !=o.I)) then (bif (!(d.I !=p.I)) then (bif (!(e.I !=q.I)) then (bif (!(f.I !=r.I)) then (bif (!(!(g.S.toList==s.S.toList))) then (bif (!(i.I !=u.I)) then (bif (!(!(j.S.toList==v.S.toList))) then (bif (!(!(k.S.toList==w.S.toList))) then (bif (!(!(l.S.toList==x.S.toList))) then (bif ((h.L.length:Int) !=(t.L.length:Int)) then (some (.ret [.b false])) else (ax 0 (lim (apn 25 eY.d1) [.i 0,a,b,c,d,e,f,g,h,i,j,k,l,m,n,o,p,q,r,s,t,u,v,w,x]) (fun xs=>eY.d2))) else (some (.ret [.b false]))) else (some (.ret [.b false]))) else (some (.ret [.b false]))) else (some (.ret [.b false]))) else (some (.ret [.b false]))) else (some (.ret [.b false]))) else (some (.ret [.b false]))) else (some (.ret [.b false]))) else (some (.ret [.b false]))) else (some (.ret [.b false]))) else (some (.ret [.b false])))
def eY:List C→Option (List C):=fun xs=>bl (apn 24 eY.d3 xs)
def oU:FS:=⟨2,⟨[(0,z5),(1,z5)],[]⟩,⟨[(0,zo)],[]⟩,[],eY⟩
theorem zQ:aG Tryz.checked.prog T0 41 oU:=bO aI (fn:=Tryz.f41) (c:=Tryz.f41.body.getD .skip) oU (.seq .leaf (.seq .leaf (.seq (.seq .leaf (.block ⟨[],[]⟩ (.loop ⟨[(2,(.pt 2 0)),(3,(.pt 3 0)),(5,zi)],[(2,z2),(3,z2)]⟩ .leaf))) .leaf))) [] .nil (by kernel_rfl) (by kernel_rfl) (by kernel_rfl) (fun xs=>by kernel_rfl)
def bB.d1 (a b c d e f g h i:C):R:=(bif (decide (a.I<(c.L.length:Int))) then (bif (decide (0≤a.I)) then (bif (decide (a.I<(c.L.length:Int))) then (bif (decide (0≤a.I)) then (bif (decide (a.I<(g.L.length:Int))) then (ae (jN [((c.L.getD a.I.toNat []).getD 0 .nil),((c.L.getD a.I.toNat []).getD 1 .nil),((c.L.getD a.I.toNat []).getD 2 .nil),((c.L.getD a.I.toNat []).getD 3 .nil),((c.L.getD a.I.toNat []).getD 4 .nil),((c.L.getD a.I.toNat []).getD 5 .nil),((g.L.getD a.I.toNat []).getD 0 .nil),((g.L.getD a.I.toNat []).getD 1 .nil),((g.L.getD a.I.toNat []).getD 2 .nil),((g.L.getD a.I.toNat []).getD 3 .nil),((g.L.getD a.I.toNat []).getD 4 .nil),((g.L.getD a.I.toNat []).getD 5 .nil)]) fun j=>(bif (!j.B) then (some (.ret [.b false])) else (some (.again [.i (w64 (a.I+1)),b,c,d,e,f,g,h,i])))) else none) else none) else none) else none) else (some (.brk 0 [b,c,d,e,f,g,h,i])))
def bB.d2 (a b c d e f g h i:C):R:=(bif (decide (a.I<(d.L.length:Int))) then (bif (decide (0≤a.I)) then (bif (decide (a.I<(d.L.length:Int))) then (bif (decide (0≤a.I)) then (bif (decide (a.I<(h.L.length:Int))) then (bif (!(((((d.L.getD a.I.toNat []).getD 0 .nil).S).toList==(((h.L.getD a.I.toNat []).getD 0 .nil).S).toList)&&((((d.L.getD a.I.toNat []).getD 1 .nil).I==((h.L.getD a.I.toNat []).getD 1 .nil).I)&&true))) then (some (.ret [.b false])) else (some (.again [.i (w64 (a.I+1)),b,c,d,e,f,g,h,i]))) else none) else none) else none) else none) else (some (.brk 2 [b,c,d,e,f,g,h,i])))
def bB.d3 (a b c d e f g h i:C):R:=(bif (decide (a.I<(e.L.length:Int))) then (bif (decide (0≤a.I)) then (bif (decide (a.I<(e.L.length:Int))) then (bif (decide (0≤a.I)) then (bif (decide (a.I<(i.L.length:Int))) then (ae (eY [((e.L.getD a.I.toNat []).getD 0 .nil),((e.L.getD a.I.toNat []).getD 1 .nil),((e.L.getD a.I.toNat []).getD 2 .nil),((e.L.getD a.I.toNat []).getD 3 .nil),((e.L.getD a.I.toNat []).getD 4 .nil),((e.L.getD a.I.toNat []).getD 5 .nil),((e.L.getD a.I.toNat []).getD 6 .nil),((e.L.getD a.I.toNat []).getD 7 .nil),((e.L.getD a.I.toNat []).getD 8 .nil),((e.L.getD a.I.toNat []).getD 9 .nil),((e.L.getD a.I.toNat []).getD 10 .nil),((e.L.getD a.I.toNat []).getD 11 .nil),((i.L.getD a.I.toNat []).getD 0 .nil),((i.L.getD a.I.toNat []).getD 1 .nil),((i.L.getD a.I.toNat []).getD 2 .nil),((i.L.getD a.I.toNat []).getD 3 .nil),((i.L.getD a.I.toNat []).getD 4 .nil),((i.L.getD a.I.toNat []).getD 5 .nil),((i.L.getD a.I.toNat []).getD 6 .nil),((i.L.getD a.I.toNat []).getD 7 .nil),((i.L.getD a.I.toNat []).getD 8 .nil),((i.L.getD a.I.toNat []).getD 9 .nil),((i.L.getD a.I.toNat []).getD 10 .nil),((i.L.getD a.I.toNat []).getD 11 .nil)]) fun j=>(bif (!j.B) then (some (.ret [.b false])) else (some (.again [.i (w64 (a.I+1)),b,c,d,e,f,g,h,i])))) else none) else none) else none) else none) else (some (.brk 4 [])))
def bB.d4:R:=(some (.ret [.b true]))
def bB.d5 (a b c d e f g h:C):R:=(ax 4 (lim (apn 9 bB.d3) [.i 0,a,b,c,d,e,f,g,h]) (fun xs=>bB.d4))
def bB.d6 (a b c d e f g h:C):R:=(ax 2 (lim (apn 9 bB.d2) [.i 0,a,b,c,d,e,f,g,h]) (apn 8 bB.d5))
def bB.d7 (a b c d e f g h:C):R:=(bif (!(!(a.B==e.B))) then (bif (!((b.L.length:Int) !=(f.L.length:Int))) then (bif (!((c.L.length:Int) !=(g.L.length:Int))) then (bif ((d.L.length:Int) !=(h.L.length:Int)) then (some (.ret [.b false])) else (ax 0 (lim (apn 9 bB.d1) [.i 0,a,b,c,d,e,f,g,h]) (apn 8 bB.d6))) else (some (.ret [.b false]))) else (some (.ret [.b false]))) else (some (.ret [.b false])))
def bB:List C→Option (List C):=fun xs=>bl (apn 8 bB.d7 xs)
def kI:FS:=⟨2,⟨[(0,z3),(1,z3)],[]⟩,⟨[(0,zo)],[]⟩,[],bB⟩
theorem rj:aG Tryz.checked.prog T0 8 kI:=bO aI (fn:=Tryz.f8) (c:=Tryz.f8.body.getD .skip) kI (.seq .leaf (.seq .leaf (.seq (.seq .leaf (.block ⟨[(2,(.pt 2 0)),(3,(.pt 3 0))],[(2,z0),(3,z0)]⟩ (.loop ⟨[(2,(.pt 2 0)),(3,(.pt 3 0)),(5,zi)],[(2,z0),(3,z0)]⟩ .leaf))) (.seq (.seq .leaf (.block ⟨[(2,(.pt 2 0)),(3,(.pt 3 0))],[(2,z0),(3,z0)]⟩ (.loop ⟨[(2,(.pt 2 0)),(3,(.pt 3 0)),(6,zi)],[(2,z0),(3,z0)]⟩ .leaf))) (.seq (.seq .leaf (.block ⟨[],[]⟩ (.loop ⟨[(2,(.pt 2 0)),(3,(.pt 3 0)),(7,zi)],[(2,z0),(3,z0)]⟩ .leaf))) .leaf))))) [(40,some 57,nj),(41,some 94,oU)] (.cons yL (.cons zQ .nil)) (by kernel_rfl) (by kernel_rfl) (by kernel_rfl) (fun xs=>by kernel_rfl)
def fU.d1 (a b c d e f g h i j k l m n o p q r s t u:C):R:=(bif (a.I==3) then (some (.ret [h])) else (some (.ret [t])))
def fU:List C→Option (List C):=fun xs=>bl (apn 21 fU.d1 xs)
def jf:FS:=⟨1,⟨[(0,z9)],[]⟩,⟨[(0,zt)],[]⟩,[],fU⟩
theorem oN:aG Tryz.checked.prog T0 9 jf:=bO aI (fn:=Tryz.f9) (c:=Tryz.f9.body.getD .skip) jf .leaf [] .nil (by kernel_rfl) (by kernel_rfl) (by kernel_rfl) (fun xs=>by kernel_rfl)
def eV.d1 (a b:C):R:=(bif (!(decide ((a.L.length:Int)>1048576))) then (bif (decide ((b.L.length:Int)>1048576)) then (some (.ret [.b true])) else (gB (dy [a]) fun yy=>(fun c d e f g h i j k l m n o p q r s t u v w x y z a0=>(gB (dy [b]) fun yy=>(fun a1 a2 a3 a4 a5 a6 a7 a8 a9 b0 b1 b2 b3 b4 b5 b6 b7 b8 b9 c0 c1 c2 c3 c4 c5=>(call5 (au [c,d,e,f,g,h,i,.l z.L,j,k,l,m,n,o,p,q,r,s,.l a0.L,t,u,v,w,x,y]) fun c6 c7 c8 c9 d0=>(call5 (bm [c,d,e,f,g,h,i,.l z.L,j,k,l,m,n,o,p,q,r,s,.l a0.L,t,u,v,w,x,y]) fun d1 d2 d3 d4 d5=>(bif (!(c7.I !=d2.I)) then (ae (bB [c6,.l c8.L,.l c9.L,.l d0.L,d1,.l d3.L,.l d4.L,.l d5.L]) fun d6=>(bif (!d6.B) then (some (.ret [.b false])) else (call5 (au [c6,.l c8.L,.l c9.L,.l d0.L,a5,a6,a7,.l c4.L,a8,a9,b0,b1,b2,b3,b4,b5,b6,b7,.l c5.L,b8,b9,c0,c1,c2,c3]) fun d7 d8 d9 e0 e1=>(call5 (au [c,d,e,f,a5,a6,a7,.l c4.L,a8,a9,b0,b1,b2,b3,b4,b5,b6,b7,.l c5.L,b8,b9,c0,c1,c2,c3]) fun e2 e3 e4 e5 e6=>(call5 (au [e2,.l e4.L,.l e5.L,.l e6.L,g,h,i,.l z.L,j,k,l,m,n,o,p,q,r,s,.l a0.L,t,u,v,w,x,y]) fun e7 e8 e9 f0 f1=>(bif (!((w64 ((w64 ((w64 (c7.I+d8.I))+e3.I))+e8.I)) !=0)) then (bif (!(decide (g.I<3))) then (bif (!(decide (a5.I<3))) then (ae (fU [g,h,i,.l z.L,j,k,l,m,n,o,p,q,r,s,.l a0.L,t,u,v,w,x,y]) fun f2=>(ae (fU [a5,a6,a7,.l c4.L,a8,a9,b0,b1,b2,b3,b4,b5,b6,b7,.l c5.L,b8,b9,c0,c1,c2,c3]) fun f3=>(bif (f2.S.toList==f3.S.toList) then (some (.ret [.b true])) else (ae (bB [d7,.l d9.L,.l e0.L,.l e1.L,e7,.l e9.L,.l f0.L,.l f1.L]) fun f4=>(some (.ret [.b f4.B])))))) else (some (.ret [.b true]))) else (some (.ret [.b true]))) else (some (.ret [.b true])))))))) else (some (.ret [.b false])))))) (yy.getD 0 .nil) (yy.getD 1 .nil) (yy.getD 2 .nil) (yy.getD 3 .nil) (yy.getD 4 .nil) (yy.getD 5 .nil) (yy.getD 6 .nil) (yy.getD 7 .nil) (yy.getD 8 .nil) (yy.getD 9 .nil) (yy.getD 10 .nil) (yy.getD 11 .nil) (yy.getD 12 .nil) (yy.getD 13 .nil) (yy.getD 14 .nil) (yy.getD 15 .nil) (yy.getD 16 .nil) (yy.getD 17 .nil) (yy.getD 18 .nil) (yy.getD 19 .nil) (yy.getD 20 .nil) (yy.getD 21 .nil) (yy.getD 22 .nil) (yy.getD 23 .nil) (yy.getD 24 .nil))) (yy.getD 0 .nil) (yy.getD 1 .nil) (yy.getD 2 .nil) (yy.getD 3 .nil) (yy.getD 4 .nil) (yy.getD 5 .nil) (yy.getD 6 .nil) (yy.getD 7 .nil) (yy.getD 8 .nil) (yy.getD 9 .nil) (yy.getD 10 .nil) (yy.getD 11 .nil) (yy.getD 12 .nil) (yy.getD 13 .nil) (yy.getD 14 .nil) (yy.getD 15 .nil) (yy.getD 16 .nil) (yy.getD 17 .nil) (yy.getD 18 .nil) (yy.getD 19 .nil) (yy.getD 20 .nil) (yy.getD 21 .nil) (yy.getD 22 .nil) (yy.getD 23 .nil) (yy.getD 24 .nil))) else (some (.ret [.b true])))
def eV:List C→Option (List C):=fun xs=>bl (apn 2 eV.d1 xs)
def lZ:FS:=⟨2,⟨[(0,(zl 5)),(1,(zl 5))],[]⟩,⟨[(0,zo)],[]⟩,[],eV⟩
theorem rE:aG Tryz.checked.prog T0 3 lZ:=bO aI (fn:=Tryz.f3) (c:=Tryz.f3.body.getD .skip) lZ (.seq .leaf (.seq .leaf (.seq .leaf (.seq .leaf (.seq (.frz [125880,125881] .leaf) (.seq .leaf (.seq .leaf (.seq (.frz [146360,146361,170936,170937,170938] .leaf) (.seq .leaf (.seq (.frz [281528,281529,281530] .leaf) .leaf)))))))))) [(5,some 29,fw),(5,some 34,fw),(6,some 40,eU),(6,some 61,eU),(6,some 67,eU),(6,some 73,eU),(7,some 46,fO),(8,some 55,kI),(8,some 103,kI),(9,some 96,jf),(9,some 98,jf)] (.cons kp (.cons kp (.cons gY (.cons gY (.cons gY (.cons gY (.cons jt (.cons rj (.cons rj (.cons oN (.cons oN .nil))))))))))) (by kernel_rfl) (by kernel_rfl) (by kernel_rfl) (fun xs=>by kernel_rfl)
end
end Go.Ev
set_option maxRecDepth 8000
namespace Go.Ev
abbrev Str:=ByteArray
structure Lk where
 sel:Str
 w:Int
structure Bt where
 name:Str
 zone:Str
 marks:List Str
 room:Int
 hold:Int
 shut:Bool
structure Sv where
 name:Str
 spare:Int
structure Cp where
 name:Str
 svc:Str
 rank:Int
 born:Int
 room:Int
 hold:Int
 sel:Str
 likes:List Lk
 apart:Int
 near:Str
 fixed:Str
 at_:Str
structure Fl where
 pack:Bool
 bts:List Bt
 svs:List Sv
 cps:List Cp
def sE (s:Str):List C:=[.s s]
def Lk.e (x:Lk):List C:=[.s x.sel,.i x.w]
def Bt.e (b:Bt):List C:=[.s b.name,.s b.zone,.l (b.marks.map sE),.i b.room,.i b.hold,.b b.shut]
def Sv.e (s:Sv):List C:=[.s s.name,.i s.spare]
def Cp.e (c:Cp):List C:=[.s c.name,.s c.svc,.i c.rank,.i c.born,.i c.room,.i c.hold,.s c.sel,.l (c.likes.map Lk.e),.i c.apart,.s c.near,.s c.fixed,.s c.at_]
def Fl.e (f:Fl):List C:=[.b f.pack,.l (f.bts.map Bt.e),.l (f.svs.map Sv.e),.l (f.cps.map Cp.e)]
def Bt.Sz (K:Nat) (b:Bt):Prop:=b.name.size≤K∧b.zone.size≤K∧b.marks.length≤K∧∀m,m∈b.marks→m.size≤K
def Sv.Sz (K:Nat) (s:Sv):Prop:=s.name.size≤K
def Cp.Sz (K:Nat) (c:Cp):Prop:=c.name.size≤K∧c.svc.size≤K∧c.sel.size≤K∧c.near.size≤K∧c.fixed.size≤K∧c.at_.size≤K∧c.likes.length≤K∧∀x,x∈c.likes→x.sel.size≤K
def Fl.Sz (K:Nat) (f:Fl):Prop:=(f.bts.length≤K∧∀b,b∈f.bts→b.Sz K)∧(f.svs.length≤K∧∀s,s∈f.svs→s.Sz K)∧f.cps.length≤K∧∀c,c∈f.cps→c.Sz K
def zJ (K:Nat) (l:List Str):Prop:=l.length≤K∧∀s,s∈l→s.size≤K
theorem getD_map' {α:Type} (e:α→List C) {l:List α} {i:Nat} (h:i<l.length):(l.map e).getD i []=e l[i]:=AF e h []
theorem w1 {i n:Nat} (h:i<n) (hn:n<4611686018427387904):w64 ((i:Int)+1)=((i+1:Nat):Int):=by
 rw[aZ (by omega) (by omega)];rfl
end Go.Ev
namespace Go.Ev
abbrev big:Nat:=4611686018427387904
end Go.Ev
namespace Go.Ev
def Bt.o (b:Bt):List C:=[.s b.name,.s b.zone,.i b.room,.i b.hold,.b b.shut,.l (b.marks.map sE)]
def Cp.o (c:Cp):List C:=[.s c.name,.s c.svc,.i c.rank,.i c.born,.i c.room,.i c.hold,.s c.sel,.i c.apart,.s c.near,.s c.fixed,.s c.at_,.l (c.likes.map Lk.e)]
end Go.Ev
namespace Go.Ev
def within (a b c:Int):Bool:=decide (b≤a)&&decide (a≤c)
theorem eT (a b c:Int):fZ [.i a,.i b,.i c]=some [.b (within a b c)]:=by
 simp only[fZ,fZ.d1,apL,jC,jD,C.I_i,within]
 cases h:decide (a≥b)<;>simp at h<;>simp[h]<;>omega
theorem l5 (a b c:Int):eZ [.i a,.i b,.i c]=some [.b (within a b c)]:=by
 simp only[eZ,eZ.d1,apL,jC,jD,C.I_i,within]
 cases h:decide (a≥b)<;>simp at h<;>simp[h]<;>omega
def Ce (n:Int):Bool:=(decide (n≥97)&&decide (n≤122))||(decide (n≥48)&&decide (n≤57))||n==45||n==95
def dm (x:UInt8):Bool:=Ce (x.toNat:Int)
theorem ig (n:Int):gH [.i n]=some [.b (Ce n)]:=by
 simp only[gH,gH.d1,apL,jC,C.I_i,Ce]
 cases decide (n≥97)<;>cases decide (n≤122)<;>cases decide (n≥48)<;>cases decide (n≤57)<;>cases n==45<;>simp
theorem nf (n:Int):pL [.i n]=some [.b (Ce n)]:=ig n
def aX (s:Str):Bool:=within s.size 1 20&&s.data.toList.all dm
theorem cS (s:Str):s.size=s.data.toList.length:=Array.length_toList.symm
theorem dW {s:Str} {i:Nat} (h:i<s.data.toList.length):s.data.getD i 0=s.data.toList[i]:=by
 have:i<s.data.size:=by simpa using h
 simp only[Array.getD,dif_pos this,Array.getInternal_eq_getElem,Array.getElem_toList]
theorem sL {α:Type} (p:α→Bool) (b:Nat) (ys:List C) (K:List C→R):∀(l:List α) (n:Nat),ax b (some (xA (fun _ s (_:Unit)=>bif p s then .inl () else .inr (.ret [.b false])) (fun _=>.brk b ys) l n ())) K=bif l.all p then K ys else some (.ret [.b false])
 |[],n=>by simp[xA]
 |x::r,n=>by
  simp only[xA,List.all_cons]
  cases p x with
  |true=>simp only[jR,Bool.true_and];exact sL p b ys K r (n+1)
  |false=>simp
theorem cx (s:Str) (hl:s.size≤1048576):bd [.s s]=some [.b (aX s)]:=by
 have hsz:=cS s
 have h:=u6 (l:=s.data.toList) (S:=fun i (_:Unit)=>[.s s,.i (i:Nat)]) (body:=apn 2 bd.d1)
  (fun _ _=>True) (fun i b _=>bif dm b then .inl () else .inr (.ret [.b false])) (fun _=>.brk 0 [])
  (fun i _ hi _=>by
   have hi':i<s.size:=by omega
   cases hb:dm s.data.toList[i]<;>simp only[dm] at hb
   ·exact ⟨by simp only[apL,jC,jD,bd.d1,C.I_i,C.S_s,jY,dW hi,ig,hb,ae];simp[hi'],trivial⟩
   ·exact ⟨by simp only[apL,jC,jD,bd.d1,C.I_i,C.S_s,jY,dW hi,ig,hb,ae,w1 hi' (show s.size<big by simp only[big];omega)];simp[hi'],trivial⟩)
  (fun _ _=>⟨by rw[←hsz];simp[bd.d1],trivial⟩) _ 0 () rfl trivial
 simp only[Int.ofNat_zero,List.drop_zero] at h
 simp only[bd,bd.d3,apL,jC,C.S_s,eT,ae,jI,C.B_b,aX]
 cases hw:within s.size 1 20 with
 |false=>simp
 |true=>
  simp only[jZ,jS]
  erw[h,sL]
  cases (s.data.toList.all dm)<;>simp[bd.d2]
theorem fE (s:Str) (hl:s.size≤1048576):dF [.s s]=some [.b (aX s)]:=by
 have hsz:=cS s
 have h:=u6 (l:=s.data.toList) (S:=fun i (_:Unit)=>[.s s,.i (s.size:Nat),.i (i:Nat)]) (body:=apn 3 dF.d1)
  (fun _ _=>True) (fun i b _=>bif dm b then .inl () else .inr (.ret [.b false])) (fun _=>.brk 0 [])
  (fun i _ hi _=>by
   have hi':i<s.size:=by omega
   cases hb:dm s.data.toList[i]<;>simp only[dm] at hb
   ·exact ⟨by simp only[apL,jC,jD,dF.d1,C.I_i,C.S_s,jY,dW hi,nf,hb,ae];simp[hi'],trivial⟩
   ·exact ⟨by simp only[apL,jC,jD,dF.d1,C.I_i,C.S_s,jY,dW hi,nf,hb,ae,w1 hi' (show s.size<big by simp only[big];omega)];simp[hi'],trivial⟩)
  (fun _ _=>⟨by rw[←hsz];simp[dF.d1],trivial⟩) _ 0 () rfl trivial
 simp only[Int.ofNat_zero,List.drop_zero] at h
 simp only[dF,dF.d3,apL,jC,C.S_s,aX,within]
 by_cases q1:(s.size:Int)<1
 ·have:¬(1:Int)≤s.size:=by omega
  simp[q1,this]
 by_cases q2:(s.size:Int)>20
 ·have:¬(s.size:Int)≤20:=by omega
  simp only[q1,q2,this];simp
 ·have e1:(1:Int)≤s.size:=by omega
  have e2:(s.size:Int)≤20:=by omega
  simp only[q1,q2,e1,e2,decide_true,decide_false,ja,jR,jS,Bool.true_and]
  erw[h,sL]
  cases (s.data.toList.all dm)<;>simp[dF.d2]
end Go.Ev
namespace Go.Ev
def mkS (l:List UInt8):Str:=⟨l.toArray⟩
theorem gn (l:List UInt8):(mkS l).data.toList=l:=rfl
theorem mn (l:List UInt8):(mkS l).size=l.length:=rfl
theorem Hj (s:Str):mkS s.data.toList=s:=rfl
theorem kG (s:Str) (i j:Nat):s.extract i j=mkS ((s.data.toList.take j).drop i):=by
 have:(s.extract i j).data=((s.data.toList.take j).drop i).toArray:=by
  rw[ByteArray.data_extract]
  apply Array.toList_inj.1
  simp only[Array.toList_extract,List.extract_eq_take_drop]
  rw[List.drop_take]
 cases h:s.extract i j with
 |mk d=>rw[h] at this;simp only at this;subst this;rfl
def sEq (a b:Str):Bool:=a.toList==b.toList
theorem eM (s:Str):s.toList=s.data.toList:=ByteArray.toList_eq s
theorem fb (a b:Str):sEq a b=true↔a=b:=by
 unfold sEq
 rw[eM,eM,beq_iff_eq]
 constructor
 ·intro h
  cases a;cases b
  simp only at h
  exact congrArg _ (Array.toList_inj.1 h)
 ·rintro rfl;rfl
theorem G6 (a b:List UInt8):sEq (mkS a) (mkS b)=(a==b):=by
 unfold sEq;rw[eM,eM,gn,gn]
theorem oV {α:Type} (p:α→Bool):∀l:List α,l.take (l.takeWhile p).length=l.takeWhile p
 |[]=>rfl
 |x::r=>by
  rw[List.takeWhile_cons]
  cases p x with
  |true=>simp[oV p r]
  |false=>simp
theorem j9 {α:Type} (p:α→Bool):∀l:List α,l.drop (l.takeWhile p).length=l.dropWhile p
 |[]=>rfl
 |x::r=>by
  rw[List.takeWhile_cons,List.dropWhile_cons]
  cases p x with
  |true=>simp[j9 p r]
  |false=>simp
theorem so {α:Type} (l:List α) (i k:Nat):(l.take (i+k)).drop i=(l.drop i).take k:=by rw[List.drop_take];congr 1;omega
theorem pH {α:Type} (p:α→Bool) (l:List α):(l.takeWhile p).length≤l.length:=(List.takeWhile_prefix p).length_le
theorem drop_cons {α:Type} {l r:List α} {i:Nat} {c:α} (h:l.drop i=c::r):∃hi:i<l.length,l[i]=c∧l.drop (i+1)=r:=by
 have hi:i<l.length:=by
  rcases Nat.lt_or_ge i l.length with h'|h'
  ·exact h'
  ·rw[List.drop_eq_nil_of_le h'] at h;simp at h
 rw[List.drop_eq_getElem_cons hi] at h
 simp only[List.cons.injEq] at h
 exact ⟨hi,h.1,h.2⟩
def cX:List UInt8→List (List UInt8)
 |[]=>[]
 |c::r=>if c=32 then cX r else if dm c then (c::r.takeWhile dm)::cX (r.dropWhile dm) else [c]::cX r
termination_by l=>l.length
decreasing_by
 ·simp
 ·have:=(List.dropWhile_suffix (l:=r) dm).length_le;simp;omega
 ·simp
def sym (c:UInt8):Bool:=c==124||c==38||c==33||c==40||c==41||c==61
def gA (c:UInt8):Bool:=c==32||dm c||sym c
theorem bn (c x:UInt8) (m:Int) (h:m=(x.toNat:Int)):(((c.toNat:Nat):Int)==m)=(c==x):=by
 subst h
 rw[Bool.eq_iff_iff,beq_iff_eq,beq_iff_eq]
 constructor
 ·intro h
  exact UInt8.toNat_inj.1 (by exact_mod_cast h)
 ·rintro rfl;rfl
theorem Ee (s:Str) (hl:s.size≤1048576) (i:Nat) (o:C):∀(k n:Nat),k=s.data.toList.length-n→n≤s.data.toList.length→
  lim (apn 4 aE.d1) [.s s,.i i,.i n,.l o.L]=some (.brk 2 [.s s,.i i,.i (n+((s.data.toList.drop n).takeWhile dm).length:Nat),.l o.L])
 |0,n,hk,hn=>by
  have e:n=s.size:=by rw[cS];omega
  have e2:s.data.toList.drop n=[]:=List.drop_eq_nil_of_le (by omega)
  rw[e2]
  refine aY ?_
  simp[aE.d1,e]
 |k+1,n,hk,hn=>by
  have hi:n<s.data.toList.length:=by omega
  have hi':n<s.size:=by rw[cS];omega
  have e2:=List.drop_eq_getElem_cons hi
  rw[e2,List.takeWhile_cons]
  cases hb:dm s.data.toList[n] with
  |false=>
   refine aY ?_
   simp only[dm] at hb
   simp only[apL,jC,jD,aE.d1,C.I_i,C.S_s,jY,dW hi,ig,hb,ae]
   simp[hi']
  |true=>
   have h:apn 4 aE.d1 [.s s,.i i,.i n,.l o.L]=some (.again [.s s,.i i,.i (n+1:Nat),.l o.L]):=by
    simp only[dm] at hb
    simp only[apL,jC,jD,aE.d1,C.I_i,C.S_s,jY,dW hi,ig,hb,ae,w1 hi' (show s.size<big by simp only[big];omega)]
    simp[hi']
   rw[aO h,Ee s hl i o k (n+1) (by omega) (by omega)]
   have:n+1+(List.takeWhile dm (s.data.toList.drop (n+1))).length=n+(s.data.toList[n]::List.takeWhile dm (s.data.toList.drop (n+1))).length:=by
    simp only[List.length_cons];omega
   simp only[if_true,this]
def tk (t:List UInt8):List C:=[.s (mkS t)]
theorem FQ (s:Str) (hl:s.size≤1048576):∀(k i:Nat) (out:List (List C)),s.data.toList.length-i≤k→i≤s.data.toList.length→out.length≤i→
  (((s.data.toList.drop i).all gA=true∧lim (apn 3 aE.d5) [.s s,.i i,.l out]=some (.brk 0 [.l (out++(cX (s.data.toList.drop i)).map tk)]))∨
   ((s.data.toList.drop i).all gA=false∧∃o,lim (apn 3 aE.d5) [.s s,.i i,.l out]=some (.ret [.b false,.l o])))
 |k,i,out,hk,hi,ho=>by
  cases hd:s.data.toList.drop i with
  |nil=>
   have:s.data.toList.length≤i:=by simpa using hd
   have e:i=s.size:=by rw[cS];omega
   left
   refine ⟨rfl,aY ?_⟩
   simp[aE.d5,e,cX]
  |cons c r=>
   obtain ⟨hi',hc,hr⟩:=drop_cons hd
   have his:i<s.size:=by rw[cS];exact hi'
   obtain ⟨k,rfl⟩:∃k',k=k'+1:=⟨k-1,by omega⟩
   have hw:=w1 his (show s.size<big by simp only[big];omega)
   have e32:=bn c 32 32 rfl
   by_cases h32:c=32
   ·subst h32
    have h:apn 3 aE.d5 [.s s,.i i,.l out]=some (.again [.s s,.i (i+1:Nat),.l out]):=by
     simp only[apL,jC,jD,aE.d5,C.I_i,C.S_s,C.L_l,jY,dW hi',hc,hw]
     simp[his,aE.d4]
    have ih:=FQ s hl k (i+1) out (by omega) (by omega) (by omega)
    rw[aO h]
    rw[hr] at ih
    simpa [gA,cX] using ih
   ·have hrun:=Ee s hl i (.l out) _ i rfl hi
    rw[hd] at hrun
    simp only[C.L_l] at hrun
    have hne:(((c.toNat:Nat):Int)==32)=false:=by
     rw[e32,beq_eq_false_iff_ne];exact h32
    cases hlt:dm c with
    |true=>
     have hrl:=pH dm r
     have hrlen:r.length=s.data.toList.length-(i+1):=by rw[←hr];simp
     have h:apn 3 aE.d5 [.s s,.i i,.l out]=some (.again [.s s,.i (i+1+(r.takeWhile dm).length:Nat),.l (out++[tk (c::r.takeWhile dm)])]):=by
      have hext:s.extract i (i+1+(r.takeWhile dm).length)=mkS (c::r.takeWhile dm):=by
       rw[kG,Nat.add_assoc,so,hd,Nat.add_comm 1,List.take_succ_cons,oV]
      have e1:(((i+1+(r.takeWhile dm).length:Nat):Int)==(i:Int))=false:=by
       rw[beq_eq_false_iff_ne];omega
      have e2:(i:Int)≤((i+1+(r.takeWhile dm).length:Nat):Int):=by omega
      have e3:((i+1+(r.takeWhile dm).length:Nat):Int)≤(s.size:Int):=by rw[cS];omega
      have e4:out.length+1≤4294967296:=by omega
      have e0:i+(List.takeWhile dm (c::r)).length=i+1+(r.takeWhile dm).length:=by
       rw[List.takeWhile_cons,hlt];simp;omega
      rw[e0] at hrun
      simp only[apL,jC,jD,aE.d5,C.I_i,C.S_s,C.L_l,jY,dW hi',hc,hne,hrun,bg]
      simp only[aE.d3,C.I_i,C.S_s,C.L_l,e1,jY,hext]
      simp only[e2,e3,e4,his,decide_true,jR,jS,jX,rows,List.length_cons,List.length_nil,bg,aE.d4,C.L_l,tk]
      simp[his,e4,aE.d4]
     have ih:=FQ s hl k (i+1+(r.takeWhile dm).length) (out++[tk (c::r.takeWhile dm)]) (by omega) (by omega) (by simp;omega)
     rw[aO h]
     have hdr:s.data.toList.drop (i+1+(r.takeWhile dm).length)=r.dropWhile dm:=by
      rw[←List.drop_drop,hr,j9]
     rw[hdr] at ih
     have hall:(c::r).all gA=(r.dropWhile dm).all gA:=by
      have e1:∀r:List UInt8,r.all gA=(r.dropWhile dm).all gA:=by
       intro r
       induction r with
       |nil=>rfl
       |cons x r ih=>
        rw[List.dropWhile_cons]
        cases hx:dm x with
        |true=>simp[gA,hx,←ih]
        |false=>simp
      have:gA c=true:=by simp[gA,hlt]
      rw[List.all_cons,this,Bool.true_and];exact e1 r
     rw[hall]
     have hlex:cX (c::r)=(c::r.takeWhile dm)::cX (r.dropWhile dm):=by
      rw[cX,if_neg h32,if_pos hlt]
     rw[hlex]
     simpa using ih
    |false=>
     have e0:i+(List.takeWhile dm (c::r)).length=i:=by
      rw[List.takeWhile_cons,hlt];simp
     rw[e0] at hrun
     have s1:=bn c 124 124 rfl
     have s2:=bn c 38 38 rfl
     have s3:=bn c 33 33 rfl
     have s4:=bn c 40 40 rfl
     have s5:=bn c 41 41 rfl
     have s6:=bn c 61 61 rfl
     have hsym:aE.d3 (.s s) (.i i) (.i i) (.l out)=aE.d2 (.s s) (.i i) (.i i) (.b (!sym c)) (.l out):=by
      simp only[aE.d3,C.I_i,C.S_s,C.L_l,jY,dW hi',hc,bne,s1,s2,s3,s4,s5,s6,sym]
      cases (c==124)<;>cases (c==38)<;>cases (c==33)<;>cases (c==40)<;>cases (c==41)<;>cases (c==61)<;>simp[his]
     have hd2:aE.d2 (.s s) (.i i) (.i i) (.b (!sym c)) (.l out)=if sym c=true then some (.brk 1 [.s s,.i (i+1:Nat),.l (out++[tk [c]])]) else some (.ret [.b false,.l out]):=by
      have hext:s.extract i (i+1)=mkS [c]:=by
       rw[kG,so,hd];rfl
      have e2:(i:Int)≤((i+1:Nat):Int):=by omega
      have e3:((i+1:Nat):Int)≤(s.size:Int):=by rw[cS];omega
      have e4:out.length+1≤4294967296:=by omega
      cases hs:sym c with
      |false=>simp[aE.d2]
      |true=>
       simp only[aE.d2,C.I_i,C.S_s,C.L_l,C.B_b,hw,jY,hext,e2,e3,decide_true,jR,jS,jX,rows,List.length_cons,List.length_nil,jZ,if_true,tk]
       simp[e4]
     have h0:apn 3 aE.d5 [.s s,.i i,.l out]=ax 1 (if sym c=true then some (.brk 1 [.s s,.i (i+1:Nat),.l (out++[tk [c]])]) else some (.ret [.b false,.l out])) (apn 3 aE.d4):=by
      rw[←hd2,←hsym]
      simp only[apL,jC,jD,aE.d5,C.I_i,C.S_s,C.L_l,jY,dW hi',hc,hne,hrun,bg]
      simp[his]
     cases hs:sym c with
     |false=>
      right
      rw[hs] at h0
      refine ⟨by simp[gA,hlt,hs,h32],out,rH (by rw[h0];simp)⟩
     |true=>
      rw[hs] at h0
      have h:apn 3 aE.d5 [.s s,.i i,.l out]=some (.again [.s s,.i (i+1:Nat),.l (out++[tk [c]])]):=by rw[h0];simp[aE.d4]
      rw[aO h]
      have ih:=FQ s hl k (i+1) (out++[tk [c]]) (by omega) (by omega) (by simp;omega)
      rw[hr] at ih
      have hlex:cX (c::r)=[c]::cX r:=by rw[cX,if_neg h32,if_neg (by rw[hlt];simp)]
      have hall:(c::r).all gA=r.all gA:=by simp[gA,hs]
      rw[hlex,hall]
      simpa using ih
theorem wK (s:Str) (hl:s.size≤1048576):
  (s.data.toList.all gA=true∧aE [.s s]=some [.b true,.l ((cX s.data.toList).map tk)])∨(s.data.toList.all gA=false∧∃o,aE [.s s]=some [.b false,.l o]):=by
 have h:=FQ s hl _ 0 [] (Nat.le_refl _) (by omega) (by simp)
 simp only[List.drop_zero,jB,Int.ofNat_zero] at h
 simp only[aE,aE.d7,apL,jC,ah]
 rcases h with ⟨h1,h2⟩|⟨h1,o,h2⟩
 ·exact .inl ⟨h1,by rw[h2];simp[aE.d6]⟩
 ·exact .inr ⟨h1,o,by rw[h2];simp⟩
end Go.Ev
namespace Go.Ev
abbrev Tok:=List UInt8
inductive Tr where
 |lf (k:Nat) (n v:Tok)
 |un (t:Tr)
 |bn (k:Nat) (a b:Tr)
def node (k:Nat) (n v:Tok) (m:Nat):List C:=[.i (k:Nat),.s (mkS n),.s (mkS v),.i (m:Nat)]
def Tr.flat:Tr→List (List C)
 |.lf k n v=>[node k n v 0]
 |.un t=>t.flat++[node 3 [] [] 1]
 |.bn k a b=>a.flat++b.flat++[node k [] [] 2]
def opL (f:List Tok→Option (Tr×List Tok)) (op:Tok) (kd:Nat):Nat→Tr→List Tok→Option (Tr×List Tok)
 |0,t,r=>some (t,r)
 |m+1,t,r=>match r with
  |[]=>some (t,[])
  |x::r'=>if x=op then match f r' with
    |none=>none
    |some (t',r'')=>opL f op kd m (.bn kd t t') r''
   else some (t,x::r')
def prs:Nat→Nat→List Tok→Option (Tr×List Tok)
 |0,_,_=>none
 |k+1,c,l=>match c with
  |0=>match prs k 1 l with
   |none=>none
   |some (t,r)=>opL (prs k 1) [124] 5 r.length t r
  |1=>match prs k 2 l with
   |none=>none
   |some (t,r)=>opL (prs k 2) [38] 4 r.length t r
  |_=>match l with
   |[]=>none
   |x::r=>if x=[33] then match prs k 2 r with
     |none=>none
     |some (t,r')=>some (.un t,r')
    else if x=[40] then match prs k 0 r with
     |some (t,y::r')=>if y=[41] then some (t,r') else none
     |_=>none
    else if aX (mkS x)=true then match r with
     |y::r'=>if y=[61] then match r' with
       |v::r''=>if aX (mkS v)=true then some (.lf 2 x v,r'') else none
       |[]=>none
      else some (.lf 1 x [],r)
     |[]=>some (.lf 1 x [],[])
    else none
theorem eu:bs #[]=mkS []:=rfl
theorem yl (k n:Int) (x y:List (List C)) (h:x.length+y.length≤1048576):
  bH [.i k,.i n,.l [[.l x],[.l y]]]=some [.l [[.l x],[.l y]],.l (x++y++[[.i k,.s (mkS []),.s (mkS []),.i n]])]:=by
 have b1:x.length≤4294967296:=by omega
 have b2:x.length+y.length≤4294967296:=by omega
 have b3:x.length+y.length+1≤4294967296:=by omega
 have b4:x.length+(y.length+1)≤4294967296:=by omega
 have w0:w64 1=1:=aZ (by omega) (by omega)
 have w1:w64 2=2:=aZ (by omega) (by omega)
 have h0:apn 5 bH.d1 [.i k,.i n,.i 0,.l [[.l x],[.l y]],.l []]=some (.again [.i k,.i n,.i 1,.l [[.l x],[.l y]],.l x]):=by
  simp[bH.d1,b1,w0]
 have h1:apn 5 bH.d1 [.i k,.i n,.i 1,.l [[.l x],[.l y]],.l x]=some (.again [.i k,.i n,.i 2,.l [[.l x],[.l y]],.l (x++y)]):=by
  have e:(1:Int)<2:=by omega
  simp[bH.d1,b2,w1,e]
 have h2:apn 5 bH.d1 [.i k,.i n,.i 2,.l [[.l x],[.l y]],.l (x++y)]=some (.brk 0 [.i k,.i n,.l [[.l x],[.l y]],.l (x++y)]):=by
  simp[bH.d1]
 simp only[bH,bH.d3,apL,jC,jD,C.L_l,ah]
 rw[aO h0,aO h1,aY h2,bg]
 simp[bH.d2,b3,b4,eu]
theorem BV (k n:Int) (x:List (List C)) (h:x.length≤1048576):
  bH [.i k,.i n,.l [[.l x]]]=some [.l [[.l x]],.l (x++[[.i k,.s (mkS []),.s (mkS []),.i n]])]:=by
 have b1:x.length≤4294967296:=by omega
 have b3:x.length+1≤4294967296:=by omega
 have w0:w64 1=1:=aZ (by omega) (by omega)
 have h0:apn 5 bH.d1 [.i k,.i n,.i 0,.l [[.l x]],.l []]=some (.again [.i k,.i n,.i 1,.l [[.l x]],.l x]):=by
  simp[bH.d1,b1,w0]
 have h2:apn 5 bH.d1 [.i k,.i n,.i 1,.l [[.l x]],.l x]=some (.brk 0 [.i k,.i n,.l [[.l x]],.l x]):=by
  simp[bH.d1]
 simp only[bH,bH.d3,apL,jC,jD,C.L_l,ah]
 rw[aO h0,aY h2,bg]
 simp[bH.d2,b3,eu]
section
variable {T:List Tok} (hl:T.length≤1048576)
include hl
theorem jy (op:Tok) (a:Nat) (bad:Bool) (ha:a≤T.length):bM [.s (mkS op),.l (T.map tk),.i a,.b bad]=
  match T.drop a with
  |[]=>some [.b false,.l (T.map tk),.i a,.b bad]
  |x::_=>if x=op then some [.b true,.l (T.map tk),.i (a+1:Nat),.b bad] else some [.b false,.l (T.map tk),.i a,.b bad]:=by
 simp only[bM,bM.d1,gr,gr.d1,apL,jC,jD,C.s8,C.P_p,C.I_i,C.L_l,jW,jY,jR]
 cases hd:T.drop a with
 |nil=>
  have:T.length≤a:=by simpa using hd
  have e:a=T.length:=by omega
  subst e
  simp[ae]
 |cons x r=>
  obtain ⟨hi,hx,_⟩:=drop_cons hd
  have hw:=w1 hi (show T.length<big by simp only[big];omega)
  rw[getD_map' tk hi,hx]
  have hq:((mkS x).toList==(mkS op).toList)=(x==op):=G6 x op
  simp only[tk,jC,C.S_s,hq,hw]
  by_cases he:x=op
  ·subst he;simp[hi,ae]
  ·have hb:(x==op)=false:=by rw[beq_eq_false_iff_ne];exact he
   simp[hi,ae,hb,he]
theorem sD (hs:∀t,t∈T→t.length≤1048576) (a:Nat) (bad:Bool) (ha:a≤T.length):dZ [.l (T.map tk),.i a,.b bad]=
  match T.drop a with
  |[]=>some [.s (mkS []),.l (T.map tk),.i a,.b true]
  |x::_=>if aX (mkS x)=true then some [.s (mkS x),.l (T.map tk),.i (a+1:Nat),.b bad] else some [.s (mkS []),.l (T.map tk),.i a,.b true]:=by
 simp only[dZ,dZ.d1,apL,jC,jD,C.I_i,C.L_l,jW,jY]
 cases hd:T.drop a with
 |nil=>
  have:T.length≤a:=by simpa using hd
  have e:a=T.length:=by omega
  subst e
  simp[eu]
 |cons x r=>
  obtain ⟨hi,hx,_⟩:=drop_cons hd
  have hw:=w1 hi (show T.length<big by simp only[big];omega)
  have hw2:w64 (((a+1:Nat):Int)-1)=a:=by rw[aZ (by omega) (by omega)];omega
  rw[getD_map' tk hi,hx]
  have hxs:(mkS x).size≤1048576:=by rw[mn];exact hs x (by rw[←hx];exact List.getElem_mem hi)
  have hge:¬T.length≤a:=by omega
  simp only[tk,jC,cx _ hxs,ae,jI,C.B_b,hw,hw2,jY,getD_map' tk hi,hx]
  cases hn:aX (mkS x)<;>simp[hi,hge,eu]
end
def Res (T:List Tok) (a:Nat) (p:Option (Tr×List Tok)) (nodes:List (List C)) (a':Nat) (bad:Bool):Prop:=
 a≤a'∧a'≤T.length∧nodes.length≤2*(a'-a)+1∧match p with
  |some (t,r)=>bad=false∧nodes=t.flat∧T.drop a'=r∧a<a'
  |none=>bad=true
def SP (T:List Tok) (G:List C→Option (List C)) (f:List Tok→Option (Tr×List Tok)) (a:Nat):Prop:=
 ∃nodes a' bad,G [.l (T.map tk),.i a,.b false]=some [.l nodes,.l (T.map tk),.i (a':Nat),.b bad]∧Res T a (f (T.drop a)) nodes a' bad
end Go.Ev
namespace Go.Ev
section
variable {T:List Tok} (hl:T.length≤1048576/4) (hs:∀t,t∈T→t.length≤1048576)
include hl
theorem Ej (G:List C→Option (List C)) (f:List Tok→Option (Tr×List Tok)) (op:Tok) (kd:Nat) (body:C→C→C→C→R) (lo:Nat)
  (hb:∀a b c d,body a b c d=(bif (!d.B) then (call4 (bM [.s (mkS op),b,c,d]) fun e f g h=>(bif e.B then (call4 (G [f,g,h]) fun i j k l=>(call2 (bH [.i (kd:Nat),.i 2,.l (rows [[a],[i]])]) fun m n=>(some (.again [.l n.L,j,k,l])))) else (some (.brk 0 [a,f,g,h])))) else (some (.brk 0 [a,b,c,d]))))
  (hG:∀a,lo≤a→a≤T.length→SP T G f a):
  ∀(m a:Nat) (t:Tr),T.length-a≤m→lo≤a+1→a≤T.length→t.flat.length≤2*a+1→
   ∃nodes a' bad,lim (apn 4 body) [.l t.flat,.l (T.map tk),.i a,.b false]=some (.brk 0 [.l nodes,.l (T.map tk),.i (a':Nat),.b bad])∧
    a≤a'∧a'≤T.length∧nodes.length≤2*(a'-a)+t.flat.length∧match opL f op kd m t (T.drop a) with
     |some (u,r)=>bad=false∧nodes=u.flat∧T.drop a'=r
     |none=>bad=true
 |0,a,t,hm,hlo,ha,ht=>by
  have hd:T.drop a=[]:=List.drop_eq_nil_of_le (by omega)
  refine ⟨t.flat,a,false,aY ?_,Nat.le_refl _,ha,by omega,?_⟩
  ·simp only[apL,jC,jD,hb,C.B_b,ja,jR]
   rw[jy (by omega) op a false ha,hd]
   simp[call4]
  ·simp[opL]
 |m+1,a,t,hm,hlo,ha,ht=>by
  have hstep:apn 4 body [.l t.flat,.l (T.map tk),.i a,.b false]=(call4 (bM [.s (mkS op),.l (T.map tk),.i a,.b false]) fun e f g h=>(bif e.B then (call4 (G [f,g,h]) fun i j k l=>(call2 (bH [.i (kd:Nat),.i 2,.l (rows [[.l t.flat],[i]])]) fun m n=>(some (.again [.l n.L,j,k,l])))) else (some (.brk 0 [.l t.flat,f,g,h])))):=by
   simp only[apL,jC,jD,hb,C.B_b,ja,jR]
  rw[jy (by omega) op a false ha] at hstep
  cases hd:T.drop a with
  |nil=>
   rw[hd] at hstep
   refine ⟨t.flat,a,false,aY ?_,Nat.le_refl _,ha,by omega,?_⟩
   ·rw[hstep];simp[call4]
   ·simp[opL,hd]
  |cons x r=>
   rw[hd] at hstep
   obtain ⟨hi,hx,hr⟩:=drop_cons hd
   by_cases he:x=op
   ·simp only[if_pos he,call4,jI,jC,jD,C.B_b,jR] at hstep
    obtain ⟨nodes,a',bad,hg,h1,h2,h3,h4⟩:=hG (a+1) (by omega) (by omega)
    rw[hr] at h4
    rw[hg] at hstep
    have hsum:t.flat.length+nodes.length≤1048576:=by omega
    simp only[jI,jC,jD,rows,yl (kd:Nat) 2 t.flat nodes hsum,call2,C.L_l] at hstep
    have hnd:t.flat++nodes++[[C.i (kd:Nat),.s (mkS []),.s (mkS []),.i 2]]=t.flat++nodes++[node kd [] [] 2]:=rfl
    rw[hnd] at hstep
    cases hf:f r with
    |none=>
     rw[hf] at h4
     simp only at h4
     subst h4
     have hend:apn 4 body [.l (t.flat++nodes++[node kd [] [] 2]),.l (T.map tk),.i (a':Nat),.b true]=some (.brk 0 [.l (t.flat++nodes++[node kd [] [] 2]),.l (T.map tk),.i (a':Nat),.b true]):=by
      simp[hb]
     refine ⟨_,a',true,by rw[aO hstep];exact aY hend,by omega,h2,by simp;omega,?_⟩
     simp[opL,hd,he,hf]
    |some p=>
     obtain ⟨u,r'⟩:=p
     rw[hf] at h4
     obtain ⟨rfl,rfl,h5,h6⟩:=h4
     have e:t.flat++u.flat++[node kd [] [] 2]=(Tr.bn kd t u).flat:=rfl
     rw[e] at hstep
     have hlen:(Tr.bn kd t u).flat.length=t.flat.length+u.flat.length+1:=by simp[Tr.flat];omega
     obtain ⟨nodes2,a2,bad2,q1,q2,q3,q4,q5⟩:=Ej G f op kd body lo hb hG m a' (.bn kd t u) (by omega) (by omega) h2 (by omega)
     refine ⟨nodes2,a2,bad2,by rw[aO hstep];exact q1,by omega,q3,by omega,?_⟩
     simp only[opL,hd,if_pos he,hf]
     rw[h5] at q5
     exact q5
   ·simp only[if_neg he,call4,jI,jC,jD,C.B_b,jS] at hstep
    refine ⟨t.flat,a,false,aY hstep,Nat.le_refl _,ha,by omega,?_⟩
    simp[opL,hd,he]
end
end Go.Ev
namespace Go.Ev
section
variable {T:List Tok} (hl:T.length≤1048576/4) (hs:∀t,t∈T→t.length≤1048576)
include hl hs
theorem GF (G:List C→Option (List C)) (f:List Tok→Option (Tr×List Tok)) (op:Tok) (kd:Nat) (body:C→C→C→C→R) (d2:C→C→C→C→R) (a:Nat) (ha:a≤T.length)
  (hb:∀a b c d,body a b c d=(bif (!d.B) then (call4 (bM [.s (mkS op),b,c,d]) fun e f g h=>(bif e.B then (call4 (G [f,g,h]) fun i j k l=>(call2 (bH [.i (kd:Nat),.i 2,.l (rows [[a],[i]])]) fun m n=>(some (.again [.l n.L,j,k,l])))) else (some (.brk 0 [a,f,g,h])))) else (some (.brk 0 [a,b,c,d]))))
  (h2:∀a b c d,d2 a b c d=some (.ret [a,b,c,d])) (hG:∀b,a≤b→b≤T.length→SP T G f b):
  ∃nodes a' bad,bl (call4 (G [.l (T.map tk),.i a,.b false]) fun d e f g=>(ax 0 (lim (apn 4 body) [d,e,f,g]) (apn 4 d2)))=some [.l nodes,.l (T.map tk),.i (a':Nat),.b bad]∧
   Res T a (match f (T.drop a) with
   |none=>none
   |some (t,r)=>opL f op kd r.length t r) nodes a' bad:=by
 obtain ⟨nodes,a',bad,hg,q1,q2,q3,q4⟩:=hG a (Nat.le_refl _) ha
 rw[hg]
 simp only[call4,jI,jC,jD]
 cases hf:f (T.drop a) with
 |none=>
  rw[hf] at q4
  simp only at q4
  subst q4
  refine ⟨nodes,a',true,?_,q1,q2,q3,rfl⟩
  rw[aY (ys:=[.l nodes,.l (T.map tk),.i (a':Nat),.b true]) (i:=0) (by simp[hb])]
  simp[h2]
 |some p=>
  obtain ⟨t,r⟩:=p
  rw[hf] at q4
  obtain ⟨rfl,rfl,q5,q6⟩:=q4
  have hrl:r.length=T.length-a':=by rw[←q5];simp
  obtain ⟨n2,a2,b2,p1,p2,p3,p4,p5⟩:=Ej hl G f op kd body a hb (fun b h1 h2=>hG b h1 h2) r.length a' t (by omega) (by omega) q2 (by omega)
  rw[p1]
  rw[q5] at p5
  have hres:Res T a (opL f op kd r.length t r) n2 a2 b2:=by
   refine ⟨by omega,p3,by omega,?_⟩
   cases ho:opL f op kd r.length t r with
   |none=>rw[ho] at p5;exact p5
   |some z=>
    obtain ⟨u,z⟩:=z
    rw[ho] at p5
    exact ⟨p5.1,p5.2.1,p5.2.2,by omega⟩
  exact ⟨n2,a2,b2,by simp[h2],hres⟩
theorem Gt:∀(j c k a:Nat),c≤2→a≤T.length→3*(T.length-a)+(3-c)≤j→j≤k→SP T (ao.g k c) (prs j c) a
 |0,c,k,a,hc,ha,hj,hk=>by omega
 |j+1,c,k,a,hc,ha,hj,hk=>by
  obtain ⟨k,rfl⟩:∃k',k=k'+1:=⟨k-1,by omega⟩
  have ih:=Gt j
  rcases (show c=0∨c=1∨c=2 by omega) with rfl|rfl|rfl
  ·obtain ⟨nodes,a',bad,h1,h2⟩:=GF hl hs (ao.g k 1) (prs j 1) [124] 5 (ao.d1 (ao.g k 0) (ao.g k 1) (ao.g k 2)) (ao.d2 (ao.g k 0) (ao.g k 1) (ao.g k 2)) a ha
    (fun _ _ _ _=>rfl) (fun _ _ _ _=>rfl) (fun b h1 h2=>ih 1 k b (by omega) h2 (by omega) (by omega))
   exact ⟨nodes,a',bad,h1,h2⟩
  ·obtain ⟨nodes,a',bad,h1,h2⟩:=GF hl hs (ao.g k 2) (prs j 2) [38] 4 (cI.d1 (ao.g k 0) (ao.g k 1) (ao.g k 2)) (cI.d2 (ao.g k 0) (ao.g k 1) (ao.g k 2)) a ha
    (fun _ _ _ _=>rfl) (fun _ _ _ _=>rfl) (fun b h1 h2=>ih 2 k b (by omega) h2 (by omega) (by omega))
   exact ⟨nodes,a',bad,h1,h2⟩
  ·have hT:T.length≤1048576:=by omega
   have hstep:ao.g (k+1) 2 [.l (T.map tk),.i a,.b false]=bl (ey.d1 (ao.g k 0) (ao.g k 1) (ao.g k 2) (.l (T.map tk)) (.i a) (.b false)):=rfl
   unfold SP
   rw[hstep]
   have e33:bs #[33]=mkS [33]:=rfl
   have e40:bs #[40]=mkS [40]:=rfl
   have e41:bs #[41]=mkS [41]:=rfl
   have e61:bs #[61]=mkS [61]:=rfl
   simp only[ey.d1,C.B_b,jS,e33,e40,e41,e61,jy hT [33] a false ha]
   cases hd:T.drop a with
   |nil=>
    simp only[call4,jI,jC,jD,C.B_b,jS,jy hT [40] a false ha,sD hT hs a false ha,hd]
    simp only[jZ,jS,rows,eu,jV]
    exact ⟨_,a,true,rfl,Nat.le_refl _,ha,by simp,by simp[prs]⟩
   |cons x r=>
    obtain ⟨hi,hx,hr⟩:=drop_cons hd
    have hsx:=hs x (by rw[←hx];exact List.getElem_mem hi)
    by_cases x33:x=[33]
    ·obtain ⟨nodes,a',bad,hg,q1,q2,q3,q4⟩:=ih 2 k (a+1) (by omega) (by omega) (by omega) (by omega)
     rw[hr] at q4
     simp only[if_pos x33,call4,jI,jC,jD,C.B_b,jR,hg,rows,call2]
     rw[show (3:Int)=((3:Nat):Int) from rfl,BV _ _ nodes (by omega)]
     simp only[jI,jC,jD,C.L_l,jV]
     have hnd:nodes++[[C.i ((3:Nat):Int),.s (mkS []),.s (mkS []),.i 1]]=nodes++[node 3 [] [] 1]:=rfl
     rw[hnd]
     refine ⟨_,a',bad,rfl,by omega,q2,by simp;omega,?_⟩
     simp only[prs,x33,if_true]
     cases hf:prs j 2 r with
     |none=>rw[hf] at q4;exact q4
     |some p=>
      rw[hf] at q4
      obtain ⟨rfl,rfl,q5,q6⟩:=q4
      exact ⟨rfl,rfl,q5,by omega⟩
    simp only[if_neg x33,call4,jI,jC,jD,C.B_b,jS,jy hT [40] a false ha,hd]
    by_cases x40:x=[40]
    ·obtain ⟨nodes,a',bad,hg,q1,q2,q3,q4⟩:=ih 0 k (a+1) (by omega) (by omega) (by omega) (by omega)
     rw[hr] at q4
     simp only[if_pos x40,jI,jC,jD,C.B_b,jR,hg,jy hT [41] a' bad q2]
     have hp:prs (j+1) 2 (x::r)=match prs j 0 r with
       |some (t,y::r')=>if y=[41] then some (t,r') else none
       |_=>none:=by
      simp only[prs,if_neg x33,if_pos x40]<;>rcases prs j 0 r with _|⟨t,_|⟨y,r'⟩⟩<;>rfl
     rw[hp]
     cases hd2:T.drop a' with
     |nil=>
      simp only[jI,jC,jD,C.B_b,ja,jR,jV]
      refine ⟨_,a',true,rfl,by omega,q2,by omega,?_⟩
      cases hf:prs j 0 r with
      |none=>rfl
      |some p=>
       rw[hf] at q4
       obtain ⟨_,_,q5,_⟩:=q4
       obtain ⟨t,r'⟩:=p
       simp only at q5
       rw[hd2] at q5
       subst q5
       rfl
     |cons y r'=>
      obtain ⟨hi2,hx2,hr2⟩:=drop_cons hd2
      by_cases y41:y=[41]
      ·simp only[if_pos y41,jI,jC,jD,C.B_b,jZ,jS,jV]
       refine ⟨_,a'+1,bad,rfl,by omega,by omega,by omega,?_⟩
       cases hf:prs j 0 r with
       |none=>rw[hf] at q4;exact q4
       |some p=>
        rw[hf] at q4
        obtain ⟨q5,q6,q7,_⟩:=q4
        obtain ⟨t,z⟩:=p
        simp only at q7 q6
        rw[hd2] at q7
        subst q7
        simp only[if_pos y41]
        exact ⟨q5,q6,hr2,by omega⟩
      ·simp only[if_neg y41,jI,jC,jD,C.B_b,ja,jR,jV]
       refine ⟨_,a',true,rfl,by omega,q2,by omega,?_⟩
       cases hf:prs j 0 r with
       |none=>rfl
       |some p=>
        rw[hf] at q4
        obtain ⟨_,_,q7,_⟩:=q4
        obtain ⟨t,z⟩:=p
        simp only at q7
        rw[hd2] at q7
        subst q7
        simp only[if_neg y41]
    simp only[if_neg x40,jI,jC,jD,C.B_b,jS,sD hT hs a false ha,hd]
    cases hn:aX (mkS x) with
    |false=>
     simp only[Bool.false_eq_true,if_false,jI,jC,jD,C.B_b,jZ,jS,rows,jV]
     refine ⟨_,a,true,rfl,Nat.le_refl _,ha,by simp,?_⟩
     simp[prs,x33,x40,hn]
    |true=>
     simp only[if_true,jI,jC,jD,C.B_b,ja,jR,jy hT [61] (a+1) false (by omega),hr]
     cases r with
     |nil=>
      simp only[jI,jC,jD,C.B_b,jS,rows,eu,jV]
      refine ⟨_,a+1,false,rfl,by omega,by omega,by simp,?_⟩
      simp only[prs,if_neg x33,if_neg x40,hn,if_true]
      exact ⟨by simp,rfl,hr,by omega⟩
     |cons y r'=>
      obtain ⟨hi2,hx2,hr2⟩:=drop_cons hr
      by_cases y61:y=[61]
      ·simp only[if_pos y61,jI,jC,jD,C.B_b,jR,sD hT hs (a+1+1) false (by omega),hr2]
       cases r' with
       |nil=>
        simp only[jI,jC,jD,rows,jV]
        refine ⟨_,a+1+1,true,rfl,by omega,by omega,by simp,?_⟩
        simp[prs,x33,x40,hn,y61]
       |cons v r''=>
        obtain ⟨hi3,hx3,hr3⟩:=drop_cons hr2
        cases hv:aX (mkS v) with
        |false=>
         simp only[hv,Bool.false_eq_true,if_false,jI,jC,jD,rows,jV]
         refine ⟨_,a+1+1,true,rfl,by omega,by omega,by simp,?_⟩
         simp[prs,x33,x40,hn,y61,hv]
        |true=>
         simp only[hv,if_true,jI,jC,jD,rows,jV]
         refine ⟨_,a+1+1+1,false,rfl,by omega,by omega,by simp,?_⟩
         simp only[prs,if_neg x33,if_neg x40,hn,if_true,y61,hv]
         exact ⟨by simp,rfl,hr3,by omega⟩
      ·simp only[if_neg y61,jI,jC,jD,C.B_b,jS,rows,eu,jV]
       refine ⟨_,a+1,false,rfl,by omega,by omega,by simp,?_⟩
       simp only[prs,if_neg x33,if_neg x40,hn,if_true,if_neg y61]
       exact ⟨by simp,rfl,hr,by omega⟩
end
end Go.Ev
namespace Go.Ev
def sp (c:UInt8):Bool:=c==32
theorem rB:∀l:List UInt8,cX (l.dropWhile sp)=cX l
 |[]=>rfl
 |c::r=>by
  rw[List.dropWhile_cons]
  by_cases h:c=32
  ·subst h
   have:sp 32=true:=rfl
   rw[if_pos this,rB r]
   rw[cX.eq_2,if_pos rfl]
  ·have:sp c=false:=by simp[sp,h]
   rw[this];simp
theorem wb {l r:List UInt8} {c:UInt8} (h:l.dropWhile sp=c::r):c≠32:=by
 have:=List.head?_dropWhile_not sp l
 rw[h] at this
 simp[sp] at this
 exact this
section
variable {s:Str} (hl:s.size≤1048576)
include hl
theorem zY:∀(k i:Nat) (ok:Bool),s.data.toList.length-i≤k→i≤s.data.toList.length→
  lim (apn 3 bG.d1) [.s s,.i i,.b ok]=some (.brk 0 [.s s,.i (i+((s.data.toList.drop i).takeWhile sp).length:Nat),.b ok])
 |k,i,ok,hk,hi=>by
  cases hd:s.data.toList.drop i with
  |nil=>
   have:s.data.toList.length≤i:=by simpa using hd
   have e:i=s.size:=by rw[cS];omega
   refine aY ?_
   simp[bG.d1,e]
  |cons c r=>
   obtain ⟨hi',hc,hr⟩:=drop_cons hd
   have his:i<s.size:=by rw[cS];exact hi'
   obtain ⟨k,rfl⟩:∃k',k=k'+1:=⟨k-1,by omega⟩
   have hw:=w1 his (show s.size<big by simp only[big];omega)
   have e32:=bn c 32 32 rfl
   rw[List.takeWhile_cons]
   cases hs:sp c with
   |true=>
    have h:apn 3 bG.d1 [.s s,.i i,.b ok]=some (.again [.s s,.i (i+1:Nat),.b ok]):=by
     simp only[sp] at hs
     simp only[apL,jC,jD,bG.d1,C.I_i,C.S_s,jY,dW hi',hc,e32,hs,hw]
     simp[his]
    rw[aO h,zY k (i+1) ok (by omega) (by omega),hr]
    simp only[if_true,List.length_cons]
    rw[show i+1+(List.takeWhile sp r).length=i+((List.takeWhile sp r).length+1) by omega]
   |false=>
    refine aY ?_
    simp only[sp] at hs
    simp only[apL,jC,jD,bG.d1,C.I_i,C.S_s,jY,dW hi',hc,e32,hs]
    simp[his]
def gp (s:Str) (i:Nat):Nat:=i+((s.data.toList.drop i).takeWhile sp).length
omit hl in
theorem yf (i:Nat):s.data.toList.drop (gp s i)=(s.data.toList.drop i).dropWhile sp:=by
 rw[gp,←List.drop_drop,j9]
omit hl in
theorem Gl {i:Nat} (hi:i≤s.data.toList.length):gp s i≤s.data.toList.length:=by
 have:=pH sp (s.data.toList.drop i)
 rw[List.length_drop] at this
 unfold gp;omega
theorem Ef (i:Nat) (ok:Bool) (hi:i≤s.data.toList.length):bG [.s s,.i i,.b ok]=some [.s s,.i (gp s i:Nat),.b ok]:=by
 simp only[bG,bG.d3,apL,jC,jD,zY hl _ i ok (Nat.le_refl _) hi]
 simp[bG.d2,gp]
theorem sU (c:UInt8) (hc:dm c=false) (hc2:c≠32) (i:Nat) (ok:Bool) (hi:i≤s.data.toList.length):∃i',i'≤s.data.toList.length∧∃b,bq [.i (c.toNat:Nat),.s s,.i i,.b ok]=some [.b b,.s s,.i (i':Nat),.b ok]∧
  match cX (s.data.toList.drop i) with
  |[]=>b=false∧cX (s.data.toList.drop i')=[]
  |x::r=>if x=[c] then b=true∧cX (s.data.toList.drop i')=r else b=false∧cX (s.data.toList.drop i')=x::r:=by
 have hg:=yf (s:=s) i
 have hle:=Gl hi
 have hlex:=rB (s.data.toList.drop i)
 simp only[bq,bq.d1,apL,jC,jD,Ef hl i ok hi,call3,jI,C.I_i,C.S_s,jY]
 rw[←hlex]
 cases hd:(s.data.toList.drop i).dropWhile sp with
 |nil=>
  rw[hd] at hg
  have:s.data.toList.length≤gp s i:=by simpa using hg
  have e:gp s i=s.size:=by rw[cS];omega
  refine ⟨gp s i,hle,false,by simp[e],?_⟩
  rw[hg]
  simp[cX]
 |cons x r=>
  rw[hd] at hg
  obtain ⟨hi',hx,hr⟩:=drop_cons hg
  have his:gp s i<s.size:=by rw[cS];exact hi'
  have hw:=w1 his (show s.size<big by simp only[big];omega)
  have hne:=wb hd
  simp only[dW hi',hx,bn x c _ rfl,hw]
  by_cases he:x=c
  ·subst he
   refine ⟨gp s i+1,by omega,true,by simp[his],?_⟩
   rw[cX.eq_2,if_neg hne,if_neg (by rw[hc];simp),hr]
   simp
  ·have hb:(x==c)=false:=by rw[beq_eq_false_iff_ne];exact he
   refine ⟨gp s i,hle,false,by simp[his,hb],?_⟩
   rw[hg]
   have hneq:∀y r',cX (x::r)=y::r'→y≠[c]:=by
    intro y r' h1 h2
    subst h2
    rw[cX.eq_2,if_neg hne] at h1
    split at h1
    ·simp at h1;exact he h1.1.1
    ·simp at h1;exact he h1.1
   have hnn:cX (x::r)≠[]:=by
    rw[cX.eq_2,if_neg hne];split<;>simp
   cases hq:cX (x::r) with
   |nil=>exact absurd hq hnn
   |cons y r'=>
    simp only
    rw[if_neg (hneq y r' hq)]
    exact ⟨trivial,trivial⟩
theorem Gv (o:Nat) (ok:Bool):∀(k i:Nat),s.data.toList.length-i≤k→i≤s.data.toList.length→
  lim (apn 4 br.d1) [.i o,.s s,.i i,.b ok]=some (.brk 0 [.i o,.s s,.i (i+((s.data.toList.drop i).takeWhile dm).length:Nat),.b ok])
 |k,i,hk,hi=>by
  cases hd:s.data.toList.drop i with
  |nil=>
   have:s.data.toList.length≤i:=by simpa using hd
   have e:i=s.size:=by rw[cS];omega
   refine aY ?_
   simp[br.d1,e]
  |cons c r=>
   obtain ⟨hi',hc,hr⟩:=drop_cons hd
   have his:i<s.size:=by rw[cS];exact hi'
   obtain ⟨k,rfl⟩:∃k',k=k'+1:=⟨k-1,by omega⟩
   have hw:=w1 his (show s.size<big by simp only[big];omega)
   rw[List.takeWhile_cons]
   cases hs:dm c with
   |true=>
    have h:apn 4 br.d1 [.i o,.s s,.i i,.b ok]=some (.again [.i o,.s s,.i (i+1:Nat),.b ok]):=by
     simp only[dm] at hs
     simp only[apL,jC,jD,br.d1,C.I_i,C.S_s,jY,dW hi',hc,nf,hs,hw,ae]
     simp[his]
    rw[aO h,Gv o ok k (i+1) (by omega) (by omega),hr]
    simp only[if_true,List.length_cons]
    rw[show i+1+(List.takeWhile dm r).length=i+((List.takeWhile dm r).length+1) by omega]
   |false=>
    refine aY ?_
    simp only[dm] at hs
    simp only[apL,jC,jD,br.d1,C.I_i,C.S_s,jY,dW hi',hc,nf,hs,ae]
    simp[his]
theorem A8 (i:Nat) (ok:Bool) (hi:i≤s.data.toList.length):∃i',i'≤s.data.toList.length∧∃z b,br [.s s,.i i,.b ok]=some [.s z,.s s,.i (i':Nat),.b b]∧
  match cX (s.data.toList.drop i) with
  |[]=>b=false
  |x::r=>if aX (mkS x)=true then b=ok∧z=mkS x∧cX (s.data.toList.drop i')=r else b=false:=by
 have hg:=yf (s:=s) i
 have hle:=Gl hi
 have hlex:=rB (s.data.toList.drop i)
 have hrun:=Gv hl (gp s i) ok _ (gp s i) (Nat.le_refl _) hle
 rw[hg] at hrun
 have hlen:=pH dm ((s.data.toList.drop i).dropWhile sp)
 rw[←hg,List.length_drop] at hlen
 rw[hg] at hlen
 have hext:s.extract (gp s i) (gp s i+(((s.data.toList.drop i).dropWhile sp).takeWhile dm).length)=mkS (((s.data.toList.drop i).dropWhile sp).takeWhile dm):=by
  rw[kG,so,hg,oV]
 have hsz:(mkS (((s.data.toList.drop i).dropWhile sp).takeWhile dm)).size≤1048576:=by
  rw[mn];rw[cS] at hl;omega
 have hres:br [.s s,.i i,.b ok]=some [.s (mkS (((s.data.toList.drop i).dropWhile sp).takeWhile dm)),.s s,.i (gp s i+(((s.data.toList.drop i).dropWhile sp).takeWhile dm).length:Nat),.b (aX (mkS (((s.data.toList.drop i).dropWhile sp).takeWhile dm))&&ok)]:=by
  have e1:gp s i+(((s.data.toList.drop i).dropWhile sp).takeWhile dm).length≤s.size:=by rw[cS];omega
  have e2:(gp s i:Int)≤((gp s i+(((s.data.toList.drop i).dropWhile sp).takeWhile dm).length:Nat):Int):=by omega
  have e3:((gp s i+(((s.data.toList.drop i).dropWhile sp).takeWhile dm).length:Nat):Int)≤(s.size:Int):=by omega
  simp only[br,br.d3,apL,jC,jD,Ef hl i ok hi,call3,jI,hrun,bg]
  simp only[br.d2,C.I_i,C.S_s,jY,hext,jX,e2,e3,decide_true,jR,fE _ hsz,ae,jI,jC,C.B_b]
  cases aX (mkS (((s.data.toList.drop i).dropWhile sp).takeWhile dm))<;>rfl
 refine ⟨_,by omega,_,_,hres,?_⟩
 rw[←hlex,←List.drop_drop,hg,j9]
 have hnil:aX (mkS [])=false:=rfl
 cases hd:(s.data.toList.drop i).dropWhile sp with
 |nil=>simp[cX,hnil]
 |cons x r=>
  have hne:=wb hd
  rw[cX.eq_2,if_neg hne]
  cases hs:dm x with
  |true=>
   rw[if_pos rfl,List.takeWhile_cons,hs,List.dropWhile_cons,hs]
   simp only[if_true]
   cases aX (mkS (x::List.takeWhile dm r))<;>simp
  |false=>
   rw[if_neg (by simp),List.takeWhile_cons,hs]
   have h1:aX (mkS [x])=false:=by simp[aX,gn,hs]
   simp[h1,hnil]
end
end Go.Ev
namespace Go.Ev
def Tr.enc:Tr→C
 |.lf k n v=>.p [.i (k:Nat),.s (mkS n),.s (mkS v),.l []]
 |.un t=>.p [.i 3,.s (mkS []),.s (mkS []),.l [[t.enc]]]
 |.bn k a b=>.p [.i (k:Nat),.s (mkS []),.s (mkS []),.l [[a.enc],[b.enc]]]
def Hu (s:Str) (n:Nat) (p:Option (Tr×List Tok)) (c:C) (i':Nat) (ok:Bool):Prop:=
 i'≤s.data.toList.length∧match p with
  |some (t,r)=>ok=true∧c=t.enc∧cX (s.data.toList.drop i')=r∧r.length<n
  |none=>ok=false
def IP (s:Str) (G:List C→Option (List C)) (f:List Tok→Option (Tr×List Tok)) (i:Nat):Prop:=
 ∃c i' ok,G [.s s,.i i,.b true]=some [c,.s s,.i (i':Nat),.b ok]∧Hu s (cX (s.data.toList.drop i)).length (f (cX (s.data.toList.drop i))) c i' ok
section
variable {s:Str} (hl:s.size≤1048576)
include hl
theorem D6 (G:List C→Option (List C)) (f:List Tok→Option (Tr×List Tok)) (op:UInt8) (kd:Nat) (body:C→C→C→C→R) (lo:Nat) (h1:dm op=false) (h2:op≠32)
  (hb:∀a b c d,body a b c d=(bif d.B then (call4 (bq [.i (op.toNat:Nat),b,c,d]) fun e f g h=>(bif e.B then (call4 (G [f,g,h]) fun i j k l=>(some (.again [.p [.i (kd:Nat),.s (bs #[]),.s (bs #[]),.l (rows [[a],[i]])],j,k,l]))) else (some (.brk 0 [a,f,g,h])))) else (some (.brk 0 [a,b,c,d]))))
  (hG:∀i,i≤s.data.toList.length→(cX (s.data.toList.drop i)).length≤lo→IP s G f i):
  ∀(m i:Nat) (t:Tr),(cX (s.data.toList.drop i)).length≤m→(cX (s.data.toList.drop i)).length≤lo+1→i≤s.data.toList.length→
   ∃c i' ok,lim (apn 4 body) [t.enc,.s s,.i i,.b true]=some (.brk 0 [c,.s s,.i (i':Nat),.b ok])∧i'≤s.data.toList.length∧
    match opL f [op] kd m t (cX (s.data.toList.drop i)) with
     |some (u,r)=>ok=true∧c=u.enc∧cX (s.data.toList.drop i')=r∧r.length≤(cX (s.data.toList.drop i)).length
     |none=>ok=false
 |m,i,t,hm,hlo,hi=>by
  obtain ⟨i',hi',b,ht,hm2⟩:=sU hl op h1 h2 i true hi
  have hstep:apn 4 body [t.enc,.s s,.i i,.b true]=(bif b then (call4 (G [.s s,.i (i':Nat),.b true]) fun i j k l=>(some (.again [.p [.i (kd:Nat),.s (mkS []),.s (mkS []),.l [[t.enc],[i]]],j,k,l]))) else (some (.brk 0 [t.enc,.s s,.i (i':Nat),.b true]))):=by
   simp only[apL,jC,jD,hb,C.B_b,jR,ht,call4,jI,eu,rows]
  cases hd:cX (s.data.toList.drop i) with
  |nil=>
   rw[hd] at hm2
   simp only at hm2
   obtain ⟨rfl,hm3⟩:=hm2
   refine ⟨t.enc,i',true,aY hstep,hi',?_⟩
   cases m<;>simp[opL,hm3]
  |cons x r=>
   rw[hd] at hm2 hm hlo
   simp only[List.length_cons] at hm hlo
   obtain ⟨m,rfl⟩:∃m',m=m'+1:=⟨m-1,by omega⟩
   by_cases he:x=[op]
   ·simp only[if_pos he] at hm2
    obtain ⟨rfl,hm3⟩:=hm2
    obtain ⟨c,i2,ok,hg,q1,q2⟩:=hG i' hi' (by rw[hm3];omega)
    rw[hm3] at q2
    simp only[jR,hg,call4,jI,jC,jD] at hstep
    rw[aO hstep]
    simp only[opL,if_pos he]
    cases hf:f r with
    |none=>
     rw[hf] at q2
     simp only at q2
     subst q2
     exact ⟨.p [.i (kd:Nat),.s (mkS []),.s (mkS []),.l [[t.enc],[c]]],i2,false,aY (by simp only[apL,jC,jD,hb,C.B_b,jS]),q1,rfl⟩
    |some p=>
     obtain ⟨u,r'⟩:=p
     rw[hf] at q2
     obtain ⟨rfl,rfl,q3,q4⟩:=q2
     obtain ⟨c3,i3,ok3,p1,p2,p3⟩:=D6 G f op kd body lo h1 h2 hb hG m i2 (.bn kd t u) (by rw[q3];omega) (by rw[q3];omega) q1
     refine ⟨c3,i3,ok3,p1,p2,?_⟩
     rw[q3] at p3
     simp only
     cases ho:opL f [op] kd m (.bn kd t u) r' with
     |none=>rw[ho] at p3;exact p3
     |some z=>
      rw[ho] at p3
      exact ⟨p3.1,p3.2.1,p3.2.2.1,by simp only[List.length_cons];have:=p3.2.2.2;omega⟩
   ·simp only[if_neg he] at hm2
    obtain ⟨rfl,hm3⟩:=hm2
    refine ⟨t.enc,i',true,aY hstep,hi',?_⟩
    simp[opL,he,hm3]
theorem GB (G:List C→Option (List C)) (f:List Tok→Option (Tr×List Tok)) (op:UInt8) (kd:Nat) (body:C→C→C→C→R) (d2:C→C→C→C→R) (i:Nat) (hi:i≤s.data.toList.length) (h1:dm op=false) (h2:op≠32)
  (hb:∀a b c d,body a b c d=(bif d.B then (call4 (bq [.i (op.toNat:Nat),b,c,d]) fun e f g h=>(bif e.B then (call4 (G [f,g,h]) fun i j k l=>(some (.again [.p [.i (kd:Nat),.s (bs #[]),.s (bs #[]),.l (rows [[a],[i]])],j,k,l]))) else (some (.brk 0 [a,f,g,h])))) else (some (.brk 0 [a,b,c,d]))))
  (h3:∀a b c d,d2 a b c d=some (.ret [a,b,c,d])) (hG:∀i2,i2≤s.data.toList.length→(cX (s.data.toList.drop i2)).length≤(cX (s.data.toList.drop i)).length→IP s G f i2):
  ∃c i' ok,bl (call4 (G [.s s,.i i,.b true]) fun d e f g=>(ax 0 (lim (apn 4 body) [d,e,f,g]) (apn 4 d2)))=some [c,.s s,.i (i':Nat),.b ok]∧
   Hu s (cX (s.data.toList.drop i)).length (match f (cX (s.data.toList.drop i)) with
   |none=>none
   |some (t,r)=>opL f [op] kd r.length t r) c i' ok:=by
 obtain ⟨c,i',ok,hg,q1,q2⟩:=hG i hi (Nat.le_refl _)
 rw[hg]
 simp only[call4,jI,jC,jD]
 cases hf:f (cX (s.data.toList.drop i)) with
 |none=>
  rw[hf] at q2
  simp only at q2
  subst q2
  refine ⟨c,i',false,?_,q1,rfl⟩
  rw[aY (ys:=[c,.s s,.i (i':Nat),.b false]) (i:=0) (by simp[hb])]
  simp[h3]
 |some p=>
  obtain ⟨t,r⟩:=p
  rw[hf] at q2
  obtain ⟨rfl,rfl,q3,q4⟩:=q2
  obtain ⟨c2,i2,ok2,p1,p2,p3⟩:=D6 hl G f op kd body (cX (s.data.toList.drop i)).length h1 h2 hb hG r.length i' t (by rw[q3];omega) (by rw[q3];omega) q1
  rw[p1]
  rw[q3] at p3
  have hres:Hu s (cX (s.data.toList.drop i)).length (opL f [op] kd r.length t r) c2 i2 ok2:=by
   refine ⟨p2,?_⟩
   cases ho:opL f [op] kd r.length t r with
   |none=>rw[ho] at p3;exact p3
   |some z=>
    rw[ho] at p3
    exact ⟨p3.1,p3.2.1,p3.2.2.1,by have:=p3.2.2.2;omega⟩
  exact ⟨c2,i2,ok2,by simp[h3],hres⟩
theorem Gp:∀(j c k i:Nat),c≤2→i≤s.data.toList.length→3*(cX (s.data.toList.drop i)).length+(3-c)≤j→j≤k→IP s (av.g k c) (prs j c) i
 |0,c,k,i,hc,hi,hj,hk=>by omega
 |j+1,c,k,i,hc,hi,hj,hk=>by
  obtain ⟨k,rfl⟩:∃k',k=k'+1:=⟨k-1,by omega⟩
  have ih:=Gp j
  rcases (show c=0∨c=1∨c=2 by omega) with rfl|rfl|rfl
  ·obtain ⟨c,i',ok,h1,h2⟩:=GB hl (av.g k 1) (prs j 1) 124 5 (av.d1 (av.g k 0) (av.g k 1) (av.g k 2)) (av.d2 (av.g k 0) (av.g k 1) (av.g k 2)) i hi rfl (by decide)
    (fun _ _ _ _=>rfl) (fun _ _ _ _=>rfl) (fun b h1 h2=>ih 1 k b (by omega) h1 (by omega) (by omega))
   exact ⟨c,i',ok,h1,h2⟩
  ·obtain ⟨c,i',ok,h1,h2⟩:=GB hl (av.g k 2) (prs j 2) 38 4 (dk.d1 (av.g k 0) (av.g k 1) (av.g k 2)) (dk.d2 (av.g k 0) (av.g k 1) (av.g k 2)) i hi rfl (by decide)
    (fun _ _ _ _=>rfl) (fun _ _ _ _=>rfl) (fun b h1 h2=>ih 2 k b (by omega) h1 (by omega) (by omega))
   exact ⟨c,i',ok,h1,h2⟩
  ·have hstep:av.g (k+1) 2 [.s s,.i i,.b true]=bl (eP.d1 (av.g k 0) (av.g k 1) (av.g k 2) (.s s) (.i i) (.b true)):=rfl
   unfold IP
   rw[hstep]
   obtain ⟨i1,hi1,b1,ht1,hm1⟩:=sU hl 33 rfl (by decide) i true hi
   have ht1:bq [.i 33,.s s,.i i,.b true]=_:=ht1
   simp only[eP.d1,C.B_b,jZ,jS,ht1,call4,jI,jC,jD]
   cases hd:cX (s.data.toList.drop i) with
   |nil=>
    rw[hd] at hm1
    simp only at hm1
    obtain ⟨rfl,hm1⟩:=hm1
    obtain ⟨i2,hi2,b2,ht2,hm2⟩:=sU hl 40 rfl (by decide) i1 true hi1
    have ht2:bq [.i 40,.s s,.i i1,.b true]=_:=ht2
    rw[hm1] at hm2
    simp only at hm2
    obtain ⟨rfl,hm2⟩:=hm2
    obtain ⟨i3,hi3,z,b3,hn3,hm3⟩:=A8 hl i2 true hi2
    rw[hm2] at hm3
    simp only at hm3
    subst hm3
    simp only[jS,ht2,hn3,jI,jC,jD,C.B_b,jV]
    exact ⟨_,_,_,rfl,hi3,by simp[prs]⟩
   |cons x r=>
    rw[hd] at hm1 hj
    simp only[List.length_cons] at hj
    by_cases x33:x=[33]
    ·simp only[if_pos x33] at hm1
     obtain ⟨rfl,hm1⟩:=hm1
     obtain ⟨c,i2,ok,hg,q1,q2⟩:=ih 2 k i1 (by omega) hi1 (by rw[hm1];omega) (by omega)
     rw[hm1] at q2
     simp only[jR,hg,jI,jC,jD,rows,eu,jV]
     refine ⟨_,_,_,rfl,q1,?_⟩
     simp only[prs,x33,if_true]
     cases hf:prs j 2 r with
     |none=>rw[hf] at q2;exact q2
     |some p=>
      rw[hf] at q2
      obtain ⟨rfl,rfl,q3,q4⟩:=q2
      exact ⟨rfl,rfl,q3,by simp only[List.length_cons];omega⟩
    simp only[if_neg x33] at hm1
    obtain ⟨rfl,hm1⟩:=hm1
    obtain ⟨i2,hi2,b2,ht2,hm2⟩:=sU hl 40 rfl (by decide) i1 true hi1
    have ht2:bq [.i 40,.s s,.i i1,.b true]=_:=ht2
    rw[hm1] at hm2
    simp only at hm2
    simp only[jS,ht2,jI,jC,jD,C.B_b]
    by_cases x40:x=[40]
    ·simp only[if_pos x40] at hm2
     obtain ⟨rfl,hm2⟩:=hm2
     obtain ⟨c,i3,ok,hg,q1,q2⟩:=ih 0 k i2 (by omega) hi2 (by rw[hm2];omega) (by omega)
     rw[hm2] at q2
     have hp:prs (j+1) 2 (x::r)=match prs j 0 r with
       |some (t,y::r')=>if y=[41] then some (t,r') else none
       |_=>none:=by
      simp only[prs,if_neg x33,if_pos x40]<;>rcases prs j 0 r with _|⟨t,_|⟨y,r'⟩⟩<;>rfl
     rw[hp]
     simp only[jR,hg,jI,jC,jD,C.B_b]
     cases hf:prs j 0 r with
     |none=>
      rw[hf] at q2
      simp only at q2
      subst q2
      simp only[jS,jV]
      exact ⟨_,_,_,rfl,q1,rfl⟩
     |some p=>
      obtain ⟨t,z⟩:=p
      rw[hf] at q2
      obtain ⟨rfl,rfl,q3,q4⟩:=q2
      obtain ⟨i4,hi4,b4,ht4,hm4⟩:=sU hl 41 rfl (by decide) i3 true q1
      have ht4:bq [.i 41,.s s,.i i3,.b true]=_:=ht4
      rw[q3] at hm4
      simp only[jR,ht4,jI,jC,jD,C.B_b,jV]
      refine ⟨_,_,_,rfl,hi4,?_⟩
      cases z with
      |nil=>exact hm4.1
      |cons y r'=>
       simp only at hm4⊢
       by_cases y41:y=[41]
       ·simp only[if_pos y41] at hm4⊢
        simp only[List.length_cons] at q4⊢
        exact ⟨hm4.1,trivial,hm4.2,by omega⟩
       ·simp only[if_neg y41] at hm4⊢
        exact hm4.1
    simp only[if_neg x40] at hm2
    obtain ⟨rfl,hm2⟩:=hm2
    obtain ⟨i3,hi3,z,b3,hn3,hm3⟩:=A8 hl i2 true hi2
    rw[hm2] at hm3
    simp only at hm3
    simp only[jS,hn3,jI,jC,jD,C.B_b]
    cases hn:aX (mkS x) with
    |false=>
     rw[hn] at hm3
     simp only[Bool.false_eq_true,if_false] at hm3
     subst hm3
     simp only[jS,jV]
     exact ⟨_,_,_,rfl,hi3,by simp[prs,x33,x40,hn]⟩
    |true=>
     rw[hn] at hm3
     simp only[if_true] at hm3
     obtain ⟨rfl,rfl,hm3⟩:=hm3
     obtain ⟨i4,hi4,b4,ht4,hm4⟩:=sU hl 61 rfl (by decide) i3 true hi3
     have ht4:bq [.i 61,.s s,.i i3,.b true]=_:=ht4
     rw[hm3] at hm4
     simp only[jR,ht4,jI,jC,jD,C.B_b]
     cases r with
     |nil=>
      simp only at hm4
      obtain ⟨rfl,hm4⟩:=hm4
      simp only[jS,rows,ah,eu,jV]
      refine ⟨_,_,_,rfl,hi4,?_⟩
      simp only[prs,if_neg x33,if_neg x40,hn,if_true]
      exact ⟨trivial,rfl,hm4,by simp⟩
     |cons y r'=>
      simp only at hm4
      by_cases y61:y=[61]
      ·simp only[if_pos y61] at hm4
       obtain ⟨rfl,hm4⟩:=hm4
       obtain ⟨i5,hi5,z5,b5,hn5,hm5⟩:=A8 hl i4 true hi4
       rw[hm4] at hm5
       simp only[jR,hn5,jI,jC,jD,rows,ah,jV]
       refine ⟨_,_,_,rfl,hi5,?_⟩
       cases r' with
       |nil=>
        simp only at hm5
        subst hm5
        simp[prs,x33,x40,hn,y61]
       |cons v r''=>
        simp only at hm5
        cases hv:aX (mkS v) with
        |false=>
         rw[hv] at hm5
         simp only[Bool.false_eq_true,if_false] at hm5
         subst hm5
         simp[prs,x33,x40,hn,y61,hv]
        |true=>
         rw[hv] at hm5
         simp only[if_true] at hm5
         obtain ⟨rfl,rfl,hm5⟩:=hm5
         simp only[prs,if_neg x33,if_neg x40,hn,if_true,y61,hv]
         exact ⟨trivial,rfl,hm5,by simp only[List.length_cons];omega⟩
      ·simp only[if_neg y61] at hm4
       obtain ⟨rfl,hm4⟩:=hm4
       simp only[jS,rows,ah,eu,jV]
       refine ⟨_,_,_,rfl,hi4,?_⟩
       simp only[prs,if_neg x33,if_neg x40,hn,if_true,if_neg y61]
       exact ⟨trivial,rfl,hm4,by simp⟩
end
end Go.Ev
namespace Go.Ev
def Tr.Wf:Tr→Prop
 |.lf k n v=>aX (mkS n)=true∧((k=1∧v=[])∨(k=2∧aX (mkS v)=true))
 |.un t=>t.Wf
 |.bn k a b=>(k=4∨k=5)∧a.Wf∧b.Wf
def Tr.sz:Tr→Nat
 |.lf _ _ _=>1
 |.un t=>t.sz+1
 |.bn _ a b=>a.sz+b.sz+1
def Tr.depth:Tr→Nat
 |.lf _ _ _=>0
 |.un t=>t.depth+1
 |.bn _ a b=>max a.depth b.depth+1
theorem Tr.qB:∀t:Tr,0<t.sz
 |.lf _ _ _=>by simp[Tr.sz]
 |.un t=>by simp[Tr.sz]
 |.bn _ a b=>by simp[Tr.sz]
theorem Tr.lH:∀t:Tr,t.depth<t.sz
 |.lf _ _ _=>by simp[Tr.sz,Tr.depth]
 |.un t=>by have:=t.lH;simp[Tr.sz,Tr.depth];exact this
 |.bn _ a b=>by have:=a.lH;have:=b.lH;simp only[Tr.sz,Tr.depth];omega
theorem Tr.bZ:∀t:Tr,t.flat.length=t.sz
 |.lf _ _ _=>rfl
 |.un t=>by simp[Tr.flat,Tr.sz,t.bZ]
 |.bn _ a b=>by simp[Tr.flat,Tr.sz,a.bZ,b.bZ];omega
def ry (x:Tok):Prop:=aX (mkS x)=true∨x=[33]∨x=[40]∨x=[41]∨x=[61]∨x=[124]∨x=[38]
def Pre (l:List Tok) (t:Tr) (r:List Tok):Prop:=∃p,l=p++r∧(∀x,x∈p→ry x)∧t.sz≤p.length∧t.Wf
theorem Br (f:List Tok→Option (Tr×List Tok)) (op:Tok) (kd:Nat) (hop:ry op) (hk:kd=4∨kd=5) (hf:∀l t r,f l=some (t,r)→Pre l t r):∀(m:Nat) (t:Tr) (l:List Tok) (u:Tr) (r l0:List Tok),
  Pre l0 t l→opL f op kd m t l=some (u,r)→Pre l0 u r
 |0,t,l,u,r,l0,h0,h=>by
  simp only[opL,Option.some.injEq,Prod.mk.injEq] at h
  obtain ⟨rfl,rfl⟩:=h;exact h0
 |m+1,t,[],u,r,l0,h0,h=>by
  simp only[opL,Option.some.injEq,Prod.mk.injEq] at h
  obtain ⟨rfl,rfl⟩:=h;exact h0
 |m+1,t,x::l,u,r,l0,h0,h=>by
  simp only[opL] at h
  split at h
  ·rename_i hx
   split at h
   ·simp at h
   ·rename_i t' r'' hq
    refine Br f op kd hop hk hf m _ _ u r l0 ?_ h
    obtain ⟨p,rfl,q2,q3,q4⟩:=h0
    obtain ⟨p',rfl,q2',q3',q4'⟩:=hf _ _ _ hq
    refine ⟨p++x::p',by simp,fun y hy=>?_,by simp[Tr.sz];omega,hk,q4,q4'⟩
    rcases List.mem_append.1 hy with hy|hy
    ·exact q2 y hy
    ·rcases List.mem_cons.1 hy with rfl|hy
     ·rw[hx];exact hop
     ·exact q2' y hy
  ·simp only[Option.some.injEq,Prod.mk.injEq] at h
   obtain ⟨rfl,rfl⟩:=h;exact h0
theorem l8:∀(j c:Nat) (l:List Tok) (t:Tr) (r:List Tok),prs j c l=some (t,r)→Pre l t r
 |0,c,l,t,r,h=>by simp[prs] at h
 |j+1,0,l,t,r,h=>by
  simp only[prs] at h
  split at h
  ·simp at h
  ·rename_i t' r' hq
   exact Br (prs j 1) [124] 5 (by simp[ry]) (.inr rfl) (fun l t r=>l8 j 1 l t r) _ _ _ _ _ l (l8 j 1 _ _ _ hq) h
 |j+1,1,l,t,r,h=>by
  simp only[prs] at h
  split at h
  ·simp at h
  ·rename_i t' r' hq
   exact Br (prs j 2) [38] 4 (by simp[ry]) (.inl rfl) (fun l t r=>l8 j 2 l t r) _ _ _ _ _ l (l8 j 2 _ _ _ hq) h
 |j+1,c+2,[],t,r,h=>by simp[prs] at h
 |j+1,c+2,x::l,t,r,h=>by
  simp only[prs] at h
  split at h
  ·rename_i hx
   split at h
   ·simp at h
   ·rename_i t' r' hq
    simp only[Option.some.injEq,Prod.mk.injEq] at h
    obtain ⟨rfl,rfl⟩:=h
    obtain ⟨p,rfl,q2,q3,q4⟩:=l8 j 2 _ _ _ hq
    refine ⟨x::p,rfl,fun y hy=>?_,by simp[Tr.sz];omega,q4⟩
    rcases List.mem_cons.1 hy with rfl|hy
    ·rw[hx];simp[ry]
    ·exact q2 y hy
  ·split at h
   ·rename_i hx
    split at h
    ·rename_i t' y r' hq
     split at h
     ·rename_i hy41
      simp only[Option.some.injEq,Prod.mk.injEq] at h
      obtain ⟨rfl,rfl⟩:=h
      obtain ⟨p,hp,q2,q3,q4⟩:=l8 j 0 _ _ _ hq
      refine ⟨x::(p++[y]),by rw[hp];simp,fun z hz=>?_,by simp;omega,q4⟩
      rcases List.mem_cons.1 hz with rfl|hz
      ·rw[hx];simp[ry]
      ·rcases List.mem_append.1 hz with hz|hz
       ·exact q2 z hz
       ·simp at hz;subst hz;rw[hy41];simp[ry]
     ·simp at h
    ·simp at h
   ·split at h
    ·rename_i hn
     split at h
     ·rename_i y r'
      split at h
      ·rename_i hy61
       split at h
       ·rename_i v r''
        split at h
        ·rename_i hv
         simp only[Option.some.injEq,Prod.mk.injEq] at h
         obtain ⟨rfl,rfl⟩:=h
         refine ⟨[x,y,v],rfl,fun z hz=>?_,by simp[Tr.sz],hn,.inr ⟨rfl,hv⟩⟩
         simp at hz
         rcases hz with rfl|rfl|rfl
         ·exact .inl hn
         ·rw[hy61];simp[ry]
         ·exact .inl hv
        ·simp at h
       ·simp at h
      ·simp only[Option.some.injEq,Prod.mk.injEq] at h
       obtain ⟨rfl,rfl⟩:=h
       refine ⟨[x],rfl,fun z hz=>?_,by simp[Tr.sz],hn,.inl ⟨rfl,rfl⟩⟩
       simp at hz;subst hz;exact .inl hn
     ·simp only[Option.some.injEq,Prod.mk.injEq] at h
      obtain ⟨rfl,rfl⟩:=h
      refine ⟨[x],rfl,fun z hz=>?_,by simp[Tr.sz],hn,.inl ⟨rfl,rfl⟩⟩
      simp at hz;subst hz;exact .inl hn
    ·simp at h
theorem xG:∀r:List UInt8,r.all gA=(r.dropWhile dm).all gA
 |[]=>rfl
 |x::r=>by
  rw[List.dropWhile_cons]
  cases hx:dm x with
  |true=>simp only[if_true,List.all_cons];rw[xG r];simp[gA,hx]
  |false=>simp
theorem pw:∀(n:Nat) (l:List UInt8),l.length≤n→(∀x,x∈cX l→ry x)→l.all gA=true
 |n,[],hn,h=>rfl
 |0,c::r,hn,h=>by simp at hn
 |n+1,c::r,hn,h=>by
  simp only[List.length_cons] at hn
  rw[cX.eq_2] at h
  split at h
  ·rename_i h32
   subst h32
   have:=pw n r (by omega) h
   simp[gA] at this⊢
   exact this
  ·rename_i h32
   split at h
   ·rename_i hc
    have hdl:=(List.dropWhile_suffix (l:=r) dm).length_le
    have:=pw n (r.dropWhile dm) (by omega) fun x hx=>h x (by simp[hx])
    rw[List.all_cons,xG r,this]
    simp[gA,hc]
   ·rename_i hc
    have h1:=h [c] (by simp)
    have:=pw n r (by omega) fun x hx=>h x (by simp[hx])
    rw[List.all_cons,this]
    have hn1:aX (mkS [c])=false:=by simp[aX,gn,hc]
    rcases h1 with h1|h1|h1|h1|h1|h1|h1
    ·rw[hn1] at h1;simp at h1
    all_goals (simp at h1;subst h1;rfl)
theorem pP:∀(n:Nat) (l:List UInt8),l.length≤n→(cX l).length≤l.length∧∀x,x∈cX l→x.length≤l.length
 |n,[],hn=>by simp[cX]
 |0,c::r,hn=>by simp at hn
 |n+1,c::r,hn=>by
  simp only[List.length_cons] at hn⊢
  rw[cX.eq_2]
  split
  ·obtain ⟨h1,h2⟩:=pP n r (by omega)
   exact ⟨by omega,fun x hx=>by have:=h2 x hx;omega⟩
  ·split
   ·have hdl:=(List.dropWhile_suffix (l:=r) dm).length_le
    have htl:=pH dm r
    obtain ⟨h1,h2⟩:=pP n (r.dropWhile dm) (by omega)
    refine ⟨by simp;omega,fun x hx=>?_⟩
    rcases List.mem_cons.1 hx with rfl|hx
    ·simp;omega
    ·have:=h2 x hx;omega
   ·obtain ⟨h1,h2⟩:=pP n r (by omega)
    refine ⟨by simp;omega,fun x hx=>?_⟩
    rcases List.mem_cons.1 hx with rfl|hx
    ·simp
    ·have:=h2 x hx;omega
end Go.Ev
namespace Go.Ev
theorem zL {n:Nat} (h:n<big):w64 ((n:Int)+1)=((n+1:Nat):Int):=by
 simp only[big] at h;rw[aZ (by omega) (by omega)];rfl
theorem ug:∀(k:Nat) (t:Tr),t.depth<k→t.depth<big→aw.g k 0 [t.enc]=some [.i (t.depth:Nat)]
 |0,t,h,_=>by omega
 |k+1,t,h,hb=>by
  have hs:∀x,aw.g (k+1) 0 x=aw.step (aw.g k 0) x:=fun _=>rfl
  rw[hs]
  have w0:w64 1=1:=aZ (by omega) (by omega)
  have w2:w64 2=2:=aZ (by omega) (by omega)
  cases t with
  |lf kd n v=>
   have h0:apn 4 (aw.d1 (aw.g k 0)) [.i 0,.l [],.i 0,.i 0]=some (.brk 0 [.i 0]):=by simp[aw.d1]
   simp only[aw.step,aw.d3,apL,jC,jD,Tr.enc,C.s8,jR,C.P_p,C.L_l,List.length_nil,Int.ofNat_zero,Int.natCast_zero]
   rw[aY h0]
   simp[aw.d2,Tr.depth]
  |un t=>
   simp only[Tr.depth] at h hb
   have ih:=ug k t (by omega) (by omega)
   have h0:apn 4 (aw.d1 (aw.g k 0)) [.i 0,.l [[t.enc]],.i 1,.i 0]=some (.again [.i (t.depth+1:Nat),.l [[t.enc]],.i 1,.i 1]):=by
    have hgt:(((t.depth+1:Nat):Int))>0:=by omega
    simp[aw.d1,ih,ae,zL (show t.depth<big by omega),w0]
   have h1:apn 4 (aw.d1 (aw.g k 0)) [.i (t.depth+1:Nat),.l [[t.enc]],.i 1,.i 1]=some (.brk 0 [.i (t.depth+1:Nat)]):=by simp[aw.d1]
   simp only[aw.step,aw.d3,apL,jC,jD,Tr.enc,C.s8,jR,C.P_p,C.L_l,List.length_cons,List.length_nil]
   erw[aO h0,aY h1]
   simp[aw.d2,Tr.depth]
  |bn kd a b=>
   simp only[Tr.depth] at h hb
   have iha:=ug k a (by omega) (by omega)
   have ihb:=ug k b (by omega) (by omega)
   have h0:apn 4 (aw.d1 (aw.g k 0)) [.i 0,.l [[a.enc],[b.enc]],.i 2,.i 0]=some (.again [.i (a.depth+1:Nat),.l [[a.enc],[b.enc]],.i 2,.i 1]):=by
    simp[aw.d1,iha,ae,zL (show a.depth<big by omega),w0]
   have h1:apn 4 (aw.d1 (aw.g k 0)) [.i (a.depth+1:Nat),.l [[a.enc],[b.enc]],.i 2,.i 1]=some (.again [.i (max a.depth b.depth+1:Nat),.l [[a.enc],[b.enc]],.i 2,.i 2]):=by
    have e:(1:Int)<2:=by omega
    simp only[apL,jC,jD,aw.d1,C.I_i,C.L_l,e,decide_true,jR,List.length_cons,List.length_nil,Int.toNat_one,ihb,ae,jI,zL (show b.depth<big by omega)]
    have w2':w64 (1+1)=2:=w2
    rw[w2']
    simp
    split<;>omega
   have h2:apn 4 (aw.d1 (aw.g k 0)) [.i (max a.depth b.depth+1:Nat),.l [[a.enc],[b.enc]],.i 2,.i 2]=some (.brk 0 [.i (max a.depth b.depth+1:Nat)]):=by simp[aw.d1]
   simp only[aw.step,aw.d3,apL,jC,jD,Tr.enc,C.s8,jR,C.P_p,C.L_l,List.length_cons,List.length_nil]
   erw[aO h0,aO h1,aY h2]
   simp[aw.d2,Tr.depth]
def Tr.kids:Tr→Nat→List (List C)
 |.lf _ _ _,o=>[[.l []]]
 |.un t,o=>t.kids o++[[.l [[.i (o+t.sz-1:Nat)]]]]
 |.bn _ a b,o=>a.kids o++b.kids (o+a.sz)++[[.l [[.i (o+a.sz-1:Nat)],[.i (o+a.sz+b.sz-1:Nat)]]]]
theorem Tr.cB:∀(t:Tr) (o:Nat),(t.kids o).length=t.sz
 |.lf _ _ _,o=>rfl
 |.un t,o=>by simp[Tr.kids,Tr.sz,t.cB]
 |.bn _ a b,o=>by simp[Tr.kids,Tr.sz,a.cB,b.cB];omega
theorem wz {N:List (List C)} {o m:Nat} {kd:Nat} {n v:Tok} {out stk:List (List C)} (hN:N.length≤1048576) (ho:o<N.length) (hn:N[o]=node kd n v m) (h1:m≤stk.length) (h2:stk.length≤o) (h3:out.length≤o):
  apn 4 dD.d1 [.i o,.l N,.l out,.l stk]=some (.again [.i (o+1:Nat),.l N,.l (out++[[.l (stk.drop (stk.length-m))]]),.l (stk.take (stk.length-m)++[[.i (o:Nat)]])]):=by
 have hg:N.getD o []=node kd n v m:=by rw[List.getD_eq_getElem?_getD,List.getElem?_eq_getElem ho,hn];rfl
 have hw:w64 ((stk.length:Int)-(m:Int))=((stk.length-m:Nat):Int):=by rw[aZ (by omega) (by omega)];omega
 have hw1:=w1 ho (show N.length<big by simp only[big];omega)
 have e1:¬((m:Int)<0):=by omega
 have e2:¬((m:Int)>(stk.length:Int)):=by omega
 have e3:((stk.length-m:Nat):Int)≤(stk.length:Int):=by omega
 have e4:(stk.drop (stk.length-m)).length≤4294967296:=by rw[List.length_drop];omega
 have e5:out.length+1≤4294967296:=by omega
 have e6:(stk.take (stk.length-m)).length+1≤4294967296:=by rw[List.length_take];omega
 simp only[apL,jC,jD,dD.d1,C.I_i,C.L_l,jY,hg,node,hw,hw1,List.take_length,List.drop_zero,ah,rows,jB,List.length_nil,List.length_cons,Nat.zero_add,e1,e2,e3,e4,e5,e6,decide_true,decide_false,jR,jS,ja,jX,Int.le_refl]
 simp[ho]
theorem iz {α:Type} {N l r:List α} {o:Nat} {x:α} (h:N.drop o=l++x::r):∃h:o+l.length<N.length,N[o+l.length]=x:=by
 have h2:N.drop (o+l.length)=x::r:=by rw[←List.drop_drop,h];simp
 obtain ⟨h3,h4,_⟩:=drop_cons h2
 exact ⟨h3,h4⟩
theorem xY {N:List (List C)} (hN:N.length≤1048576):∀(t:Tr) (o:Nat) (out stk r:List (List C)),N.drop o=t.flat++r→stk.length≤o→out.length≤o→
  lim (apn 4 dD.d1) [.i o,.l N,.l out,.l stk]=lim (apn 4 dD.d1) [.i (o+t.sz:Nat),.l N,.l (out++t.kids o),.l (stk++[[.i (o+t.sz-1:Nat)]])]
 |.lf kd n v,o,out,stk,r,h,hs,ho=>by
  obtain ⟨h1,h2,_⟩:=drop_cons (show N.drop o=node kd n v 0::r from h)
  rw[aO (wz hN h1 h2 (Nat.zero_le _) hs ho)]
  simp[Tr.sz,Tr.kids]
 |.un t,o,out,stk,r,h,hs,ho=>by
  have h':N.drop o=t.flat++(node 3 [] [] 1::r):=by rw[h];simp[Tr.flat]
  rw[xY hN t o out stk _ h' hs ho]
  obtain ⟨h1,h2⟩:=iz h'
  rw[t.bZ] at h1
  have h2:N[o+t.sz]=node 3 [] [] 1:=by simp only[t.bZ] at h2;exact h2
  rw[aO (wz hN h1 h2 (by simp) (by have:=t.qB;simp;omega) (by simp[t.cB];omega))]
  have e1:(stk++[[C.i (o+t.sz-1:Nat)]]).length-1=stk.length:=by simp
  rw[e1,List.drop_left',List.take_left']<;>simp[Tr.sz,Tr.kids]
  rfl
 |.bn kd a b,o,out,stk,r,h,hs,ho=>by
  have h':N.drop o=a.flat++(b.flat++(node kd [] [] 2::r)):=by rw[h];simp[Tr.flat]
  have h'':N.drop (o+a.sz)=b.flat++(node kd [] [] 2::r):=by rw[←List.drop_drop,h',←a.bZ];simp
  have ha:=a.qB
  have hb:=b.qB
  rw[xY hN a o out stk _ h' hs ho,xY hN b (o+a.sz) _ _ _ h'' (by simp;omega) (by simp[a.cB];omega)]
  obtain ⟨h1,h2⟩:=iz h''
  rw[b.bZ] at h1
  have h2:N[o+a.sz+b.sz]=node kd [] [] 2:=by simp only[b.bZ] at h2;exact h2
  rw[aO (wz hN h1 h2 (by simp) (by simp;omega) (by simp[a.cB,b.cB];omega))]
  have e1:(stk++[[C.i (o+a.sz-1:Nat)]]++[[C.i (o+a.sz+b.sz-1:Nat)]]).length-2=stk.length:=by simp
  have e2:stk++[[C.i (o+a.sz-1:Nat)]]++[[C.i (o+a.sz+b.sz-1:Nat)]]=stk++[[C.i (o+a.sz-1:Nat)],[C.i (o+a.sz+b.sz-1:Nat)]]:=by simp
  rw[e1,e2,List.drop_left',List.take_left']
  ·have e3:o+(Tr.bn kd a b).sz=o+a.sz+b.sz+1:=by simp only[Tr.sz];omega
   rw[e3]
   simp[Tr.kids]
  ·rfl
  ·rfl
theorem iO (t:Tr) (ht:t.sz≤1048576):dD [.l t.flat]=some [.b true,.l (t.kids 0)]:=by
 have hN:t.flat.length≤1048576:=by rw[t.bZ];exact ht
 have h:=xY hN t 0 [] [] [] (by simp) (by simp) (by simp)
 have he:apn 4 dD.d1 [.i (0+t.sz:Nat),.l t.flat,.l ([]++t.kids 0),.l ([]++[[.i (0+t.sz-1:Nat)]])]=some (.brk 0 [.l (t.kids 0),.l [[.i (t.sz-1:Nat)]]]):=by
  simp[dD.d1,t.bZ]
 rw[aY he] at h
 simp only[dD,dD.d3,apL,jC,ah]
 erw[h]
 simp[dD.d2]
end Go.Ev
namespace Go.Ev
section
variable {K:List (List C)} (hK:K.length≤1048576)
include hK
theorem sP (G:List C→Option (List C)) {ix:Nat} (hi:ix<K.length) {l:List (List C)} (hr:K[ix]=[.l l]) {d c e:Nat} (hd:d<l.length) (hl:l.length≤2) {kid:Nat} (hk:l[d]=[.i (kid:Nat)])
  (hG:G [.l K,.i (kid:Nat)]=some [.i (e:Nat)]) (he:e<big):
  apn 4 (bw.d1 G) [.l K,.i (ix:Nat),.i (c:Nat),.i (d:Nat)]=some (.again [.l K,.i (ix:Nat),.i (max c (e+1):Nat),.i (d+1:Nat)]):=by
 have hg:K.getD ix []=[.l l]:=by rw[List.getD_eq_getElem?_getD,List.getElem?_eq_getElem hi,hr];rfl
 have hgd:l.getD d []=[.i (kid:Nat)]:=by rw[List.getD_eq_getElem?_getD,List.getElem?_eq_getElem hd,hk];rfl
 have hw:=zL he
 have hwd:w64 ((d:Int)+1)=((d+1:Nat):Int):=zL (by simp only[big];omega)
 simp only[apL,jC,jD,bw.d1,C.I_i,C.L_l,jY,hg,hgd,hG,ae,jI,hw,hwd,jX,decide_true,jR]
 have e1:((ix:Int)<(K.length:Int)):=by omega
 have e2:((d:Int)<(l.length:Int)):=by omega
 simp only[e1,e2,decide_true,jR]
 by_cases h:((e+1:Nat):Int)>(c:Int)
 ·have:max c (e+1)=e+1:=by omega
  simp only[h,decide_true,jR,this]
 ·have:max c (e+1)=c:=by omega
  simp only[h,decide_false,jS,this]
theorem uG (G:List C→Option (List C)) {ix:Nat} (hi:ix<K.length) {l:List (List C)} (hr:K[ix]=[.l l]) {c:Nat}:
  apn 4 (bw.d1 G) [.l K,.i (ix:Nat),.i (c:Nat),.i (l.length:Nat)]=some (.brk 0 [.i (c:Nat)]):=by
 have hg:K.getD ix []=[.l l]:=by rw[List.getD_eq_getElem?_getD,List.getElem?_eq_getElem hi,hr];rfl
 simp only[apL,jC,jD,bw.d1,C.I_i,C.L_l,jY,hg]
 simp[hi]
theorem ve:∀(k:Nat) (t:Tr) (o:Nat) (r:List (List C)),t.depth<k→t.depth<big→K.drop o=t.kids o++r→bw.g k 0 [.l K,.i (o+t.sz-1:Nat)]=some [.i (t.depth:Nat)]
 |0,t,o,r,h,_,_=>by omega
 |k+1,t,o,r,h,hb,hd=>by
  have hs:∀x,bw.g (k+1) 0 x=bw.step (bw.g k 0) x:=fun _=>rfl
  rw[hs]
  simp only[bw.step,bw.d3,apL,jC,jD]
  cases t with
  |lf kd n v=>
   obtain ⟨h1,h2,_⟩:=drop_cons (show K.drop o=[.l []]::r from hd)
   have:=aY (uG hK (bw.g k 0) h1 h2 (c:=0))
   simp only[List.length_nil,Int.ofNat_zero,Int.natCast_zero] at this
   have e:o+(Tr.lf kd n v).sz-1=o:=by simp[Tr.sz]
   rw[e,this]
   simp[bw.d2,Tr.depth]
  |un t=>
   simp only[Tr.depth] at h hb
   have h':K.drop o=t.kids o++([.l [[.i (o+t.sz-1:Nat)]]]::r):=by rw[hd];simp[Tr.kids]
   have ih:=ve k t o _ (by omega) (by omega) h'
   obtain ⟨h1,h2⟩:=iz h'
   rw[t.cB] at h1
   have h2:K[o+t.sz]=[.l [[.i (o+t.sz-1:Nat)]]]:=by simp only[t.cB] at h2;exact h2
   have e:o+(Tr.un t).sz-1=o+t.sz:=by simp[Tr.sz]
   have s1:=sP hK (bw.g k 0) h1 h2 (d:=0) (c:=0) (by simp) (by simp) (kid:=o+t.sz-1) rfl ih (by omega)
   have s2:=uG hK (bw.g k 0) h1 h2 (c:=max 0 (t.depth+1))
   simp only[Int.natCast_zero,Nat.zero_max,List.length_cons,List.length_nil,Nat.zero_add] at s1 s2
   rw[e,aO s1,aY s2]
   simp[bw.d2,Tr.depth]
  |bn kd a b=>
   simp only[Tr.depth] at h hb
   have h':K.drop o=a.kids o++(b.kids (o+a.sz)++([.l [[.i (o+a.sz-1:Nat)],[.i (o+a.sz+b.sz-1:Nat)]]]::r)):=by rw[hd];simp[Tr.kids]
   have h'':K.drop (o+a.sz)=b.kids (o+a.sz)++([.l [[.i (o+a.sz-1:Nat)],[.i (o+a.sz+b.sz-1:Nat)]]]::r):=by
    rw[←List.drop_drop,h',←a.cB o];simp
   have iha:=ve k a o _ (by omega) (by omega) h'
   have ihb:=ve k b (o+a.sz) _ (by omega) (by omega) h''
   obtain ⟨h1,h2⟩:=iz h''
   rw[b.cB] at h1
   have h2:K[o+a.sz+b.sz]=[.l [[.i (o+a.sz-1:Nat)],[.i (o+a.sz+b.sz-1:Nat)]]]:=by simp only[b.cB] at h2;exact h2
   have e:o+(Tr.bn kd a b).sz-1=o+a.sz+b.sz:=by simp only[Tr.sz];omega
   have s1:=sP hK (bw.g k 0) h1 h2 (d:=0) (c:=0) (by simp) (by simp) (kid:=o+a.sz-1) rfl iha (by omega)
   have s2:=sP hK (bw.g k 0) h1 h2 (d:=1) (c:=max 0 (a.depth+1)) (by simp) (by simp) (kid:=o+a.sz+b.sz-1) rfl ihb (by omega)
   have s3:=uG hK (bw.g k 0) h1 h2 (c:=max (max 0 (a.depth+1)) (b.depth+1))
   simp only[Int.natCast_zero,List.length_cons,List.length_nil,Nat.zero_add,Nat.reduceAdd] at s1 s2 s3
   rw[e,aO s1,aO s2,aY s3]
   have e2:max (max 0 (a.depth+1)) (b.depth+1)=max a.depth b.depth+1:=by omega
   rw[e2]
   simp[bw.d2,Tr.depth]
end
inductive OkN:List C→Prop
 |n1 (n:Tok) (h:aX (mkS n)=true):OkN (node 1 n [] 0)
 |n2 (n v:Tok) (h:aX (mkS n)=true) (h2:aX (mkS v)=true):OkN (node 2 n v 0)
 |n3:OkN (node 3 [] [] 1)
 |n4:OkN (node 4 [] [] 2)
 |n5:OkN (node 5 [] [] 2)
theorem Tr.okN:∀(t:Tr),t.Wf→∀r,r∈t.flat→OkN r
 |.lf k n v,h,r,hr=>by
  simp only[Tr.flat,List.mem_singleton] at hr
  subst hr
  rcases h with ⟨h1,⟨rfl,rfl⟩|⟨rfl,h2⟩⟩
  ·exact .n1 n h1
  ·exact .n2 n v h1 h2
 |.un t,h,r,hr=>by
  simp only[Tr.flat,List.mem_append,List.mem_singleton] at hr
  rcases hr with hr|rfl
  ·exact t.okN h r hr
  ·exact .n3
 |.bn k a b,h,r,hr=>by
  simp only[Tr.flat,List.mem_append,List.mem_singleton] at hr
  rcases hr with (hr|hr)|rfl
  ·exact a.okN h.2.1 r hr
  ·exact b.okN h.2.2 r hr
  ·rcases h.1 with rfl|rfl
   ·exact .n4
   ·exact .n5
theorem oe {s:Str} (h:aX s=true):s.size≤1048576:=by
 simp only[aX,within,Bool.and_eq_true,decide_eq_true_eq] at h
 omega
theorem emp:(mkS []).toList=[]:=eM _
theorem Dj {N:List (List C)} (hN:N.length≤1048576) {i:Nat} (hi:i<N.length) (ho:OkN N[i]):
  apn 2 aL.d4 [.i i,.l N]=some (.again [.i (i+1:Nat),.l N]):=by
 have hw1:=w1 hi (show N.length<big by simp only[big];omega)
 have hg:N.getD i []=N[i]:=by rw[List.getD_eq_getElem?_getD,List.getElem?_eq_getElem hi];rfl
 have e0:((i:Int)<(N.length:Int)):=by omega
 have key:∀r,OkN r→N.getD i []=r→apn 2 aL.d4 [.i i,.l N]=some (.again [.i (i+1:Nat),.l N]):=by
  intro r hr hgr
  have z1:within 1 0 5=true:=rfl
  have z2:within 2 0 5=true:=rfl
  have z3:within 3 0 5=true:=rfl
  have z4:within 4 0 5=true:=rfl
  have z5:within 5 0 5=true:=rfl
  have t2:Int.toNat 2=2:=rfl
  have t3:Int.toNat 3=3:=rfl
  have t4:Int.toNat 4=4:=rfl
  have t5:Int.toNat 5=5:=rfl
  cases hr with
  |n1 n h=>
   simp only[apL,jC,jD,aL.d4,C.I_i,C.L_l,jY,hgr,node]
   simp[aL.d3,aL.d2,aL.d1,eT,z1,ae,cx _ (oe h),h,emp,eu,hw1,hi]
  |n2 n v h h2=>
   simp only[apL,jC,jD,aL.d4,C.I_i,C.L_l,jY,hgr,node]
   simp[aL.d3,aL.d2,aL.d1,eT,z2,t2,ae,cx _ (oe h),cx _ (oe h2),h,h2,emp,eu,hw1,hi]
  |n3=>
   simp only[apL,jC,jD,aL.d4,C.I_i,C.L_l,jY,hgr,node]
   simp[aL.d3,aL.d2,aL.d1,eT,z3,t3,ae,emp,eu,hw1,hi]
  |n4=>
   simp only[apL,jC,jD,aL.d4,C.I_i,C.L_l,jY,hgr,node]
   simp[aL.d3,aL.d2,aL.d1,eT,z4,t4,ae,emp,eu,hw1,hi]
  |n5=>
   simp only[apL,jC,jD,aL.d4,C.I_i,C.L_l,jY,hgr,node]
   simp[aL.d3,aL.d2,aL.d1,eT,z5,t5,ae,emp,eu,hw1,hi]
 exact key _ ho hg
theorem tv (t:Tr) (ht:t.sz≤400) (hw:t.Wf):aL [.l t.flat]=some [.b true]:=by
 have hN:t.flat.length≤1048576:=by rw[t.bZ];omega
 have hloop:∀(k i:Nat),t.flat.length-i≤k→i≤t.flat.length→lim (apn 2 aL.d4) [.i i,.l t.flat]=some (.brk 0 []):=by
  intro k
  induction k with
  |zero=>
   intro i hk hi
   have:i=t.flat.length:=by omega
   subst this
   exact aY (by simp[aL.d4])
  |succ k ih=>
   intro i hk hi
   rcases Nat.lt_or_ge i t.flat.length with h|h
   ·rw[aO (Dj hN h (t.okN hw _ (List.getElem_mem h)))]
    exact ih (i+1) (by omega) (by omega)
   ·have:i=t.flat.length:=by omega
    subst this
    exact aY (by simp[aL.d4])
 have h0:=hloop _ 0 (Nat.le_refl _) (Nat.zero_le _)
 simp only[Int.natCast_zero] at h0
 have e:¬((t.flat.length:Int)>400):=by rw[t.bZ];omega
 simp only[aL,aL.d6,apL,jC,C.L_l,e,decide_false,jS,iO t (by omega),call2,jI,C.B_b,jZ,h0]
 simp[aL.d5]
theorem y4 (t:Tr) (ht:t.sz≤400) (hw:t.Wf):fi [.l t.flat]=some [.b (decide (t.depth≤20))]:=by
 have hd:=t.lH
 have hp:=t.qB
 have hF:=lQ
 have hw1:w64 ((t.flat.length:Int)-1)=((0+t.sz-1:Nat):Int):=by rw[t.bZ,aZ (by omega) (by omega)];omega
 have hn:bw [.l (t.kids 0),.i (0+t.sz-1:Nat)]=some [.i (t.depth:Nat)]:=
  ve (K:=t.kids 0) (by rw[t.cB];omega) iW t 0 [] (by omega) (by simp only[big];omega) (by simp)
 simp only[fi,fi.d1,apL,jC,jD,tv t ht hw,ae,call2,jI,C.B_b,jZ,jS,iO t (by omega),C.L_l,hw1,hn,C.I_i,jV]
 have:decide ((t.depth:Int)≤20)=decide (t.depth≤20):=by
  rw[decide_eq_decide];omega
 rw[this]
end Go.Ev
