/- Proved here: the law FnPilotAgeCard of the given program answers true at every input, and leaves the input as it was; no condition. This text: lemmas on the way (an evaluator of the program's code, sound once for all; the functions it prints; plain proofs on these). -/
import Derived.Test.YtkbmkhncjganfaaGreatDoorP2
set_option linter.all false
set_option autoImplicit false
set_option maxRecDepth 100000
namespace Go.Ev
open Go.Proofs
noncomputable section
def az.d1 (a b c d:C):R:=(bif (decide (c.I<(a.S.size:Int))) then (bif (decide (0≤c.I)) then (bif (decide (c.I<(a.S.size:Int))) then (ad (gY [.i ((a.S.data.getD c.I.toNat 0).toNat:Int)]) fun e=>(bif e.B then (some (.again [a,b,.i (w64 (c.I+1)),.l d.L])) else (some (.brk 2 [a,b,c,.l d.L])))) else none) else none) else (some (.brk 2 [a,b,c,.l d.L])))
def az.d2 (a b c d e:C):R:=(bif d.B then (some (.ret [.b false,.l e.L])) else (bif (decide (0≤b.I)) then (bif (decide (b.I≤(w64 (c.I+1)))) then (bif (decide ((w64 (c.I+1))≤(a.S.size:Int))) then (bif (decide (e.L.length+(rows [[.s (a.S.extract b.I.toNat (w64 (c.I+1)).toNat)]]).length≤4294967296)) then (some (.brk 1 [a,.i (w64 (c.I+1)),.l (e.L++(rows [[.s (a.S.extract b.I.toNat (w64 (c.I+1)).toNat)]]))])) else none) else none) else none) else none))
def az.d3 (a b c d:C):R:=(bif (c.I==b.I) then (bd (bif (decide (0≤b.I)) then (bif (decide (b.I<(a.S.size:Int))) then (bif (((a.S.data.getD b.I.toNat 0).toNat:Int) !=124) then (bif (decide (0≤b.I)) then (bif (decide (b.I<(a.S.size:Int))) then (bif (((a.S.data.getD b.I.toNat 0).toNat:Int) !=38) then (bif (decide (0≤b.I)) then (bif (decide (b.I<(a.S.size:Int))) then (bif (((a.S.data.getD b.I.toNat 0).toNat:Int) !=33) then (bif (decide (0≤b.I)) then (bif (decide (b.I<(a.S.size:Int))) then (bif (((a.S.data.getD b.I.toNat 0).toNat:Int) !=40) then (bif (decide (0≤b.I)) then (bif (decide (b.I<(a.S.size:Int))) then (bif (((a.S.data.getD b.I.toNat 0).toNat:Int) !=41) then (bif (decide (0≤b.I)) then (bif (decide (b.I<(a.S.size:Int))) then (some (.nrm [a,b,c,.b (((a.S.data.getD b.I.toNat 0).toNat:Int) !=61),.l d.L])) else none) else none) else (some (.nrm [a,b,c,.b false,.l d.L]))) else none) else none) else (some (.nrm [a,b,c,.b false,.l d.L]))) else none) else none) else (some (.nrm [a,b,c,.b false,.l d.L]))) else none) else none) else (some (.nrm [a,b,c,.b false,.l d.L]))) else none) else none) else (some (.nrm [a,b,c,.b false,.l d.L]))) else none) else none) (ap5 az.d2)) else (bif (decide (0≤b.I)) then (bif (decide (b.I≤c.I)) then (bif (decide (c.I≤(a.S.size:Int))) then (bif (decide (d.L.length+(rows [[.s (a.S.extract b.I.toNat c.I.toNat)]]).length≤4294967296)) then (some (.brk 1 [a,c,.l (d.L++(rows [[.s (a.S.extract b.I.toNat c.I.toNat)]]))])) else none) else none) else none) else none))
def az.d4 (a b c:C):R:=(some (.again [a,b,.l c.L]))
def az.d5 (a b c:C):R:=(bif (decide (b.I<(a.S.size:Int))) then (ai 1 (bif (decide (0≤b.I)) then (bif (decide (b.I<(a.S.size:Int))) then (bif (((a.S.data.getD b.I.toNat 0).toNat:Int)==32) then (some (.brk 1 [a,.i (w64 (b.I+1)),.l c.L])) else (ai 2 (lim (ap4 az.d1) [a,b,b,.l c.L]) (ap4 az.d3))) else none) else none) (ap3 az.d4)) else (some (.brk 0 [.l c.L])))
def az.d6 (a:C):R:=(some (.ret [.b true,.l a.L]))
def az.d7 (a:C):R:=(ai 0 (lim (ap3 az.d5) [a,.i 0,.l ao]) (ap1 az.d6))
def az:List C→Option (List C):=fun xs=>aZ (ap1 az.d7 xs)
def mM:FS:=⟨1,⟨[(0,zt)],[]⟩,⟨[(0,(.tu [(.ow 3000),zo]))],[(3000,.arr 9 1)]⟩,[],az⟩
theorem yd:aA Tryz.checked.prog T0 165 mM:=bC aE (fn:=Tryz.f165) (c:=Tryz.f165.body.getD .skip) mM (.seq .leaf (.seq .leaf (.seq (.seq .leaf (.block ⟨[(4,(.ow 7))],[(7,.arr 9 1)]⟩ (.loop ⟨[(0,zt),(4,(.ow 7)),(5,zi)],[(7,.arr 9 1)]⟩ (.seq .leaf (.block ⟨[(0,zt),(4,(.ow 7)),(5,zi)],[(7,.arr 9 1)]⟩ (.seq .leaf (.seq .leaf (.seq (.block ⟨[(0,zt),(4,(.ow 7)),(5,zi),(6,zi)],[(7,.arr 9 1)]⟩ (.loop ⟨[(0,zt),(4,(.ow 7)),(5,zi),(6,zi)],[(7,.arr 9 1)]⟩ .leaf)) (.seq (.seq .leaf (.cond (.seq (.seq (.join ⟨[(0,zt),(4,(.ow 7)),(5,zi),(6,zi),(67,zo)],[(7,.arr 9 1)]⟩ .leaf) .leaf) .leaf) .leaf)) .leaf))))))))) .leaf))) [(108,some 27,j3)] (.cons qI .nil) (by kernel_rfl) (by kernel_rfl) (by kernel_rfl) (fun xs=>by kernel_rfl)
def gH.d1 (a b:C):R:=(bif a.isP then (bif a.isP then (bif (decide ((a.P.getD 1 .nil).I<(((a.P.getD 0 .nil).L).length:Int))) then (bif a.isP then (bif a.isP then (bif (decide (0≤(a.P.getD 1 .nil).I)) then (bif (decide ((a.P.getD 1 .nil).I<(((a.P.getD 0 .nil).L).length:Int))) then (some (.ret [.b ((((((a.P.getD 0 .nil).L).getD ((a.P.getD 1 .nil).I).toNat []).getD 0 .nil).S).toList==b.S.toList)])) else none) else none) else none) else none) else (some (.ret [.b false]))) else none) else none)
def gH:List C→Option (List C):=fun xs=>aZ (ap2 gH.d1 xs)
def jr:FS:=⟨2,⟨[(0,(.d (.pt 187))),(1,zt)],[]⟩,⟨[(0,zo)],[]⟩,[],gH⟩
theorem tJ:aA Tryz.checked.prog T0 214 jr:=bC aE (fn:=Tryz.f214) (c:=Tryz.f214.body.getD .skip) jr .leaf [] .nil (by kernel_rfl) (by kernel_rfl) (by kernel_rfl) (fun xs=>by kernel_rfl)
def bJ.d1 (a b c d:C):R:=(ad (gH [.p [b,c,d],a]) fun e=>(bif e.B then (some (.ret [.b true,b,.i (w64 (c.I+1)),d])) else (some (.ret [.b false,b,c,d]))))
def bJ:List C→Option (List C):=fun xs=>aZ (ap4 bJ.d1 xs)
def dy:FS:=⟨2,⟨[(0,(.pt 2000 0)),(1,zt)],[(2000,.var 187 [(zl 9),zi,zo])]⟩,⟨[(0,zo)],[(2000,.var 187 [(zl 9),zi,zo])]⟩,[2000],bJ⟩
theorem eD:aA Tryz.checked.prog T0 191 dy:=bC aE (fn:=Tryz.f191) (c:=Tryz.f191.body.getD .skip) dy .leaf [(214,some 7,jr)] (.cons tJ .nil) (by kernel_rfl) (by kernel_rfl) (by kernel_rfl) (fun xs=>by kernel_rfl)
def eo.d1 (a b c:C):R:=(bif (!(decide (b.I≥(a.L.length:Int)))) then (bif (decide (0≤b.I)) then (bif (decide (b.I<(a.L.length:Int))) then (ad (ba [((a.L.getD b.I.toNat []).getD 0 .nil)]) fun d=>(bif (!d.B) then (some (.ret [.s (bs #[]),a,b,.b true])) else (bif (decide (0≤(w64 ((w64 (b.I+1))-1)))) then (bif (decide ((w64 ((w64 (b.I+1))-1))<(a.L.length:Int))) then (some (.ret [((a.L.getD (w64 ((w64 (b.I+1))-1)).toNat []).getD 0 .nil),a,.i (w64 (b.I+1)),c])) else none) else none))) else none) else none) else (some (.ret [.s (bs #[]),a,b,.b true])))
def eo:List C→Option (List C):=fun xs=>aZ (ap3 eo.d1 xs)
def gv:FS:=⟨1,⟨[(0,(.pt 2000 0))],[(2000,.var 187 [(zl 9),zi,zo])]⟩,⟨[(0,zt)],[(2000,.var 187 [(zl 9),zi,zo])]⟩,[2000],eo⟩
theorem ly:aA Tryz.checked.prog T0 228 gv:=bC aE (fn:=Tryz.f228) (c:=Tryz.f228.body.getD .skip) gv .leaf [(58,some 24,cj)] (.cons cT .nil) (by kernel_rfl) (by kernel_rfl) (by kernel_rfl) (fun xs=>by kernel_rfl)
def aj.d1 (G0 G1 G2:List C→Option (List C)) (a b c d:C):R:=(bif (!d.B) then (call4 (bJ [.s (bs #[124]),b,c,d]) fun e f g h=>(bif e.B then (call4 (G1 [f,g,h]) fun i j k l=>(call2 (bF [.i 5,.i 2,.l (rows [[a],[i]])]) fun m n=>(some (.again [.l n.L,j,k,l])))) else (some (.brk 0 [a,f,g,h])))) else (some (.brk 0 [a,b,c,d])))
def aj.d2 (G0 G1 G2:List C→Option (List C)) (a b c d:C):R:=(some (.ret [a,b,c,d]))
def aj.d3 (G0 G1 G2:List C→Option (List C)) (a b c:C):R:=(call4 (G1 [a,b,c]) fun d e f g=>(ai 0 (lim (ap4 (aj.d1 G0 G1 G2)) [d,e,f,g]) (ap4 (aj.d2 G0 G1 G2))))
def aj.step (G0 G1 G2:List C→Option (List C)):List C→Option (List C):=fun xs=>aZ (ap3 (aj.d3 G0 G1 G2) xs)
def dD (G:List C→Option (List C)):FS:=⟨1,⟨[(0,(.pt 2000 0))],[(2000,.var 187 [(.d (.sl 9)),(.d (.int .i64)),(.d .bool)])]⟩,⟨[(0,(.d (.sl 184)))],[(2000,.var 187 [(.d (.sl 9)),(.d (.int .i64)),(.d .bool)])]⟩,[2000],G⟩
def cO.d1 (G0 G1 G2:List C→Option (List C)) (a b c d:C):R:=(bif (!d.B) then (call4 (bJ [.s (bs #[38]),b,c,d]) fun e f g h=>(bif e.B then (call4 (G2 [f,g,h]) fun i j k l=>(call2 (bF [.i 4,.i 2,.l (rows [[a],[i]])]) fun m n=>(some (.again [.l n.L,j,k,l])))) else (some (.brk 0 [a,f,g,h])))) else (some (.brk 0 [a,b,c,d])))
def cO.d2 (G0 G1 G2:List C→Option (List C)) (a b c d:C):R:=(some (.ret [a,b,c,d]))
def cO.d3 (G0 G1 G2:List C→Option (List C)) (a b c:C):R:=(call4 (G2 [a,b,c]) fun d e f g=>(ai 0 (lim (ap4 (cO.d1 G0 G1 G2)) [d,e,f,g]) (ap4 (cO.d2 G0 G1 G2))))
def cO.step (G0 G1 G2:List C→Option (List C)):List C→Option (List C):=fun xs=>aZ (ap3 (cO.d3 G0 G1 G2) xs)
def dJ (G:List C→Option (List C)):FS:=⟨1,⟨[(0,(.pt 2000 0))],[(2000,.var 187 [(.d (.sl 9)),(.d (.int .i64)),(.d .bool)])]⟩,⟨[(0,(.d (.sl 184)))],[(2000,.var 187 [(.d (.sl 9)),(.d (.int .i64)),(.d .bool)])]⟩,[2000],G⟩
def eK.d1 (G0 G1 G2:List C→Option (List C)) (a b c:C):R:=(bif c.B then (some (.ret [.l ao,a,b,c])) else (call4 (bJ [.s (bs #[33]),a,b,c]) fun d e f g=>(bif d.B then (call4 (G2 [e,f,g]) fun h i j k=>(call2 (bF [.i 3,.i 1,.l (rows [[h]])]) fun l m=>(some (.ret [.l m.L,i,j,k])))) else (call4 (bJ [.s (bs #[40]),e,f,g]) fun n o p q=>(bif n.B then (call4 (G0 [o,p,q]) fun r s t u=>(call4 (bJ [.s (bs #[41]),s,t,u]) fun v w x y=>(bif (!v.B) then (some (.ret [r,w,x,.b true])) else (some (.ret [r,w,x,y]))))) else (call4 (eo [o,p,q]) fun z a0 a1 a2=>(bif (!a2.B) then (call4 (bJ [.s (bs #[61]),a0,a1,a2]) fun a3 a4 a5 a6=>(bif a3.B then (call4 (eo [a4,a5,a6]) fun a7 a8 a9 b0=>(some (.ret [.l (rows [[.i 2,z,a7,.i 0]]),a8,a9,b0]))) else (some (.ret [.l (rows [[.i 1,z,.s (bs #[]),.i 0]]),a4,a5,a6])))) else (some (.ret [.l (rows [[.i 1,z,.s (bs #[]),.i 0]]),a0,a1,a2])))))))))
def eK.step (G0 G1 G2:List C→Option (List C)):List C→Option (List C):=fun xs=>aZ (ap3 (eK.d1 G0 G1 G2) xs)
def dc (G:List C→Option (List C)):FS:=⟨1,⟨[(0,(.pt 2000 0))],[(2000,.var 187 [(.d (.sl 9)),(.d (.int .i64)),(.d .bool)])]⟩,⟨[(0,(.d (.sl 184)))],[(2000,.var 187 [(.d (.sl 9)),(.d (.int .i64)),(.d .bool)])]⟩,[2000],G⟩
theorem s8 {G0 G1 G2:List C→Option (List C)} (h0:aA Tryz.checked.prog T0 166 (dD G0)) (h1:aA Tryz.checked.prog T0 190 (dJ G1)) (h2:aA Tryz.checked.prog T0 213 (dc G2)):aA Tryz.checked.prog T0 166 (dD (aj.step G0 G1 G2)):=bC aE (fn:=Tryz.f166) (c:=Tryz.f166.body.getD .skip) (dD (aj.step G0 G1 G2)) (.seq .leaf (.seq .leaf (.seq (.block ⟨[(3,(.d (.sl 184)))],[(2000,.var 187 [(.d (.sl 9)),(.d (.int .i64)),(.d .bool)])]⟩ (.loop ⟨[(0,(.pt 2000 0)),(3,(.d (.sl 184)))],[(2000,.var 187 [(.d (.sl 9)),(.d (.int .i64)),(.d .bool)])]⟩ .leaf)) .leaf))) [(190,some 5,(dJ G1)),(190,some 17,(dJ G1)),(191,some 13,dy),(192,some 19,fg)] (.cons h1 (.cons h1 (.cons eD (.cons hJ .nil)))) (by kernel_rfl) (by kernel_rfl) (by kernel_rfl) (fun xs=>by kernel_rfl)
theorem sa {G0 G1 G2:List C→Option (List C)} (h0:aA Tryz.checked.prog T0 166 (dD G0)) (h1:aA Tryz.checked.prog T0 190 (dJ G1)) (h2:aA Tryz.checked.prog T0 213 (dc G2)):aA Tryz.checked.prog T0 190 (dJ (cO.step G0 G1 G2)):=bC aE (fn:=Tryz.f190) (c:=Tryz.f190.body.getD .skip) (dJ (cO.step G0 G1 G2)) (.seq .leaf (.seq .leaf (.seq (.block ⟨[(3,(.d (.sl 184)))],[(2000,.var 187 [(.d (.sl 9)),(.d (.int .i64)),(.d .bool)])]⟩ (.loop ⟨[(0,(.pt 2000 0)),(3,(.d (.sl 184)))],[(2000,.var 187 [(.d (.sl 9)),(.d (.int .i64)),(.d .bool)])]⟩ .leaf)) .leaf))) [(191,some 13,dy),(192,some 19,fg),(213,some 5,(dc G2)),(213,some 17,(dc G2))] (.cons eD (.cons hJ (.cons h2 (.cons h2 .nil)))) (by kernel_rfl) (by kernel_rfl) (by kernel_rfl) (fun xs=>by kernel_rfl)
theorem sw {G0 G1 G2:List C→Option (List C)} (h0:aA Tryz.checked.prog T0 166 (dD G0)) (h1:aA Tryz.checked.prog T0 190 (dJ G1)) (h2:aA Tryz.checked.prog T0 213 (dc G2)):aA Tryz.checked.prog T0 213 (dc (eK.step G0 G1 G2)):=bC aE (fn:=Tryz.f213) (c:=Tryz.f213.body.getD .skip) (dc (eK.step G0 G1 G2)) (.seq .leaf (.seq (.seq .leaf (.cond (.seq .leaf (.frz [9] .leaf)) .leaf)) (.seq (.seq .leaf (.cond (.seq .leaf (.frz [68537] .leaf)) .leaf)) (.seq .leaf (.seq .leaf (.seq .leaf (.seq .leaf (.frz [44] .leaf)))))))) [(166,some 19,(dD G0)),(191,some 11,dy),(191,some 17,dy),(191,some 21,dy),(191,some 37,dy),(192,some 15,fg),(213,some 13,(dc G2)),(228,some 28,gv),(228,some 41,gv)] (.cons h0 (.cons eD (.cons eD (.cons eD (.cons eD (.cons hJ (.cons h2 (.cons ly (.cons ly .nil))))))))) (by kernel_rfl) (by kernel_rfl) (by kernel_rfl) (fun xs=>by kernel_rfl)
def aj.g:Nat→Nat→List C→Option (List C)
 |0,_=>fun _=>none
 |k+1,0=>aj.step (aj.g k 0) (aj.g k 1) (aj.g k 2)
 |k+1,1=>cO.step (aj.g k 0) (aj.g k 1) (aj.g k 2)
 |k+1,2=>eK.step (aj.g k 0) (aj.g k 1) (aj.g k 2)
 |_,_=>fun _=>none
theorem cB:∀k:Nat,aA Tryz.checked.prog T0 166 (dD (aj.g k 0))∧aA Tryz.checked.prog T0 190 (dJ (aj.g k 1))∧aA Tryz.checked.prog T0 213 (dc (aj.g k 2))
 |0=>⟨jl (fn:=Tryz.f166) (c:=Tryz.f166.body.getD .skip) (1) (⟨[(0,(.pt 2000 0))],[(2000,.var 187 [(.d (.sl 9)),(.d (.int .i64)),(.d .bool)])]⟩) (⟨[(0,(.d (.sl 184)))],[(2000,.var 187 [(.d (.sl 9)),(.d (.int .i64)),(.d .bool)])]⟩) [2000] (by kernel_rfl) (by kernel_rfl) (by kernel_rfl),jl (fn:=Tryz.f190) (c:=Tryz.f190.body.getD .skip) (1) (⟨[(0,(.pt 2000 0))],[(2000,.var 187 [(.d (.sl 9)),(.d (.int .i64)),(.d .bool)])]⟩) (⟨[(0,(.d (.sl 184)))],[(2000,.var 187 [(.d (.sl 9)),(.d (.int .i64)),(.d .bool)])]⟩) [2000] (by kernel_rfl) (by kernel_rfl) (by kernel_rfl),jl (fn:=Tryz.f213) (c:=Tryz.f213.body.getD .skip) (1) (⟨[(0,(.pt 2000 0))],[(2000,.var 187 [(.d (.sl 9)),(.d (.int .i64)),(.d .bool)])]⟩) (⟨[(0,(.d (.sl 184)))],[(2000,.var 187 [(.d (.sl 9)),(.d (.int .i64)),(.d .bool)])]⟩) [2000] (by kernel_rfl) (by kernel_rfl) (by kernel_rfl)⟩
 |k+1=>⟨s8 (cB k).1 (cB k).2.1 (cB k).2.2,sa (cB k).1 (cB k).2.1 (cB k).2.2,sw (cB k).1 (cB k).2.1 (cB k).2.2⟩
def aj:List C→Option (List C):=aj.g ik 0
theorem tz:aA Tryz.checked.prog T0 166 (dD aj):=(cB ik).1
def cO:List C→Option (List C):=aj.g ik 1
def eK:List C→Option (List C):=aj.g ik 2
def fN.d1 (a:C):R:=(bif (decide ((a.S.size:Int)>200)) then (some (.ret [.l ao,.i 1])) else (call2 (az [a]) fun b c=>(bif (!b.B) then (some (.ret [.l ao,.i 2])) else (bif ((c.L.length:Int)==0) then (some (.ret [.l (rows [[.i 0,.s (bs #[]),.s (bs #[]),.i 0]]),.i 0])) else (call4 (aj [.l c.L,.i 0,.b false]) fun d e f g=>(bif (!g.B) then (bif (decide (f.I<(c.L.length:Int))) then (some (.ret [.l ao,.i 2])) else (ad (fC [d]) fun h=>(bif (!h.B) then (some (.ret [.l ao,.i 3])) else (some (.ret [d,.i 0]))))) else (some (.ret [.l ao,.i 2]))))))))
def fN:List C→Option (List C):=fun xs=>aZ (ap1 fN.d1 xs)
def iC:FS:=⟨1,⟨[(0,zt)],[]⟩,⟨[(0,(.tu [(.ag [(zl 184)]),zi]))],[]⟩,[],fN⟩
theorem oK:aA Tryz.checked.prog T0 136 iC:=bC aE (fn:=Tryz.f136) (c:=Tryz.f136.body.getD .skip) iC (.seq .leaf (.seq .leaf (.seq .leaf (.seq .leaf (.seq (.seq .leaf (.cond (.seq .leaf (.frz [24] .leaf)) .leaf)) (.seq .leaf (.seq (.frz [64440] .leaf) .leaf))))))) [(165,some 14,mM),(166,some 30,(dD aj)),(167,some 47,iX)] (.cons yd (.cons tz (.cons oF .nil))) (by kernel_rfl) (by kernel_rfl) (by kernel_rfl) (fun xs=>by kernel_rfl)
def fG.d1 (a:C):R:=(call2 (fN [a]) fun b c=>(some (.ret [.b (c.I==0)])))
def fG:List C→Option (List C):=fun xs=>aZ (ap1 fG.d1 xs)
def iD:FS:=⟨1,⟨[(0,zt)],[]⟩,⟨[(0,zo)],[]⟩,[],fG⟩
theorem oJ:aA Tryz.checked.prog T0 109 iD:=bC aE (fn:=Tryz.f109) (c:=Tryz.f109.body.getD .skip) iD .leaf [(136,some 7,iC)] (.cons oK .nil) (by kernel_rfl) (by kernel_rfl) (by kernel_rfl) (fun xs=>by kernel_rfl)
def bQ.d1 (a b c d e f g h i j k l m:C):R:=(bif (decide (a.I<(i.L.length:Int))) then (bif (decide (0≤a.I)) then (bif (decide (a.I<(i.L.length:Int))) then (ad (fG [((i.L.getD a.I.toNat []).getD 0 .nil)]) fun n=>(bif (!(!n.B)) then (bif (decide (0≤a.I)) then (bif (decide (a.I<(i.L.length:Int))) then (ad (gl [((i.L.getD a.I.toNat []).getD 1 .nil),.i (-9),.i 9]) fun o=>(bif (!o.B) then (some (.ret [.b false])) else (some (.again [.i (w64 (a.I+1)),b,c,d,e,f,g,h,i,j,k,l,m])))) else none) else none) else (some (.ret [.b false])))) else none) else none) else (some (.brk 0 [])))
def bQ.d2:R:=(some (.ret [.b true]))
def bQ.d3 (a b c d e f g h i j k l m:C):R:=(bif a.B then (some (.ret [.b false])) else (ai 0 (lim (oQ bQ.d1) [.i 0,b,c,d,e,f,g,h,i,j,k,l,m]) (fun xs=>bQ.d2)))
def bQ.d4 (a b c d e f g h i j k l:C):R:=(ad (ba [a]) fun m=>(bif (!(!m.B)) then (ad (ba [b]) fun n=>(bif (!(!n.B)) then (ad (gl [c,.i 0,.i 100]) fun o=>(bif (!(!o.B)) then (ad (gl [d,.i 0,.i 1000000]) fun p=>(bif (!(!p.B)) then (ad (gl [e,.i 0,.i 1000]) fun q=>(bif (!(!q.B)) then (ad (gl [f,.i 0,.i 1000]) fun r=>(bif (!r.B) then (some (.ret [.b false])) else (bd (ad (fG [g]) fun s=>(bif (!(!s.B)) then (bif (!(decide ((h.L.length:Int)>5))) then (ad (gl [i,.i 0,.i 2]) fun t=>(bif (!(!t.B)) then (bif (!(j.S.toList==(bs #[]).toList)) then (ad (ba [j]) fun u=>(bif (!(!u.B)) then (bif (!(k.S.toList==(bs #[]).toList)) then (ad (ba [k]) fun v=>(some (.nrm [.b (!v.B),a,b,c,d,e,f,g,h,i,j,k,l]))) else (some (.nrm [.b false,a,b,c,d,e,f,g,h,i,j,k,l]))) else (some (.nrm [.b true,a,b,c,d,e,f,g,h,i,j,k,l])))) else (bif (!(k.S.toList==(bs #[]).toList)) then (ad (ba [k]) fun w=>(some (.nrm [.b (!w.B),a,b,c,d,e,f,g,h,i,j,k,l]))) else (some (.nrm [.b false,a,b,c,d,e,f,g,h,i,j,k,l])))) else (some (.nrm [.b true,a,b,c,d,e,f,g,h,i,j,k,l])))) else (some (.nrm [.b true,a,b,c,d,e,f,g,h,i,j,k,l]))) else (some (.nrm [.b true,a,b,c,d,e,f,g,h,i,j,k,l])))) (oQ bQ.d3)))) else (some (.ret [.b false])))) else (some (.ret [.b false])))) else (some (.ret [.b false])))) else (some (.ret [.b false])))) else (some (.ret [.b false]))))
def bQ:List C→Option (List C):=fun xs=>aZ (jk bQ.d4 xs)
def mS:FS:=⟨1,⟨[(0,z3)],[]⟩,⟨[(0,zo)],[]⟩,[],bQ⟩
theorem xU:aA Tryz.checked.prog T0 60 mS:=bC aE (fn:=Tryz.f60) (c:=Tryz.f60.body.getD .skip) mS (.seq .leaf (.seq .leaf (.seq (.seq (.join ⟨[(1,(.pt 1 0)),(75,zo)],[(1,z1)]⟩ .leaf) .leaf) (.seq (.seq .leaf (.block ⟨[],[]⟩ (.loop ⟨[(1,(.pt 1 0)),(3,zi)],[(1,z1)]⟩ .leaf))) .leaf)))) [(58,some 6,cj),(58,some 11,cj),(58,some 61,cj),(58,some 72,cj),(59,some 17,eS),(59,some 23,eS),(59,some 29,eS),(59,some 35,eS),(59,some 51,eS),(59,some 98,eS),(109,some 40,iD),(109,some 89,iD)] (.cons cT (.cons cT (.cons cT (.cons cT (.cons fy (.cons fy (.cons fy (.cons fy (.cons fy (.cons fy (.cons oJ (.cons oJ .nil)))))))))))) (by kernel_rfl) (by kernel_rfl) (by kernel_rfl) (fun xs=>by kernel_rfl)
def cX.d1 (a b c d e f:C):R:=(bif (decide (b.I<(e.L.length:Int))) then (bif (decide (0≤b.I)) then (bif (decide (b.I<(e.L.length:Int))) then (bif ((((e.L.getD b.I.toNat []).getD 0 .nil).S).toList==a.S.toList) then (some (.ret [b])) else (some (.again [a,.i (w64 (b.I+1)),c,d,e,f]))) else none) else none) else (some (.brk 0 [])))
def cX.d2:R:=(some (.ret [.i (-1)]))
def cX.d3 (a b c d e:C):R:=(ai 0 (lim (ap6 cX.d1) [e,.i 0,a,b,c,d]) (fun xs=>cX.d2))
def cX:List C→Option (List C):=fun xs=>aZ (ap5 cX.d3 xs)
def lE:FS:=⟨2,⟨[(0,z2),(1,zt)],[]⟩,⟨[(0,zi)],[]⟩,[],cX⟩
theorem xL:aA Tryz.checked.prog T0 61 lE:=bC aE (fn:=Tryz.f61) (c:=Tryz.f61.body.getD .skip) lE (.seq .leaf (.seq (.seq .leaf (.block ⟨[],[]⟩ (.loop ⟨[(1,zt),(2,(.pt 2 0)),(5,zi)],[(2,z0)]⟩ .leaf))) .leaf)) [] .nil (by kernel_rfl) (by kernel_rfl) (by kernel_rfl) (fun xs=>by kernel_rfl)
def dh.d1 (a b c d e f:C):R:=(bif (decide (b.I<(d.L.length:Int))) then (bif (decide (0≤b.I)) then (bif (decide (b.I<(d.L.length:Int))) then (bif ((((d.L.getD b.I.toNat []).getD 0 .nil).S).toList==a.S.toList) then (some (.ret [b])) else (some (.again [a,.i (w64 (b.I+1)),c,d,e,f]))) else none) else none) else (some (.brk 0 [])))
def dh.d2:R:=(some (.ret [.i (-1)]))
def dh.d3 (a b c d e:C):R:=(ai 0 (lim (ap6 dh.d1) [e,.i 0,a,b,c,d]) (fun xs=>dh.d2))
def dh:List C→Option (List C):=fun xs=>aZ (ap5 dh.d3 xs)
def gq:FS:=⟨2,⟨[(0,z2),(1,zt)],[]⟩,⟨[(0,zi)],[]⟩,[],dh⟩
theorem jd:aA Tryz.checked.prog T0 56 gq:=bC aE (fn:=Tryz.f56) (c:=Tryz.f56.body.getD .skip) gq (.seq .leaf (.seq (.seq .leaf (.block ⟨[],[]⟩ (.loop ⟨[(1,zt),(2,(.pt 2 0)),(5,zi)],[(2,z0)]⟩ .leaf))) .leaf)) [] .nil (by kernel_rfl) (by kernel_rfl) (by kernel_rfl) (fun xs=>by kernel_rfl)
def bD.d1 (a b c d e f g h i:C):R:=(bif e.B then (bif (decide (0≤d.I)) then (bif (decide (d.I<(i.L.length:Int))) then (bif (decide (0≤d.I)) then (bif (decide (d.I<(i.L.length:Int))) then (some (.again [a,.i (w64 (b.I+((i.L.getD d.I.toNat []).getD 4 .nil).I)),.i (w64 (c.I+((i.L.getD d.I.toNat []).getD 5 .nil).I)),.i (w64 (d.I+1)),f,g,h,i])) else none) else none) else none) else none) else (some (.again [a,b,c,.i (w64 (d.I+1)),f,g,h,i])))
def bD.d2 (a b c d e f g h:C):R:=(bif (decide (d.I<(h.L.length:Int))) then (bd (bif (!(a.S.toList==(bs #[]).toList)) then (bif (decide (0≤d.I)) then (bif (decide (d.I<(h.L.length:Int))) then (some (.nrm [a,b,c,d,.b ((((h.L.getD d.I.toNat []).getD 11 .nil).S).toList==a.S.toList),e,f,g,h])) else none) else none) else (some (.nrm [a,b,c,d,.b false,e,f,g,h]))) (ap9 bD.d1)) else (some (.brk 0 [b,c])))
def bD.d3 (a b:C):R:=(some (.ret [a,b]))
def bD.d4 (a b c d e:C):R:=(ad (dh [a,b,c,d,e]) fun f=>(bif (decide (f.I<0)) then (some (.ret [.i 0,.i 0])) else (ai 0 (lim (ap8 bD.d2) [e,.i 0,.i 0,.i 0,a,b,c,d]) (ap2 bD.d3))))
def bD:List C→Option (List C):=fun xs=>aZ (ap5 bD.d4 xs)
def lY:FS:=⟨2,⟨[(0,z2),(1,zt)],[]⟩,⟨[(0,(.tu [zi,zi]))],[]⟩,[],bD⟩
theorem xo:aA Tryz.checked.prog T0 62 lY:=bC aE (fn:=Tryz.f62) (c:=Tryz.f62.body.getD .skip) lY (.seq .leaf (.seq .leaf (.seq .leaf (.seq .leaf (.seq (.seq .leaf (.block ⟨[(6,zi),(7,zi)],[]⟩ (.loop ⟨[(1,zt),(2,(.pt 2 0)),(6,zi),(7,zi),(8,zi)],[(2,z0)]⟩ (.seq .leaf (.seq (.skip (.seq (.join ⟨[(1,zt),(2,(.pt 2 0)),(6,zi),(7,zi),(8,zi),(31,zo)],[(2,z0)]⟩ .leaf) .leaf)) .leaf))))) .leaf))))) [(56,some 11,gq)] (.cons jd .nil) (by kernel_rfl) (by kernel_rfl) (by kernel_rfl) (fun xs=>by kernel_rfl)
def dQ.d1 (a b:C):R:=(bif (decide (b.I<(a.S.size:Int))) then (bif (decide (0≤b.I)) then (bif (decide (b.I<(a.S.size:Int))) then (bif (((a.S.data.getD b.I.toNat 0).toNat:Int)==61) then (bif (decide (0≤b.I)) then (bif (decide (b.I≤(a.S.size:Int))) then (bif (decide (0≤(w64 (b.I+1)))) then (bif (decide ((w64 (b.I+1))≤(a.S.size:Int))) then (bif (decide ((a.S.size:Int)≤(a.S.size:Int))) then (bif (decide (0≤b.I)) then (bif (decide (b.I≤(a.S.size:Int))) then (ad (ba [.s (a.S.extract 0 b.I.toNat)]) fun c=>(bif c.B then (bif (decide (0≤(w64 (b.I+1)))) then (bif (decide ((w64 (b.I+1))≤(a.S.size:Int))) then (bif (decide ((a.S.size:Int)≤(a.S.size:Int))) then (ad (ba [.s (a.S.extract (w64 (b.I+1)).toNat (a.S.size:Int).toNat)]) fun d=>(some (.ret [.s (a.S.extract 0 b.I.toNat),.s (a.S.extract (w64 (b.I+1)).toNat (a.S.size:Int).toNat),.b d.B]))) else none) else none) else none) else (some (.ret [.s (a.S.extract 0 b.I.toNat),.s (a.S.extract (w64 (b.I+1)).toNat (a.S.size:Int).toNat),.b false])))) else none) else none) else none) else none) else none) else none) else none) else (some (.again [a,.i (w64 (b.I+1))]))) else none) else none) else (some (.brk 0 [a])))
def dQ.d2 (a:C):R:=(ad (ba [a]) fun b=>(some (.ret [a,.s (bs #[]),.b b.B])))
def dQ.d3 (a:C):R:=(ai 0 (lim (ap2 dQ.d1) [a,.i 0]) (ap1 dQ.d2))
def dQ:List C→Option (List C):=fun xs=>aZ (ap1 dQ.d3 xs)
def kj:FS:=⟨1,⟨[(0,zt)],[]⟩,⟨[(0,(.tu [zt,zt,zo]))],[]⟩,[],dQ⟩
theorem oV:aA Tryz.checked.prog T0 139 kj:=bC aE (fn:=Tryz.f139) (c:=Tryz.f139.body.getD .skip) kj (.seq .leaf (.seq (.seq .leaf (.block ⟨[(0,zt)],[]⟩ (.loop ⟨[(0,zt),(5,zi)],[]⟩ .leaf))) .leaf)) [(58,some 26,cj),(58,some 32,cj),(58,some 36,cj)] (.cons cT (.cons cT (.cons cT .nil))) (by kernel_rfl) (by kernel_rfl) (by kernel_rfl) (fun xs=>by kernel_rfl)
def bc.d1 (a b c d:C):R:=(bif (decide (d.I<b.I)) then (bif (decide (0≤d.I)) then (bif (decide (d.I<(a.L.length:Int))) then (call3 (dQ [((a.L.getD d.I.toNat []).getD 0 .nil)]) fun e f g=>(bif (e.S.toList==c.S.toList) then (some (.ret [.b false])) else (some (.again [a,b,c,.i (w64 (d.I+1))])))) else none) else none) else (some (.brk 2 [a,b,c])))
def bc.d2 (a b c:C):R:=(some (.again [a,c,.i (w64 (b.I+1))]))
def bc.d3 (a b c:C):R:=(ai 2 (lim (ap4 bc.d1) [a,b,c,.i 0]) (ap3 bc.d2))
def bc.d4 (a b c:C):R:=(bif (decide (c.I<(a.L.length:Int))) then (bif (decide (0≤c.I)) then (bif (decide (c.I<(a.L.length:Int))) then (call3 (dQ [((a.L.getD c.I.toNat []).getD 0 .nil)]) fun d e f=>(bd (bif (!(!f.B)) then (bif (decide (c.I>0)) then (bif (decide (0≤(w64 (c.I-1)))) then (bif (decide ((w64 (c.I-1))<(a.L.length:Int))) then (bif (decide (0≤c.I)) then (bif (decide (c.I<(a.L.length:Int))) then (bif (!(!(Op.bytesLess (((a.L.getD (w64 (c.I-1)).toNat []).getD 0 .nil).S).toList (((a.L.getD c.I.toNat []).getD 0 .nil).S).toList))) then (bif (d.S.toList==b.S.toList) then (some (.ret [.b false])) else (some (.nrm [a,c,d]))) else (some (.ret [.b false]))) else none) else none) else none) else none) else (some (.nrm [a,c,d]))) else (some (.ret [.b false]))) (ap3 bc.d3))) else none) else none) else (some (.brk 0 [])))
def bc.d5:R:=(some (.ret [.b true]))
def bc.d6 (a:C):R:=(bif (decide ((a.L.length:Int)>10)) then (some (.ret [.b false])) else (ai 0 (lim (ap3 bc.d4) [a,.s (bs #[]),.i 0]) (fun xs=>bc.d5)))
def bc:List C→Option (List C):=fun xs=>aZ (ap1 bc.d6 xs)
def lP:FS:=⟨1,⟨[(0,(zl 9))],[]⟩,⟨[(0,zo)],[]⟩,[],bc⟩
theorem wR:aA Tryz.checked.prog T0 110 lP:=bC aE (fn:=Tryz.f110) (c:=Tryz.f110.body.getD .skip) lP (.seq .leaf (.seq .leaf (.seq .leaf (.seq (.seq .leaf (.block ⟨[],[]⟩ (.loop ⟨[(0,(zl 9)),(3,zt),(4,zi)],[]⟩ (.seq .leaf (.seq (.skip (.seq .leaf (.seq (.join ⟨[(0,(zl 9)),(4,zi),(5,zt)],[]⟩ .leaf) (.seq (.seq .leaf (.block ⟨[(0,(zl 9)),(4,zi),(5,zt)],[]⟩ (.loop ⟨[(0,(zl 9)),(4,zi),(5,zt),(8,zi)],[]⟩ .leaf))) .leaf)))) .leaf))))) .leaf)))) [(139,some 26,kj),(139,some 63,kj)] (.cons oV (.cons oV .nil)) (by kernel_rfl) (by kernel_rfl) (by kernel_rfl) (fun xs=>by kernel_rfl)
def gQ.d1 (a b c d e f:C):R:=(ad (ba [a]) fun g=>(bif g.B then (ad (ba [b]) fun h=>(bif h.B then (ad (bc [c]) fun i=>(bif i.B then (ad (gl [d,.i 0,.i 1000]) fun j=>(bif j.B then (ad (gl [e,.i 0,.i 1000]) fun k=>(some (.ret [.b k.B]))) else (some (.ret [.b false])))) else (some (.ret [.b false])))) else (some (.ret [.b false])))) else (some (.ret [.b false]))))
def gQ:List C→Option (List C):=fun xs=>aZ (ap6 gQ.d1 xs)
def lF:FS:=⟨1,⟨[(0,z8)],[]⟩,⟨[(0,zo)],[]⟩,[],gQ⟩
theorem xd:aA Tryz.checked.prog T0 63 lF:=bC aE (fn:=Tryz.f63) (c:=Tryz.f63.body.getD .skip) lF .leaf [(58,some 5,cj),(58,some 9,cj),(59,some 19,eS),(59,some 24,eS),(110,some 14,lP)] (.cons cT (.cons cT (.cons fy (.cons fy (.cons wR .nil))))) (by kernel_rfl) (by kernel_rfl) (by kernel_rfl) (fun xs=>by kernel_rfl)
def ek.d1 (a b c d e f g:C):R:=(bif (decide (c.I<(g.L.length:Int))) then (bif (decide (0≤c.I)) then (bif (decide (c.I<(g.L.length:Int))) then (bif ((((g.L.getD c.I.toNat []).getD 11 .nil).S).toList==a.S.toList) then (some (.again [a,.i (w64 (b.I+1)),.i (w64 (c.I+1)),d,e,f,g])) else (some (.again [a,b,.i (w64 (c.I+1)),d,e,f,g]))) else none) else none) else (some (.brk 0 [b])))
def ek.d2 (a:C):R:=(some (.ret [a]))
def ek.d3 (a b c d e:C):R:=(ai 0 (lim (ap7 ek.d1) [e,.i 0,.i 0,a,b,c,d]) (ap1 ek.d2))
def ek:List C→Option (List C):=fun xs=>aZ (ap5 ek.d3 xs)
def oE:FS:=⟨2,⟨[(0,z2),(1,zt)],[]⟩,⟨[(0,zi)],[]⟩,[],ek⟩
theorem Ap:aA Tryz.checked.prog T0 64 oE:=bC aE (fn:=Tryz.f64) (c:=Tryz.f64.body.getD .skip) oE (.seq .leaf (.seq .leaf (.seq (.seq .leaf (.block ⟨[(5,zi)],[]⟩ (.loop ⟨[(1,zt),(2,(.pt 2 0)),(5,zi),(6,zi)],[(2,z0)]⟩ .leaf))) .leaf))) [] .nil (by kernel_rfl) (by kernel_rfl) (by kernel_rfl) (fun xs=>by kernel_rfl)
def aw.d1 (a b c d e:C):R:=(bif (decide (a.I<(d.L.length:Int))) then (bif (decide (0≤a.I)) then (bif (decide (a.I<(d.L.length:Int))) then (ad (ba [((d.L.getD a.I.toNat []).getD 0 .nil)]) fun f=>(bif (!(!f.B)) then (bif (decide (a.I>0)) then (bif (decide (0≤(w64 (a.I-1)))) then (bif (decide ((w64 (a.I-1))<(d.L.length:Int))) then (bif (!(!(Op.bytesLess (((d.L.getD (w64 (a.I-1)).toNat []).getD 0 .nil).S).toList (((d.L.getD a.I.toNat []).getD 0 .nil).S).toList))) then (ad (gl [((d.L.getD a.I.toNat []).getD 1 .nil),.i 0,.i 60]) fun g=>(bif (!g.B) then (some (.ret [.b false])) else (some (.again [.i (w64 (a.I+1)),b,c,d,e])))) else (some (.ret [.b false]))) else none) else none) else (ad (gl [((d.L.getD a.I.toNat []).getD 1 .nil),.i 0,.i 60]) fun h=>(bif (!h.B) then (some (.ret [.b false])) else (some (.again [.i (w64 (a.I+1)),b,c,d,e]))))) else (some (.ret [.b false])))) else none) else none) else (some (.brk 0 [b,c,d,e])))
def aw.d2 (a b c d e f:C):R:=(bif b.B then (some (.ret [.b false])) else (some (.again [.i (w64 (a.I+1)),c,d,e,f])))
def aw.d3 (a b c d e:C):R:=(bif (decide (a.I<(e.L.length:Int))) then (bif (decide (0≤a.I)) then (bif (decide (a.I<(e.L.length:Int))) then (bd (ad (bQ [((e.L.getD a.I.toNat []).getD 0 .nil),((e.L.getD a.I.toNat []).getD 1 .nil),((e.L.getD a.I.toNat []).getD 2 .nil),((e.L.getD a.I.toNat []).getD 3 .nil),((e.L.getD a.I.toNat []).getD 4 .nil),((e.L.getD a.I.toNat []).getD 5 .nil),((e.L.getD a.I.toNat []).getD 6 .nil),((e.L.getD a.I.toNat []).getD 7 .nil),((e.L.getD a.I.toNat []).getD 8 .nil),((e.L.getD a.I.toNat []).getD 9 .nil),((e.L.getD a.I.toNat []).getD 10 .nil),((e.L.getD a.I.toNat []).getD 11 .nil)]) fun f=>(bif (!(!f.B)) then (bif (decide (a.I>0)) then (bif (decide (0≤(w64 (a.I-1)))) then (bif (decide ((w64 (a.I-1))<(e.L.length:Int))) then (bif (!(!(Op.bytesLess (((e.L.getD (w64 (a.I-1)).toNat []).getD 0 .nil).S).toList (((e.L.getD a.I.toNat []).getD 0 .nil).S).toList))) then (ad (cX [b,c,d,e,((e.L.getD a.I.toNat []).getD 1 .nil)]) fun g=>(bif (!(decide (g.I<0))) then (bif (!((((e.L.getD a.I.toNat []).getD 11 .nil).S).toList==(bs #[]).toList)) then (ad (dh [b,c,d,e,((e.L.getD a.I.toNat []).getD 11 .nil)]) fun h=>(some (.nrm [a,.b (decide (h.I<0)),b,c,d,e]))) else (some (.nrm [a,.b false,b,c,d,e]))) else (some (.nrm [a,.b true,b,c,d,e])))) else (some (.nrm [a,.b true,b,c,d,e]))) else none) else none) else (ad (cX [b,c,d,e,((e.L.getD a.I.toNat []).getD 1 .nil)]) fun i=>(bif (!(decide (i.I<0))) then (bif (!((((e.L.getD a.I.toNat []).getD 11 .nil).S).toList==(bs #[]).toList)) then (ad (dh [b,c,d,e,((e.L.getD a.I.toNat []).getD 11 .nil)]) fun j=>(some (.nrm [a,.b (decide (j.I<0)),b,c,d,e]))) else (some (.nrm [a,.b false,b,c,d,e]))) else (some (.nrm [a,.b true,b,c,d,e]))))) else (some (.nrm [a,.b true,b,c,d,e])))) (ap6 aw.d2)) else none) else none) else (some (.brk 2 [b,c,d,e])))
def aw.d4 (a b c d e:C):R:=(bif (decide (a.I<(c.L.length:Int))) then (bif (decide (0≤a.I)) then (bif (decide (a.I<(c.L.length:Int))) then (call2 (bD [b,c,d,e,((c.L.getD a.I.toNat []).getD 0 .nil)]) fun f g=>(ad (gQ [((c.L.getD a.I.toNat []).getD 0 .nil),((c.L.getD a.I.toNat []).getD 1 .nil),((c.L.getD a.I.toNat []).getD 2 .nil),((c.L.getD a.I.toNat []).getD 3 .nil),((c.L.getD a.I.toNat []).getD 4 .nil),((c.L.getD a.I.toNat []).getD 5 .nil)]) fun h=>(bif (!(!h.B)) then (bif (decide (a.I>0)) then (bif (decide (0≤(w64 (a.I-1)))) then (bif (decide ((w64 (a.I-1))<(c.L.length:Int))) then (bif (!(!(Op.bytesLess (((c.L.getD (w64 (a.I-1)).toNat []).getD 0 .nil).S).toList (((c.L.getD a.I.toNat []).getD 0 .nil).S).toList))) then (bif (!(decide (f.I>((c.L.getD a.I.toNat []).getD 3 .nil).I))) then (bif (!(decide (g.I>((c.L.getD a.I.toNat []).getD 4 .nil).I))) then (ad (ek [b,c,d,e,((c.L.getD a.I.toNat []).getD 0 .nil)]) fun i=>(bif (decide (i.I>10)) then (some (.ret [.b false])) else (some (.again [.i (w64 (a.I+1)),b,c,d,e])))) else (some (.ret [.b false]))) else (some (.ret [.b false]))) else (some (.ret [.b false]))) else none) else none) else (bif (!(decide (f.I>((c.L.getD a.I.toNat []).getD 3 .nil).I))) then (bif (!(decide (g.I>((c.L.getD a.I.toNat []).getD 4 .nil).I))) then (ad (ek [b,c,d,e,((c.L.getD a.I.toNat []).getD 0 .nil)]) fun j=>(bif (decide (j.I>10)) then (some (.ret [.b false])) else (some (.again [.i (w64 (a.I+1)),b,c,d,e])))) else (some (.ret [.b false]))) else (some (.ret [.b false])))) else (some (.ret [.b false]))))) else none) else none) else (some (.brk 4 [])))
def aw.d5:R:=(some (.ret [.b true]))
def aw.d6 (a b c d:C):R:=(ai 4 (lim (ap5 aw.d4) [.i 0,a,b,c,d]) (fun xs=>aw.d5))
def aw.d7 (a b c d:C):R:=(ai 2 (lim (ap5 aw.d3) [.i 0,a,b,c,d]) (ap4 aw.d6))
def aw.d8 (a b c d:C):R:=(bif (!(decide ((b.L.length:Int)>12))) then (bif (!(decide ((c.L.length:Int)>30))) then (bif (decide ((d.L.length:Int)>60)) then (some (.ret [.b false])) else (ai 0 (lim (ap5 aw.d1) [.i 0,a,b,c,d]) (ap4 aw.d7))) else (some (.ret [.b false]))) else (some (.ret [.b false])))
def aw:List C→Option (List C):=fun xs=>aZ (ap4 aw.d8 xs)
def fB:FS:=⟨1,⟨[(0,z2)],[]⟩,⟨[(0,zo)],[]⟩,[],aw⟩
theorem iG:aA Tryz.checked.prog T0 15 fB:=bC aE (fn:=Tryz.f15) (c:=Tryz.f15.body.getD .skip) fB (.seq .leaf (.seq .leaf (.seq (.seq .leaf (.block ⟨[(1,(.pt 1 0))],[(1,z0)]⟩ (.loop ⟨[(1,(.pt 1 0)),(3,zi)],[(1,z0)]⟩ .leaf))) (.seq (.seq .leaf (.block ⟨[(1,(.pt 1 0))],[(1,z0)]⟩ (.loop ⟨[(1,(.pt 1 0)),(5,zi)],[(1,z0)]⟩ (.seq .leaf (.seq (.skip (.seq .leaf (.seq (.join ⟨[(1,(.pt 1 0)),(5,zi),(114,zo)],[(1,z0)]⟩ .leaf) .leaf))) .leaf))))) (.seq (.seq .leaf (.block ⟨[],[]⟩ (.loop ⟨[(1,(.pt 1 0)),(7,zi)],[(1,z0)]⟩ .leaf))) .leaf))))) [(56,some 111,gq),(58,some 41,cj),(59,some 62,eS),(60,some 78,mS),(61,some 100,lE),(62,some 131,lY),(63,some 135,lF),(64,some 169,oE)] (.cons jd (.cons cT (.cons fy (.cons xU (.cons xL (.cons xo (.cons xd (.cons Ap .nil)))))))) (by kernel_rfl) (by kernel_rfl) (by kernel_rfl) (fun xs=>by kernel_rfl)
def gh.d1 (a b c d e f:C):R:=(bif (decide (ao.length+c.L.length≤4294967296)) then (some (.ret [a,b,d,e,f,.l (ao++c.L)])) else none)
def gh:List C→Option (List C):=fun xs=>aZ (ap6 gh.d1 xs)
def iZ:FS:=⟨1,⟨[(0,z8)],[]⟩,⟨[(0,(.ag [zt,zt,(.ow 3000),zi,zi,zo]))],[(3000,.arr 9 1)]⟩,[],gh⟩
theorem oX:aA Tryz.checked.prog T0 123 iZ:=bC aE (fn:=Tryz.f123) (c:=Tryz.f123.body.getD .skip) iZ .leaf [] .nil (by kernel_rfl) (by kernel_rfl) (by kernel_rfl) (fun xs=>by kernel_rfl)
def gV.d1 (a b c d e f g h i j k l:C):R:=(bif (decide (ao.length+h.L.length≤4294967296)) then (some (.ret [a,b,c,d,e,f,g,i,j,k,l,.l (ao++h.L)])) else none)
def gV:List C→Option (List C):=fun xs=>aZ (jk gV.d1 xs)
def j7:FS:=⟨1,⟨[(0,z3)],[]⟩,⟨[(0,(.ag [zt,zt,zi,zi,zi,zi,zt,(.ow 3000),zi,zt,zt,zt]))],[(3000,.arr 109 1)]⟩,[],gV⟩
theorem qN:aA Tryz.checked.prog T0 124 j7:=bC aE (fn:=Tryz.f124) (c:=Tryz.f124.body.getD .skip) j7 .leaf [] .nil (by kernel_rfl) (by kernel_rfl) (by kernel_rfl) (fun xs=>by kernel_rfl)
def bU.d1 (a b c d e f g h i j k l m:C):R:=(bif (decide (a.I<(c.L.length:Int))) then (bif (decide (0≤a.I)) then (bif (decide (a.I<(c.L.length:Int))) then (call6 (gh [((c.L.getD a.I.toNat []).getD 0 .nil),((c.L.getD a.I.toNat []).getD 1 .nil),((c.L.getD a.I.toNat []).getD 2 .nil),((c.L.getD a.I.toNat []).getD 3 .nil),((c.L.getD a.I.toNat []).getD 4 .nil),((c.L.getD a.I.toNat []).getD 5 .nil)]) fun n o p q r s=>(bif (decide (k.L.length+(rows [[n,o,.l s.L,p,q,r]]).length≤4294967296)) then (some (.again [.i (w64 (a.I+1)),b,c,d,e,f,g,.l h.L,.l i.L,.l j.L,.l (k.L++(rows [[n,o,.l s.L,p,q,r]])),.l l.L,.l m.L])) else none)) else none) else none) else (some (.brk 0 [b,c,d,e,f,g,.l h.L,.l i.L,.l j.L,.l k.L,.l l.L,.l m.L])))
def bU.d2 (a b c d e f g h i j k l m:C):R:=(bif (decide (a.I<(e.L.length:Int))) then (bif (decide (0≤a.I)) then (bif (decide (a.I<(e.L.length:Int))) then (call12 (gV [((e.L.getD a.I.toNat []).getD 0 .nil),((e.L.getD a.I.toNat []).getD 1 .nil),((e.L.getD a.I.toNat []).getD 2 .nil),((e.L.getD a.I.toNat []).getD 3 .nil),((e.L.getD a.I.toNat []).getD 4 .nil),((e.L.getD a.I.toNat []).getD 5 .nil),((e.L.getD a.I.toNat []).getD 6 .nil),((e.L.getD a.I.toNat []).getD 7 .nil),((e.L.getD a.I.toNat []).getD 8 .nil),((e.L.getD a.I.toNat []).getD 9 .nil),((e.L.getD a.I.toNat []).getD 10 .nil),((e.L.getD a.I.toNat []).getD 11 .nil)]) fun n o p q r s t u v w x y=>(bif (decide (m.L.length+(rows [[n,o,p,q,r,s,t,.l y.L,u,v,w,x]]).length≤4294967296)) then (some (.again [.i (w64 (a.I+1)),b,c,d,e,f,g,.l h.L,.l i.L,.l j.L,.l k.L,.l l.L,.l (m.L++(rows [[n,o,p,q,r,s,t,.l y.L,u,v,w,x]]))])) else none)) else none) else none) else (some (.brk 2 [f,g,.l h.L,.l i.L,.l j.L,.l k.L,.l l.L,.l m.L])))
def bU.d3 (a b c d e f g h:C):R:=(some (.ret [b,.l f.L,.l g.L,.l h.L]))
def bU.d4 (a b c d e f g h i j k l:C):R:=(ai 2 (lim (oQ bU.d2) [.i 0,a,b,c,d,e,f,.l g.L,.l h.L,.l i.L,.l j.L,.l k.L,.l l.L]) (ap8 bU.d3))
def bU.d5 (a b c d:C):R:=(bif (decide (ao.length+c.L.length≤4294967296)) then (ai 0 (lim (oQ bU.d1) [.i 0,a,b,c,d,.b false,.b a.B,.l ao,.l ao,.l ao,.l ao,.l (ao++c.L),.l ao]) (jk bU.d4)) else none)
def bU:List C→Option (List C):=fun xs=>aZ (ap4 bU.d5 xs)
def jc:FS:=⟨1,⟨[(0,z2)],[]⟩,⟨[(0,z11)],[(3000,.arr 37 1),(3001,.arr 60 1),(3002,.arr 45 1)]⟩,[],bU⟩
theorem oc:aA Tryz.checked.prog T0 85 jc:=oZ aE [28,46] false (fn:=Tryz.f85) (c:=Tryz.f85.body.getD .skip) jc (.seq .leaf (.seq .leaf (.seq (.seq .leaf (.block ⟨[(1,(.pt 1 0)),(2,(.pt 2 0)),(3,(.pt 3 0))],[(1,z0),(2,z13),(3,.var 27 [zo,(.ow 1148503),(.ow 8),(.ow 1148504)]),(1148500,.arr 37 1),(1148501,.arr 60 1),(1148502,.arr 45 1),(1148503,.arr 37 1),(8,.arr 60 1),(1148504,.arr 45 1)]⟩ (.loop ⟨[(1,(.pt 1 0)),(2,(.pt 2 0)),(3,(.pt 3 0)),(4,zi)],[(1,z0),(2,z13),(3,.var 27 [zo,(.ow 1148503),(.ow 8),(.ow 1148504)]),(1148500,.arr 37 1),(1148501,.arr 60 1),(1148502,.arr 45 1),(1148503,.arr 37 1),(8,.arr 60 1),(1148504,.arr 45 1)]⟩ .leaf))) (.seq (.seq .leaf (.block ⟨[(2,(.pt 2 0)),(3,(.pt 3 0))],[(2,z13),(3,.var 27 [zo,(.ow 1148503),(.ow 8),(.ow 1148504)]),(1148500,.arr 37 1),(1148501,.arr 60 1),(1148502,.arr 45 1),(1148503,.arr 37 1),(8,.arr 60 1),(1148504,.arr 45 1)]⟩ (.loop ⟨[(1,(.pt 1 0)),(2,(.pt 2 0)),(3,(.pt 3 0)),(5,zi)],[(1,z0),(2,z13),(3,.var 27 [zo,(.ow 1148503),(.ow 8),(.ow 1148504)]),(1148500,.arr 37 1),(1148501,.arr 60 1),(1148502,.arr 45 1),(1148503,.arr 37 1),(8,.arr 60 1),(1148504,.arr 45 1)]⟩ .leaf))) .leaf)))) [(123,some 27,iZ),(124,some 45,j7)] (.cons oX (.cons qN .nil)) (by kernel_rfl) (by kernel_rfl) (by kernel_rfl) (fun xs=>by kernel_rfl)
def ew.d1 (a b c d e f:C):R:=(bif (decide (b.I<(f.L.length:Int))) then (bif (decide (0≤b.I)) then (bif (decide (b.I<(f.L.length:Int))) then (bif ((((f.L.getD b.I.toNat []).getD 0 .nil).S).toList==a.S.toList) then (some (.ret [b])) else (some (.again [a,.i (w64 (b.I+1)),c,d,e,f]))) else none) else none) else (some (.brk 0 [])))
def ew.d2:R:=(some (.ret [.i (-1)]))
def ew.d3 (a b c d e:C):R:=(ai 0 (lim (ap6 ew.d1) [e,.i 0,a,b,c,d]) (fun xs=>ew.d2))
def ew:List C→Option (List C):=fun xs=>aZ (ap5 ew.d3 xs)
def iQ:FS:=⟨2,⟨[(0,z2),(1,zt)],[]⟩,⟨[(0,zi)],[]⟩,[],ew⟩
theorem l7:aA Tryz.checked.prog T0 55 iQ:=bC aE (fn:=Tryz.f55) (c:=Tryz.f55.body.getD .skip) iQ (.seq .leaf (.seq (.seq .leaf (.block ⟨[],[]⟩ (.loop ⟨[(1,zt),(2,(.pt 2 0)),(5,zi)],[(2,z0)]⟩ .leaf))) .leaf)) [] .nil (by kernel_rfl) (by kernel_rfl) (by kernel_rfl) (fun xs=>by kernel_rfl)
end
end Go.Ev
namespace Go.Ev
open Go.Proofs
noncomputable section
def aF.d1 (a b c d e f g h i j k l m n o p q r s t u v w x y z a0 a1 a2 a3:C):R:=(bif (decide (a.I<(a1.L.length:Int))) then (bif (decide (0≤a.I)) then (bif (decide (a.I<(a1.L.length:Int))) then (bif (Op.bytesLess (((a1.L.getD a.I.toNat []).getD 0 .nil).S).toList c.S.toList) then (some (.again [.i (w64 (a.I+1)),b,c,d,e,f,g,h,i,j,k,l,m,n,o,p,q,r,s,t,u,v,w,x,.l y.L,.l z.L,.l a0.L,.l a1.L,.l a2.L,.l a3.L])) else (some (.brk 1 [a,b,c,d,e,f,g,h,i,j,k,l,m,n,o,p,q,r,s,t,u,v,w,x,.l y.L,.l z.L,.l a0.L,.l a1.L,.l a2.L,.l a3.L]))) else none) else none) else (some (.brk 1 [a,b,c,d,e,f,g,h,i,j,k,l,m,n,o,p,q,r,s,t,u,v,w,x,.l y.L,.l z.L,.l a0.L,.l a1.L,.l a2.L,.l a3.L])))
def aF.d2 (a b c d e f g h i j k l m n o p q r s t u v w x y z a0 a1 a2 a3 a4:C):R:=(bif (decide (0≤a.I)) then (bif (decide (a.I≤(z.L.length:Int))) then (bif (decide (ao.length+((z.L.take a.I.toNat).drop 0).length≤4294967296)) then (call6 (gh [d,e,f,g,h,i]) fun a5 a6 a7 a8 a9 b0=>(bif (decide ((ao++((z.L.take a.I.toNat).drop 0)).length+(rows [[a5,a6,.l b0.L,a7,a8,a9]]).length≤4294967296)) then (bif (decide (((ao++((z.L.take a.I.toNat).drop 0))++(rows [[a5,a6,.l b0.L,a7,a8,a9]])).length+b.L.length≤4294967296)) then (some (.ret [y,.b true,.l (((ao++((z.L.take a.I.toNat).drop 0))++(rows [[a5,a6,.l b0.L,a7,a8,a9]]))++b.L),.l a3.L,.l a4.L])) else none) else none)) else none) else none) else none)
def aF.d3 (a b c d e f g h i j k l m n o p q r s t u v w x y z a0 a1 a2 a3:C):R:=(bif (decide (0≤a.I)) then (bif (decide (a.I≤(a1.L.length:Int))) then (bif (decide ((a1.L.length:Int)≤(a1.L.length:Int))) then (bd (bif (decide ((((a1.L.take (a1.L.length:Int).toNat).drop a.I.toNat).length:Int)>0)) then (bif (decide (0<(((a1.L.take (a1.L.length:Int).toNat).drop a.I.toNat).length:Int))) then (bif ((((((a1.L.take (a1.L.length:Int).toNat).drop a.I.toNat).getD 0 []).getD 0 .nil).S).toList==c.S.toList) then (bif (decide (1≤(((a1.L.take (a1.L.length:Int).toNat).drop a.I.toNat).length:Int))) then (bif (decide ((((a1.L.take (a1.L.length:Int).toNat).drop a.I.toNat).length:Int)≤(((a1.L.take (a1.L.length:Int).toNat).drop a.I.toNat).length:Int))) then (some (.nrm [a,.l ((((a1.L.take (a1.L.length:Int).toNat).drop a.I.toNat).take (((a1.L.take (a1.L.length:Int).toNat).drop a.I.toNat).length:Int).toNat).drop 1),b,c,d,e,f,g,h,i,j,k,l,m,n,o,p,q,r,s,t,u,v,w,x,.l a1.L,.l y.L,.l z.L,.l a0.L,.l a2.L,.l a3.L])) else none) else none) else (some (.nrm [a,.l ((a1.L.take (a1.L.length:Int).toNat).drop a.I.toNat),b,c,d,e,f,g,h,i,j,k,l,m,n,o,p,q,r,s,t,u,v,w,x,.l a1.L,.l y.L,.l z.L,.l a0.L,.l a2.L,.l a3.L]))) else none) else (some (.nrm [a,.l ((a1.L.take (a1.L.length:Int).toNat).drop a.I.toNat),b,c,d,e,f,g,h,i,j,k,l,m,n,o,p,q,r,s,t,u,v,w,x,.l a1.L,.l y.L,.l z.L,.l a0.L,.l a2.L,.l a3.L]))) (rr aF.d2)) else none) else none) else none)
def aF.d4 (a b c d e f g h i j k l m n o p q r s t u v w x y z a0 a1 a2 a3:C):R:=(bif (decide (a.I<(a3.L.length:Int))) then (bif (decide (0≤a.I)) then (bif (decide (a.I<(a3.L.length:Int))) then (bif ((((a3.L.getD a.I.toNat []).getD 11 .nil).S).toList==u.S.toList) then (bif (decide (0≤a.I)) then (bif (decide (a.I<(a3.L.length:Int))) then (some (.again [.i (w64 (a.I+1)),b,c,d,e,f,g,h,i,j,k,l,m,n,o,p,q,r,s,t,u,v,w,x,.l y.L,.l z.L,.l a0.L,.l a1.L,.l a2.L,.l (a3.L.set a.I.toNat (aL (a3.L.getD a.I.toNat []) 11 [.s (bs #[])]))])) else none) else none) else (some (.again [.i (w64 (a.I+1)),b,c,d,e,f,g,h,i,j,k,l,m,n,o,p,q,r,s,t,u,v,w,x,.l y.L,.l z.L,.l a0.L,.l a1.L,.l a2.L,.l a3.L]))) else none) else none) else (some (.brk 3 [w,x,.l y.L,.l z.L,.l a0.L,.l a1.L,.l a2.L,.l a3.L])))
def aF.d5 (a b c d e f g h:C):R:=(some (.ret [b,.b true,.l f.L,.l g.L,.l h.L]))
def aF.d6 (a b c d e f g h i j k l m n o p q r s t u v w x y z a0 a1 a2 a3:C):R:=(bif (decide (a.I<(a3.L.length:Int))) then (bif (decide (0≤a.I)) then (bif (decide (a.I<(a3.L.length:Int))) then (bif (Op.bytesLess (((a3.L.getD a.I.toNat []).getD 0 .nil).S).toList i.S.toList) then (some (.again [.i (w64 (a.I+1)),b,c,d,e,f,g,h,i,j,k,l,m,n,o,p,q,r,s,t,u,v,w,x,.l y.L,.l z.L,.l a0.L,.l a1.L,.l a2.L,.l a3.L])) else (some (.brk 5 [a,b,c,d,e,f,g,h,i,j,k,l,m,n,o,p,q,r,s,t,u,v,w,x,.l y.L,.l z.L,.l a0.L,.l a1.L,.l a2.L,.l a3.L]))) else none) else none) else (some (.brk 5 [a,b,c,d,e,f,g,h,i,j,k,l,m,n,o,p,q,r,s,t,u,v,w,x,.l y.L,.l z.L,.l a0.L,.l a1.L,.l a2.L,.l a3.L])))
def aF.d7 (a b c d e f g h i j k l m n o p q r s t u v w x y z a0 a1 a2 a3 a4:C):R:=(bif (decide (0≤a.I)) then (bif (decide (a.I≤(z.L.length:Int))) then (bif (decide (ao.length+((z.L.take a.I.toNat).drop 0).length≤4294967296)) then (call12 (gV [j,k,l,m,n,o,p,q,r,s,t,u]) fun a5 a6 a7 a8 a9 b0 b1 b2 b3 b4 b5 b6=>(bif (decide ((ao++((z.L.take a.I.toNat).drop 0)).length+(rows [[a5,a6,a7,a8,a9,b0,b1,.l b6.L,b2,b3,b4,b5]]).length≤4294967296)) then (bif (decide (((ao++((z.L.take a.I.toNat).drop 0))++(rows [[a5,a6,a7,a8,a9,b0,b1,.l b6.L,b2,b3,b4,b5]])).length+b.L.length≤4294967296)) then (some (.ret [y,.b true,.l a3.L,.l a4.L,.l (((ao++((z.L.take a.I.toNat).drop 0))++(rows [[a5,a6,a7,a8,a9,b0,b1,.l b6.L,b2,b3,b4,b5]]))++b.L)])) else none) else none)) else none) else none) else none)
def aF.d8 (a b c d e f g h i j k l m n o p q r s t u v w x y z a0 a1 a2 a3:C):R:=(bif (decide (0≤a.I)) then (bif (decide (a.I≤(a3.L.length:Int))) then (bif (decide ((a3.L.length:Int)≤(a3.L.length:Int))) then (bd (bif (decide ((((a3.L.take (a3.L.length:Int).toNat).drop a.I.toNat).length:Int)>0)) then (bif (decide (0<(((a3.L.take (a3.L.length:Int).toNat).drop a.I.toNat).length:Int))) then (bif ((((((a3.L.take (a3.L.length:Int).toNat).drop a.I.toNat).getD 0 []).getD 0 .nil).S).toList==i.S.toList) then (bif (decide (1≤(((a3.L.take (a3.L.length:Int).toNat).drop a.I.toNat).length:Int))) then (bif (decide ((((a3.L.take (a3.L.length:Int).toNat).drop a.I.toNat).length:Int)≤(((a3.L.take (a3.L.length:Int).toNat).drop a.I.toNat).length:Int))) then (some (.nrm [a,.l ((((a3.L.take (a3.L.length:Int).toNat).drop a.I.toNat).take (((a3.L.take (a3.L.length:Int).toNat).drop a.I.toNat).length:Int).toNat).drop 1),b,c,d,e,f,g,h,i,j,k,l,m,n,o,p,q,r,s,t,u,v,w,x,.l a3.L,.l y.L,.l z.L,.l a0.L,.l a1.L,.l a2.L])) else none) else none) else (some (.nrm [a,.l ((a3.L.take (a3.L.length:Int).toNat).drop a.I.toNat),b,c,d,e,f,g,h,i,j,k,l,m,n,o,p,q,r,s,t,u,v,w,x,.l a3.L,.l y.L,.l z.L,.l a0.L,.l a1.L,.l a2.L]))) else none) else (some (.nrm [a,.l ((a3.L.take (a3.L.length:Int).toNat).drop a.I.toNat),b,c,d,e,f,g,h,i,j,k,l,m,n,o,p,q,r,s,t,u,v,w,x,.l a3.L,.l y.L,.l z.L,.l a0.L,.l a1.L,.l a2.L]))) (rr aF.d7)) else none) else none) else none)
def aF.d9 (a b c d e f g h i j k l m n o p q r s t u v w x y:C):R:=(call4 (bU [a,b,c,d]) fun z a0 a1 a2=>(bif (e.I==1) then (ai 1 (lim (tD aF.d1) [.i 0,e,f,g,h,i,j,k,l,m,n,o,p,q,r,s,t,u,v,w,x,y,.b false,z,.l ao,.l ao,.l ao,.l a0.L,.l a1.L,.l a2.L]) (tD aF.d3)) else (bif (e.I==2) then (ad (dh [z,.l a0.L,.l a1.L,.l a2.L,x]) fun a3=>(bif (decide (a3.I<0)) then (some (.ret [z,.b false,.l a0.L,.l a1.L,.l a2.L])) else (bif (decide (0≤a3.I)) then (bif (decide (a3.I≤(a0.L.length:Int))) then (bif (decide (ao.length+((a0.L.take a3.I.toNat).drop 0).length≤4294967296)) then (bif (decide (0≤(w64 (a3.I+1)))) then (bif (decide ((w64 (a3.I+1))≤(a0.L.length:Int))) then (bif (decide ((a0.L.length:Int)≤(a0.L.length:Int))) then (bif (decide ((ao++((a0.L.take a3.I.toNat).drop 0)).length+((a0.L.take (a0.L.length:Int).toNat).drop (w64 (a3.I+1)).toNat).length≤4294967296)) then (ai 3 (lim (tD aF.d4) [.i 0,e,f,g,h,i,j,k,l,m,n,o,p,q,r,s,t,u,v,w,x,y,.b false,z,.l ao,.l ao,.l ao,.l ((ao++((a0.L.take a3.I.toNat).drop 0))++((a0.L.take (a0.L.length:Int).toNat).drop (w64 (a3.I+1)).toNat)),.l a1.L,.l a2.L]) (ap8 aF.d5)) else none) else none) else none) else none) else none) else none) else none))) else (bif (e.I==3) then (ai 5 (lim (tD aF.d6) [.i 0,e,f,g,h,i,j,k,l,m,n,o,p,q,r,s,t,u,v,w,x,y,.b false,z,.l ao,.l ao,.l ao,.l a0.L,.l a1.L,.l a2.L]) (tD aF.d8)) else (bif (e.I==4) then (ad (ew [z,.l a0.L,.l a1.L,.l a2.L,x]) fun a4=>(bif (decide (a4.I<0)) then (some (.ret [z,.b false,.l a0.L,.l a1.L,.l a2.L])) else (bif (decide (0≤a4.I)) then (bif (decide (a4.I≤(a2.L.length:Int))) then (bif (decide (ao.length+((a2.L.take a4.I.toNat).drop 0).length≤4294967296)) then (bif (decide (0≤(w64 (a4.I+1)))) then (bif (decide ((w64 (a4.I+1))≤(a2.L.length:Int))) then (bif (decide ((a2.L.length:Int)≤(a2.L.length:Int))) then (bif (decide ((ao++((a2.L.take a4.I.toNat).drop 0)).length+((a2.L.take (a2.L.length:Int).toNat).drop (w64 (a4.I+1)).toNat).length≤4294967296)) then (some (.ret [z,.b true,.l a0.L,.l a1.L,.l ((ao++((a2.L.take a4.I.toNat).drop 0))++((a2.L.take (a2.L.length:Int).toNat).drop (w64 (a4.I+1)).toNat))])) else none) else none) else none) else none) else none) else none) else none))) else (bif (e.I==5) then (ad (ew [z,.l a0.L,.l a1.L,.l a2.L,x]) fun a5=>(bif (!(decide (a5.I<0))) then (bif (!(y.S.toList==(bs #[]).toList)) then (ad (dh [z,.l a0.L,.l a1.L,.l a2.L,y]) fun a6=>(bif (decide (a6.I<0)) then (some (.ret [z,.b false,.l a0.L,.l a1.L,.l a2.L])) else (bif (decide (0≤a5.I)) then (bif (decide (a5.I<(a2.L.length:Int))) then (some (.ret [z,.b true,.l a0.L,.l a1.L,.l (a2.L.set a5.I.toNat (aL (a2.L.getD a5.I.toNat []) 11 [y]))])) else none) else none))) else (bif (decide (0≤a5.I)) then (bif (decide (a5.I<(a2.L.length:Int))) then (some (.ret [z,.b true,.l a0.L,.l a1.L,.l (a2.L.set a5.I.toNat (aL (a2.L.getD a5.I.toNat []) 11 [y]))])) else none) else none)) else (some (.ret [z,.b false,.l a0.L,.l a1.L,.l a2.L])))) else (some (.ret [z,.b true,.l a0.L,.l a1.L,.l a2.L]))))))))
def aF:List C→Option (List C):=fun xs=>aZ (Gg aF.d9 xs)
def nJ:FS:=⟨2,⟨[(0,z2),(1,(.ag [zi,zt,zt,(zl 9),zi,zi,zo,zt,zt,zi,zi,zi,zi,zt,(zl 109),zi,zt,zt,zt,zt,zt]))],[]⟩,⟨[(0,(.tu [z11,zo]))],[(3000,.arr 37),(3001,.arr 60 1),(3002,.arr 45)]⟩,[],aF⟩
theorem zy:aA Tryz.checked.prog T0 95 nJ:=oZ aE [68,165] false (fn:=Tryz.f95) (c:=Tryz.f95.body.getD .skip) nJ (.seq .leaf (.seq .leaf (.seq (.seq .leaf (.skip (.seq .leaf (.cond (.seq .leaf (.seq (.block ⟨[(3,(.pt 3 0)),(4,(.pt 4 0)),(6,(.pt 6 0)),(7,zi)],[(3,z6),(4,.var 27 [zo,(.ow 1136900),(.ow 1136901),(.ow 1136902)]),(6,.var 27 [zo,(.ow 72632),(.ow 72633),(.ow 72634)]),(1136900,.arr 37 1),(1136901,.arr 60 1),(1136902,.arr 45 1),(72632,.arr 37 1),(72633,.arr 60 1),(72634,.arr 45 1)]⟩ (.loop ⟨[(3,(.pt 3 0)),(4,(.pt 4 0)),(6,(.pt 6 0)),(7,zi)],[(3,z6),(4,.var 27 [zo,(.ow 1136900),(.ow 1136901),(.ow 1136902)]),(6,.var 27 [zo,(.ow 72632),(.ow 72633),(.ow 72634)]),(1136900,.arr 37 1),(1136901,.arr 60 1),(1136902,.arr 45 1),(72632,.arr 37 1),(72633,.arr 60 1),(72634,.arr 45 1)]⟩ .leaf)) (.seq .leaf (.seq (.join ⟨[(3,(.pt 3 0)),(4,(.pt 4 0)),(6,(.pt 6 0)),(7,zi),(8,(zl 37))],[(3,z6),(4,.var 27 [zo,(.ow 1136900),(.ow 1136901),(.ow 1136902)]),(6,.var 27 [zo,(zl 37),(.ow 72633),(.ow 72634)]),(1136900,.arr 37 1),(1136901,.arr 60 1),(1136902,.arr 45 1),(72633,.arr 60 1),(72634,.arr 45 1)]⟩ (.frz [72632] .leaf)) .leaf)))) (.seq .leaf (.cond (.seq .leaf (.seq .leaf (.seq .leaf (.seq .leaf (.block ⟨[(4,(.pt 4 0)),(6,(.pt 6 0))],[(4,.var 27 [zo,(.ow 1140500),(.ow 1140501),(.ow 1140502)]),(6,.var 27 [zo,(.ow 82),(.ow 72633),(.ow 72634)]),(1140500,.arr 37 1),(1140501,.arr 60 1),(1140502,.arr 45 1),(82,.arr 37),(72633,.arr 60 1),(72634,.arr 45 1)]⟩ (.loop ⟨[(3,(.pt 3 0)),(4,(.pt 4 0)),(6,(.pt 6 0)),(10,zi)],[(3,z6),(4,.var 27 [zo,(.ow 1140500),(.ow 1140501),(.ow 1140502)]),(6,.var 27 [zo,(.ow 82),(.ow 72633),(.ow 72634)]),(1140500,.arr 37 1),(1140501,.arr 60 1),(1140502,.arr 45 1),(82,.arr 37),(72633,.arr 60 1),(72634,.arr 45 1)]⟩ .leaf)))))) (.seq .leaf (.cond (.seq .leaf (.seq (.block ⟨[(3,(.pt 3 0)),(4,(.pt 4 0)),(6,(.pt 6 0)),(11,zi)],[(3,z6),(4,.var 27 [zo,(.ow 1142700),(.ow 1142701),(.ow 1142702)]),(6,.var 27 [zo,(.ow 72632),(.ow 72633),(.ow 72634)]),(1142700,.arr 37 1),(1142701,.arr 60 1),(1142702,.arr 45 1),(72632,.arr 37 1),(72633,.arr 60 1),(72634,.arr 45 1)]⟩ (.loop ⟨[(3,(.pt 3 0)),(4,(.pt 4 0)),(6,(.pt 6 0)),(11,zi)],[(3,z6),(4,.var 27 [zo,(.ow 1142700),(.ow 1142701),(.ow 1142702)]),(6,.var 27 [zo,(.ow 72632),(.ow 72633),(.ow 72634)]),(1142700,.arr 37 1),(1142701,.arr 60 1),(1142702,.arr 45 1),(72632,.arr 37 1),(72633,.arr 60 1),(72634,.arr 45 1)]⟩ .leaf)) (.seq .leaf (.seq (.join ⟨[(3,(.pt 3 0)),(4,(.pt 4 0)),(6,(.pt 6 0)),(11,zi),(12,(zl 45))],[(3,z6),(4,.var 27 [zo,(.ow 1142700),(.ow 1142701),(.ow 1142702)]),(6,.var 27 [zo,(.ow 72632),(.ow 72633),(zl 45)]),(1142700,.arr 37 1),(1142701,.arr 60 1),(1142702,.arr 45 1),(72632,.arr 37 1),(72633,.arr 60 1)]⟩ (.frz [72634] .leaf)) .leaf)))) .leaf)))))))) .leaf))) [(55,some 175,iQ),(55,some 197,iQ),(56,some 78,gq),(56,some 208,gq),(85,some 16,jc),(123,some 67,iZ),(124,some 164,j7)] (.cons l7 (.cons l7 (.cons jd (.cons jd (.cons oc (.cons oX (.cons qN .nil))))))) (by kernel_rfl) (by kernel_rfl) (by kernel_rfl) (fun xs=>by kernel_rfl)
def bA.d1 (a b c d e f g h i j k l m n o p q r s t u v w x y z a0 a1 a2 a3:C):R:=(bif (!a.B) then (some (.ret [.b false,.i 3,.l ao,.l ao,.l ao])) else (ad (gl [b,.i 1,.i 5]) fun a4=>(bif (!a4.B) then (some (.ret [.b false,.i 4,.l ao,.l ao,.l ao])) else (some (.ret [x,.i 0,.l a1.L,.l a2.L,.l a3.L])))))
def bA.d2 (a b c d e f g h i j k l m n o p q r s t u v w x y:C):R:=(ad (aw [a,b,c,d]) fun z=>(bif (!z.B) then (some (.ret [.b false,.i 1,.l ao,.l ao,.l ao])) else (call5 (aF [a,b,c,d,e,f,g,h,i,j,k,l,m,n,o,p,q,r,s,t,u,v,w,x,y]) fun a0 a1 a2 a3 a4=>(bd (bif a1.B then (ad (aw [a0,.l a2.L,.l a3.L,.l a4.L]) fun a5=>(bif (!a5.B) then (some (.ret [.b false,.i 2,.l ao,.l ao,.l ao])) else (some (.nrm [.b a1.B,e,f,g,h,i,j,k,l,m,n,o,p,q,r,s,t,u,v,w,x,y,.b false,a0,.l ao,.l ao,.l ao,.l a2.L,.l a3.L,.l a4.L])))) else (some (.nrm [.b a1.B,e,f,g,h,i,j,k,l,m,n,o,p,q,r,s,t,u,v,w,x,y,.b false,a0,.l ao,.l ao,.l ao,.l a2.L,.l a3.L,.l a4.L]))) (tD bA.d1)))))
def bA:List C→Option (List C):=fun xs=>aZ (Gg bA.d2 xs)
def ga:FS:=⟨2,⟨[(0,z2),(1,(.ag [zi,zt,zt,(zl 9),zi,zi,zo,zt,zt,zi,zi,zi,zi,zt,(zl 109),zi,zt,zt,zt,zt,zt]))],[]⟩,⟨[(0,(.tu [z11,zi]))],[(3000,.arr 37),(3001,.arr 60 1),(3002,.arr 45)]⟩,[],bA⟩
theorem jK:aA Tryz.checked.prog T0 47 ga:=bC aE (fn:=Tryz.f47) (c:=Tryz.f47.body.getD .skip) ga (.seq .leaf (.seq .leaf (.seq .leaf (.seq (.join ⟨[(3,(.pt 3 0)),(4,(.pt 4 0)),(6,(.pt 6 0)),(7,zo)],[(3,z6),(4,.var 27 [zo,(.ow 1075700),(.ow 1075701),(.ow 1075702)]),(6,.var 27 [zo,(.ow 68536),(.ow 68537),(.ow 68538)]),(1075700,.arr 37 1),(1075701,.arr 60 1),(1075702,.arr 45 1),(68536,.arr 37),(68537,.arr 60 1),(68538,.arr 45)]⟩ .leaf) .leaf)))) [(15,some 9,fB),(15,some 21,fB),(59,some 30,eS),(95,some 15,nJ)] (.cons iG (.cons iG (.cons fy (.cons zy .nil)))) (by kernel_rfl) (by kernel_rfl) (by kernel_rfl) (fun xs=>by kernel_rfl)
def jG.d1 (a b c d e f:C):R:=(bif (decide (ao.length+c.L.length≤4294967296)) then (bif (decide ((bs #[122,111,110,101,61]).size+b.S.size≤4294967296)) then (bif (decide ((ao++c.L).length+(rows [[.s ((bs #[122,111,110,101,61])++b.S)]]).length≤4294967296)) then (some (.ret [.l ((ao++c.L)++(rows [[.s ((bs #[122,111,110,101,61])++b.S)]]))])) else none) else none) else none)
def jG:List C→Option (List C):=fun xs=>aZ (ap6 jG.d1 xs)
def nH:FS:=⟨1,⟨[(0,z8)],[]⟩,⟨[(0,(.ow 3000))],[(3000,.arr 9 1)]⟩,[],jG⟩
theorem Ai:aA Tryz.checked.prog T0 138 nH:=bC aE (fn:=Tryz.f138) (c:=Tryz.f138.body.getD .skip) nH .leaf [] .nil (by kernel_rfl) (by kernel_rfl) (by kernel_rfl) (fun xs=>by kernel_rfl)
def aX.d1 (G0:List C→Option (List C)) (a b c d e f g:C):R:=(bif c.B then (some (.ret [.b true])) else (some (.again [a,.i (w64 (b.I+1)),d,e,f,g])))
def aX.d2 (G0:List C→Option (List C)) (a b c d e f:C):R:=(bif (decide (b.I<(a.L.length:Int))) then (bif (decide (0≤b.I)) then (bif (decide (b.I<(a.L.length:Int))) then (call3 (dQ [((a.L.getD b.I.toNat []).getD 0 .nil)]) fun g h i=>(bd (bif i.B then (bif (g.S.toList==d.S.toList) then (bif (!(c.I==1)) then (some (.nrm [a,b,.b (h.S.toList==e.S.toList),c,d,e,f])) else (some (.nrm [a,b,.b true,c,d,e,f]))) else (some (.nrm [a,b,.b false,c,d,e,f]))) else (some (.nrm [a,b,.b false,c,d,e,f]))) (ap7 (aX.d1 G0)))) else none) else none) else (some (.brk 1 [])))
def aX.d3 (G0:List C→Option (List C)):R:=(some (.ret [.b false]))
def aX.d4 (G0:List C→Option (List C)) (a b c d:C):R:=(bif (decide (0≤c.I)) then (bif (decide (c.I<(a.L.length:Int))) then (bif (((a.L.getD c.I.toNat []).getD 0 .nil).I==0) then (some (.ret [.b true])) else (bif (((a.L.getD c.I.toNat []).getD 0 .nil).I==3) then (bif (decide (0≤c.I)) then (bif (decide (c.I<(b.L.length:Int))) then (bif (decide (0<((((b.L.getD c.I.toNat []).getD 0 .nil).L).length:Int))) then (ad (G0 [a,b,(((((b.L.getD c.I.toNat []).getD 0 .nil).L).getD 0 []).getD 0 .nil),d]) fun e=>(some (.ret [.b (!e.B)]))) else none) else none) else none) else (bif (((a.L.getD c.I.toNat []).getD 0 .nil).I==4) then (bif (decide (0≤c.I)) then (bif (decide (c.I<(b.L.length:Int))) then (bif (decide (0<((((b.L.getD c.I.toNat []).getD 0 .nil).L).length:Int))) then (ad (G0 [a,b,(((((b.L.getD c.I.toNat []).getD 0 .nil).L).getD 0 []).getD 0 .nil),d]) fun f=>(bif f.B then (bif (decide (0≤c.I)) then (bif (decide (c.I<(b.L.length:Int))) then (bif (decide (1<((((b.L.getD c.I.toNat []).getD 0 .nil).L).length:Int))) then (ad (G0 [a,b,(((((b.L.getD c.I.toNat []).getD 0 .nil).L).getD 1 []).getD 0 .nil),d]) fun g=>(some (.ret [.b g.B]))) else none) else none) else none) else (some (.ret [.b false])))) else none) else none) else none) else (bif (((a.L.getD c.I.toNat []).getD 0 .nil).I==5) then (bif (decide (0≤c.I)) then (bif (decide (c.I<(b.L.length:Int))) then (bif (decide (0<((((b.L.getD c.I.toNat []).getD 0 .nil).L).length:Int))) then (ad (G0 [a,b,(((((b.L.getD c.I.toNat []).getD 0 .nil).L).getD 0 []).getD 0 .nil),d]) fun h=>(bif (!h.B) then (bif (decide (0≤c.I)) then (bif (decide (c.I<(b.L.length:Int))) then (bif (decide (1<((((b.L.getD c.I.toNat []).getD 0 .nil).L).length:Int))) then (ad (G0 [a,b,(((((b.L.getD c.I.toNat []).getD 0 .nil).L).getD 1 []).getD 0 .nil),d]) fun i=>(some (.ret [.b i.B]))) else none) else none) else none) else (some (.ret [.b true])))) else none) else none) else none) else (ai 1 (lim (ap6 (aX.d2 G0)) [d,.i 0,((a.L.getD c.I.toNat []).getD 0 .nil),((a.L.getD c.I.toNat []).getD 1 .nil),((a.L.getD c.I.toNat []).getD 2 .nil),((a.L.getD c.I.toNat []).getD 3 .nil)]) (fun xs=>(aX.d3 G0))))))) else none) else none)
def aX.step (G0:List C→Option (List C)):List C→Option (List C):=fun xs=>aZ (ap4 (aX.d4 G0) xs)
def dZ (G:List C→Option (List C)):FS:=⟨4,⟨[(0,(.ag [(.d (.sl 184))])),(1,(.d (.sl 73))),(2,(.d (.int .i64))),(3,(.d (.sl 9)))],[]⟩,⟨[(0,(.d .bool))],[]⟩,[],G⟩
theorem zX {G0:List C→Option (List C)} (h0:aA Tryz.checked.prog T0 169 (dZ G0)):aA Tryz.checked.prog T0 169 (dZ (aX.step G0)):=bC aE (fn:=Tryz.f169) (c:=Tryz.f169.body.getD .skip) (dZ (aX.step G0)) (.seq .leaf (.seq .leaf (.seq .leaf (.seq (.seq .leaf (.block ⟨[],[]⟩ (.loop ⟨[(3,(.d (.sl 9))),(9,(.pt 9 0)),(10,(.d (.int .i64)))],[(9,.var 184 [(.d (.int .i64)),(.d .str),(.d .str),(.d (.int .i64))])]⟩ (.seq .leaf (.seq (.skip (.seq .leaf (.seq (.join ⟨[(3,(.d (.sl 9))),(9,(.pt 9 0)),(10,(.d (.int .i64))),(116,(.d .bool))],[(9,.var 184 [(.d (.int .i64)),(.d .str),(.d .str),(.d (.int .i64))])]⟩ .leaf) .leaf))) .leaf))))) .leaf)))) [(139,some 95,kj),(169,some 34,(dZ G0)),(169,some 47,(dZ G0)),(169,some 58,(dZ G0)),(169,some 71,(dZ G0)),(169,some 82,(dZ G0))] (.cons oV (.cons h0 (.cons h0 (.cons h0 (.cons h0 (.cons h0 .nil)))))) (by kernel_rfl) (by kernel_rfl) (by kernel_rfl) (fun xs=>by kernel_rfl)
def aX.g:Nat→Nat→List C→Option (List C)
 |0,_=>fun _=>none
 |k+1,0=>aX.step (aX.g k 0)
 |_,_=>fun _=>none
theorem qz:∀k:Nat,aA Tryz.checked.prog T0 169 (dZ (aX.g k 0))
 |0=>jl (fn:=Tryz.f169) (c:=Tryz.f169.body.getD .skip) (4) (⟨[(0,(.ag [(.d (.sl 184))])),(1,(.d (.sl 73))),(2,(.d (.int .i64))),(3,(.d (.sl 9)))],[]⟩) (⟨[(0,(.d .bool))],[]⟩) [] (by kernel_rfl) (by kernel_rfl) (by kernel_rfl)
 |k+1=>zX (qz k)
def aX:List C→Option (List C):=aX.g ik 0
theorem Aa:aA Tryz.checked.prog T0 169 (dZ aX):=qz ik
def gk.d1 (a b:C):R:=(ad (fC [a]) fun c=>(bif (!c.B) then (some (.ret [.b false])) else (call2 (dP [a]) fun d e=>(ad (aX [a,.l e.L,.i (w64 ((a.L.length:Int)-1)),b]) fun f=>(some (.ret [.b f.B]))))))
def gk:List C→Option (List C):=fun xs=>aZ (ap2 gk.d1 xs)
def kH:FS:=⟨2,⟨[(0,(.ag [(zl 184)])),(1,(zl 9))],[]⟩,⟨[(0,zo)],[]⟩,[],gk⟩
theorem uJ:aA Tryz.checked.prog T0 137 kH:=bC aE (fn:=Tryz.f137) (c:=Tryz.f137.body.getD .skip) kH .leaf [(167,some 8,iX),(168,some 12,iK),(169,some 22,(dZ aX))] (.cons oF (.cons l6 (.cons Aa .nil))) (by kernel_rfl) (by kernel_rfl) (by kernel_rfl) (fun xs=>by kernel_rfl)
def gT.d1 (a b c d e f g:C):R:=(call2 (fN [a]) fun h i=>(bif (i.I==0) then (ad (jG [b,c,d,e,f,g]) fun j=>(ad (gk [h,.l j.L]) fun k=>(some (.ret [.b k.B])))) else (some (.ret [.b false]))))
def gT:List C→Option (List C):=fun xs=>aZ (ap7 gT.d1 xs)
def j4:FS:=⟨2,⟨[(0,zt),(1,z8)],[]⟩,⟨[(0,zo)],[]⟩,[],gT⟩
theorem qD:aA Tryz.checked.prog T0 105 j4:=bC aE (fn:=Tryz.f105) (c:=Tryz.f105.body.getD .skip) j4 .leaf [(136,some 9,iC),(137,some 18,kH),(138,some 17,nH)] (.cons oK (.cons uJ (.cons Ai .nil))) (by kernel_rfl) (by kernel_rfl) (by kernel_rfl) (fun xs=>by kernel_rfl)
def gw.d1 (a b c d e:C):R:=(ad (dh [a,b,c,d,e]) fun f=>(bif (decide (f.I<0)) then (some (.ret [.s (bs #[])])) else (bif (decide (0≤f.I)) then (bif (decide (f.I<(b.L.length:Int))) then (some (.ret [((b.L.getD f.I.toNat []).getD 1 .nil)])) else none) else none)))
def gw:List C→Option (List C):=fun xs=>aZ (ap5 gw.d1 xs)
def il:FS:=⟨2,⟨[(0,z2),(1,zt)],[]⟩,⟨[(0,zt)],[]⟩,[],gw⟩
theorem mP:aA Tryz.checked.prog T0 116 il:=bC aE (fn:=Tryz.f116) (c:=Tryz.f116.body.getD .skip) il .leaf [(56,some 8,gq)] (.cons jd .nil) (by kernel_rfl) (by kernel_rfl) (by kernel_rfl) (fun xs=>by kernel_rfl)
def bf.d1 (a b c d e f g h i j k l m n o p q r s t u v w x y z a0 a1 a2 a3 a4 a5 a6 a7 a8:C):R:=(ad (gw [b,c,d,e,a8]) fun a9=>(bif (a9.S.toList==s.S.toList) then (bif (!(a5.I==2)) then (bif (n.I==2) then (some (.ret [.b true])) else (some (.brk 1 [a,b,c,d,e,f,g,h,i,j,k,l,m,n,o,p,q,r,s,t,u,v,w]))) else (some (.ret [.b true]))) else (some (.brk 1 [a,b,c,d,e,f,g,h,i,j,k,l,m,n,o,p,q,r,s,t,u,v,w]))))
def bf.d2 (a b c d e f g h i j k l m n o p q r s t u v w:C):R:=(some (.again [.i (w64 (a.I+1)),b,c,d,e,f,g,h,i,j,k,l,m,n,o,p,q,r,s,t,u,v,w]))
def bf.d3 (a b c d e f g h i j k l m n o p q r s t u v w:C):R:=(bif (decide (a.I<(e.L.length:Int))) then (ai 1 (bif (decide (0≤a.I)) then (bif (decide (a.I<(e.L.length:Int))) then (bif (!((((e.L.getD a.I.toNat []).getD 0 .nil).S).toList==f.S.toList)) then (bif (!(!((((e.L.getD a.I.toNat []).getD 1 .nil).S).toList==g.S.toList))) then (bif ((((e.L.getD a.I.toNat []).getD 11 .nil).S).toList==(bs #[]).toList) then (some (.brk 1 [a,b,c,d,e,f,g,h,i,j,k,l,m,n,o,p,q,r,s,t,u,v,w])) else (bd (bif ((((e.L.getD a.I.toNat []).getD 11 .nil).S).toList==r.S.toList) then (bif (!(((e.L.getD a.I.toNat []).getD 8 .nil).I !=0)) then (bif (n.I !=0) then (some (.ret [.b true])) else (some (.nrm [a,b,c,d,e,f,g,h,i,j,k,l,m,n,o,p,q,r,s,t,u,v,w,((e.L.getD a.I.toNat []).getD 0 .nil),((e.L.getD a.I.toNat []).getD 1 .nil),((e.L.getD a.I.toNat []).getD 2 .nil),((e.L.getD a.I.toNat []).getD 3 .nil),((e.L.getD a.I.toNat []).getD 4 .nil),((e.L.getD a.I.toNat []).getD 5 .nil),((e.L.getD a.I.toNat []).getD 6 .nil),((e.L.getD a.I.toNat []).getD 7 .nil),((e.L.getD a.I.toNat []).getD 8 .nil),((e.L.getD a.I.toNat []).getD 9 .nil),((e.L.getD a.I.toNat []).getD 10 .nil),((e.L.getD a.I.toNat []).getD 11 .nil)]))) else (some (.ret [.b true]))) else (some (.nrm [a,b,c,d,e,f,g,h,i,j,k,l,m,n,o,p,q,r,s,t,u,v,w,((e.L.getD a.I.toNat []).getD 0 .nil),((e.L.getD a.I.toNat []).getD 1 .nil),((e.L.getD a.I.toNat []).getD 2 .nil),((e.L.getD a.I.toNat []).getD 3 .nil),((e.L.getD a.I.toNat []).getD 4 .nil),((e.L.getD a.I.toNat []).getD 5 .nil),((e.L.getD a.I.toNat []).getD 6 .nil),((e.L.getD a.I.toNat []).getD 7 .nil),((e.L.getD a.I.toNat []).getD 8 .nil),((e.L.getD a.I.toNat []).getD 9 .nil),((e.L.getD a.I.toNat []).getD 10 .nil),((e.L.getD a.I.toNat []).getD 11 .nil)]))) (Jt bf.d1))) else (some (.brk 1 [a,b,c,d,e,f,g,h,i,j,k,l,m,n,o,p,q,r,s,t,u,v,w]))) else (some (.brk 1 [a,b,c,d,e,f,g,h,i,j,k,l,m,n,o,p,q,r,s,t,u,v,w]))) else none) else none) (Eh bf.d2)) else (some (.brk 0 [])))
def bf.d4:R:=(some (.ret [.b false]))
def bf.d5 (a b c d e f g h i j k l m n o p q r s t u v:C):R:=(ai 0 (lim (Eh bf.d3) [.i 0,a,b,c,d,e,f,g,h,i,j,k,l,m,n,o,p,q,r,s,t,u,v]) (fun xs=>bf.d4))
def bf:List C→Option (List C):=fun xs=>aZ (Ac bf.d5 xs)
def kG:FS:=⟨3,⟨[(0,z2),(1,z3),(2,z8)],[]⟩,⟨[(0,zo)],[]⟩,[],bf⟩
theorem uN:aA Tryz.checked.prog T0 106 kG:=bC aE (fn:=Tryz.f106) (c:=Tryz.f106.body.getD .skip) kG (.seq .leaf (.seq (.seq .leaf (.block ⟨[],[]⟩ (.loop ⟨[(3,(.pt 3 0)),(4,(.pt 4 0)),(5,(.pt 5 0)),(7,zi)],[(3,z0),(4,z1),(5,z4)]⟩ (.seq .leaf (.seq (.block ⟨[(3,(.pt 3 0)),(4,(.pt 4 0)),(5,(.pt 5 0)),(7,zi)],[(3,z0),(4,z1),(5,z4)]⟩ (.seq .leaf (.seq .leaf (.seq (.join ⟨[(3,(.pt 3 0)),(4,(.pt 4 0)),(5,(.pt 5 0)),(7,zi),(8,(.pt 8 0))],[(3,z0),(4,z1),(5,z4),(8,z1)]⟩ .leaf) .leaf)))) .leaf))))) .leaf)) [(116,some 56,il)] (.cons mP .nil) (by kernel_rfl) (by kernel_rfl) (by kernel_rfl) (fun xs=>by kernel_rfl)
def eI.d1 (a b c d e f g h i j k l m n o p q r s t u v w x:C):R:=(some (.again [a,.i (w64 (b.I+1)),c,d,e,f,g,h,i,j,k,l,m,n,o,p,q,r,s,t,u,v,w,x]))
def eI.d2 (a b c d e f g h i j k l m n o p q r s t u v w x:C):R:=(bif (decide (b.I<(f.L.length:Int))) then (ai 1 (bif (decide (0≤b.I)) then (bif (decide (b.I<(f.L.length:Int))) then (bif (!((((f.L.getD b.I.toNat []).getD 0 .nil).S).toList==g.S.toList)) then (bif (!(!((((f.L.getD b.I.toNat []).getD 1 .nil).S).toList==p.S.toList))) then (bif ((((f.L.getD b.I.toNat []).getD 11 .nil).S).toList==(bs #[]).toList) then (some (.brk 1 [a,b,c,d,e,f,g,h,i,j,k,l,m,n,o,p,q,r,s,t,u,v,w,x])) else (ad (gw [c,d,e,f,((f.L.getD b.I.toNat []).getD 11 .nil)]) fun y=>(bif (y.S.toList==t.S.toList) then (some (.ret [.b false])) else (some (.brk 1 [.b true,b,c,d,e,f,g,h,i,j,k,l,m,n,o,p,q,r,s,t,u,v,w,x]))))) else (some (.brk 1 [a,b,c,d,e,f,g,h,i,j,k,l,m,n,o,p,q,r,s,t,u,v,w,x]))) else (some (.brk 1 [a,b,c,d,e,f,g,h,i,j,k,l,m,n,o,p,q,r,s,t,u,v,w,x]))) else none) else none) (xc eI.d1)) else (some (.brk 0 [a,g,h,i,j,k,l,m,n,o,p,q,r])))
def eI.d3 (a b c d e f g h i j k l m:C):R:=(bif (!a.B) then (some (.ret [.b (!(k.S.toList==c.S.toList))])) else (some (.ret [.b true])))
def eI.d4 (a b c d e f g h i j k l m n o p q r s t u v:C):R:=(bif (n.S.toList==(bs #[]).toList) then (some (.ret [.b false])) else (ai 0 (lim (xc eI.d2) [.b false,.i 0,a,b,c,d,e,f,g,h,i,j,k,l,m,n,o,p,q,r,s,t,u,v]) (oQ eI.d3)))
def eI:List C→Option (List C):=fun xs=>aZ (Ac eI.d4 xs)
def qO:FS:=⟨3,⟨[(0,z2),(1,z3),(2,z8)],[]⟩,⟨[(0,zo)],[]⟩,[],eI⟩
theorem Cd:aA Tryz.checked.prog T0 107 qO:=bC aE (fn:=Tryz.f107) (c:=Tryz.f107.body.getD .skip) qO (.seq .leaf (.seq .leaf (.seq .leaf (.seq (.seq .leaf (.block ⟨[(4,(.pt 4 0)),(7,zo)],[(4,z1)]⟩ (.loop ⟨[(3,(.pt 3 0)),(4,(.pt 4 0)),(5,(.pt 5 0)),(7,zo),(8,zi)],[(3,z0),(4,z1),(5,z4)]⟩ (.seq .leaf (.seq (.block ⟨[(3,(.pt 3 0)),(4,(.pt 4 0)),(5,(.pt 5 0)),(7,zo),(8,zi)],[(3,z0),(4,z1),(5,z4)]⟩ .leaf) .leaf))))) .leaf)))) [(116,some 45,il)] (.cons mP .nil) (by kernel_rfl) (by kernel_rfl) (by kernel_rfl) (fun xs=>by kernel_rfl)
def cG.d1 (a b c d e f g h i j k l m n o p q r s t u v w x y z a0 a1 a2 a3 a4 a5 a6 a7 a8 a9 b0 b1 b2 b3:C):R:=(bif f.B then (some (.again [a,.i (w64 (b.I+a6.I)),.i (w64 (c.I+a7.I)),.i (w64 (d.I+1)),.i (w64 (e.I+1)),g,h,i,j,k,l,m,n,o,p,q,r,s,t,u,v,w,x,y,z,a0,a1])) else (some (.again [a,b,c,d,.i (w64 (e.I+1)),g,h,i,j,k,l,m,n,o,p,q,r,s,t,u,v,w,x,y,z,a0,a1])))
def cG.d2 (a b c d e f g h i j k l m n o p q r s t u v w x y z a0:C):R:=(bif (decide (e.I<(i.L.length:Int))) then (bif (decide (0≤e.I)) then (bif (decide (e.I<(i.L.length:Int))) then (bd (bif (!((((i.L.getD e.I.toNat []).getD 0 .nil).S).toList==j.S.toList)) then (some (.nrm [a,b,c,d,e,.b ((((i.L.getD e.I.toNat []).getD 11 .nil).S).toList==v.S.toList),f,g,h,i,j,k,l,m,n,o,p,q,r,s,t,u,v,w,x,y,z,a0,((i.L.getD e.I.toNat []).getD 0 .nil),((i.L.getD e.I.toNat []).getD 1 .nil),((i.L.getD e.I.toNat []).getD 2 .nil),((i.L.getD e.I.toNat []).getD 3 .nil),((i.L.getD e.I.toNat []).getD 4 .nil),((i.L.getD e.I.toNat []).getD 5 .nil),((i.L.getD e.I.toNat []).getD 6 .nil),((i.L.getD e.I.toNat []).getD 7 .nil),((i.L.getD e.I.toNat []).getD 8 .nil),((i.L.getD e.I.toNat []).getD 9 .nil),((i.L.getD e.I.toNat []).getD 10 .nil),((i.L.getD e.I.toNat []).getD 11 .nil)])) else (some (.nrm [a,b,c,d,e,.b false,f,g,h,i,j,k,l,m,n,o,p,q,r,s,t,u,v,w,x,y,z,a0,((i.L.getD e.I.toNat []).getD 0 .nil),((i.L.getD e.I.toNat []).getD 1 .nil),((i.L.getD e.I.toNat []).getD 2 .nil),((i.L.getD e.I.toNat []).getD 3 .nil),((i.L.getD e.I.toNat []).getD 4 .nil),((i.L.getD e.I.toNat []).getD 5 .nil),((i.L.getD e.I.toNat []).getD 6 .nil),((i.L.getD e.I.toNat []).getD 7 .nil),((i.L.getD e.I.toNat []).getD 8 .nil),((i.L.getD e.I.toNat []).getD 9 .nil),((i.L.getD e.I.toNat []).getD 10 .nil),((i.L.getD e.I.toNat []).getD 11 .nil)]))) (Jy cG.d1)) else none) else none) else (some (.brk 0 [a,b,c,d,f,g,h,i,j,k,l,m,n,o,p,q,r,s,t,u,v,w,x,y,z,a0])))
def cG.d3 (a b c d e f g h i j k l m n o p q r s t u v w x y z:C):R:=(bif d.B then (some (.ret [.i 2])) else (ad (gT [o,u,v,w,x,y,z]) fun a0=>(bif (!a0.B) then (some (.ret [.i 3])) else (ad (bf [e,f,g,h,i,j,k,l,m,n,o,p,q,r,s,t,u,v,w,x,y,z]) fun a1=>(bif a1.B then (some (.ret [.i 4])) else (ad (eI [e,f,g,h,i,j,k,l,m,n,o,p,q,r,s,t,u,v,w,x,y,z]) fun a2=>(bif a2.B then (some (.ret [.i 5])) else (bif (decide (c.I≥10)) then (some (.ret [.i 6])) else (bif (decide (a.I>x.I)) then (some (.ret [.i 7])) else (bif (decide (b.I>y.I)) then (some (.ret [.i 8])) else (some (.ret [.i 0]))))))))))))
def cG.d4 (a b c d e f g h i j k l m n o p q r s t u v w x y z:C):R:=(bif d.B then (some (.ret [.i 1])) else (bd (bif (!(s.S.toList==(bs #[]).toList)) then (some (.nrm [a,b,c,.b (!(s.S.toList==u.S.toList)),e,f,g,h,i,j,k,l,m,n,o,p,q,r,s,t,u,v,w,x,y,z])) else (some (.nrm [a,b,c,.b false,e,f,g,h,i,j,k,l,m,n,o,p,q,r,s,t,u,v,w,x,y,z]))) (Ha cG.d3)))
def cG.d5 (a b c d e f g h i j k l m n o p q r s t u v w x y z:C):R:=(bd (bif z.B then (some (.nrm [b,c,d,.b (!a.B),e,f,g,h,i,j,k,l,m,n,o,p,q,r,s,t,u,v,w,x,y,z])) else (some (.nrm [b,c,d,.b false,e,f,g,h,i,j,k,l,m,n,o,p,q,r,s,t,u,v,w,x,y,z]))) (Ha cG.d4))
def cG.d6 (a b c d e f g h i j k l m n o p q r s t u v w:C):R:=(ai 0 (lim (Fp cG.d2) [w,i,j,.i 0,.i 0,a,b,c,d,e,f,g,h,i,j,k,l,m,n,o,p,q,r,s,t,u,v]) (Ha cG.d5))
def cG:List C→Option (List C):=fun xs=>aZ (Eh cG.d6 xs)
def mm:FS:=⟨4,⟨[(0,z2),(1,z3),(2,z8),(3,zo)],[]⟩,⟨[(0,zi)],[]⟩,[],cG⟩
theorem uC:aA Tryz.checked.prog T0 57 mm:=bC aE (fn:=Tryz.f57) (c:=Tryz.f57.body.getD .skip) mm (.seq .leaf (.seq .leaf (.seq .leaf (.seq .leaf (.seq (.seq .leaf (.block ⟨[(3,zo),(4,(.pt 4 0)),(5,(.pt 5 0)),(6,(.pt 6 0)),(9,zi),(10,zi),(11,zi)],[(4,z0),(5,z1),(6,z4)]⟩ (.loop ⟨[(3,zo),(4,(.pt 4 0)),(5,(.pt 5 0)),(6,(.pt 6 0)),(9,zi),(10,zi),(11,zi),(12,zi)],[(4,z0),(5,z1),(6,z4)]⟩ (.seq .leaf (.seq (.skip (.seq .leaf (.seq (.join ⟨[(3,zo),(4,(.pt 4 0)),(5,(.pt 5 0)),(6,(.pt 6 0)),(9,zi),(10,zi),(11,zi),(12,zi),(13,(.pt 13 0)),(41,zo)],[(4,z0),(5,z1),(6,z4),(13,z1)]⟩ .leaf) .leaf))) .leaf))))) (.seq (.skip (.seq (.join ⟨[(4,(.pt 4 0)),(5,(.pt 5 0)),(6,(.pt 6 0)),(9,zi),(10,zi),(11,zi),(52,zo)],[(4,z0),(5,z1),(6,z4)]⟩ .leaf) (.cond .leaf (.seq (.join ⟨[(4,(.pt 4 0)),(5,(.pt 5 0)),(6,(.pt 6 0)),(9,zi),(10,zi),(11,zi),(59,zo)],[(4,z0),(5,z1),(6,z4)]⟩ .leaf) .leaf)))) .leaf)))))) [(105,some 74,j4),(106,some 80,kG),(107,some 85,qO)] (.cons qD (.cons uN (.cons Cd .nil))) (by kernel_rfl) (by kernel_rfl) (by kernel_rfl) (fun xs=>by kernel_rfl)
def aH.d1 (a b c d e f g h i j k l:C):R:=(bif (decide (b.I<a.I)) then (ad (dL [b]) fun m=>(bif (decide ((bs #[98]).size+m.S.size≤4294967296)) then (call8 (fT [.s ((bs #[98])++m.S),c,d]) fun n o p q r s t u=>(bif (decide (j.L.length+(rows [[n,o,.l u.L,p,q,r]]).length≤4294967296)) then (some (.again [a,.i (w64 (b.I+1)),s,t,e,f,.l g.L,.l h.L,.l i.L,.l (j.L++(rows [[n,o,.l u.L,p,q,r]])),.l k.L,.l l.L])) else none)) else none)) else (some (.brk 0 [c,d,e,f,.l g.L,.l h.L,.l i.L,.l j.L,.l k.L,.l l.L])))
def aH.d2 (a b c d e f g h i j k:C):R:=(bif (decide (a.I<4)) then (bif (decide (0≤a.I)) then (bif (decide (a.I<((rows [[.s (bs #[99,97,99,104,101])],[.s (bs #[100,98])],[.s (bs #[106,111,98])],[.s (bs #[119,101,98])]]).length:Int))) then (call3 (ae [.i 5,b,c]) fun l m n=>(bif (decide (j.L.length+(rows [[(((rows [[.s (bs #[99,97,99,104,101])],[.s (bs #[100,98])],[.s (bs #[106,111,98])],[.s (bs #[119,101,98])]]).getD a.I.toNat []).getD 0 .nil),l]]).length≤4294967296)) then (some (.again [.i (w64 (a.I+1)),m,n,d,e,.l f.L,.l g.L,.l h.L,.l i.L,.l (j.L++(rows [[(((rows [[.s (bs #[99,97,99,104,101])],[.s (bs #[100,98])],[.s (bs #[106,111,98])],[.s (bs #[119,101,98])]]).getD a.I.toNat []).getD 0 .nil),l]])),.l k.L])) else none)) else none) else none) else (some (.brk 2 [b,c,d,e,.l f.L,.l g.L,.l h.L,.l i.L,.l j.L,.l k.L])))
def aH.d3 (a b c d e f g h i j k l:C):R:=(bif (decide (b.I>0)) then (call14 (ca [b,c,d]) fun m n o p q r s t u v w x y z=>(call5 (bA [f,g,h,i,.i 3,.s (bs #[]),.s (bs #[]),.l ao,.i 0,.i 0,.b false,m,n,o,p,q,r,s,t,u,v,w,x,.s (bs #[]),.s (bs #[])]) fun a0 a1 a2 a3 a4=>(bif (a1.I==0) then (some (.again [a,.i (w64 (b.I-1)),y,z,e,a0,.l a2.L,.l a3.L,.l a4.L,.l j.L,.l k.L,.l l.L])) else (some (.again [a,.i (w64 (b.I-1)),y,z,e,f,g,h,i,.l j.L,.l k.L,.l l.L]))))) else (some (.brk 4 [a,c,d,e,f,g,h,i,.l j.L,.l k.L,.l l.L])))
def aH.d4 (a b c d e f g h i j k l m n o p q r s:C):R:=(bif c.B then (bif (decide (0≤b.I)) then (bif (decide (b.I<(j.L.length:Int))) then (call5 (bA [g,h,i,j,.i 5,.s (bs #[]),.s (bs #[]),.l ao,.i 0,.i 0,.b false,.s (bs #[]),.s (bs #[]),.i 0,.i 0,.i 0,.i 0,.s (bs #[]),.l ao,.i 0,.s (bs #[]),.s (bs #[]),.s (bs #[]),((j.L.getD b.I.toNat []).getD 0 .nil),k]) fun t u v w x=>(bif (u.I==0) then (some (.again [a,.i (w64 (b.I+1)),d,e,f,t,.l v.L,.l w.L,.l x.L,.l q.L,.l r.L,.l s.L])) else (some (.again [a,.i (w64 (b.I+1)),d,e,f,g,h,i,j,.l q.L,.l r.L,.l s.L])))) else none) else none) else (some (.again [a,.i (w64 (b.I+1)),d,e,f,g,h,i,j,.l q.L,.l r.L,.l s.L])))
def aH.d5 (a b c d e f g h i j k l:C):R:=(bif (decide (b.I<(i.L.length:Int))) then (call3 (ae [.i 4,c,d]) fun m n o=>(bif (decide (m.I<a.I)) then (call3 (ae [.i (g.L.length:Int),n,o]) fun p q r=>(bif (decide (0≤p.I)) then (bif (decide (p.I<(g.L.length:Int))) then (bif (decide (0≤b.I)) then (bif (decide (b.I<(i.L.length:Int))) then (ad (cG [f,g,h,i,((i.L.getD b.I.toNat []).getD 0 .nil),((i.L.getD b.I.toNat []).getD 1 .nil),((i.L.getD b.I.toNat []).getD 2 .nil),((i.L.getD b.I.toNat []).getD 3 .nil),((i.L.getD b.I.toNat []).getD 4 .nil),((i.L.getD b.I.toNat []).getD 5 .nil),((i.L.getD b.I.toNat []).getD 6 .nil),((i.L.getD b.I.toNat []).getD 7 .nil),((i.L.getD b.I.toNat []).getD 8 .nil),((i.L.getD b.I.toNat []).getD 9 .nil),((i.L.getD b.I.toNat []).getD 10 .nil),((i.L.getD b.I.toNat []).getD 11 .nil),((g.L.getD p.I.toNat []).getD 0 .nil),((g.L.getD p.I.toNat []).getD 1 .nil),((g.L.getD p.I.toNat []).getD 2 .nil),((g.L.getD p.I.toNat []).getD 3 .nil),((g.L.getD p.I.toNat []).getD 4 .nil),((g.L.getD p.I.toNat []).getD 5 .nil),.b true]) fun s=>(bd (bif (!(s.I==0)) then (bif (decide (s.I<6)) then (call3 (ae [.i 8,q,r]) fun t u v=>(some (.nrm [a,b,.b (t.I==0),u,v,e,f,g,h,i,((g.L.getD p.I.toNat []).getD 0 .nil),((g.L.getD p.I.toNat []).getD 1 .nil),((g.L.getD p.I.toNat []).getD 2 .nil),((g.L.getD p.I.toNat []).getD 3 .nil),((g.L.getD p.I.toNat []).getD 4 .nil),((g.L.getD p.I.toNat []).getD 5 .nil),.l j.L,.l k.L,.l l.L]))) else (some (.nrm [a,b,.b false,q,r,e,f,g,h,i,((g.L.getD p.I.toNat []).getD 0 .nil),((g.L.getD p.I.toNat []).getD 1 .nil),((g.L.getD p.I.toNat []).getD 2 .nil),((g.L.getD p.I.toNat []).getD 3 .nil),((g.L.getD p.I.toNat []).getD 4 .nil),((g.L.getD p.I.toNat []).getD 5 .nil),.l j.L,.l k.L,.l l.L]))) else (some (.nrm [a,b,.b true,q,r,e,f,g,h,i,((g.L.getD p.I.toNat []).getD 0 .nil),((g.L.getD p.I.toNat []).getD 1 .nil),((g.L.getD p.I.toNat []).getD 2 .nil),((g.L.getD p.I.toNat []).getD 3 .nil),((g.L.getD p.I.toNat []).getD 4 .nil),((g.L.getD p.I.toNat []).getD 5 .nil),.l j.L,.l k.L,.l l.L]))) (wk aH.d4))) else none) else none) else none) else none)) else (some (.again [a,.i (w64 (b.I+1)),n,o,e,f,g,h,i,.l j.L,.l k.L,.l l.L])))) else (some (.brk 6 [c,d,e,f,g,h,i,.l j.L,.l k.L,.l l.L])))
def aH.d6 (a b c d e f g h i j:C):R:=(some (.ret [d,e,f,g,a,b]))
def aH.d7 (a b c d e f g h i j k:C):R:=(ai 6 (lim (jk aH.d5) [a,.i 0,b,c,d,e,f,g,h,.l i.L,.l j.L,.l k.L]) (s7 aH.d6))
def aH.d8 (a b c d e f g h i j:C):R:=(call3 (ae [.i 4,a,b]) fun k l m=>(call3 (ae [.i 14,l,m]) fun n o p=>(ai 4 (lim (jk aH.d3) [k,.i (w64 (1+n.I)),o,p,c,d,.l h.L,.l i.L,.l j.L,.l e.L,.l f.L,.l g.L]) (Aw aH.d7))))
def aH.d9 (a b c d e f g h i j:C):R:=(ai 2 (lim (Aw aH.d2) [.i 0,a,b,c,d,.l e.L,.l f.L,.l g.L,.l h.L,.l i.L,.l j.L]) (s7 aH.d8))
def aH.d10 (a b:C):R:=(call3 (ae [.i 2,a,b]) fun c d e=>(call3 (ae [.i 5,d,e]) fun f g h=>(ai 0 (lim (jk aH.d1) [.i (w64 (1+f.I)),.i 0,g,h,.b false,.b (c.I==0),.l ao,.l ao,.l ao,.l ao,.l ao,.l ao]) (s7 aH.d9))))
def aH:List C→Option (List C):=fun xs=>aZ (ap2 aH.d10 xs)
def pq:FS:=⟨1,⟨[(0,(.pt 2000 0))],[(2000,z5)]⟩,⟨[(0,z2)],[(2000,z5)]⟩,[2000],aH⟩
theorem Bf:aA Tryz.checked.prog T0 97 pq:=oZ aE [35] false (fn:=Tryz.f97) (c:=Tryz.f97.body.getD .skip) pq (.seq .leaf (.seq .leaf (.seq .leaf (.seq (.seq .leaf (.block ⟨[(0,(.pt 2000 0)),(2,(.pt 2 0)),(3,(.pt 3 0))],[(2000,z5),(2,z9),(3,z14),(1021100,.arr 37 1),(1021101,.arr 60 1),(1021102,.arr 45 1),(1021103,.arr 37 1),(1021104,.arr 60 1),(1021105,.arr 45 1)]⟩ (.loop ⟨[(0,(.pt 2000 0)),(2,(.pt 2 0)),(3,(.pt 3 0)),(4,zi),(5,zi)],[(2000,z5),(2,z9),(3,z14),(1021100,.arr 37 1),(1021101,.arr 60 1),(1021102,.arr 45 1),(1021103,.arr 37 1),(1021104,.arr 60 1),(1021105,.arr 45 1)]⟩ .leaf))) (.seq (.seq .leaf (.block ⟨[(0,(.pt 2000 0)),(2,(.pt 2 0)),(3,(.pt 3 0))],[(2000,z5),(2,z9),(3,z14),(1021100,.arr 37 1),(1021101,.arr 60 1),(1021102,.arr 45 1),(1021103,.arr 37 1),(1021104,.arr 60 1),(1021105,.arr 45 1)]⟩ (.loop ⟨[(0,(.pt 2000 0)),(2,(.pt 2 0)),(3,(.pt 3 0)),(6,zi)],[(2000,z5),(2,z9),(3,z14),(1021100,.arr 37 1),(1021101,.arr 60 1),(1021102,.arr 45 1),(1021103,.arr 37 1),(1021104,.arr 60 1),(1021105,.arr 45 1)]⟩ .leaf))) (.seq .leaf (.seq (.seq .leaf (.block ⟨[(0,(.pt 2000 0)),(2,(.pt 2 0)),(3,(.pt 3 0)),(7,zi)],[(2000,z5),(2,z9),(3,z0),(1021100,.arr 37 1),(1021101,.arr 60 1),(1021102,.arr 45 1)]⟩ (.loop ⟨[(0,(.pt 2000 0)),(2,(.pt 2 0)),(3,(.pt 3 0)),(7,zi),(8,zi)],[(2000,z5),(2,z9),(3,z0),(1021100,.arr 37 1),(1021101,.arr 60 1),(1021102,.arr 45 1)]⟩ (.seq .leaf (.seq (.skip (.seq (.frz [1021103,1021104,1021105] .leaf) .leaf)) .leaf))))) (.seq (.seq .leaf (.block ⟨[(2,(.pt 2 0)),(3,(.pt 3 0))],[(2000,z5),(2,z9),(3,z0),(1021100,.arr 37 1),(1021101,.arr 60 1),(1021102,.arr 45 1)]⟩ (.loop ⟨[(0,(.pt 2000 0)),(2,(.pt 2 0)),(3,(.pt 3 0)),(7,zi),(11,zi)],[(2000,z5),(2,z9),(3,z0),(1021100,.arr 37 1),(1021101,.arr 60 1),(1021102,.arr 45 1)]⟩ (.seq .leaf (.seq (.skip (.seq .leaf (.cond (.seq .leaf (.seq .leaf (.seq (.join ⟨[(0,(.pt 2000 0)),(2,(.pt 2 0)),(3,(.pt 3 0)),(7,zi),(11,zi),(12,(.pt 12 0)),(113,zo)],[(2000,z5),(2,z9),(3,z0),(12,z4),(1021100,.arr 37 1),(1021101,.arr 60 1),(1021102,.arr 45 1)]⟩ .leaf) (.cond (.seq (.frz [1021103] .leaf) .leaf) .leaf)))) .leaf))) .leaf))))) .leaf)))))))) [(47,some 69,ga),(47,some 125,ga),(57,some 102,mm),(76,some 17,aa),(76,some 21,aa),(76,some 49,aa),(76,some 55,aa),(76,some 57,aa),(76,some 83,aa),(76,some 92,aa),(76,some 110,aa),(131,some 32,(ff dL)),(132,some 34,jO),(133,some 67,kL)] (.cons jK (.cons jK (.cons uC (.cons ab (.cons ab (.cons ab (.cons ab (.cons ab (.cons ab (.cons ab (.cons ab (.cons nN (.cons tW (.cons uO .nil)))))))))))))) (by kernel_rfl) (by kernel_rfl) (by kernel_rfl) (fun xs=>by kernel_rfl)
end
end Go.Ev
namespace Go.Ev
open Go.Proofs
noncomputable section
def eJ.d1 (a b c:C):R:=(bif (decide (b.I>0)) then (bif ((b.I.tmod 2)==1) then (bif (decide (c.S.size+a.S.size≤4294967296)) then (bif (decide (a.S.size+a.S.size≤4294967296)) then (some (.again [.s (a.S++a.S),.i (w64 (b.I.tdiv 2)),.s (c.S++a.S)])) else none) else none) else (bif (decide (a.S.size+a.S.size≤4294967296)) then (some (.again [.s (a.S++a.S),.i (w64 (b.I.tdiv 2)),c])) else none)) else (some (.brk 0 [c])))
def eJ.d2 (a:C):R:=(some (.ret [a]))
def eJ.d3 (a b:C):R:=(ai 0 (lim (ap3 eJ.d1) [a,b,.s (bs #[])]) (ap1 eJ.d2))
def eJ:List C→Option (List C):=fun xs=>aZ (ap2 eJ.d3 xs)
def my:FS:=⟨2,⟨[(0,zt),(1,zi)],[]⟩,⟨[(0,zt)],[]⟩,[],eJ⟩
theorem ux:aA Tryz.checked.prog T0 134 my:=bC aE (fn:=Tryz.f134) (c:=Tryz.f134.body.getD .skip) my (.seq .leaf (.seq .leaf (.seq (.block ⟨[(5,zt)],[]⟩ (.loop ⟨[(0,zt),(1,zi),(5,zt)],[]⟩ .leaf)) .leaf))) [] .nil (by kernel_rfl) (by kernel_rfl) (by kernel_rfl) (fun xs=>by kernel_rfl)
def bI.d1 (a b c d e f g h i j k l:C):R:=(bif (decide (0≤a.I)) then (bif (decide (a.I<(l.L.length:Int))) then (bif (decide ((((l.L.getD a.I.toNat []).getD 7 .nil).L.length:Int)<b.I)) then (bif (decide (0≤a.I)) then (bif (decide (a.I<(l.L.length:Int))) then (call3 (ae [.i 2,c,d]) fun m n o=>(call3 (ae [.i 2,n,o]) fun p q r=>(bif (decide (((l.L.getD a.I.toNat []).getD 7 .nil).L.length+(rows [[.s (bs #[]),.i (w64 (9+(w64 (m.I*p.I))))]]).length≤4294967296)) then (bif (decide (0≤a.I)) then (bif (decide (a.I<((l.L.set a.I.toNat (aL (l.L.getD a.I.toNat []) 7 [.nil])).length:Int))) then (bif (List.all ((l.L.set a.I.toNat (aL (l.L.getD a.I.toNat []) 7 [.nil])).set a.I.toNat (aL ((l.L.set a.I.toNat (aL (l.L.getD a.I.toNat []) 7 [.nil])).getD a.I.toNat []) 7 [.l (((l.L.getD a.I.toNat []).getD 7 .nil).L++(rows [[.s (bs #[]),.i (w64 (9+(w64 (m.I*p.I))))]]))])) (pZ [.str,.str,(.int .i64),(.int .i64),(.int .i64),(.int .i64),.str,(.sl 109),(.int .i64),.str,.str,.str])) then (some (.again [a,b,q,r,e,f,.l g.L,.l h.L,.l i.L,.l j.L,.l k.L,.l ((l.L.set a.I.toNat (aL (l.L.getD a.I.toNat []) 7 [.nil])).set a.I.toNat (aL ((l.L.set a.I.toNat (aL (l.L.getD a.I.toNat []) 7 [.nil])).getD a.I.toNat []) 7 [.l (((l.L.getD a.I.toNat []).getD 7 .nil).L++(rows [[.s (bs #[]),.i (w64 (9+(w64 (m.I*p.I))))]]))]))])) else none) else none) else none) else none))) else none) else none) else (some (.brk 1 [c,d,e,f,.l g.L,.l h.L,.l i.L,.l j.L,.l k.L,.l l.L]))) else none) else none)
def bI.d2 (a b c d e f g h i j:C):R:=(some (.nrm [a,b,c,d,.l j.L,.l e.L,.l f.L,.l g.L,.l h.L,.l i.L]))
def bI.d3 (a b c d e f g h i j k l m:C):R:=(bif (decide (c.I<b.I)) then (bif (decide ((bs #[99]).size+(ky (rows [[.i (IntKind.wrap .u8 (w64 (97+c.I)))]])).size≤4294967296)) then (bif (decide (0≤a.I)) then (bif (decide (a.I<(k.L.length:Int))) then (bif (decide (m.L.length+(rows [[.s ((bs #[99])++(ky (rows [[.i (IntKind.wrap .u8 (w64 (97+c.I)))]]))),.s (bs #[119,101,98]),.i 0,.i 0,.i 0,.i 0,.s (bs #[]),.l ao,.i 0,.s (bs #[]),.s (bs #[]),((k.L.getD a.I.toNat []).getD 0 .nil)]]).length≤4294967296)) then (some (.again [a,b,.i (w64 (c.I+1)),d,e,f,g,.l h.L,.l i.L,.l j.L,.l k.L,.l l.L,.l (m.L++(rows [[.s ((bs #[99])++(ky (rows [[.i (IntKind.wrap .u8 (w64 (97+c.I)))]]))),.s (bs #[119,101,98]),.i 0,.i 0,.i 0,.i 0,.s (bs #[]),.l ao,.i 0,.s (bs #[]),.s (bs #[]),((k.L.getD a.I.toNat []).getD 0 .nil)]]))])) else none) else none) else none) else none) else (some (.brk 3 [d,e,f,g,.l h.L,.l i.L,.l j.L,.l k.L,.l l.L,.l m.L])))
def bI.d4 (a b c d e f g h i j:C):R:=(some (.ret [d,e,a,b,.l i.L,.l j.L]))
def bI.d5 (a b c d e f:C):R:=(call4 (bU [a,b,c,d]) fun g h i j=>(call3 (ae [.i (h.L.length:Int),e,f]) fun k l m=>(call3 (ae [.i (j.L.length:Int),l,m]) fun n o p=>(bif (!((h.L.length:Int)==0)) then (bif ((j.L.length:Int)==0) then (some (.ret [.b false,.l ao,o,p,.l ao,.l (rows [[.s (bs #[]),.i 0]])])) else (bd (call3 (ae [.i 16,o,p]) fun q r s=>(bif (q.I==0) then (call3 (ae [.i 2,r,s]) fun t u v=>(ad (eJ [.s (bs #[110]),.i (w64 (20+t.I))]) fun w=>(call3 (ae [.i 4,u,v]) fun x y z=>(bif (decide (0≤x.I)) then (bif (decide (x.I<((rows [[.s (bs #[])],[.s (bs #[65])],[.s (bs #[122,122])],[w]]).length:Int))) then (bif (decide (0≤k.I)) then (bif (decide (k.I<(h.L.length:Int))) then (some (.nrm [y,z,.b false,g,.l j.L,.l ao,.l ao,.l ao,.l (h.L.set k.I.toNat (aL (h.L.getD k.I.toNat []) 0 [(((rows [[.s (bs #[])],[.s (bs #[65])],[.s (bs #[122,122])],[w]]).getD x.I.toNat []).getD 0 .nil)])),.l i.L])) else none) else none) else none) else none)))) else (bif (q.I==1) then (call3 (ae [.i 2,r,s]) fun a0 a1 a2=>(bif (decide (0≤a0.I)) then (bif (decide (a0.I<((rows [[.s (bs #[])],[.s (bs #[120,32,121])]]).length:Int))) then (bif (decide (0≤k.I)) then (bif (decide (k.I<(h.L.length:Int))) then (some (.nrm [a1,a2,.b false,g,.l j.L,.l ao,.l ao,.l ao,.l (h.L.set k.I.toNat (aL (h.L.getD k.I.toNat []) 1 [(((rows [[.s (bs #[])],[.s (bs #[120,32,121])]]).getD a0.I.toNat []).getD 0 .nil)])),.l i.L])) else none) else none) else none) else none)) else (bif (q.I==2) then (call3 (ae [.i 6,r,s]) fun a3 a4 a5=>(bif (decide (0≤a3.I)) then (bif (decide (a3.I<((rows [[.l (rows [[.s (bs #[98])],[.s (bs #[97])]])],[.l (rows [[.s (bs #[97])],[.s (bs #[97,61,98])]])],[.l (rows [[.s (bs #[97,61,98])],[.s (bs #[97,61,99])]])],[.l (rows [[.s (bs #[65])]])],[.l (rows [[.s (bs #[97])],[.s (bs #[97,45,120])],[.s (bs #[97,61,98])]])],[.l (rows [[.s (bs #[49])],[.s (bs #[50])],[.s (bs #[51])],[.s (bs #[52])],[.s (bs #[53])],[.s (bs #[54])],[.s (bs #[55])],[.s (bs #[56])],[.s (bs #[57])],[.s (bs #[97])],[.s (bs #[98])]])]]).length:Int))) then (bif (decide (0≤k.I)) then (bif (decide (k.I<(h.L.length:Int))) then (some (.nrm [a4,a5,.b false,g,.l j.L,.l ao,.l ao,.l ao,.l (h.L.set k.I.toNat (aL (h.L.getD k.I.toNat []) 2 [(((rows [[.l (rows [[.s (bs #[98])],[.s (bs #[97])]])],[.l (rows [[.s (bs #[97])],[.s (bs #[97,61,98])]])],[.l (rows [[.s (bs #[97,61,98])],[.s (bs #[97,61,99])]])],[.l (rows [[.s (bs #[65])]])],[.l (rows [[.s (bs #[97])],[.s (bs #[97,45,120])],[.s (bs #[97,61,98])]])],[.l (rows [[.s (bs #[49])],[.s (bs #[50])],[.s (bs #[51])],[.s (bs #[52])],[.s (bs #[53])],[.s (bs #[54])],[.s (bs #[55])],[.s (bs #[56])],[.s (bs #[57])],[.s (bs #[97])],[.s (bs #[98])]])]]).getD a3.I.toNat []).getD 0 .nil)])),.l i.L])) else none) else none) else none) else none)) else (bif (q.I==3) then (call3 (ae [.i 4,r,s]) fun a6 a7 a8=>(bif (decide (0≤a6.I)) then (bif (decide (a6.I<((rows [[.i (-1)],[.i 0],[.i 1000],[.i 1001]]).length:Int))) then (bif (decide (0≤k.I)) then (bif (decide (k.I<(h.L.length:Int))) then (some (.nrm [a7,a8,.b false,g,.l j.L,.l ao,.l ao,.l ao,.l (h.L.set k.I.toNat (aL (h.L.getD k.I.toNat []) 3 [(((rows [[.i (-1)],[.i 0],[.i 1000],[.i 1001]]).getD a6.I.toNat []).getD 0 .nil)])),.l i.L])) else none) else none) else none) else none)) else (bif (q.I==4) then (bif (decide (0≤k.I)) then (bif (decide (k.I<(h.L.length:Int))) then (bif (decide (h.L.length+(rows [[((h.L.getD k.I.toNat []).getD 0 .nil),((h.L.getD k.I.toNat []).getD 1 .nil),((h.L.getD k.I.toNat []).getD 2 .nil),((h.L.getD k.I.toNat []).getD 3 .nil),((h.L.getD k.I.toNat []).getD 4 .nil),((h.L.getD k.I.toNat []).getD 5 .nil)]]).length≤4294967296)) then (some (.nrm [r,s,.b false,g,.l j.L,.l ao,.l ao,.l ao,.l (h.L++(rows [[((h.L.getD k.I.toNat []).getD 0 .nil),((h.L.getD k.I.toNat []).getD 1 .nil),((h.L.getD k.I.toNat []).getD 2 .nil),((h.L.getD k.I.toNat []).getD 3 .nil),((h.L.getD k.I.toNat []).getD 4 .nil),((h.L.getD k.I.toNat []).getD 5 .nil)]])),.l i.L])) else none) else none) else none) else (bif (q.I==5) then (call3 (ae [.i 4,r,s]) fun a9 b0 b1=>(call3 (ae [.i 3,b0,b1]) fun b2 b3 b4=>(bif (decide (0≤b2.I)) then (bif (decide (b2.I<((rows [[.i (-1)],[.i 60],[.i 61]]).length:Int))) then (bif (decide (0≤a9.I)) then (bif (decide (a9.I<(i.L.length:Int))) then (some (.nrm [b3,b4,.b false,g,.l j.L,.l ao,.l ao,.l ao,.l h.L,.l (i.L.set a9.I.toNat (aL (i.L.getD a9.I.toNat []) 1 [(((rows [[.i (-1)],[.i 60],[.i 61]]).getD b2.I.toNat []).getD 0 .nil)]))])) else none) else none) else none) else none))) else (bif (q.I==6) then (call3 (ae [.i 3,r,s]) fun b5 b6 b7=>(bif (decide (0≤b5.I)) then (bif (decide (b5.I<((rows [[.i (-1)],[.i 100],[.i 101]]).length:Int))) then (bif (decide (0≤n.I)) then (bif (decide (n.I<(j.L.length:Int))) then (some (.nrm [b6,b7,.b false,g,.l (j.L.set n.I.toNat (aL (j.L.getD n.I.toNat []) 2 [(((rows [[.i (-1)],[.i 100],[.i 101]]).getD b5.I.toNat []).getD 0 .nil)])),.l ao,.l ao,.l ao,.l h.L,.l i.L])) else none) else none) else none) else none)) else (bif (q.I==7) then (call3 (ae [.i 3,r,s]) fun b8 b9 c0=>(bif (decide (0≤b8.I)) then (bif (decide (b8.I<((rows [[.i (-1)],[.i 1000000],[.i 1000001]]).length:Int))) then (bif (decide (0≤n.I)) then (bif (decide (n.I<(j.L.length:Int))) then (some (.nrm [b9,c0,.b false,g,.l (j.L.set n.I.toNat (aL (j.L.getD n.I.toNat []) 3 [(((rows [[.i (-1)],[.i 1000000],[.i 1000001]]).getD b8.I.toNat []).getD 0 .nil)])),.l ao,.l ao,.l ao,.l h.L,.l i.L])) else none) else none) else none) else none)) else (bif (q.I==8) then (call3 (ae [.i 3,r,s]) fun c1 c2 c3=>(bif (decide (0≤c1.I)) then (bif (decide (c1.I<((rows [[.i (-1)],[.i 1000],[.i 1001]]).length:Int))) then (bif (decide (0≤n.I)) then (bif (decide (n.I<(j.L.length:Int))) then (some (.nrm [c2,c3,.b false,g,.l (j.L.set n.I.toNat (aL (j.L.getD n.I.toNat []) 4 [(((rows [[.i (-1)],[.i 1000],[.i 1001]]).getD c1.I.toNat []).getD 0 .nil)])),.l ao,.l ao,.l ao,.l h.L,.l i.L])) else none) else none) else none) else none)) else (bif (q.I==9) then (ad (eJ [.s (bs #[97]),.i 201]) fun c4=>(call3 (ae [.i 4,r,s]) fun c5 c6 c7=>(bif (decide (0≤c5.I)) then (bif (decide (c5.I<((rows [[.s (bs #[97,32,98])],[.s (bs #[33])],[c4],[.s (bs #[120])]]).length:Int))) then (bif (decide (0≤n.I)) then (bif (decide (n.I<(j.L.length:Int))) then (some (.nrm [c6,c7,.b false,g,.l (j.L.set n.I.toNat (aL (j.L.getD n.I.toNat []) 6 [(((rows [[.s (bs #[97,32,98])],[.s (bs #[33])],[c4],[.s (bs #[120])]]).getD c5.I.toNat []).getD 0 .nil)])),.l ao,.l ao,.l ao,.l h.L,.l i.L])) else none) else none) else none) else none))) else (bif (q.I==10) then (call3 (ae [.i 2,r,s]) fun c8 c9 d0=>(ai 1 (lim (jk bI.d1) [n,.i (w64 (5+c8.I)),c9,d0,.b false,g,.l ao,.l ao,.l ao,.l h.L,.l i.L,.l j.L]) (s7 bI.d2))) else (bif (q.I==11) then (call3 (ae [.i 2,r,s]) fun d1 d2 d3=>(bif (decide (0≤d1.I)) then (bif (decide (d1.I<((rows [[.i (-1)],[.i 3]]).length:Int))) then (bif (decide (0≤n.I)) then (bif (decide (n.I<(j.L.length:Int))) then (some (.nrm [d2,d3,.b false,g,.l (j.L.set n.I.toNat (aL (j.L.getD n.I.toNat []) 8 [(((rows [[.i (-1)],[.i 3]]).getD d1.I.toNat []).getD 0 .nil)])),.l ao,.l ao,.l ao,.l h.L,.l i.L])) else none) else none) else none) else none)) else (bif (q.I==12) then (call3 (ae [.i 3,r,s]) fun d4 d5 d6=>(bif (decide (0≤d4.I)) then (bif (decide (d4.I<((rows [[.s (bs #[103,111,110,101])],[.s (bs #[98,48])],[.s (bs #[98,49])]]).length:Int))) then (bif (decide (0≤n.I)) then (bif (decide (n.I<(j.L.length:Int))) then (some (.nrm [d5,d6,.b false,g,.l (j.L.set n.I.toNat (aL (j.L.getD n.I.toNat []) 11 [(((rows [[.s (bs #[103,111,110,101])],[.s (bs #[98,48])],[.s (bs #[98,49])]]).getD d4.I.toNat []).getD 0 .nil)])),.l ao,.l ao,.l ao,.l h.L,.l i.L])) else none) else none) else none) else none)) else (bif (q.I==13) then (call3 (ae [.i 2,r,s]) fun d7 d8 d9=>(bif (decide (0≤d7.I)) then (bif (decide (d7.I<((rows [[.s (bs #[110,111,110,101])],[.s (bs #[])]]).length:Int))) then (bif (decide (0≤n.I)) then (bif (decide (n.I<(j.L.length:Int))) then (some (.nrm [d8,d9,.b false,g,.l (j.L.set n.I.toNat (aL (j.L.getD n.I.toNat []) 1 [(((rows [[.s (bs #[110,111,110,101])],[.s (bs #[])]]).getD d7.I.toNat []).getD 0 .nil)])),.l ao,.l ao,.l ao,.l h.L,.l i.L])) else none) else none) else none) else none)) else (bif (q.I==14) then (call3 (ae [.i 2,r,s]) fun e0 e1 e2=>(ai 3 (lim (oQ bI.d3) [k,.i (w64 (10+e0.I)),.i 0,e1,e2,.b false,g,.l ao,.l ao,.l ao,.l h.L,.l i.L,.l ao]) (s7 bI.d2))) else (call3 (ae [.i 2,r,s]) fun e3 e4 e5=>(bif (decide (0≤e3.I)) then (bif (decide (e3.I<((rows [[.s (bs #[65])],[.s (bs #[119,101,98])]]).length:Int))) then (bif (decide (0≤n.I)) then (bif (decide (n.I<(j.L.length:Int))) then (call3 (ae [.i 2,e4,e5]) fun e6 e7 e8=>(bif (decide (0≤e6.I)) then (bif (decide (e6.I<((rows [[.s (bs #[120,32,121])],[.s (bs #[98,48])]]).length:Int))) then (bif (decide (0≤n.I)) then (bif (decide (n.I<((j.L.set n.I.toNat (aL (j.L.getD n.I.toNat []) 9 [(((rows [[.s (bs #[65])],[.s (bs #[119,101,98])]]).getD e3.I.toNat []).getD 0 .nil)])).length:Int))) then (some (.nrm [e7,e8,.b false,g,.l ((j.L.set n.I.toNat (aL (j.L.getD n.I.toNat []) 9 [(((rows [[.s (bs #[65])],[.s (bs #[119,101,98])]]).getD e3.I.toNat []).getD 0 .nil)])).set n.I.toNat (aL ((j.L.set n.I.toNat (aL (j.L.getD n.I.toNat []) 9 [(((rows [[.s (bs #[65])],[.s (bs #[119,101,98])]]).getD e3.I.toNat []).getD 0 .nil)])).getD n.I.toNat []) 10 [(((rows [[.s (bs #[120,32,121])],[.s (bs #[98,48])]]).getD e6.I.toNat []).getD 0 .nil)])),.l ao,.l ao,.l ao,.l h.L,.l i.L])) else none) else none) else none) else none)) else none) else none) else none) else none)))))))))))))))))) (s7 bI.d4))) else (some (.ret [.b false,.l ao,o,p,.l ao,.l (rows [[.s (bs #[]),.i 0]])]))))))
def bI:List C→Option (List C):=fun xs=>aZ (ap6 bI.d5 xs)
def ot:FS:=⟨2,⟨[(0,(.pt 2000 0)),(1,z2)],[(2000,z5)]⟩,⟨[(0,(.ag [zo,(.ow 3001),(.ow 3002),(zl 45)]))],[(2000,z5),(3001,.arr 37),(3002,.arr 60 1)]⟩,[2000],bI⟩
theorem Ad:aA Tryz.checked.prog T0 98 ot:=Iy aE [125,287] true [37,60] (fn:=Tryz.f98) (c:=Tryz.f98.body.getD .skip) ot (.seq .leaf (.seq .leaf (.seq .leaf (.seq .leaf (.seq .leaf (.seq (.join ⟨[(4,(.pt 4 0)),(5,(.pt 5 0))],[(2000,z5),(4,.var 27 [zo,(.ow 1189600),(.ow 1189601),(.ow 1189602)]),(5,.var 27 [zo,(.ow 56248),(.ow 56249),(zl 45)]),(1189600,.arr 37 1),(1189601,.arr 60 1),(1189602,.arr 45 1),(56248,.arr 37),(56249,.arr 60 1)]⟩ (.seq .leaf (.skip (.seq .leaf (.cond .leaf (.seq .leaf (.cond .leaf (.seq .leaf (.cond .leaf (.seq .leaf (.cond .leaf (.seq .leaf (.cond .leaf (.seq .leaf (.cond .leaf (.seq .leaf (.cond .leaf (.seq .leaf (.cond .leaf (.seq .leaf (.cond .leaf (.seq .leaf (.cond .leaf (.seq .leaf (.cond (.seq .leaf (.block ⟨[(4,(.pt 4 0)),(5,(.pt 5 0))],[(2000,z5),(4,.var 27 [zo,(.ow 1189600),(.ow 1189601),(.ow 1189602)]),(5,.var 27 [zo,(.ow 56248),(.ow 56249),(.ow 56250)]),(1189600,.arr 37 1),(1189601,.arr 60 1),(1189602,.arr 45 1),(56248,.arr 37 1),(56249,.arr 60 1),(56250,.arr 45 2)]⟩ (.loop ⟨[(0,(.pt 2000 0)),(4,(.pt 4 0)),(5,(.pt 5 0)),(7,zi),(8,zi)],[(2000,z5),(4,.var 27 [zo,(.ow 1189600),(.ow 1189601),(.ow 1189602)]),(5,.var 27 [zo,(.ow 56248),(.ow 56249),(.ow 56250)]),(1189600,.arr 37 1),(1189601,.arr 60 1),(1189602,.arr 45 1),(56248,.arr 37 1),(56249,.arr 60 1),(56250,.arr 45 2)]⟩ .leaf))) (.seq .leaf (.cond .leaf (.seq .leaf (.cond .leaf (.seq .leaf (.cond .leaf (.seq .leaf (.cond (.seq .leaf (.seq .leaf (.seq .leaf (.block ⟨[(4,(.pt 4 0)),(5,(.pt 5 0))],[(2000,z5),(4,.var 27 [zo,(.ow 1192700),(.ow 1192701),(.ow 1192702)]),(5,.var 27 [zo,(.ow 56248),(.ow 56249),(.ow 265)]),(1192700,.arr 37 1),(1192701,.arr 60 1),(1192702,.arr 45 1),(56248,.arr 37 1),(56249,.arr 60 1),(265,.arr 45 1)]⟩ (.loop ⟨[(4,(.pt 4 0)),(5,(.pt 5 0)),(6,zi),(9,zi),(10,zi)],[(2000,z5),(4,.var 27 [zo,(.ow 1192700),(.ow 1192701),(.ow 1192702)]),(5,.var 27 [zo,(.ow 56248),(.ow 56249),(.ow 265)]),(1192700,.arr 37 1),(1192701,.arr 60 1),(1192702,.arr 45 1),(56248,.arr 37 1),(56249,.arr 60 1),(265,.arr 45 1)]⟩ .leaf))))) .leaf))))))))))))))))))))))))))))))))) .leaf)))))) [(76,some 17,aa),(76,some 22,aa),(76,some 37,aa),(76,some 43,aa),(76,some 53,aa),(76,some 64,aa),(76,some 69,aa),(76,some 81,aa),(76,some 99,aa),(76,some 111,aa),(76,some 133,aa),(76,some 136,aa),(76,some 148,aa),(76,some 160,aa),(76,some 172,aa),(76,some 185,aa),(76,some 193,aa),(76,some 214,aa),(76,some 216,aa),(76,some 231,aa),(76,some 243,aa),(76,some 255,aa),(76,some 263,aa),(85,some 12,jc),(134,some 66,my),(134,some 182,my)] (.cons ab (.cons ab (.cons ab (.cons ab (.cons ab (.cons ab (.cons ab (.cons ab (.cons ab (.cons ab (.cons ab (.cons ab (.cons ab (.cons ab (.cons ab (.cons ab (.cons ab (.cons ab (.cons ab (.cons ab (.cons ab (.cons ab (.cons ab (.cons oc (.cons ux (.cons ux .nil)))))))))))))))))))))))))) (by kernel_rfl) (by kernel_rfl) (by kernel_rfl) (fun xs=>by kernel_rfl)
def oB.d1 (a b:C):R:=(call3 (ae [.i 12,a,b]) fun c d e=>(bif (c.I==0) then (call6 (cF [d,e]) fun f g h i j k=>(some (.ret [f,.l i.L,.l j.L,.l k.L,g,h]))) else (call6 (aH [d,e]) fun l m n o p q=>(call3 (ae [.i 16,p,q]) fun r s t=>(bif (r.I==0) then (call6 (bI [l,m,n,o,s,t]) fun u v w x y z=>(some (.ret [u,.l y.L,.l z.L,v,w,x]))) else (some (.ret [l,m,n,o,s,t])))))))
def oB:List C→Option (List C):=fun xs=>aZ (ap2 oB.d1 xs)
def qR:FS:=⟨1,⟨[(0,(.pt 2000 0))],[(2000,z5)]⟩,⟨[(0,z2)],[(2000,z5)]⟩,[2000],oB⟩
theorem Cc:aA Tryz.checked.prog T0 49 qR:=bC aE (fn:=Tryz.f49) (c:=Tryz.f49.body.getD .skip) qR (.seq .leaf (.seq (.seq .leaf (.cond (.seq .leaf (.frz [39865,39866,39867] .leaf)) .leaf)) (.seq .leaf (.seq (.seq .leaf (.cond (.seq .leaf (.frz [72633,72634] .leaf)) .leaf)) .leaf)))) [(76,some 5,aa),(76,some 12,aa),(96,some 8,o9),(97,some 10,pq),(98,some 16,ot)] (.cons ab (.cons ab (.cons BH (.cons Bf (.cons Ad .nil))))) (by kernel_rfl) (by kernel_rfl) (by kernel_rfl) (fun xs=>by kernel_rfl)
def eF.d1 (a:C):R:=(call2 (lD [a]) fun b c=>(call6 (oB [b,c]) fun d e f g h i=>(some (.ret [d,e,f,g]))))
def eF:List C→Option (List C):=fun xs=>aZ (ap1 eF.d1 xs)
def ij:FS:=⟨1,⟨[(0,(zl 5))],[]⟩,⟨[(0,z2)],[]⟩,[],eF⟩
theorem qx:aA Tryz.checked.prog T0 30 ij:=bC aE (fn:=Tryz.f30) (c:=Tryz.f30.body.getD .skip) ij .leaf [(48,some 4,pf),(49,some 5,qR)] (.cons BM (.cons Cc .nil)) (by kernel_rfl) (by kernel_rfl) (by kernel_rfl) (fun xs=>by kernel_rfl)
def iJ.d1 (a b c d e f g h i j k l m n o p q r s t u v w x:C):R:=(bif (c.I !=o.I) then (some (.ret [.b (decide (c.I>o.I))])) else (bif (d.I !=p.I) then (some (.ret [.b (decide (d.I<p.I))])) else (some (.ret [.b (Op.bytesLess a.S.toList m.S.toList)]))))
def iJ:List C→Option (List C):=fun xs=>aZ (xc iJ.d1 xs)
def oD:FS:=⟨2,⟨[(0,z3),(1,z3)],[]⟩,⟨[(0,zo)],[]⟩,[],iJ⟩
theorem zb:aA Tryz.checked.prog T0 125 oD:=bC aE (fn:=Tryz.f125) (c:=Tryz.f125.body.getD .skip) oD .leaf [] .nil (by kernel_rfl) (by kernel_rfl) (by kernel_rfl) (fun xs=>by kernel_rfl)
def aW.d1 (a b c d e f g:C):R:=(bif (decide (b.I<(g.L.length:Int))) then (bif (decide (0≤b.I)) then (bif (decide (b.I<(g.L.length:Int))) then (bif (decide (0≤a.I)) then (bif (decide (a.I<(f.L.length:Int))) then (ad (iJ [((g.L.getD b.I.toNat []).getD 0 .nil),((g.L.getD b.I.toNat []).getD 1 .nil),((g.L.getD b.I.toNat []).getD 2 .nil),((g.L.getD b.I.toNat []).getD 3 .nil),((g.L.getD b.I.toNat []).getD 4 .nil),((g.L.getD b.I.toNat []).getD 5 .nil),((g.L.getD b.I.toNat []).getD 6 .nil),((g.L.getD b.I.toNat []).getD 7 .nil),((g.L.getD b.I.toNat []).getD 8 .nil),((g.L.getD b.I.toNat []).getD 9 .nil),((g.L.getD b.I.toNat []).getD 10 .nil),((g.L.getD b.I.toNat []).getD 11 .nil),((f.L.getD a.I.toNat []).getD 0 .nil),((f.L.getD a.I.toNat []).getD 1 .nil),((f.L.getD a.I.toNat []).getD 2 .nil),((f.L.getD a.I.toNat []).getD 3 .nil),((f.L.getD a.I.toNat []).getD 4 .nil),((f.L.getD a.I.toNat []).getD 5 .nil),((f.L.getD a.I.toNat []).getD 6 .nil),((f.L.getD a.I.toNat []).getD 7 .nil),((f.L.getD a.I.toNat []).getD 8 .nil),((f.L.getD a.I.toNat []).getD 9 .nil),((f.L.getD a.I.toNat []).getD 10 .nil),((f.L.getD a.I.toNat []).getD 11 .nil)]) fun h=>(bif h.B then (some (.again [a,.i (w64 (b.I+1)),c,d,e,f,.l g.L])) else (some (.brk 2 [a,b,c,d,e,f,.l g.L])))) else none) else none) else none) else none) else (some (.brk 2 [a,b,c,d,e,f,.l g.L])))
def aW.d2 (a b c d e f g:C):R:=(bif (decide (0≤b.I)) then (bif (decide (b.I≤(g.L.length:Int))) then (bif (decide (ao.length+((g.L.take b.I.toNat).drop 0).length≤4294967296)) then (bif (decide (0≤a.I)) then (bif (decide (a.I<(f.L.length:Int))) then (bif (decide ((ao++((g.L.take b.I.toNat).drop 0)).length+(rows [[((f.L.getD a.I.toNat []).getD 0 .nil),((f.L.getD a.I.toNat []).getD 1 .nil),((f.L.getD a.I.toNat []).getD 2 .nil),((f.L.getD a.I.toNat []).getD 3 .nil),((f.L.getD a.I.toNat []).getD 4 .nil),((f.L.getD a.I.toNat []).getD 5 .nil),((f.L.getD a.I.toNat []).getD 6 .nil),((f.L.getD a.I.toNat []).getD 7 .nil),((f.L.getD a.I.toNat []).getD 8 .nil),((f.L.getD a.I.toNat []).getD 9 .nil),((f.L.getD a.I.toNat []).getD 10 .nil),((f.L.getD a.I.toNat []).getD 11 .nil)]]).length≤4294967296)) then (bif (decide (0≤b.I)) then (bif (decide (b.I≤(g.L.length:Int))) then (bif (decide ((g.L.length:Int)≤(g.L.length:Int))) then (bif (decide (((ao++((g.L.take b.I.toNat).drop 0))++(rows [[((f.L.getD a.I.toNat []).getD 0 .nil),((f.L.getD a.I.toNat []).getD 1 .nil),((f.L.getD a.I.toNat []).getD 2 .nil),((f.L.getD a.I.toNat []).getD 3 .nil),((f.L.getD a.I.toNat []).getD 4 .nil),((f.L.getD a.I.toNat []).getD 5 .nil),((f.L.getD a.I.toNat []).getD 6 .nil),((f.L.getD a.I.toNat []).getD 7 .nil),((f.L.getD a.I.toNat []).getD 8 .nil),((f.L.getD a.I.toNat []).getD 9 .nil),((f.L.getD a.I.toNat []).getD 10 .nil),((f.L.getD a.I.toNat []).getD 11 .nil)]])).length+((g.L.take (g.L.length:Int).toNat).drop b.I.toNat).length≤4294967296)) then (some (.brk 1 [a,c,d,e,f,.l (((ao++((g.L.take b.I.toNat).drop 0))++(rows [[((f.L.getD a.I.toNat []).getD 0 .nil),((f.L.getD a.I.toNat []).getD 1 .nil),((f.L.getD a.I.toNat []).getD 2 .nil),((f.L.getD a.I.toNat []).getD 3 .nil),((f.L.getD a.I.toNat []).getD 4 .nil),((f.L.getD a.I.toNat []).getD 5 .nil),((f.L.getD a.I.toNat []).getD 6 .nil),((f.L.getD a.I.toNat []).getD 7 .nil),((f.L.getD a.I.toNat []).getD 8 .nil),((f.L.getD a.I.toNat []).getD 9 .nil),((f.L.getD a.I.toNat []).getD 10 .nil),((f.L.getD a.I.toNat []).getD 11 .nil)]]))++((g.L.take (g.L.length:Int).toNat).drop b.I.toNat))])) else none) else none) else none) else none) else none) else none) else none) else none) else none) else none)
def aW.d3 (a b c d e f:C):R:=(some (.again [.i (w64 (a.I+1)),b,c,d,e,.l f.L]))
def aW.d4 (a b c d e f:C):R:=(bif (decide (a.I<(e.L.length:Int))) then (ai 1 (bif (decide (0≤a.I)) then (bif (decide (a.I<(e.L.length:Int))) then (bif (!((((e.L.getD a.I.toNat []).getD 11 .nil).S).toList==(bs #[]).toList)) then (some (.brk 1 [a,b,c,d,e,.l f.L])) else (ai 2 (lim (ap7 aW.d1) [a,.i 0,b,c,d,e,.l f.L]) (ap7 aW.d2))) else none) else none) (ap6 aW.d3)) else (some (.brk 0 [.l f.L])))
def aW.d5 (a b c:C):R:=(bif (decide (a.I<(b.L.length:Int))) then (bif (decide (0≤a.I)) then (bif (decide (a.I<(b.L.length:Int))) then (bif (decide (c.L.length+(rows [[((b.L.getD a.I.toNat []).getD 0 .nil)]]).length≤4294967296)) then (some (.again [.i (w64 (a.I+1)),.l b.L,.l (c.L++(rows [[((b.L.getD a.I.toNat []).getD 0 .nil)]]))])) else none) else none) else none) else (some (.brk 4 [.l c.L])))
def aW.d6 (a:C):R:=(some (.ret [.l a.L]))
def aW.d7 (a:C):R:=(ai 4 (lim (ap3 aW.d5) [.i 0,.l a.L,.l ao]) (ap1 aW.d6))
def aW.d8 (a b c d:C):R:=(ai 0 (lim (ap6 aW.d4) [.i 0,a,b,c,d,.l ao]) (ap1 aW.d7))
def aW:List C→Option (List C):=fun xs=>aZ (ap4 aW.d8 xs)
def kW:FS:=⟨1,⟨[(0,z2)],[]⟩,⟨[(0,(.ow 3000))],[(3000,.arr 9 1)]⟩,[],aW⟩
theorem sf:aA Tryz.checked.prog T0 88 kW:=oZ aE [51] false (fn:=Tryz.f88) (c:=Tryz.f88.body.getD .skip) kW (.seq .leaf (.seq .leaf (.seq (.seq .leaf (.block ⟨[(3,(.ow 8))],[(8,.arr 45)]⟩ (.loop ⟨[(1,(.pt 1 0)),(3,(.ow 8)),(4,zi)],[(1,z0),(8,.arr 45)]⟩ (.seq .leaf (.seq (.block ⟨[(1,(.pt 1 0)),(3,(.ow 8)),(4,zi)],[(1,z0),(8,.arr 45)]⟩ (.seq .leaf (.seq .leaf (.seq (.block ⟨[(1,(.pt 1 0)),(3,(.ow 8)),(4,zi),(5,zi)],[(1,z0),(8,.arr 45)]⟩ (.loop ⟨[(1,(.pt 1 0)),(3,(.ow 8)),(4,zi),(5,zi)],[(1,z0),(8,.arr 45)]⟩ .leaf)) .leaf)))) .leaf))))) (.seq .leaf (.seq (.seq .leaf (.block ⟨[(6,(.ow 57))],[(57,.arr 9 1)]⟩ (.loop ⟨[(3,(.ow 8)),(6,(.ow 57)),(7,zi)],[(8,.arr 45),(57,.arr 9 1)]⟩ .leaf))) .leaf))))) [(125,some 37,oD)] (.cons zb .nil) (by kernel_rfl) (by kernel_rfl) (by kernel_rfl) (fun xs=>by kernel_rfl)
def gB.d1 (a b c d:C):R:=(ad (aw [a,b,c,d]) fun e=>(bif (!e.B) then (some (.ret [.l ao])) else (ad (aW [a,b,c,d]) fun f=>(some (.ret [.l f.L])))))
def gB:List C→Option (List C):=fun xs=>aZ (ap4 gB.d1 xs)
def kE:FS:=⟨1,⟨[(0,z2)],[]⟩,⟨[(0,(.ow 3000))],[(3000,.arr 9 1)]⟩,[],gB⟩
theorem uK:aA Tryz.checked.prog T0 34 kE:=bC aE (fn:=Tryz.f34) (c:=Tryz.f34.body.getD .skip) kE .leaf [(15,some 4,fB),(88,some 8,kW)] (.cons iG (.cons sf .nil)) (by kernel_rfl) (by kernel_rfl) (by kernel_rfl) (fun xs=>by kernel_rfl)
def dR.d1 (a b c d e f g h i j k l m n o p q r:C):R:=(bif (decide (b.I<(f.L.length:Int))) then (bif (decide (0≤b.I)) then (bif (decide (b.I<(f.L.length:Int))) then (bif ((((f.L.getD b.I.toNat []).getD 0 .nil).S).toList==a.S.toList) then (bif (decide (0≤b.I)) then (bif (decide (b.I<(f.L.length:Int))) then (some (.ret [((f.L.getD b.I.toNat []).getD 0 .nil),((f.L.getD b.I.toNat []).getD 1 .nil),((f.L.getD b.I.toNat []).getD 2 .nil),((f.L.getD b.I.toNat []).getD 3 .nil),((f.L.getD b.I.toNat []).getD 4 .nil),((f.L.getD b.I.toNat []).getD 5 .nil),((f.L.getD b.I.toNat []).getD 6 .nil),((f.L.getD b.I.toNat []).getD 7 .nil),((f.L.getD b.I.toNat []).getD 8 .nil),((f.L.getD b.I.toNat []).getD 9 .nil),((f.L.getD b.I.toNat []).getD 10 .nil),((f.L.getD b.I.toNat []).getD 11 .nil),.b true])) else none) else none) else (some (.again [a,.i (w64 (b.I+1)),c,d,e,f,g,h,i,j,k,l,m,n,o,p,q,.l r.L]))) else none) else none) else (some (.brk 0 [g,h,i,j,k,l,m,n,o,p,q,.l r.L])))
def dR.d2 (a b c d e f g h i j k l:C):R:=(some (.ret [.s (bs #[]),.s (bs #[]),.i 0,.i 0,.i 0,.i 0,.s (bs #[]),.l ao,.i 0,.s (bs #[]),.s (bs #[]),.s (bs #[]),.b false]))
def dR.d3 (a b c d e:C):R:=(ai 0 (lim (Ci dR.d1) [e,.i 0,a,b,c,d,.s (bs #[]),.s (bs #[]),.i 0,.i 0,.i 0,.i 0,.s (bs #[]),.i 0,.s (bs #[]),.s (bs #[]),.s (bs #[]),.l ao]) (jk dR.d2))
def dR:List C→Option (List C):=fun xs=>aZ (ap5 dR.d3 xs)
def kr:FS:=⟨2,⟨[(0,z2),(1,zt)],[]⟩,⟨[(0,(.tu [z3,zo]))],[]⟩,[],dR⟩
theorem pU:aA Tryz.checked.prog T0 22 kr:=bC aE (fn:=Tryz.f22) (c:=Tryz.f22.body.getD .skip) kr (.seq .leaf (.seq (.seq .leaf (.block ⟨[(4,(.pt 4 0))],[(4,.var 45 [zt,zt,zi,zi,zi,zi,zt,(.ow 1206800),zi,zt,zt,zt]),(1206800,.arr 109 1)]⟩ (.loop ⟨[(1,zt),(2,(.pt 2 0)),(4,(.pt 4 0)),(6,zi)],[(2,z0),(4,.var 45 [zt,zt,zi,zi,zi,zi,zt,(.ow 1206800),zi,zt,zt,zt]),(1206800,.arr 109 1)]⟩ .leaf))) .leaf)) [] .nil (by kernel_rfl) (by kernel_rfl) (by kernel_rfl) (fun xs=>by kernel_rfl)
def qa.d1 (a:C):R:=(bif (decide (a.I≥97)) then (bif (!(decide (a.I≤122))) then (bif (decide (a.I≥48)) then (bif (!(decide (a.I≤57))) then (bif (!(a.I==45)) then (some (.ret [.b (a.I==95)])) else (some (.ret [.b true]))) else (some (.ret [.b true]))) else (bif (!(a.I==45)) then (some (.ret [.b (a.I==95)])) else (some (.ret [.b true])))) else (some (.ret [.b true]))) else (bif (decide (a.I≥48)) then (bif (!(decide (a.I≤57))) then (bif (!(a.I==45)) then (some (.ret [.b (a.I==95)])) else (some (.ret [.b true]))) else (some (.ret [.b true]))) else (bif (!(a.I==45)) then (some (.ret [.b (a.I==95)])) else (some (.ret [.b true])))))
def qa:List C→Option (List C):=fun xs=>aZ (ap1 qa.d1 xs)
def oA:FS:=⟨1,⟨[(0,(.d (.int .u8)))],[]⟩,⟨[(0,zo)],[]⟩,[],qa⟩
theorem wH:aA Tryz.checked.prog T0 112 oA:=bC aE (fn:=Tryz.f112) (c:=Tryz.f112.body.getD .skip) oA .leaf [] .nil (by kernel_rfl) (by kernel_rfl) (by kernel_rfl) (fun xs=>by kernel_rfl)
def dT.d1 (a b c:C):R:=(bif (decide (c.I<b.I)) then (bif (decide (0≤c.I)) then (bif (decide (c.I<(a.S.size:Int))) then (ad (qa [.i ((a.S.data.getD c.I.toNat 0).toNat:Int)]) fun d=>(bif (!d.B) then (some (.ret [.b false])) else (some (.again [a,b,.i (w64 (c.I+1))])))) else none) else none) else (some (.brk 0 [])))
def dT.d2:R:=(some (.ret [.b true]))
def dT.d3 (a:C):R:=(bif (!(decide ((a.S.size:Int)<1))) then (bif (decide ((a.S.size:Int)>20)) then (some (.ret [.b false])) else (ai 0 (lim (ap3 dT.d1) [a,.i (a.S.size:Int),.i 0]) (fun xs=>dT.d2))) else (some (.ret [.b false])))
def dT:List C→Option (List C):=fun xs=>aZ (ap1 dT.d3 xs)
def fc:FS:=⟨1,⟨[(0,zt)],[]⟩,⟨[(0,zo)],[]⟩,[],dT⟩
theorem gu:aA Tryz.checked.prog T0 66 fc:=bC aE (fn:=Tryz.f66) (c:=Tryz.f66.body.getD .skip) fc (.seq .leaf (.seq .leaf (.seq (.seq .leaf (.block ⟨[],[]⟩ (.loop ⟨[(0,zt),(13,zi),(14,zi)],[]⟩ .leaf))) .leaf))) [(112,some 20,oA)] (.cons wH .nil) (by kernel_rfl) (by kernel_rfl) (by kernel_rfl) (fun xs=>by kernel_rfl)
def fh.d1 (a b c:C):R:=(bif (decide (a.I≥b.I)) then (some (.ret [.b (decide (a.I≤c.I))])) else (some (.ret [.b false])))
def fh:List C→Option (List C):=fun xs=>aZ (ap3 fh.d1 xs)
def eM:FS:=⟨3,⟨[(0,zi),(1,zi),(2,zi)],[]⟩,⟨[(0,zo)],[]⟩,[],fh⟩
theorem fM:aA Tryz.checked.prog T0 67 eM:=bC aE (fn:=Tryz.f67) (c:=Tryz.f67.body.getD .skip) eM .leaf [] .nil (by kernel_rfl) (by kernel_rfl) (by kernel_rfl) (fun xs=>by kernel_rfl)
def eG:List C→Option (List C):=ibF
def fm:FS:=⟨2,⟨[(0,.d .str),(1,.d (.int .u8))],[]⟩,⟨[(0,.d (.int .i64))],[]⟩,[],eG⟩
theorem iW:aA Tryz.checked.prog T0 215 fm:=JT
def aR.d1 (a b c d:C):R:=(bif d.B then (some (.ret [.i 0])) else (bif (c.I==1) then (bif (decide (0<(b.S.size:Int))) then (ad (eG [a,.i ((b.S.data.getD 0 0).toNat:Int)]) fun e=>(some (.ret [e]))) else none) else (bif (decide (c.I≥(a.S.size:Int))) then (some (.ret [.i (-1)])) else none)))
def aR.d2 (a b:C):R:=(bd (bif (!((b.S.size:Int)==0)) then (some (.nrm [a,b,.i (b.S.size:Int),.b (b.S.toList==a.S.toList)])) else (some (.nrm [a,b,.i (b.S.size:Int),.b true]))) (ap4 aR.d1))
def aR:List C→Option (List C):=fun xs=>aZ (ap2 aR.d2 xs)
def eN:FS:=⟨2,⟨[(0,zt),(1,zt)],[]⟩,⟨[(0,zi)],[]⟩,[],aR⟩
theorem kf:aA Tryz.checked.prog T0 195 eN:=bC aE (fn:=Tryz.f195) (c:=Tryz.f195.body.getD .skip) eN (.seq .leaf (.seq .leaf (.seq (.skip (.seq (.join ⟨[(0,zt),(1,zt),(5,zi),(16,zo)],[]⟩ .leaf) .leaf)) .leaf))) [(215,some 30,fm)] (.cons iW .nil) (by kernel_rfl) (by kernel_rfl) (by kernel_rfl) (fun xs=>by kernel_rfl)
def cW.d1 (a b:C):R:=(ad (aR [a,b]) fun c=>(bif (decide (c.I≥0)) then (bif (decide (0≤c.I)) then (bif (decide (c.I≤(a.S.size:Int))) then (bif (decide (0≤(w64 (c.I+(b.S.size:Int))))) then (bif (decide ((w64 (c.I+(b.S.size:Int)))≤(a.S.size:Int))) then (bif (decide ((a.S.size:Int)≤(a.S.size:Int))) then (some (.ret [.s (a.S.extract 0 c.I.toNat),.s (a.S.extract (w64 (c.I+(b.S.size:Int))).toNat (a.S.size:Int).toNat),.b true])) else none) else none) else none) else none) else none) else (some (.ret [a,.s (bs #[]),.b false]))))
def cW:List C→Option (List C):=fun xs=>aZ (ap2 cW.d1 xs)
def eX:FS:=⟨2,⟨[(0,zt),(1,zt)],[]⟩,⟨[(0,(.tu [zt,zt,zo]))],[]⟩,[],cW⟩
theorem kV:aA Tryz.checked.prog T0 170 eX:=bC aE (fn:=Tryz.f170) (c:=Tryz.f170.body.getD .skip) eX .leaf [(195,some 10,eN)] (.cons kf .nil) (by kernel_rfl) (by kernel_rfl) (by kernel_rfl) (fun xs=>by kernel_rfl)
def iM.d1 (a b:C):R:=(call3 (cW [a,b]) fun c d e=>(some (.ret [c,d,.b e.B])))
def iM:List C→Option (List C):=fun xs=>aZ (ap2 iM.d1 xs)
def lH:FS:=⟨2,⟨[(0,zt),(1,zt)],[]⟩,⟨[(0,(.tu [zt,zt,zo]))],[]⟩,[],iM⟩
theorem vR:aA Tryz.checked.prog T0 140 lH:=bC aE (fn:=Tryz.f140) (c:=Tryz.f140.body.getD .skip) lH .leaf [(170,some 9,eX)] (.cons kV .nil) (by kernel_rfl) (by kernel_rfl) (by kernel_rfl) (fun xs=>by kernel_rfl)
def mi.d1 (a:C):R:=(call3 (iM [a,.s (bs #[61])]) fun b c d=>(ad (dT [b]) fun e=>(bif e.B then (bif (!(!d.B)) then (ad (dT [c]) fun f=>(some (.ret [b,c,.b f.B]))) else (some (.ret [b,c,.b true]))) else (some (.ret [b,c,.b false])))))
def mi:List C→Option (List C):=fun xs=>aZ (ap1 mi.d1 xs)
def oe:FS:=⟨1,⟨[(0,zt)],[]⟩,⟨[(0,(.tu [zt,zt,zo]))],[]⟩,[],mi⟩
theorem wL:aA Tryz.checked.prog T0 111 oe:=bC aE (fn:=Tryz.f111) (c:=Tryz.f111.body.getD .skip) oe .leaf [(66,some 17,fc),(66,some 23,fc),(140,some 10,lH)] (.cons gu (.cons gu (.cons vR .nil))) (by kernel_rfl) (by kernel_rfl) (by kernel_rfl) (fun xs=>by kernel_rfl)
def dH.d1 (a b c d e f g h i j:C):R:=(bif (decide (c.I<b.I)) then (bif (decide (0≤c.I)) then (bif (decide (c.I<(a.L.length:Int))) then (call3 (mi [((a.L.getD c.I.toNat []).getD 0 .nil)]) fun k l m=>(bif (!(!m.B)) then (bif (!((k7 (.b false) k.S j.L).B)) then (bif (decide (c.I>0)) then (bif (decide (0≤(w64 (c.I-1)))) then (bif (decide ((w64 (c.I-1))<(f.L.length:Int))) then (bif ((Op.bytesLess (((a.L.getD c.I.toNat []).getD 0 .nil).S).toList (((f.L.getD (w64 (c.I-1)).toNat []).getD 0 .nil).S).toList)||((((a.L.getD c.I.toNat []).getD 0 .nil).S).toList==(((f.L.getD (w64 (c.I-1)).toNat []).getD 0 .nil).S).toList)) then (some (.ret [.b false])) else (some (.again [a,b,.i (w64 (c.I+1)),d,e,f,g,h,i,.l (l5 k.S (.b true) j.L)]))) else none) else none) else (some (.again [a,b,.i (w64 (c.I+1)),d,e,f,g,h,i,.l (l5 k.S (.b true) j.L)]))) else (some (.ret [.b false]))) else (some (.ret [.b false])))) else none) else none) else (some (.brk 0 [])))
def dH.d2:R:=(some (.ret [.b true]))
def dH.d3 (a b c d e f:C):R:=(ad (dT [a]) fun g=>(bif (!(!g.B)) then (ad (dT [b]) fun h=>(bif (!(!h.B)) then (bif (!(decide ((c.L.length:Int)>10))) then (ad (fh [d,.i 0,.i 1000]) fun i=>(bif (!(!i.B)) then (ad (fh [e,.i 0,.i 1000]) fun j=>(bif (!j.B) then (some (.ret [.b false])) else (ai 0 (lim (s7 dH.d1) [c,.i (c.L.length:Int),.i 0,a,b,c,d,e,f,.l ao]) (fun xs=>dH.d2)))) else (some (.ret [.b false])))) else (some (.ret [.b false]))) else (some (.ret [.b false])))) else (some (.ret [.b false]))))
def dH:List C→Option (List C):=fun xs=>aZ (ap6 dH.d3 xs)
def mD:FS:=⟨1,⟨[(0,z8)],[]⟩,⟨[(0,zo)],[]⟩,[],dH⟩
theorem xX:aA Tryz.checked.prog T0 65 mD:=bC aE (fn:=Tryz.f65) (c:=Tryz.f65.body.getD .skip) mD (.seq .leaf (.seq .leaf (.seq .leaf (.seq (.seq .leaf (.block ⟨[],[]⟩ (.loop ⟨[(1,(.pt 1 0)),(3,(.mp 37)),(39,(zl 9)),(40,zi),(41,zi)],[(1,z4),(37,.mp 4)]⟩ .leaf))) .leaf)))) [(66,some 11,fc),(66,some 16,fc),(67,some 28,eM),(67,some 34,eM),(111,some 48,oe)] (.cons gu (.cons gu (.cons fM (.cons fM (.cons wL .nil))))) (by kernel_rfl) (by kernel_rfl) (by kernel_rfl) (fun xs=>by kernel_rfl)
def aJ.d1 (a b:C):R:=(bif (decide ((a.S.size:Int)>0)) then (bif (decide (0≤(w64 ((a.S.size:Int)-1)))) then (bif (decide ((w64 ((a.S.size:Int)-1))<(a.S.size:Int))) then (bif (((a.S.data.getD (w64 ((a.S.size:Int)-1)).toNat 0).toNat:Int)==b.I) then (bif (decide (0≤(w64 ((a.S.size:Int)-1)))) then (bif (decide ((w64 ((a.S.size:Int)-1))≤(a.S.size:Int))) then (some (.again [.s (a.S.extract 0 (w64 ((a.S.size:Int)-1)).toNat),b])) else none) else none) else (some (.brk 0 [a]))) else none) else none) else (some (.brk 0 [a])))
def aJ.d2 (a:C):R:=(some (.ret [a]))
def aJ.d3 (a b:C):R:=(ai 0 (lim (ap2 aJ.d1) [a,b]) (ap1 aJ.d2))
def aJ:List C→Option (List C):=fun xs=>aZ (ap2 aJ.d3 xs)
def fW:FS:=⟨2,⟨[(0,zt),(1,(.d (.int .u8)))],[]⟩,⟨[(0,zt)],[]⟩,[],aJ⟩
theorem mG:aA Tryz.checked.prog T0 172 fW:=bC aE (fn:=Tryz.f172) (c:=Tryz.f172.body.getD .skip) fW (.seq .leaf (.seq (.block ⟨[(0,zt)],[]⟩ (.loop ⟨[(0,zt),(1,(.d (.int .u8)))],[]⟩ .leaf)) .leaf)) [] .nil (by kernel_rfl) (by kernel_rfl) (by kernel_rfl) (fun xs=>by kernel_rfl)
def aM.d1 (a b:C):R:=(bif (decide ((a.S.size:Int)>0)) then (bif (decide (0<(a.S.size:Int))) then (bif (((a.S.data.getD 0 0).toNat:Int)==b.I) then (bif (decide (1≤(a.S.size:Int))) then (bif (decide ((a.S.size:Int)≤(a.S.size:Int))) then (some (.again [.s (a.S.extract 1 (a.S.size:Int).toNat),b])) else none) else none) else (some (.brk 0 [a]))) else none) else (some (.brk 0 [a])))
def aM.d2 (a:C):R:=(some (.ret [a]))
def aM.d3 (a b:C):R:=(ai 0 (lim (ap2 aM.d1) [a,b]) (ap1 aM.d2))
def aM:List C→Option (List C):=fun xs=>aZ (ap2 aM.d3 xs)
def fZ:FS:=⟨2,⟨[(0,zt),(1,(.d (.int .u8)))],[]⟩,⟨[(0,zt)],[]⟩,[],aM⟩
theorem ni:aA Tryz.checked.prog T0 171 fZ:=bC aE (fn:=Tryz.f171) (c:=Tryz.f171.body.getD .skip) fZ (.seq .leaf (.seq (.block ⟨[(0,zt)],[]⟩ (.loop ⟨[(0,zt),(1,(.d (.int .u8)))],[]⟩ .leaf)) .leaf)) [] .nil (by kernel_rfl) (by kernel_rfl) (by kernel_rfl) (fun xs=>by kernel_rfl)
def fJ.d1 (a:C):R:=none
def fJ:List C→Option (List C):=fun xs=>aZ (ap1 fJ.d1 xs)
def gg:FS:=⟨1,⟨[(0,zt)],[]⟩,⟨[],[]⟩,[],fJ⟩
theorem nF:aA Tryz.checked.prog T0 173 gg:=bC aE (fn:=Tryz.f173) (c:=Tryz.f173.body.getD .skip) gg .leaf [] .nil (by kernel_rfl) (by kernel_rfl) (by kernel_rfl) (fun xs=>by kernel_rfl)
def eW.d1 (a b:C):R:=(ig (fJ [b]) fun _=>none)
def eW.d2 (a b:C):R:=(bif (!(a.S.toList==(bs #[]).toList)) then (bif (b.S.toList==(bs #[]).toList) then (some (.ret [a])) else (bd (bif ((b.S.size:Int)==1) then (bif (decide (0<(b.S.size:Int))) then (bif (decide (((b.S.data.getD 0 0).toNat:Int)<128)) then (bif (decide (0<(b.S.size:Int))) then (ad (aJ [a,.i ((b.S.data.getD 0 0).toNat:Int)]) fun c=>(bif (decide (0<(b.S.size:Int))) then (ad (aM [c,.i ((b.S.data.getD 0 0).toNat:Int)]) fun d=>(some (.ret [d]))) else none)) else none) else (some (.nrm [a,b]))) else none) else (some (.nrm [a,b]))) (ap2 eW.d1))) else (some (.ret [a])))
def eW:List C→Option (List C):=fun xs=>aZ (ap2 eW.d2 xs)
def kF:FS:=⟨2,⟨[(0,zt),(1,zt)],[]⟩,⟨[(0,zt)],[]⟩,[],eW⟩
theorem uR:aA Tryz.checked.prog T0 141 kF:=bC aE (fn:=Tryz.f141) (c:=Tryz.f141.body.getD .skip) kF (.seq .leaf (.seq .leaf (.seq (.join ⟨[(0,zt),(1,zt)],[]⟩ .leaf) .leaf))) [(171,some 28,fZ),(172,some 25,fW),(173,some 31,gg)] (.cons ni (.cons mG (.cons nF .nil))) (by kernel_rfl) (by kernel_rfl) (by kernel_rfl) (fun xs=>by kernel_rfl)
def bB.d1 (a b c:C):R:=(bif (decide (b.I<(a.S.size:Int))) then (bif (decide (0≤b.I)) then (bif (decide (b.I<(a.S.size:Int))) then (bif (((a.S.data.getD b.I.toNat 0).toNat:Int)==32) then (some (.again [a,.i (w64 (b.I+1)),c])) else (some (.brk 0 [a,b,c]))) else none) else none) else (some (.brk 0 [a,b,c])))
def bB.d2 (a b c:C):R:=(some (.ret [a,b,c]))
def bB.d3 (a b c:C):R:=(ai 0 (lim (ap3 bB.d1) [a,b,c]) (ap3 bB.d2))
def bB:List C→Option (List C):=fun xs=>aZ (ap3 bB.d3 xs)
def gf:FS:=⟨1,⟨[(0,(.pt 2000 0))],[(2000,.var 158 [zt,zi,zo])]⟩,⟨[(0,(.tu []))],[(2000,.var 158 [zt,zi,zo])]⟩,[2000],bB⟩
theorem jt:aA Tryz.checked.prog T0 143 gf:=bC aE (fn:=Tryz.f143) (c:=Tryz.f143.body.getD .skip) gf (.block ⟨[],[(2000,.var 158 [zt,zi,zo])]⟩ (.loop ⟨[(0,(.pt 2000 0))],[(2000,.var 158 [zt,zi,zo])]⟩ .leaf)) [] .nil (by kernel_rfl) (by kernel_rfl) (by kernel_rfl) (fun xs=>by kernel_rfl)
def bh.d1 (a b c d:C):R:=(call3 (bB [b,c,d]) fun e f g=>(bif (decide (f.I<(e.S.size:Int))) then (bif (decide (0≤f.I)) then (bif (decide (f.I<(e.S.size:Int))) then (bif (((e.S.data.getD f.I.toNat 0).toNat:Int)==a.I) then (some (.ret [.b true,e,.i (w64 (f.I+1)),g])) else (some (.ret [.b false,e,f,g]))) else none) else none) else (some (.ret [.b false,e,f,g]))))
def bh:List C→Option (List C):=fun xs=>aZ (ap4 bh.d1 xs)
def dI:FS:=⟨2,⟨[(0,(.pt 2000 0)),(1,(.d (.int .u8)))],[(2000,.var 158 [zt,zi,zo])]⟩,⟨[(0,zo)],[(2000,.var 158 [zt,zi,zo])]⟩,[2000],bh⟩
theorem eR:aA Tryz.checked.prog T0 179 dI:=bC aE (fn:=Tryz.f179) (c:=Tryz.f179.body.getD .skip) dI .leaf [(143,some 6,gf)] (.cons jt .nil) (by kernel_rfl) (by kernel_rfl) (by kernel_rfl) (fun xs=>by kernel_rfl)
def bj.d1 (a b c d:C):R:=(bif (decide (c.I<(b.S.size:Int))) then (bif (decide (0≤c.I)) then (bif (decide (c.I<(b.S.size:Int))) then (ad (qa [.i ((b.S.data.getD c.I.toNat 0).toNat:Int)]) fun e=>(bif e.B then (some (.again [a,b,.i (w64 (c.I+1)),d])) else (some (.brk 0 [a,b,c,d])))) else none) else none) else (some (.brk 0 [a,b,c,d])))
def bj.d2 (a b c d:C):R:=(bif (decide (0≤a.I)) then (bif (decide (a.I≤c.I)) then (bif (decide (c.I≤(b.S.size:Int))) then (ad (dT [.s (b.S.extract a.I.toNat c.I.toNat)]) fun e=>(bif (!e.B) then (bif (decide (0≤a.I)) then (bif (decide (a.I≤c.I)) then (bif (decide (c.I≤(b.S.size:Int))) then (some (.ret [.s (b.S.extract a.I.toNat c.I.toNat),b,c,.b false])) else none) else none) else none) else (bif (decide (0≤a.I)) then (bif (decide (a.I≤c.I)) then (bif (decide (c.I≤(b.S.size:Int))) then (some (.ret [.s (b.S.extract a.I.toNat c.I.toNat),b,c,d])) else none) else none) else none))) else none) else none) else none)
def bj.d3 (a b c:C):R:=(call3 (bB [a,b,c]) fun d e f=>(ai 0 (lim (ap4 bj.d1) [e,d,e,f]) (ap4 bj.d2)))
def bj:List C→Option (List C):=fun xs=>aZ (ap3 bj.d3 xs)
def gM:FS:=⟨1,⟨[(0,(.pt 2000 0))],[(2000,.var 158 [zt,zi,zo])]⟩,⟨[(0,zt)],[(2000,.var 158 [zt,zi,zo])]⟩,[2000],bj⟩
theorem mf:aA Tryz.checked.prog T0 222 gM:=bC aE (fn:=Tryz.f222) (c:=Tryz.f222.body.getD .skip) gM (.seq .leaf (.seq .leaf (.seq .leaf (.seq (.block ⟨[(0,(.pt 2000 0)),(3,zi)],[(2000,.var 158 [zt,zi,zo])]⟩ (.loop ⟨[(0,(.pt 2000 0)),(3,zi)],[(2000,.var 158 [zt,zi,zo])]⟩ .leaf)) .leaf)))) [(66,some 49,fc),(112,some 30,oA),(143,some 5,gf)] (.cons gu (.cons wH (.cons jt .nil))) (by kernel_rfl) (by kernel_rfl) (by kernel_rfl) (fun xs=>by kernel_rfl)
end
end Go.Ev
namespace Go.Ev
open Go.Proofs
noncomputable section
def ar.d1 (G0 G1 G2:List C→Option (List C)) (a b c d:C):R:=(bif d.B then (call4 (bh [.i 124,b,c,d]) fun e f g h=>(bif e.B then (call4 (G1 [f,g,h]) fun i j k l=>(some (.again [.p [.i 5,.s (bs #[]),.s (bs #[]),.l (rows [[a],[i]])],j,k,l]))) else (some (.brk 0 [a,f,g,h])))) else (some (.brk 0 [a,b,c,d])))
def ar.d2 (G0 G1 G2:List C→Option (List C)) (a b c d:C):R:=(some (.ret [a,b,c,d]))
def ar.d3 (G0 G1 G2:List C→Option (List C)) (a b c:C):R:=(call4 (G1 [a,b,c]) fun d e f g=>(ai 0 (lim (ap4 (ar.d1 G0 G1 G2)) [d,e,f,g]) (ap4 (ar.d2 G0 G1 G2))))
def ar.step (G0 G1 G2:List C→Option (List C)):List C→Option (List C):=fun xs=>aZ (ap3 (ar.d3 G0 G1 G2) xs)
def dS (G:List C→Option (List C)):FS:=⟨1,⟨[(0,(.pt 2000 0))],[(2000,.var 158 [(.d .str),(.d (.int .i64)),(.d .bool)])]⟩,⟨[(0,(.d (.pt 155)))],[(2000,.var 158 [(.d .str),(.d (.int .i64)),(.d .bool)])]⟩,[2000],G⟩
def dA.d1 (G0 G1 G2:List C→Option (List C)) (a b c d:C):R:=(bif d.B then (call4 (bh [.i 38,b,c,d]) fun e f g h=>(bif e.B then (call4 (G2 [f,g,h]) fun i j k l=>(some (.again [.p [.i 4,.s (bs #[]),.s (bs #[]),.l (rows [[a],[i]])],j,k,l]))) else (some (.brk 0 [a,f,g,h])))) else (some (.brk 0 [a,b,c,d])))
def dA.d2 (G0 G1 G2:List C→Option (List C)) (a b c d:C):R:=(some (.ret [a,b,c,d]))
def dA.d3 (G0 G1 G2:List C→Option (List C)) (a b c:C):R:=(call4 (G2 [a,b,c]) fun d e f g=>(ai 0 (lim (ap4 (dA.d1 G0 G1 G2)) [d,e,f,g]) (ap4 (dA.d2 G0 G1 G2))))
def dA.step (G0 G1 G2:List C→Option (List C)):List C→Option (List C):=fun xs=>aZ (ap3 (dA.d3 G0 G1 G2) xs)
def dW (G:List C→Option (List C)):FS:=⟨1,⟨[(0,(.pt 2000 0))],[(2000,.var 158 [(.d .str),(.d (.int .i64)),(.d .bool)])]⟩,⟨[(0,(.d (.pt 155)))],[(2000,.var 158 [(.d .str),(.d (.int .i64)),(.d .bool)])]⟩,[2000],G⟩
def eZ.d1 (G0 G1 G2:List C→Option (List C)) (a b c:C):R:=(bif (!c.B) then (some (.ret [.p [.i 0,.s (bs #[]),.s (bs #[]),.l ao],a,b,c])) else (call4 (bh [.i 33,a,b,c]) fun d e f g=>(bif d.B then (call4 (G2 [e,f,g]) fun h i j k=>(some (.ret [.p [.i 3,.s (bs #[]),.s (bs #[]),.l (rows [[h]])],i,j,k]))) else (call4 (bh [.i 40,e,f,g]) fun l m n o=>(bif l.B then (call4 (G0 [m,n,o]) fun p q r s=>(bif s.B then (call4 (bh [.i 41,q,r,s]) fun t u v w=>(some (.ret [p,u,v,.b t.B]))) else (some (.ret [p,q,r,.b false])))) else (call4 (bj [m,n,o]) fun x y z a0=>(bif a0.B then (call4 (bh [.i 61,y,z,a0]) fun a1 a2 a3 a4=>(bif a1.B then (call4 (bj [a2,a3,a4]) fun a5 a6 a7 a8=>(some (.ret [.p [.i 2,x,a5,.l ao],a6,a7,a8]))) else (some (.ret [.p [.i 1,x,.s (bs #[]),.l ao],a2,a3,a4])))) else (some (.ret [.p [.i 1,x,.s (bs #[]),.l ao],y,z,a0])))))))))
def eZ.step (G0 G1 G2:List C→Option (List C)):List C→Option (List C):=fun xs=>aZ (ap3 (eZ.d1 G0 G1 G2) xs)
def dE (G:List C→Option (List C)):FS:=⟨1,⟨[(0,(.pt 2000 0))],[(2000,.var 158 [(.d .str),(.d (.int .i64)),(.d .bool)])]⟩,⟨[(0,(.d (.pt 155)))],[(2000,.var 158 [(.d .str),(.d (.int .i64)),(.d .bool)])]⟩,[2000],G⟩
theorem uS {G0 G1 G2:List C→Option (List C)} (h0:aA Tryz.checked.prog T0 142 (dS G0)) (h1:aA Tryz.checked.prog T0 178 (dW G1)) (h2:aA Tryz.checked.prog T0 200 (dE G2)):aA Tryz.checked.prog T0 142 (dS (ar.step G0 G1 G2)):=bC aE (fn:=Tryz.f142) (c:=Tryz.f142.body.getD .skip) (dS (ar.step G0 G1 G2)) (.seq .leaf (.seq .leaf (.seq (.block ⟨[(3,(.d (.pt 155)))],[(2000,.var 158 [(.d .str),(.d (.int .i64)),(.d .bool)])]⟩ (.loop ⟨[(0,(.pt 2000 0)),(3,(.d (.pt 155)))],[(2000,.var 158 [(.d .str),(.d (.int .i64)),(.d .bool)])]⟩ .leaf)) .leaf))) [(178,some 5,(dW G1)),(178,some 16,(dW G1)),(179,some 12,dI)] (.cons h1 (.cons h1 (.cons eR .nil))) (by kernel_rfl) (by kernel_rfl) (by kernel_rfl) (fun xs=>by kernel_rfl)
theorem tf {G0 G1 G2:List C→Option (List C)} (h0:aA Tryz.checked.prog T0 142 (dS G0)) (h1:aA Tryz.checked.prog T0 178 (dW G1)) (h2:aA Tryz.checked.prog T0 200 (dE G2)):aA Tryz.checked.prog T0 178 (dW (dA.step G0 G1 G2)):=bC aE (fn:=Tryz.f178) (c:=Tryz.f178.body.getD .skip) (dW (dA.step G0 G1 G2)) (.seq .leaf (.seq .leaf (.seq (.block ⟨[(3,(.d (.pt 155)))],[(2000,.var 158 [(.d .str),(.d (.int .i64)),(.d .bool)])]⟩ (.loop ⟨[(0,(.pt 2000 0)),(3,(.d (.pt 155)))],[(2000,.var 158 [(.d .str),(.d (.int .i64)),(.d .bool)])]⟩ .leaf)) .leaf))) [(179,some 12,dI),(200,some 5,(dE G2)),(200,some 16,(dE G2))] (.cons eR (.cons h2 (.cons h2 .nil))) (by kernel_rfl) (by kernel_rfl) (by kernel_rfl) (fun xs=>by kernel_rfl)
theorem tB {G0 G1 G2:List C→Option (List C)} (h0:aA Tryz.checked.prog T0 142 (dS G0)) (h1:aA Tryz.checked.prog T0 178 (dW G1)) (h2:aA Tryz.checked.prog T0 200 (dE G2)):aA Tryz.checked.prog T0 200 (dE (eZ.step G0 G1 G2)):=bC aE (fn:=Tryz.f200) (c:=Tryz.f200.body.getD .skip) (dE (eZ.step G0 G1 G2)) (.seq .leaf (.seq (.skip (.seq .leaf (.cond (.seq .leaf (.frz [12] .leaf)) (.seq .leaf (.cond (.seq .leaf (.frz [18,20] .leaf)) .leaf))))) (.seq .leaf (.seq .leaf (.seq .leaf (.frz [41] .leaf)))))) [(142,some 25,(dS G0)),(179,some 15,dI),(179,some 23,dI),(179,some 33,dI),(179,some 48,dI),(200,some 17,(dE G2)),(222,some 39,gM),(222,some 53,gM)] (.cons h0 (.cons eR (.cons eR (.cons eR (.cons eR (.cons h2 (.cons mf (.cons mf .nil)))))))) (by kernel_rfl) (by kernel_rfl) (by kernel_rfl) (fun xs=>by kernel_rfl)
def ar.g:Nat→Nat→List C→Option (List C)
 |0,_=>fun _=>none
 |k+1,0=>ar.step (ar.g k 0) (ar.g k 1) (ar.g k 2)
 |k+1,1=>dA.step (ar.g k 0) (ar.g k 1) (ar.g k 2)
 |k+1,2=>eZ.step (ar.g k 0) (ar.g k 1) (ar.g k 2)
 |_,_=>fun _=>none
theorem cU:∀k:Nat,aA Tryz.checked.prog T0 142 (dS (ar.g k 0))∧aA Tryz.checked.prog T0 178 (dW (ar.g k 1))∧aA Tryz.checked.prog T0 200 (dE (ar.g k 2))
 |0=>⟨jl (fn:=Tryz.f142) (c:=Tryz.f142.body.getD .skip) (1) (⟨[(0,(.pt 2000 0))],[(2000,.var 158 [(.d .str),(.d (.int .i64)),(.d .bool)])]⟩) (⟨[(0,(.d (.pt 155)))],[(2000,.var 158 [(.d .str),(.d (.int .i64)),(.d .bool)])]⟩) [2000] (by kernel_rfl) (by kernel_rfl) (by kernel_rfl),jl (fn:=Tryz.f178) (c:=Tryz.f178.body.getD .skip) (1) (⟨[(0,(.pt 2000 0))],[(2000,.var 158 [(.d .str),(.d (.int .i64)),(.d .bool)])]⟩) (⟨[(0,(.d (.pt 155)))],[(2000,.var 158 [(.d .str),(.d (.int .i64)),(.d .bool)])]⟩) [2000] (by kernel_rfl) (by kernel_rfl) (by kernel_rfl),jl (fn:=Tryz.f200) (c:=Tryz.f200.body.getD .skip) (1) (⟨[(0,(.pt 2000 0))],[(2000,.var 158 [(.d .str),(.d (.int .i64)),(.d .bool)])]⟩) (⟨[(0,(.d (.pt 155)))],[(2000,.var 158 [(.d .str),(.d (.int .i64)),(.d .bool)])]⟩) [2000] (by kernel_rfl) (by kernel_rfl) (by kernel_rfl)⟩
 |k+1=>⟨uS (cU k).1 (cU k).2.1 (cU k).2.2,tf (cU k).1 (cU k).2.1 (cU k).2.2,tB (cU k).1 (cU k).2.1 (cU k).2.2⟩
def ar:List C→Option (List C):=ar.g ik 0
theorem u7:aA Tryz.checked.prog T0 142 (dS ar):=(cU ik).1
def dA:List C→Option (List C):=ar.g ik 1
def eZ:List C→Option (List C):=ar.g ik 2
def au.d1 (G0:List C→Option (List C)) (a b c d:C):R:=(bif (decide (d.I<c.I)) then (bif (decide (0≤d.I)) then (bif (decide (d.I<(b.L.length:Int))) then (ad (G0 [((b.L.getD d.I.toNat []).getD 0 .nil)]) fun e=>(some (.again [.i (if (w64 (e.I+1))>a.I then (w64 (e.I+1)) else a.I),b,c,.i (w64 (d.I+1))]))) else none) else none) else (some (.brk 0 [a])))
def au.d2 (G0:List C→Option (List C)) (a:C):R:=(some (.ret [a]))
def au.d3 (G0:List C→Option (List C)) (a:C):R:=(bif a.isP then (ai 0 (lim (ap4 (au.d1 G0)) [.i 0,(a.P.getD 3 .nil),.i (((a.P.getD 3 .nil).L).length:Int),.i 0]) (ap1 (au.d2 G0))) else none)
def au.step (G0:List C→Option (List C)):List C→Option (List C):=fun xs=>aZ (ap1 (au.d3 G0) xs)
def eT (G:List C→Option (List C)):FS:=⟨1,⟨[(0,(.d (.pt 155)))],[]⟩,⟨[(0,(.d (.int .i64)))],[]⟩,[],G⟩
theorem uP {G0:List C→Option (List C)} (h0:aA Tryz.checked.prog T0 144 (eT G0)):aA Tryz.checked.prog T0 144 (eT (au.step G0)):=bC aE (fn:=Tryz.f144) (c:=Tryz.f144.body.getD .skip) (eT (au.step G0)) (.seq .leaf (.seq .leaf (.seq (.seq .leaf (.block ⟨[(3,(.d (.int .i64)))],[]⟩ (.loop ⟨[(3,(.d (.int .i64))),(9,(.d (.sl 127))),(10,(.d (.int .i64))),(11,(.d (.int .i64)))],[]⟩ .leaf))) .leaf))) [(144,some 17,(eT G0))] (.cons h0 .nil) (by kernel_rfl) (by kernel_rfl) (by kernel_rfl) (fun xs=>by kernel_rfl)
def au.g:Nat→Nat→List C→Option (List C)
 |0,_=>fun _=>none
 |k+1,0=>au.step (au.g k 0)
 |_,_=>fun _=>none
theorem ny:∀k:Nat,aA Tryz.checked.prog T0 144 (eT (au.g k 0))
 |0=>jl (fn:=Tryz.f144) (c:=Tryz.f144.body.getD .skip) (1) (⟨[(0,(.d (.pt 155)))],[]⟩) (⟨[(0,(.d (.int .i64)))],[]⟩) [] (by kernel_rfl) (by kernel_rfl) (by kernel_rfl)
 |k+1=>uP (ny k)
def au:List C→Option (List C):=au.g ik 0
theorem uI:aA Tryz.checked.prog T0 144 (eT au):=ny ik
def jb.d1 (a:C):R:=(bif (decide ((a.S.size:Int)>200)) then (some (.ret [.nil,.i 1])) else (ad (eW [a,.s (bs #[32])]) fun b=>(bif (b.S.toList==(bs #[]).toList) then (some (.ret [.p [.i 0,.s (bs #[]),.s (bs #[]),.l ao],.i 0])) else (call4 (ar [a,.i 0,.b true]) fun c d e f=>(call3 (bB [d,e,f]) fun g h i=>(bif (!(!i.B)) then (bif (decide (h.I<(a.S.size:Int))) then (some (.ret [.nil,.i 2])) else (ad (au [c]) fun j=>(bif (decide (j.I>20)) then (some (.ret [.nil,.i 3])) else (some (.ret [c,.i 0]))))) else (some (.ret [.nil,.i 2]))))))))
def jb:List C→Option (List C):=fun xs=>aZ (ap1 jb.d1 xs)
def kn:FS:=⟨1,⟨[(0,zt)],[]⟩,⟨[(0,(.tu [(.d (.pt 155)),zi]))],[]⟩,[],jb⟩
theorem pB:aA Tryz.checked.prog T0 113 kn:=bC aE (fn:=Tryz.f113) (c:=Tryz.f113.body.getD .skip) kn (.seq .leaf (.seq .leaf (.seq (.seq .leaf (.cond (.seq .leaf (.frz [13] .leaf)) .leaf)) .leaf))) [(141,some 10,kF),(142,some 18,(dS ar)),(143,some 20,gf),(144,some 36,(eT au))] (.cons uR (.cons u7 (.cons jt (.cons uI .nil)))) (by kernel_rfl) (by kernel_rfl) (by kernel_rfl) (fun xs=>by kernel_rfl)
def cV.d1 (a b c:C):R:=(bif (decide (c.I<b.I)) then (bif (decide (0≤c.I)) then (bif (decide (c.I<(a.L.length:Int))) then (call2 (jb [((a.L.getD c.I.toNat []).getD 0 .nil)]) fun d e=>(bif (!(e.I !=0)) then (ad (fh [((a.L.getD c.I.toNat []).getD 1 .nil),.i (-9),.i 9]) fun f=>(bif (!f.B) then (some (.ret [.b false])) else (some (.again [a,b,.i (w64 (c.I+1))])))) else (some (.ret [.b false])))) else none) else none) else (some (.brk 0 [])))
def cV.d2:R:=(some (.ret [.b true]))
def cV.d3 (a b c d e f g h i j k l m:C):R:=(bif a.B then (some (.ret [.b false])) else (call2 (jb [h]) fun n o=>(bif (o.I !=0) then (some (.ret [.b false])) else (ai 0 (lim (ap3 cV.d1) [i,.i (i.L.length:Int),.i 0]) (fun xs=>cV.d2)))))
def cV.d4 (a b c d e f g h i j k l:C):R:=(bd (ad (dT [a]) fun m=>(bif (!(!m.B)) then (ad (fh [c,.i 0,.i 100]) fun n=>(bif (!(!n.B)) then (ad (fh [d,.i 0,.i 1000000]) fun o=>(bif (!(!o.B)) then (ad (fh [e,.i 0,.i 1000]) fun p=>(bif (!(!p.B)) then (ad (fh [f,.i 0,.i 1000]) fun q=>(bif (!(!q.B)) then (bif (!(decide ((h.L.length:Int)>5))) then (ad (fh [i,.i 0,.i 2]) fun r=>(bif (!(!r.B)) then (bif (!(j.S.toList==(bs #[]).toList)) then (ad (dT [j]) fun s=>(bif (!(!s.B)) then (bif (!(k.S.toList==(bs #[]).toList)) then (ad (dT [k]) fun t=>(some (.nrm [.b (!t.B),a,b,c,d,e,f,g,h,i,j,k,l]))) else (some (.nrm [.b false,a,b,c,d,e,f,g,h,i,j,k,l]))) else (some (.nrm [.b true,a,b,c,d,e,f,g,h,i,j,k,l])))) else (bif (!(k.S.toList==(bs #[]).toList)) then (ad (dT [k]) fun u=>(some (.nrm [.b (!u.B),a,b,c,d,e,f,g,h,i,j,k,l]))) else (some (.nrm [.b false,a,b,c,d,e,f,g,h,i,j,k,l])))) else (some (.nrm [.b true,a,b,c,d,e,f,g,h,i,j,k,l])))) else (some (.nrm [.b true,a,b,c,d,e,f,g,h,i,j,k,l]))) else (some (.nrm [.b true,a,b,c,d,e,f,g,h,i,j,k,l])))) else (some (.nrm [.b true,a,b,c,d,e,f,g,h,i,j,k,l])))) else (some (.nrm [.b true,a,b,c,d,e,f,g,h,i,j,k,l])))) else (some (.nrm [.b true,a,b,c,d,e,f,g,h,i,j,k,l])))) else (some (.nrm [.b true,a,b,c,d,e,f,g,h,i,j,k,l])))) (oQ cV.d3))
def cV:List C→Option (List C):=fun xs=>aZ (jk cV.d4 xs)
def oC:FS:=⟨1,⟨[(0,z3)],[]⟩,⟨[(0,zo)],[]⟩,[],cV⟩
theorem Ah:aA Tryz.checked.prog T0 68 oC:=bC aE (fn:=Tryz.f68) (c:=Tryz.f68.body.getD .skip) oC (.seq .leaf (.seq (.seq (.join ⟨[(1,(.pt 1 0)),(70,zo)],[(1,z1)]⟩ .leaf) .leaf) (.seq .leaf (.seq (.seq .leaf (.block ⟨[],[]⟩ (.loop ⟨[(80,(zl 109)),(81,zi),(82,zi)],[]⟩ .leaf))) .leaf)))) [(66,some 11,fc),(66,some 56,fc),(66,some 67,fc),(67,some 16,eM),(67,some 22,eM),(67,some 28,eM),(67,some 34,eM),(67,some 46,eM),(67,some 97,eM),(113,some 74,kn),(113,some 89,kn)] (.cons gu (.cons gu (.cons gu (.cons fM (.cons fM (.cons fM (.cons fM (.cons fM (.cons fM (.cons pB (.cons pB .nil))))))))))) (by kernel_rfl) (by kernel_rfl) (by kernel_rfl) (fun xs=>by kernel_rfl)
def ie.d1 (a b c d e f g:C):R:=(bif g.isP then (some (.ret [.b (a.S.toList==((g.P.getD 0 .nil).S).toList)])) else none)
def ie:List C→Option (List C):=fun xs=>aZ (ap7 ie.d1 xs)
def kD:FS:=⟨2,⟨[(0,z8),(1,(.d (.pt 9)))],[]⟩,⟨[(0,zo)],[]⟩,[],ie⟩
theorem uV:aA Tryz.checked.prog T0 102 kD:=bC aE (fn:=Tryz.f102) (c:=Tryz.f102.body.getD .skip) kD .leaf [] .nil (by kernel_rfl) (by kernel_rfl) (by kernel_rfl) (fun xs=>by kernel_rfl)
def aB.d1 (a b c d:C):R:=(bif (decide (d.I<c.I)) then (bif (decide (0≤d.I)) then (bif (decide (d.I<(a.L.length:Int))) then (ad (ie [((a.L.getD d.I.toNat []).getD 0 .nil),((a.L.getD d.I.toNat []).getD 1 .nil),((a.L.getD d.I.toNat []).getD 2 .nil),((a.L.getD d.I.toNat []).getD 3 .nil),((a.L.getD d.I.toNat []).getD 4 .nil),((a.L.getD d.I.toNat []).getD 5 .nil),b]) fun e=>(bif e.B then (some (.ret [d])) else (some (.again [a,b,c,.i (w64 (d.I+1))])))) else none) else none) else (some (.brk 0 [])))
def aB.d2:R:=(some (.ret [.i (-1)]))
def aB.d3 (a b:C):R:=(ai 0 (lim (ap4 aB.d1) [a,b,.i (a.L.length:Int),.i 0]) (fun xs=>aB.d2))
def aB:List C→Option (List C):=fun xs=>aZ (ap2 aB.d3 xs)
def ez:FS:=⟨2,⟨[(0,(zl 37)),(1,(.fn 102 [(.d (.pt 9))]))],[]⟩,⟨[(0,zi)],[]⟩,[],aB⟩
theorem ju:aA Tryz.checked.prog T0 101 ez:=bC aE (fn:=Tryz.f101) (c:=Tryz.f101.body.getD .skip) ez (.seq .leaf (.seq (.seq .leaf (.block ⟨[],[]⟩ (.loop ⟨[(0,(zl 37)),(1,(.fn 102 [(.d (.pt 9))])),(7,zi),(8,zi)],[]⟩ .leaf))) .leaf)) [(102,some 16,kD)] (.cons uV .nil) (by kernel_rfl) (by kernel_rfl) (by kernel_rfl) (fun xs=>by kernel_rfl)
def fP.d1 (a b c d e:C):R:=(ad (aB [b,.p [e]]) fun f=>(some (.ret [f])))
def fP:List C→Option (List C):=fun xs=>aZ (ap5 fP.d1 xs)
def iu:FS:=⟨2,⟨[(0,z2),(1,zt)],[]⟩,⟨[(0,zi)],[]⟩,[],fP⟩
theorem mQ:aA Tryz.checked.prog T0 53 iu:=bC aE (fn:=Tryz.f53) (c:=Tryz.f53.body.getD .skip) iu .leaf [(101,some 8,ez)] (.cons ju .nil) (by kernel_rfl) (by kernel_rfl) (by kernel_rfl) (fun xs=>by kernel_rfl)
def dr.d1 (a b c d e f:C):R:=(bif (decide (f.I<e.I)) then (bif (decide (0≤f.I)) then (bif (decide (f.I<(d.L.length:Int))) then (bif ((((d.L.getD f.I.toNat []).getD 11 .nil).S).toList==a.S.toList) then (some (.again [a,.i (w64 (b.I+((d.L.getD f.I.toNat []).getD 4 .nil).I)),.i (w64 (c.I+((d.L.getD f.I.toNat []).getD 5 .nil).I)),d,e,.i (w64 (f.I+1))])) else (some (.again [a,b,c,d,e,.i (w64 (f.I+1))]))) else none) else none) else (some (.brk 0 [b,c])))
def dr.d2 (a b:C):R:=(some (.ret [a,b]))
def dr.d3 (a b c d e:C):R:=(bif (!(e.S.toList==(bs #[]).toList)) then (ad (fP [a,b,c,d,e]) fun f=>(bif (decide (f.I<0)) then (some (.ret [.i 0,.i 0])) else (ai 0 (lim (ap6 dr.d1) [e,.i 0,.i 0,d,.i (d.L.length:Int),.i 0]) (ap2 dr.d2)))) else (some (.ret [.i 0,.i 0])))
def dr:List C→Option (List C):=fun xs=>aZ (ap5 dr.d3 xs)
def lv:FS:=⟨2,⟨[(0,z2),(1,zt)],[]⟩,⟨[(0,(.tu [zi,zi]))],[]⟩,[],dr⟩
theorem w6:aA Tryz.checked.prog T0 69 lv:=bC aE (fn:=Tryz.f69) (c:=Tryz.f69.body.getD .skip) lv (.seq .leaf (.seq .leaf (.seq .leaf (.seq (.seq .leaf (.block ⟨[(6,zi),(7,zi)],[]⟩ (.loop ⟨[(1,zt),(6,zi),(7,zi),(19,(zl 45)),(20,zi),(21,zi)],[]⟩ .leaf))) .leaf)))) [(53,some 15,iu)] (.cons mQ .nil) (by kernel_rfl) (by kernel_rfl) (by kernel_rfl) (fun xs=>by kernel_rfl)
def aq.d1 (a b c d e f g:C):R:=(bif (decide (c.I<b.I)) then (bif (decide (0≤c.I)) then (bif (decide (c.I<(a.L.length:Int))) then (ad (dH [((a.L.getD c.I.toNat []).getD 0 .nil),((a.L.getD c.I.toNat []).getD 1 .nil),((a.L.getD c.I.toNat []).getD 2 .nil),((a.L.getD c.I.toNat []).getD 3 .nil),((a.L.getD c.I.toNat []).getD 4 .nil),((a.L.getD c.I.toNat []).getD 5 .nil)]) fun h=>(bif (!(!h.B)) then (bif (decide (c.I>0)) then (bif (decide (0≤(w64 (c.I-1)))) then (bif (decide ((w64 (c.I-1))<(e.L.length:Int))) then (bif ((Op.bytesLess (((a.L.getD c.I.toNat []).getD 0 .nil).S).toList (((e.L.getD (w64 (c.I-1)).toNat []).getD 0 .nil).S).toList)||((((a.L.getD c.I.toNat []).getD 0 .nil).S).toList==(((e.L.getD (w64 (c.I-1)).toNat []).getD 0 .nil).S).toList)) then (some (.ret [.b false])) else (some (.again [a,b,.i (w64 (c.I+1)),d,e,f,g]))) else none) else none) else (some (.again [a,b,.i (w64 (c.I+1)),d,e,f,g]))) else (some (.ret [.b false])))) else none) else none) else (some (.brk 0 [d,e,f,g])))
def aq.d2 (a b c d e f g h:C):R:=(bif (decide (c.I<b.I)) then (bif (decide (0≤c.I)) then (bif (decide (c.I<(a.L.length:Int))) then (ad (dT [((a.L.getD c.I.toNat []).getD 0 .nil)]) fun i=>(bif (!(!i.B)) then (ad (fh [((a.L.getD c.I.toNat []).getD 1 .nil),.i 0,.i 60]) fun j=>(bif (!(!j.B)) then (bif (decide (c.I>0)) then (bif (decide (0≤(w64 (c.I-1)))) then (bif (decide ((w64 (c.I-1))<(f.L.length:Int))) then (bif ((Op.bytesLess (((a.L.getD c.I.toNat []).getD 0 .nil).S).toList (((f.L.getD (w64 (c.I-1)).toNat []).getD 0 .nil).S).toList)||((((a.L.getD c.I.toNat []).getD 0 .nil).S).toList==(((f.L.getD (w64 (c.I-1)).toNat []).getD 0 .nil).S).toList)) then (some (.ret [.b false])) else (some (.again [a,b,.i (w64 (c.I+1)),d,e,f,g,.l (l5 (((a.L.getD c.I.toNat []).getD 0 .nil).S) (.b true) h.L)]))) else none) else none) else (some (.again [a,b,.i (w64 (c.I+1)),d,e,f,g,.l (l5 (((a.L.getD c.I.toNat []).getD 0 .nil).S) (.b true) h.L)]))) else (some (.ret [.b false])))) else (some (.ret [.b false])))) else none) else none) else (some (.brk 2 [d,e,f,g,.l h.L])))
def aq.d3 (a b c d e f g h i j k l m n o p q r s t u v:C):R:=(bif d.B then (some (.ret [.b false])) else (some (.again [a,b,.i (w64 (c.I+1)),e,f,g,h,.l i.L,.l (l5 v.S (.i (w64 ((k7 (.i 0) v.S j.L).I+1))) j.L)])))
def aq.d4 (a b c d e f g h i:C):R:=(bif (decide (c.I<b.I)) then (bif (decide (0≤c.I)) then (bif (decide (c.I<(a.L.length:Int))) then (bd (ad (cV [((a.L.getD c.I.toNat []).getD 0 .nil),((a.L.getD c.I.toNat []).getD 1 .nil),((a.L.getD c.I.toNat []).getD 2 .nil),((a.L.getD c.I.toNat []).getD 3 .nil),((a.L.getD c.I.toNat []).getD 4 .nil),((a.L.getD c.I.toNat []).getD 5 .nil),((a.L.getD c.I.toNat []).getD 6 .nil),((a.L.getD c.I.toNat []).getD 7 .nil),((a.L.getD c.I.toNat []).getD 8 .nil),((a.L.getD c.I.toNat []).getD 9 .nil),((a.L.getD c.I.toNat []).getD 10 .nil),((a.L.getD c.I.toNat []).getD 11 .nil)]) fun j=>(bif (!(!j.B)) then (bif (!(!((k7 (.b false) (((a.L.getD c.I.toNat []).getD 1 .nil).S) h.L).B))) then (bif (decide (c.I>0)) then (bif (decide (0≤(w64 (c.I-1)))) then (bif (decide ((w64 (c.I-1))<(g.L.length:Int))) then (bif (!((Op.bytesLess (((a.L.getD c.I.toNat []).getD 0 .nil).S).toList (((g.L.getD (w64 (c.I-1)).toNat []).getD 0 .nil).S).toList)||((((a.L.getD c.I.toNat []).getD 0 .nil).S).toList==(((g.L.getD (w64 (c.I-1)).toNat []).getD 0 .nil).S).toList))) then (bif (!((((a.L.getD c.I.toNat []).getD 11 .nil).S).toList==(bs #[]).toList)) then (ad (fP [d,e,f,g,((a.L.getD c.I.toNat []).getD 11 .nil)]) fun k=>(some (.nrm [a,b,c,.b (decide (k.I<0)),d,e,f,g,.l h.L,.l i.L,((a.L.getD c.I.toNat []).getD 0 .nil),((a.L.getD c.I.toNat []).getD 1 .nil),((a.L.getD c.I.toNat []).getD 2 .nil),((a.L.getD c.I.toNat []).getD 3 .nil),((a.L.getD c.I.toNat []).getD 4 .nil),((a.L.getD c.I.toNat []).getD 5 .nil),((a.L.getD c.I.toNat []).getD 6 .nil),((a.L.getD c.I.toNat []).getD 7 .nil),((a.L.getD c.I.toNat []).getD 8 .nil),((a.L.getD c.I.toNat []).getD 9 .nil),((a.L.getD c.I.toNat []).getD 10 .nil),((a.L.getD c.I.toNat []).getD 11 .nil)]))) else (some (.nrm [a,b,c,.b false,d,e,f,g,.l h.L,.l i.L,((a.L.getD c.I.toNat []).getD 0 .nil),((a.L.getD c.I.toNat []).getD 1 .nil),((a.L.getD c.I.toNat []).getD 2 .nil),((a.L.getD c.I.toNat []).getD 3 .nil),((a.L.getD c.I.toNat []).getD 4 .nil),((a.L.getD c.I.toNat []).getD 5 .nil),((a.L.getD c.I.toNat []).getD 6 .nil),((a.L.getD c.I.toNat []).getD 7 .nil),((a.L.getD c.I.toNat []).getD 8 .nil),((a.L.getD c.I.toNat []).getD 9 .nil),((a.L.getD c.I.toNat []).getD 10 .nil),((a.L.getD c.I.toNat []).getD 11 .nil)]))) else (some (.nrm [a,b,c,.b true,d,e,f,g,.l h.L,.l i.L,((a.L.getD c.I.toNat []).getD 0 .nil),((a.L.getD c.I.toNat []).getD 1 .nil),((a.L.getD c.I.toNat []).getD 2 .nil),((a.L.getD c.I.toNat []).getD 3 .nil),((a.L.getD c.I.toNat []).getD 4 .nil),((a.L.getD c.I.toNat []).getD 5 .nil),((a.L.getD c.I.toNat []).getD 6 .nil),((a.L.getD c.I.toNat []).getD 7 .nil),((a.L.getD c.I.toNat []).getD 8 .nil),((a.L.getD c.I.toNat []).getD 9 .nil),((a.L.getD c.I.toNat []).getD 10 .nil),((a.L.getD c.I.toNat []).getD 11 .nil)]))) else none) else none) else (bif (!((((a.L.getD c.I.toNat []).getD 11 .nil).S).toList==(bs #[]).toList)) then (ad (fP [d,e,f,g,((a.L.getD c.I.toNat []).getD 11 .nil)]) fun l=>(some (.nrm [a,b,c,.b (decide (l.I<0)),d,e,f,g,.l h.L,.l i.L,((a.L.getD c.I.toNat []).getD 0 .nil),((a.L.getD c.I.toNat []).getD 1 .nil),((a.L.getD c.I.toNat []).getD 2 .nil),((a.L.getD c.I.toNat []).getD 3 .nil),((a.L.getD c.I.toNat []).getD 4 .nil),((a.L.getD c.I.toNat []).getD 5 .nil),((a.L.getD c.I.toNat []).getD 6 .nil),((a.L.getD c.I.toNat []).getD 7 .nil),((a.L.getD c.I.toNat []).getD 8 .nil),((a.L.getD c.I.toNat []).getD 9 .nil),((a.L.getD c.I.toNat []).getD 10 .nil),((a.L.getD c.I.toNat []).getD 11 .nil)]))) else (some (.nrm [a,b,c,.b false,d,e,f,g,.l h.L,.l i.L,((a.L.getD c.I.toNat []).getD 0 .nil),((a.L.getD c.I.toNat []).getD 1 .nil),((a.L.getD c.I.toNat []).getD 2 .nil),((a.L.getD c.I.toNat []).getD 3 .nil),((a.L.getD c.I.toNat []).getD 4 .nil),((a.L.getD c.I.toNat []).getD 5 .nil),((a.L.getD c.I.toNat []).getD 6 .nil),((a.L.getD c.I.toNat []).getD 7 .nil),((a.L.getD c.I.toNat []).getD 8 .nil),((a.L.getD c.I.toNat []).getD 9 .nil),((a.L.getD c.I.toNat []).getD 10 .nil),((a.L.getD c.I.toNat []).getD 11 .nil)])))) else (some (.nrm [a,b,c,.b true,d,e,f,g,.l h.L,.l i.L,((a.L.getD c.I.toNat []).getD 0 .nil),((a.L.getD c.I.toNat []).getD 1 .nil),((a.L.getD c.I.toNat []).getD 2 .nil),((a.L.getD c.I.toNat []).getD 3 .nil),((a.L.getD c.I.toNat []).getD 4 .nil),((a.L.getD c.I.toNat []).getD 5 .nil),((a.L.getD c.I.toNat []).getD 6 .nil),((a.L.getD c.I.toNat []).getD 7 .nil),((a.L.getD c.I.toNat []).getD 8 .nil),((a.L.getD c.I.toNat []).getD 9 .nil),((a.L.getD c.I.toNat []).getD 10 .nil),((a.L.getD c.I.toNat []).getD 11 .nil)]))) else (some (.nrm [a,b,c,.b true,d,e,f,g,.l h.L,.l i.L,((a.L.getD c.I.toNat []).getD 0 .nil),((a.L.getD c.I.toNat []).getD 1 .nil),((a.L.getD c.I.toNat []).getD 2 .nil),((a.L.getD c.I.toNat []).getD 3 .nil),((a.L.getD c.I.toNat []).getD 4 .nil),((a.L.getD c.I.toNat []).getD 5 .nil),((a.L.getD c.I.toNat []).getD 6 .nil),((a.L.getD c.I.toNat []).getD 7 .nil),((a.L.getD c.I.toNat []).getD 8 .nil),((a.L.getD c.I.toNat []).getD 9 .nil),((a.L.getD c.I.toNat []).getD 10 .nil),((a.L.getD c.I.toNat []).getD 11 .nil)])))) (Ac aq.d3)) else none) else none) else (some (.brk 4 [d,e,f,g,.l i.L])))
def aq.d5 (a b c d e f g h:C):R:=(bif (decide (c.I<b.I)) then (bif (decide (0≤c.I)) then (bif (decide (c.I<(a.L.length:Int))) then (call2 (dr [d,e,f,g,((a.L.getD c.I.toNat []).getD 0 .nil)]) fun i j=>(bif (!(decide ((k7 (.i 0) (((a.L.getD c.I.toNat []).getD 0 .nil).S) h.L).I>10))) then (bif (!(decide (i.I>((a.L.getD c.I.toNat []).getD 3 .nil).I))) then (bif (decide (j.I>((a.L.getD c.I.toNat []).getD 4 .nil).I)) then (some (.ret [.b false])) else (some (.again [a,b,.i (w64 (c.I+1)),d,e,f,g,.l h.L]))) else (some (.ret [.b false]))) else (some (.ret [.b false])))) else none) else none) else (some (.brk 6 [])))
def aq.d6:R:=(some (.ret [.b true]))
def aq.d7 (a b c d e:C):R:=(ai 6 (lim (ap8 aq.d5) [b,.i (b.L.length:Int),.i 0,a,b,c,d,.l e.L]) (fun xs=>aq.d6))
def aq.d8 (a b c d e:C):R:=(ai 4 (lim (ap9 aq.d4) [d,.i (d.L.length:Int),.i 0,a,b,c,d,.l e.L,.l ao]) (ap5 aq.d7))
def aq.d9 (a b c d:C):R:=(ai 2 (lim (ap8 aq.d2) [c,.i (c.L.length:Int),.i 0,a,b,c,d,.l ao]) (ap5 aq.d8))
def aq.d10 (a b c d:C):R:=(bif (!(decide ((b.L.length:Int)>12))) then (bif (!(decide ((c.L.length:Int)>30))) then (bif (decide ((d.L.length:Int)>60)) then (some (.ret [.b false])) else (ai 0 (lim (ap7 aq.d1) [b,.i (b.L.length:Int),.i 0,a,b,c,d]) (ap4 aq.d9))) else (some (.ret [.b false]))) else (some (.ret [.b false])))
def aq:List C→Option (List C):=fun xs=>aZ (ap4 aq.d10 xs)
def kM:FS:=⟨1,⟨[(0,z2)],[]⟩,⟨[(0,zo)],[]⟩,[],aq⟩
theorem uX:aA Tryz.checked.prog T0 17 kM:=bC aE (fn:=Tryz.f17) (c:=Tryz.f17.body.getD .skip) kM (.seq .leaf (.seq .leaf (.seq (.seq .leaf (.block ⟨[(1,(.pt 1 0))],[(1,z0)]⟩ (.loop ⟨[(1,(.pt 1 0)),(32,(zl 37)),(33,zi),(34,zi)],[(1,z0)]⟩ .leaf))) (.seq .leaf (.seq (.seq .leaf (.block ⟨[(1,(.pt 1 0)),(5,(.mp 59))],[(1,z0),(59,.mp 4)]⟩ (.loop ⟨[(1,(.pt 1 0)),(5,(.mp 59)),(61,(zl 60)),(62,zi),(63,zi)],[(1,z0),(59,.mp 4)]⟩ .leaf))) (.seq .leaf (.seq (.seq .leaf (.block ⟨[(1,(.pt 1 0)),(8,(.mp 98))],[(1,z0),(98,.mp 3)]⟩ (.loop ⟨[(1,(.pt 1 0)),(5,(.mp 59)),(8,(.mp 98)),(100,(zl 45)),(101,zi),(102,zi)],[(1,z0),(59,.mp 4),(98,.mp 3)]⟩ (.seq .leaf (.seq .leaf (.seq (.skip (.seq .leaf (.seq (.seq (.join ⟨[(1,(.pt 1 0)),(5,(.mp 59)),(8,(.mp 98)),(10,(.pt 10 0)),(100,(zl 45)),(101,zi),(102,zi),(144,zo)],[(1,z0),(59,.mp 4),(98,.mp 3),(10,z1)]⟩ .leaf) .leaf) .leaf))) .leaf)))))) (.seq (.seq .leaf (.block ⟨[],[]⟩ (.loop ⟨[(1,(.pt 1 0)),(8,(.mp 98)),(152,(zl 37)),(153,zi),(154,zi)],[(1,z0),(98,.mp 3)]⟩ .leaf))) .leaf)))))))) [(53,some 141,iu),(65,some 40,mD),(66,some 70,fc),(67,some 75,eM),(68,some 108,oC),(69,some 162,lv)] (.cons mQ (.cons xX (.cons gu (.cons fM (.cons Ah (.cons w6 .nil)))))) (by kernel_rfl) (by kernel_rfl) (by kernel_rfl) (fun xs=>by kernel_rfl)
def fR.d1 (a b c d e f:C):R:=(bif (decide (c.L.length≤4294967296)) then (some (.ret [a,b,d,e,f,.l c.L])) else none)
def fR:List C→Option (List C):=fun xs=>aZ (ap6 fR.d1 xs)
def jP:FS:=⟨1,⟨[(0,z8)],[]⟩,⟨[(0,(.ag [zt,zt,(.ow 3000),zi,zi,zo]))],[(3000,.arr 9 1)]⟩,[],fR⟩
theorem tN:aA Tryz.checked.prog T0 120 jP:=bC aE (fn:=Tryz.f120) (c:=Tryz.f120.body.getD .skip) jP .leaf [] .nil (by kernel_rfl) (by kernel_rfl) (by kernel_rfl) (fun xs=>by kernel_rfl)
def gA.d1 (a b c d e f g h i j k l:C):R:=(bif (decide (h.L.length≤4294967296)) then (some (.ret [a,b,c,d,e,f,g,i,j,k,l,.l h.L])) else none)
def gA:List C→Option (List C):=fun xs=>aZ (jk gA.d1 xs)
def kB:FS:=⟨1,⟨[(0,z3)],[]⟩,⟨[(0,(.ag [zt,zt,zi,zi,zi,zi,zt,(.ow 3000),zi,zt,zt,zt]))],[(3000,.arr 109 1)]⟩,[],gA⟩
theorem uW:aA Tryz.checked.prog T0 121 kB:=bC aE (fn:=Tryz.f121) (c:=Tryz.f121.body.getD .skip) kB .leaf [] .nil (by kernel_rfl) (by kernel_rfl) (by kernel_rfl) (fun xs=>by kernel_rfl)
def du.d1 (a b c d e f g h i j k l m n o:C):R:=(bif (decide (c.I<b.I)) then (bif (decide (0≤c.I)) then (bif (decide (c.I<(a.L.length:Int))) then (call6 (fR [((a.L.getD c.I.toNat []).getD 0 .nil),((a.L.getD c.I.toNat []).getD 1 .nil),((a.L.getD c.I.toNat []).getD 2 .nil),((a.L.getD c.I.toNat []).getD 3 .nil),((a.L.getD c.I.toNat []).getD 4 .nil),((a.L.getD c.I.toNat []).getD 5 .nil)]) fun p q r s t u=>(bif (decide (m.L.length+(rows [[p,q,.l u.L,r,s,t]]).length≤4294967296)) then (some (.again [a,b,.i (w64 (c.I+1)),d,e,f,g,h,i,.l j.L,.l k.L,.l l.L,.l (m.L++(rows [[p,q,.l u.L,r,s,t]])),.l n.L,.l o.L])) else none)) else none) else none) else (some (.brk 0 [d,e,f,g,h,i,.l j.L,.l k.L,.l l.L,.l m.L,.l n.L,.l o.L])))
def du.d2 (a b c d e f g h i j k:C):R:=(bif (decide (c.I<b.I)) then (bif (decide (0≤c.I)) then (bif (decide (c.I<(a.L.length:Int))) then (call12 (gA [((a.L.getD c.I.toNat []).getD 0 .nil),((a.L.getD c.I.toNat []).getD 1 .nil),((a.L.getD c.I.toNat []).getD 2 .nil),((a.L.getD c.I.toNat []).getD 3 .nil),((a.L.getD c.I.toNat []).getD 4 .nil),((a.L.getD c.I.toNat []).getD 5 .nil),((a.L.getD c.I.toNat []).getD 6 .nil),((a.L.getD c.I.toNat []).getD 7 .nil),((a.L.getD c.I.toNat []).getD 8 .nil),((a.L.getD c.I.toNat []).getD 9 .nil),((a.L.getD c.I.toNat []).getD 10 .nil),((a.L.getD c.I.toNat []).getD 11 .nil)]) fun l m n o p q r s t u v w=>(bif (decide (k.L.length+(rows [[l,m,n,o,p,q,r,.l w.L,s,t,u,v]]).length≤4294967296)) then (some (.again [a,b,.i (w64 (c.I+1)),d,e,.l f.L,.l g.L,.l h.L,.l i.L,.l j.L,.l (k.L++(rows [[l,m,n,o,p,q,r,.l w.L,s,t,u,v]]))])) else none)) else none) else none) else (some (.brk 2 [d,e,.l f.L,.l g.L,.l h.L,.l i.L,.l j.L,.l k.L])))
def du.d3 (a b c d e f g h:C):R:=(some (.ret [b,.l f.L,.l g.L,.l h.L]))
def du.d4 (a b c d e f g h i j k l:C):R:=(ai 2 (lim (Aw du.d2) [d,.i (d.L.length:Int),.i 0,e,f,.l g.L,.l h.L,.l i.L,.l j.L,.l k.L,.l l.L]) (ap8 du.d3))
def du.d5 (a b c d:C):R:=(bif (decide (c.L.length≤4294967296)) then (ai 0 (lim (IS du.d1) [b,.i (b.L.length:Int),.i 0,a,b,c,d,.b false,.b a.B,.l ao,.l ao,.l ao,.l ao,.l c.L,.l ao]) (jk du.d4)) else none)
def du:List C→Option (List C):=fun xs=>aZ (ap4 du.d5 xs)
def pH:FS:=⟨1,⟨[(0,z2)],[]⟩,⟨[(0,z11)],[(3000,.arr 37 1),(3001,.arr 60 1),(3002,.arr 45 1)]⟩,[],du⟩
theorem BF:aA Tryz.checked.prog T0 83 pH:=oZ aE [25,40] false (fn:=Tryz.f83) (c:=Tryz.f83.body.getD .skip) pH (.seq .leaf (.seq .leaf (.seq (.seq .leaf (.block ⟨[(1,(.pt 1 0)),(2,(.pt 2 0)),(3,(.pt 3 0))],[(1,z0),(2,z15),(3,.var 27 [zo,(.ow 1287403),(.ow 12),(.ow 1287404)]),(1287400,.arr 37 1),(1287401,.arr 60 1),(1287402,.arr 45 1),(1287403,.arr 37 1),(12,.arr 60 1),(1287404,.arr 45 1)]⟩ (.loop ⟨[(1,(.pt 1 0)),(2,(.pt 2 0)),(3,(.pt 3 0)),(15,(zl 37)),(16,zi),(17,zi)],[(1,z0),(2,z15),(3,.var 27 [zo,(.ow 1287403),(.ow 12),(.ow 1287404)]),(1287400,.arr 37 1),(1287401,.arr 60 1),(1287402,.arr 45 1),(1287403,.arr 37 1),(12,.arr 60 1),(1287404,.arr 45 1)]⟩ .leaf))) (.seq (.seq .leaf (.block ⟨[(2,(.pt 2 0)),(3,(.pt 3 0))],[(2,z15),(3,.var 27 [zo,(.ow 1287403),(.ow 12),(.ow 1287404)]),(1287400,.arr 37 1),(1287401,.arr 60 1),(1287402,.arr 45 1),(1287403,.arr 37 1),(12,.arr 60 1),(1287404,.arr 45 1)]⟩ (.loop ⟨[(2,(.pt 2 0)),(3,(.pt 3 0)),(30,(zl 45)),(31,zi),(32,zi)],[(2,z15),(3,.var 27 [zo,(.ow 1287403),(.ow 12),(.ow 1287404)]),(1287400,.arr 37 1),(1287401,.arr 60 1),(1287402,.arr 45 1),(1287403,.arr 37 1),(12,.arr 60 1),(1287404,.arr 45 1)]⟩ .leaf))) .leaf)))) [(120,some 24,jP),(121,some 39,kB)] (.cons tN (.cons uW .nil)) (by kernel_rfl) (by kernel_rfl) (by kernel_rfl) (fun xs=>by kernel_rfl)
def strings_Compare:List C→Option (List C):=scF
def lX:FS:=⟨2,⟨[(0,.d .str),(1,.d .str)],[]⟩,⟨[(0,.d (.int .i64))],[]⟩,[],strings_Compare⟩
theorem ry:aA Tryz.checked.prog T0 149 lX:=JA
def gn.d1 (a b c d e f g h i j k l m n o p q r s t u v w x:C):R:=(bif (c.I !=o.I) then (some (.ret [.i (w64 (o.I-c.I))])) else (bif (d.I !=p.I) then (some (.ret [.i (w64 (d.I-p.I))])) else (ad (strings_Compare [a,m]) fun y=>(some (.ret [y])))))
def gn:List C→Option (List C):=fun xs=>aZ (xc gn.d1 xs)
def qB:FS:=⟨2,⟨[(0,z3),(1,z3)],[]⟩,⟨[(0,zi)],[]⟩,[],gn⟩
theorem xZ:aA Tryz.checked.prog T0 148 qB:=bC aE (fn:=Tryz.f148) (c:=Tryz.f148.body.getD .skip) qB .leaf [(149,some 31,lX)] (.cons ry .nil) (by kernel_rfl) (by kernel_rfl) (by kernel_rfl) (fun xs=>by kernel_rfl)
theorem pL (a0 a1 a6 a9 a10 a11:ByteArray) (a2 a3 a4 a5 a8:Int) (a7:List (List C)) (b0 b1 b6 b9 b10 b11:ByteArray) (b2 b3 b4 b5 b8:Int) (b7:List (List C)):gn [.s a0,.s a1,.i a2,.i a3,.i a4,.i a5,.s a6,.l a7,.i a8,.s a9,.s a10,.s a11,.s b0,.s b1,.i b2,.i b3,.i b4,.i b5,.s b6,.l b7,.i b8,.s b9,.s b10,.s b11]=some [.i (C0 a2 a3 a0 b2 b3 b0)]:=by
 unfold C0
 cases h1:(a2 !=b2) with
 |true=>show aZ (bif (a2 !=b2) then _ else _)=_;rw[h1];rfl
 |false=>
  cases h2:(a3 !=b3) with
  |true=>show aZ (bif (a2 !=b2) then _ else (bif (a3 !=b3) then _ else _))=_;rw[h1,h2];rfl
  |false=>show aZ (bif (a2 !=b2) then _ else (bif (a3 !=b3) then _ else _))=_;rw[h1,h2];rfl
def ep:List C→Option (List C):=xB cpQ gn
def gD:FS:=⟨2,⟨[(0,(.ow 2000)),(1,(.fn 148 []))],[(2000,.arr 45)]⟩,⟨[(0,(.tu []))],[(2000,.arr 45)]⟩,[2000],ep⟩
theorem kJ:aA Tryz.checked.prog T0 147 gD:=FA xZ pL
def dX.d1 (a b c d e f:C):R:=(some (.again [a,.i (w64 (b.I+1)),.l c.L,.l d.L,.l e.L,.l f.L]))
def dX.d2 (a b c d e f:C):R:=(bif (decide (b.I<a.I)) then (bd (bif (decide (0≤b.I)) then (bif (decide (b.I<(e.L.length:Int))) then (bif ((((e.L.getD b.I.toNat []).getD 11 .nil).S).toList==(bs #[]).toList) then (bif (decide (f.L.length+(rows [[((e.L.getD b.I.toNat []).getD 0 .nil),((e.L.getD b.I.toNat []).getD 1 .nil),((e.L.getD b.I.toNat []).getD 2 .nil),((e.L.getD b.I.toNat []).getD 3 .nil),((e.L.getD b.I.toNat []).getD 4 .nil),((e.L.getD b.I.toNat []).getD 5 .nil),((e.L.getD b.I.toNat []).getD 6 .nil),((e.L.getD b.I.toNat []).getD 7 .nil),((e.L.getD b.I.toNat []).getD 8 .nil),((e.L.getD b.I.toNat []).getD 9 .nil),((e.L.getD b.I.toNat []).getD 10 .nil),((e.L.getD b.I.toNat []).getD 11 .nil)]]).length≤4294967296)) then (some (.nrm [a,b,.l c.L,.l d.L,.l e.L,.l (f.L++(rows [[((e.L.getD b.I.toNat []).getD 0 .nil),((e.L.getD b.I.toNat []).getD 1 .nil),((e.L.getD b.I.toNat []).getD 2 .nil),((e.L.getD b.I.toNat []).getD 3 .nil),((e.L.getD b.I.toNat []).getD 4 .nil),((e.L.getD b.I.toNat []).getD 5 .nil),((e.L.getD b.I.toNat []).getD 6 .nil),((e.L.getD b.I.toNat []).getD 7 .nil),((e.L.getD b.I.toNat []).getD 8 .nil),((e.L.getD b.I.toNat []).getD 9 .nil),((e.L.getD b.I.toNat []).getD 10 .nil),((e.L.getD b.I.toNat []).getD 11 .nil)]]))])) else none) else (some (.nrm [a,b,.l c.L,.l d.L,.l e.L,.l f.L]))) else none) else none) (ap6 dX.d1)) else (some (.brk 0 [.l c.L,.l d.L,.l e.L,.l f.L])))
def dX.d3 (a b c d:C):R:=(ad (ep [.l d.L]) fun e=>(some (.ret [.l a.L,.l b.L,.l c.L,.l e.L])))
def dX.d4 (a b c d:C):R:=(ai 0 (lim (ap6 dX.d2) [.i (d.L.length:Int),.i 0,.l b.L,.l c.L,.l d.L,.l ao]) (ap4 dX.d3))
def dX:List C→Option (List C):=fun xs=>aZ (ap4 dX.d4 xs)
def pn:FS:=⟨1,⟨[(0,(.ag [zo,(.ow 2000),(.ow 2001),(.ow 2002)]))],[(2000,.arr 37 1),(2001,.arr 60 1),(2002,.arr 45 1)]⟩,⟨[(0,(.ow 3003))],[(2000,.arr 37 1),(2001,.arr 60 1),(2002,.arr 45 1),(3003,.arr 45)]⟩,[2000,2001,2002],dX⟩
theorem AR:aA Tryz.checked.prog T0 122 pn:=oZ aE [18] false (fn:=Tryz.f122) (c:=Tryz.f122.body.getD .skip) pn (.seq .leaf (.seq .leaf (.seq (.seq .leaf (.block ⟨[(3,(.ow 1299800))],[(2000,.arr 37 1),(2001,.arr 60 1),(2002,.arr 45 1),(1299800,.arr 45)]⟩ (.loop ⟨[(3,(.ow 1299800)),(7,(.ow 2002)),(8,zi),(9,zi)],[(2000,.arr 37 1),(2001,.arr 60 1),(2002,.arr 45 1),(1299800,.arr 45)]⟩ (.seq .leaf (.seq .leaf (.seq (.join ⟨[(3,(.ow 1299800)),(7,(.ow 2002)),(8,zi),(9,zi)],[(2000,.arr 37 1),(2001,.arr 60 1),(2002,.arr 45 1),(1299800,.arr 45)]⟩ .leaf) .leaf)))))) .leaf))) [(147,some 22,gD)] (.cons kJ .nil) (by kernel_rfl) (by kernel_rfl) (by kernel_rfl) (fun xs=>by kernel_rfl)
def av.d1 (G0:List C→Option (List C)) (a b c d e:C):R:=(bif e.B then (some (.ret [.b true])) else (some (.again [a,b,c,.i (w64 (d.I+1))])))
def av.d2 (G0:List C→Option (List C)) (a b c d:C):R:=(bif (decide (d.I<c.I)) then (bif (decide (0≤d.I)) then (bif (decide (d.I<(b.L.length:Int))) then (call3 (mi [((b.L.getD d.I.toNat []).getD 0 .nil)]) fun e f g=>(bd (bif g.B then (bif a.isP then (bif (e.S.toList==((a.P.getD 1 .nil).S).toList) then (bif a.isP then (bif (!((a.P.getD 0 .nil).I==1)) then (bif a.isP then (some (.nrm [a,b,c,d,.b (f.S.toList==((a.P.getD 2 .nil).S).toList)])) else none) else (some (.nrm [a,b,c,d,.b true]))) else none) else (some (.nrm [a,b,c,d,.b false]))) else none) else (some (.nrm [a,b,c,d,.b false]))) (ap5 (av.d1 G0)))) else none) else none) else (some (.brk 1 [])))
def av.d3 (G0:List C→Option (List C)):R:=(some (.ret [.b false]))
def av.d4 (G0:List C→Option (List C)) (a b c d:C):R:=(bif d.B then (ai 1 (lim (ap4 (av.d2 G0)) [a,b,.i (b.L.length:Int),.i 0]) (fun xs=>(av.d3 G0))) else (bif (c.I==3) then (bif a.isP then (bif (decide (0<(((a.P.getD 3 .nil).L).length:Int))) then (ad (G0 [((((a.P.getD 3 .nil).L).getD 0 []).getD 0 .nil),b]) fun e=>(some (.ret [.b (!e.B)]))) else none) else none) else (bif (c.I==4) then (bif a.isP then (bif (decide (0<(((a.P.getD 3 .nil).L).length:Int))) then (ad (G0 [((((a.P.getD 3 .nil).L).getD 0 []).getD 0 .nil),b]) fun f=>(bif f.B then (bif a.isP then (bif (decide (1<(((a.P.getD 3 .nil).L).length:Int))) then (ad (G0 [((((a.P.getD 3 .nil).L).getD 1 []).getD 0 .nil),b]) fun g=>(some (.ret [.b g.B]))) else none) else none) else (some (.ret [.b false])))) else none) else none) else (bif (c.I==5) then (bif a.isP then (bif (decide (0<(((a.P.getD 3 .nil).L).length:Int))) then (ad (G0 [((((a.P.getD 3 .nil).L).getD 0 []).getD 0 .nil),b]) fun h=>(bif (!h.B) then (bif a.isP then (bif (decide (1<(((a.P.getD 3 .nil).L).length:Int))) then (ad (G0 [((((a.P.getD 3 .nil).L).getD 1 []).getD 0 .nil),b]) fun i=>(some (.ret [.b i.B]))) else none) else none) else (some (.ret [.b true])))) else none) else none) else (some (.ret [.b true]))))))
def av.d5 (G0:List C→Option (List C)) (a b:C):R:=(bif a.isP then (bd (bif ((a.P.getD 0 .nil).I==1) then (some (.nrm [a,b,(a.P.getD 0 .nil),.b ((a.P.getD 0 .nil).I==1)])) else (some (.nrm [a,b,(a.P.getD 0 .nil),.b ((a.P.getD 0 .nil).I==2)]))) (ap4 (av.d4 G0))) else none)
def av.step (G0:List C→Option (List C)):List C→Option (List C):=fun xs=>aZ (ap2 (av.d5 G0) xs)
def cP (G:List C→Option (List C)):FS:=⟨2,⟨[(0,(.d (.pt 155))),(1,(.d (.sl 9)))],[]⟩,⟨[(0,(.d .bool))],[]⟩,[],G⟩
theorem u5 {G0:List C→Option (List C)} (h0:aA Tryz.checked.prog T0 135 (cP G0)):aA Tryz.checked.prog T0 135 (cP (av.step G0)):=bC aE (fn:=Tryz.f135) (c:=Tryz.f135.body.getD .skip) (cP (av.step G0)) (.seq .leaf (.seq (.seq .leaf (.skip (.seq (.join ⟨[(0,(.d (.pt 155))),(1,(.d (.sl 9))),(13,(.d (.int .i64))),(14,(.d .bool))],[]⟩ .leaf) (.cond (.seq (.seq .leaf (.block ⟨[],[]⟩ (.loop ⟨[(0,(.d (.pt 155))),(17,(.d (.sl 9))),(18,(.d (.int .i64))),(19,(.d (.int .i64)))],[]⟩ (.seq .leaf (.seq .leaf (.seq (.skip (.seq .leaf (.seq .leaf (.seq (.join ⟨[(0,(.d (.pt 155))),(17,(.d (.sl 9))),(18,(.d (.int .i64))),(19,(.d (.int .i64))),(52,(.d .bool))],[]⟩ .leaf) .leaf)))) .leaf)))))) .leaf) .leaf)))) .leaf)) [(111,some 25,oe),(135,some 63,(cP G0)),(135,some 74,(cP G0)),(135,some 83,(cP G0)),(135,some 94,(cP G0)),(135,some 103,(cP G0))] (.cons wL (.cons h0 (.cons h0 (.cons h0 (.cons h0 (.cons h0 .nil)))))) (by kernel_rfl) (by kernel_rfl) (by kernel_rfl) (fun xs=>by kernel_rfl)
def av.g:Nat→Nat→List C→Option (List C)
 |0,_=>fun _=>none
 |k+1,0=>av.step (av.g k 0)
 |_,_=>fun _=>none
theorem nC:∀k:Nat,aA Tryz.checked.prog T0 135 (cP (av.g k 0))
 |0=>jl (fn:=Tryz.f135) (c:=Tryz.f135.body.getD .skip) (2) (⟨[(0,(.d (.pt 155))),(1,(.d (.sl 9)))],[]⟩) (⟨[(0,(.d .bool))],[]⟩) [] (by kernel_rfl) (by kernel_rfl) (by kernel_rfl)
 |k+1=>u5 (nC k)
def av:List C→Option (List C):=av.g ik 0
theorem ve:aA Tryz.checked.prog T0 135 (cP av):=nC ik
def kb.d1 (a b c d e f g:C):R:=(call2 (jb [a]) fun h i=>(bif (i.I==0) then (bif (decide (d.L.length≤4294967296)) then (bif (decide ((bs #[122,111,110,101,61]).size+c.S.size≤4294967296)) then (bif (decide (d.L.length+(rows [[.s ((bs #[122,111,110,101,61])++c.S)]]).length≤4294967296)) then (ad (av [h,.l (d.L++(rows [[.s ((bs #[122,111,110,101,61])++c.S)]]))]) fun j=>(some (.ret [.b j.B]))) else none) else none) else none) else (some (.ret [.b false]))))
def kb:List C→Option (List C):=fun xs=>aZ (ap7 kb.d1 xs)
def mg:FS:=⟨2,⟨[(0,zt),(1,z8)],[]⟩,⟨[(0,zo)],[]⟩,[],kb⟩
theorem tY:aA Tryz.checked.prog T0 103 mg:=bC aE (fn:=Tryz.f103) (c:=Tryz.f103.body.getD .skip) mg .leaf [(113,some 9,kn),(135,some 24,(cP av))] (.cons pB (.cons ve .nil)) (by kernel_rfl) (by kernel_rfl) (by kernel_rfl) (fun xs=>by kernel_rfl)
def mq.d1 (a b c d e:C):R:=(ad (fP [a,b,c,d,e]) fun f=>(bif (decide (f.I≥0)) then (bif (decide (0≤f.I)) then (bif (decide (f.I<(b.L.length:Int))) then (some (.ret [((b.L.getD f.I.toNat []).getD 1 .nil)])) else none) else none) else (some (.ret [.s (bs #[])]))))
def mq:List C→Option (List C):=fun xs=>aZ (ap5 mq.d1 xs)
def nO:FS:=⟨2,⟨[(0,z2),(1,zt)],[]⟩,⟨[(0,zt)],[]⟩,[],mq⟩
theorem w9:aA Tryz.checked.prog T0 104 nO:=bC aE (fn:=Tryz.f104) (c:=Tryz.f104.body.getD .skip) nO .leaf [(53,some 8,iu)] (.cons mQ .nil) (by kernel_rfl) (by kernel_rfl) (by kernel_rfl) (fun xs=>by kernel_rfl)
end
end Go.Ev
namespace Go.Ev
open Go.Proofs
noncomputable section
def bK.d1 (a b c d e f g h i j k l m n o p q r s t u v w x y z a0 a1 a2 a3 a4 a5 a6 a7 a8 a9 b0 b1 b2 b3 b4 b5 b6:C):R:=(bif (b6.S.toList==z.S.toList) then (some (.brk 1 [a,b,.i (w64 (c.I+1)),.i (w64 (d.I+a9.I)),.i (w64 (e.I+b0.I)),f,g,h,i,j,k,l,m,n,o,p,q,r,s,t,u,v,w,x,y,z,a0,a1,a2,a3,a4])) else (some (.brk 1 [a,b,c,d,e,f,g,h,i,j,k,l,m,n,o,p,q,r,s,t,u,v,w,x,y,z,a0,a1,a2,a3,a4])))
def bK.d2 (a b c d e f g h i j k l m n o p q r s t u v w x y z a0 a1 a2 a3 a4 a5 a6 a7 a8 a9 b0 b1 b2 b3 b4 b5 b6 b7:C):R:=(bd (bif (!a.B) then (bif (a7.S.toList==x.S.toList) then (some (.nrm [.b g.B,b,c,d,e,f,h,i,j,k,l,m,n,o,p,q,r,s,t,u,v,w,x,y,z,a0,a1,a2,a3,a4,a5,a6,a7,a8,a9,b0,b1,b2,b3,b4,b5,b6,b7])) else (some (.nrm [.b false,b,c,d,e,f,h,i,j,k,l,m,n,o,p,q,r,s,t,u,v,w,x,y,z,a0,a1,a2,a3,a4,a5,a6,a7,a8,a9,b0,b1,b2,b3,b4,b5,b6,b7]))) else (some (.nrm [.b true,b,c,d,e,f,h,i,j,k,l,m,n,o,p,q,r,s,t,u,v,w,x,y,z,a0,a1,a2,a3,a4,a5,a6,a7,a8,a9,b0,b1,b2,b3,b4,b5,b6,b7]))) (fun xs=>bK.d1 (xs.getD 0 .nil) (xs.getD 1 .nil) (xs.getD 2 .nil) (xs.getD 3 .nil) (xs.getD 4 .nil) (xs.getD 5 .nil) (xs.getD 6 .nil) (xs.getD 7 .nil) (xs.getD 8 .nil) (xs.getD 9 .nil) (xs.getD 10 .nil) (xs.getD 11 .nil) (xs.getD 12 .nil) (xs.getD 13 .nil) (xs.getD 14 .nil) (xs.getD 15 .nil) (xs.getD 16 .nil) (xs.getD 17 .nil) (xs.getD 18 .nil) (xs.getD 19 .nil) (xs.getD 20 .nil) (xs.getD 21 .nil) (xs.getD 22 .nil) (xs.getD 23 .nil) (xs.getD 24 .nil) (xs.getD 25 .nil) (xs.getD 26 .nil) (xs.getD 27 .nil) (xs.getD 28 .nil) (xs.getD 29 .nil) (xs.getD 30 .nil) (xs.getD 31 .nil) (xs.getD 32 .nil) (xs.getD 33 .nil) (xs.getD 34 .nil) (xs.getD 35 .nil) (xs.getD 36 .nil) (xs.getD 37 .nil) (xs.getD 38 .nil) (xs.getD 39 .nil) (xs.getD 40 .nil) (xs.getD 41 .nil) (xs.getD 42 .nil)))
def bK.d3 (a b c d e f g h i j k l m n o p q r s t u v w x y z a0 a1 a2 a3 a4:C):R:=(some (.again [a,b,c,d,e,f,g,h,.i (w64 (i.I+1)),j,k,l,m,n,o,p,q,r,s,t,u,v,w,x,y,z,a0,a1,a2,a3,a4]))
def bK.d4 (a b c d e f g h i j k l m n o p q r s t u v w x y z a0 a1 a2 a3 a4:C):R:=(bif (decide (i.I<h.I)) then (ai 1 (bif (decide (0≤i.I)) then (bif (decide (i.I<(g.L.length:Int))) then (bif (!((((g.L.getD i.I.toNat []).getD 0 .nil).S).toList==n.S.toList)) then (bif ((((g.L.getD i.I.toNat []).getD 11 .nil).S).toList==(bs #[]).toList) then (some (.brk 1 [a,b,c,d,e,f,g,h,i,j,k,l,m,n,o,p,q,r,s,t,u,v,w,x,y,z,a0,a1,a2,a3,a4])) else (ad (mq [j,k,l,m,((g.L.getD i.I.toNat []).getD 11 .nil)]) fun a5=>(bd (bif ((((g.L.getD i.I.toNat []).getD 1 .nil).S).toList==o.S.toList) then (bif (!f.B) then (bif ((((g.L.getD i.I.toNat []).getD 11 .nil).S).toList==z.S.toList) then (bif (!(decide ((w64 (v.I+((g.L.getD i.I.toNat []).getD 8 .nil).I))>0))) then (bif (a5.S.toList==a0.S.toList) then (bif (!(v.I==2)) then (some (.nrm [a,.b true,c,d,e,.b (((g.L.getD i.I.toNat []).getD 8 .nil).I==2),.b (a5.S.toList==a0.S.toList),g,h,i,j,k,l,m,n,o,p,q,r,s,t,u,v,w,x,y,z,a0,a1,a2,a3,a4,((g.L.getD i.I.toNat []).getD 0 .nil),((g.L.getD i.I.toNat []).getD 1 .nil),((g.L.getD i.I.toNat []).getD 2 .nil),((g.L.getD i.I.toNat []).getD 3 .nil),((g.L.getD i.I.toNat []).getD 4 .nil),((g.L.getD i.I.toNat []).getD 5 .nil),((g.L.getD i.I.toNat []).getD 6 .nil),((g.L.getD i.I.toNat []).getD 7 .nil),((g.L.getD i.I.toNat []).getD 8 .nil),((g.L.getD i.I.toNat []).getD 9 .nil),((g.L.getD i.I.toNat []).getD 10 .nil),((g.L.getD i.I.toNat []).getD 11 .nil)])) else (some (.nrm [a,.b true,c,d,e,.b true,.b (a5.S.toList==a0.S.toList),g,h,i,j,k,l,m,n,o,p,q,r,s,t,u,v,w,x,y,z,a0,a1,a2,a3,a4,((g.L.getD i.I.toNat []).getD 0 .nil),((g.L.getD i.I.toNat []).getD 1 .nil),((g.L.getD i.I.toNat []).getD 2 .nil),((g.L.getD i.I.toNat []).getD 3 .nil),((g.L.getD i.I.toNat []).getD 4 .nil),((g.L.getD i.I.toNat []).getD 5 .nil),((g.L.getD i.I.toNat []).getD 6 .nil),((g.L.getD i.I.toNat []).getD 7 .nil),((g.L.getD i.I.toNat []).getD 8 .nil),((g.L.getD i.I.toNat []).getD 9 .nil),((g.L.getD i.I.toNat []).getD 10 .nil),((g.L.getD i.I.toNat []).getD 11 .nil)]))) else (some (.nrm [a,.b true,c,d,e,.b false,.b (a5.S.toList==a0.S.toList),g,h,i,j,k,l,m,n,o,p,q,r,s,t,u,v,w,x,y,z,a0,a1,a2,a3,a4,((g.L.getD i.I.toNat []).getD 0 .nil),((g.L.getD i.I.toNat []).getD 1 .nil),((g.L.getD i.I.toNat []).getD 2 .nil),((g.L.getD i.I.toNat []).getD 3 .nil),((g.L.getD i.I.toNat []).getD 4 .nil),((g.L.getD i.I.toNat []).getD 5 .nil),((g.L.getD i.I.toNat []).getD 6 .nil),((g.L.getD i.I.toNat []).getD 7 .nil),((g.L.getD i.I.toNat []).getD 8 .nil),((g.L.getD i.I.toNat []).getD 9 .nil),((g.L.getD i.I.toNat []).getD 10 .nil),((g.L.getD i.I.toNat []).getD 11 .nil)]))) else (some (.nrm [a,.b true,c,d,e,.b true,.b (a5.S.toList==a0.S.toList),g,h,i,j,k,l,m,n,o,p,q,r,s,t,u,v,w,x,y,z,a0,a1,a2,a3,a4,((g.L.getD i.I.toNat []).getD 0 .nil),((g.L.getD i.I.toNat []).getD 1 .nil),((g.L.getD i.I.toNat []).getD 2 .nil),((g.L.getD i.I.toNat []).getD 3 .nil),((g.L.getD i.I.toNat []).getD 4 .nil),((g.L.getD i.I.toNat []).getD 5 .nil),((g.L.getD i.I.toNat []).getD 6 .nil),((g.L.getD i.I.toNat []).getD 7 .nil),((g.L.getD i.I.toNat []).getD 8 .nil),((g.L.getD i.I.toNat []).getD 9 .nil),((g.L.getD i.I.toNat []).getD 10 .nil),((g.L.getD i.I.toNat []).getD 11 .nil)]))) else (bif (a5.S.toList==a0.S.toList) then (bif (!(v.I==2)) then (some (.nrm [a,.b true,c,d,e,.b (((g.L.getD i.I.toNat []).getD 8 .nil).I==2),.b (a5.S.toList==a0.S.toList),g,h,i,j,k,l,m,n,o,p,q,r,s,t,u,v,w,x,y,z,a0,a1,a2,a3,a4,((g.L.getD i.I.toNat []).getD 0 .nil),((g.L.getD i.I.toNat []).getD 1 .nil),((g.L.getD i.I.toNat []).getD 2 .nil),((g.L.getD i.I.toNat []).getD 3 .nil),((g.L.getD i.I.toNat []).getD 4 .nil),((g.L.getD i.I.toNat []).getD 5 .nil),((g.L.getD i.I.toNat []).getD 6 .nil),((g.L.getD i.I.toNat []).getD 7 .nil),((g.L.getD i.I.toNat []).getD 8 .nil),((g.L.getD i.I.toNat []).getD 9 .nil),((g.L.getD i.I.toNat []).getD 10 .nil),((g.L.getD i.I.toNat []).getD 11 .nil)])) else (some (.nrm [a,.b true,c,d,e,.b true,.b (a5.S.toList==a0.S.toList),g,h,i,j,k,l,m,n,o,p,q,r,s,t,u,v,w,x,y,z,a0,a1,a2,a3,a4,((g.L.getD i.I.toNat []).getD 0 .nil),((g.L.getD i.I.toNat []).getD 1 .nil),((g.L.getD i.I.toNat []).getD 2 .nil),((g.L.getD i.I.toNat []).getD 3 .nil),((g.L.getD i.I.toNat []).getD 4 .nil),((g.L.getD i.I.toNat []).getD 5 .nil),((g.L.getD i.I.toNat []).getD 6 .nil),((g.L.getD i.I.toNat []).getD 7 .nil),((g.L.getD i.I.toNat []).getD 8 .nil),((g.L.getD i.I.toNat []).getD 9 .nil),((g.L.getD i.I.toNat []).getD 10 .nil),((g.L.getD i.I.toNat []).getD 11 .nil)]))) else (some (.nrm [a,.b true,c,d,e,.b false,.b (a5.S.toList==a0.S.toList),g,h,i,j,k,l,m,n,o,p,q,r,s,t,u,v,w,x,y,z,a0,a1,a2,a3,a4,((g.L.getD i.I.toNat []).getD 0 .nil),((g.L.getD i.I.toNat []).getD 1 .nil),((g.L.getD i.I.toNat []).getD 2 .nil),((g.L.getD i.I.toNat []).getD 3 .nil),((g.L.getD i.I.toNat []).getD 4 .nil),((g.L.getD i.I.toNat []).getD 5 .nil),((g.L.getD i.I.toNat []).getD 6 .nil),((g.L.getD i.I.toNat []).getD 7 .nil),((g.L.getD i.I.toNat []).getD 8 .nil),((g.L.getD i.I.toNat []).getD 9 .nil),((g.L.getD i.I.toNat []).getD 10 .nil),((g.L.getD i.I.toNat []).getD 11 .nil)])))) else (some (.nrm [a,.b true,c,d,e,.b true,.b (a5.S.toList==a0.S.toList),g,h,i,j,k,l,m,n,o,p,q,r,s,t,u,v,w,x,y,z,a0,a1,a2,a3,a4,((g.L.getD i.I.toNat []).getD 0 .nil),((g.L.getD i.I.toNat []).getD 1 .nil),((g.L.getD i.I.toNat []).getD 2 .nil),((g.L.getD i.I.toNat []).getD 3 .nil),((g.L.getD i.I.toNat []).getD 4 .nil),((g.L.getD i.I.toNat []).getD 5 .nil),((g.L.getD i.I.toNat []).getD 6 .nil),((g.L.getD i.I.toNat []).getD 7 .nil),((g.L.getD i.I.toNat []).getD 8 .nil),((g.L.getD i.I.toNat []).getD 9 .nil),((g.L.getD i.I.toNat []).getD 10 .nil),((g.L.getD i.I.toNat []).getD 11 .nil)]))) else (some (.nrm [a,b,c,d,e,f,.b (a5.S.toList==a0.S.toList),g,h,i,j,k,l,m,n,o,p,q,r,s,t,u,v,w,x,y,z,a0,a1,a2,a3,a4,((g.L.getD i.I.toNat []).getD 0 .nil),((g.L.getD i.I.toNat []).getD 1 .nil),((g.L.getD i.I.toNat []).getD 2 .nil),((g.L.getD i.I.toNat []).getD 3 .nil),((g.L.getD i.I.toNat []).getD 4 .nil),((g.L.getD i.I.toNat []).getD 5 .nil),((g.L.getD i.I.toNat []).getD 6 .nil),((g.L.getD i.I.toNat []).getD 7 .nil),((g.L.getD i.I.toNat []).getD 8 .nil),((g.L.getD i.I.toNat []).getD 9 .nil),((g.L.getD i.I.toNat []).getD 10 .nil),((g.L.getD i.I.toNat []).getD 11 .nil)]))) (fun xs=>bK.d2 (xs.getD 0 .nil) (xs.getD 1 .nil) (xs.getD 2 .nil) (xs.getD 3 .nil) (xs.getD 4 .nil) (xs.getD 5 .nil) (xs.getD 6 .nil) (xs.getD 7 .nil) (xs.getD 8 .nil) (xs.getD 9 .nil) (xs.getD 10 .nil) (xs.getD 11 .nil) (xs.getD 12 .nil) (xs.getD 13 .nil) (xs.getD 14 .nil) (xs.getD 15 .nil) (xs.getD 16 .nil) (xs.getD 17 .nil) (xs.getD 18 .nil) (xs.getD 19 .nil) (xs.getD 20 .nil) (xs.getD 21 .nil) (xs.getD 22 .nil) (xs.getD 23 .nil) (xs.getD 24 .nil) (xs.getD 25 .nil) (xs.getD 26 .nil) (xs.getD 27 .nil) (xs.getD 28 .nil) (xs.getD 29 .nil) (xs.getD 30 .nil) (xs.getD 31 .nil) (xs.getD 32 .nil) (xs.getD 33 .nil) (xs.getD 34 .nil) (xs.getD 35 .nil) (xs.getD 36 .nil) (xs.getD 37 .nil) (xs.getD 38 .nil) (xs.getD 39 .nil) (xs.getD 40 .nil) (xs.getD 41 .nil) (xs.getD 42 .nil) (xs.getD 43 .nil))))) else (some (.brk 1 [a,b,c,d,e,f,g,h,i,j,k,l,m,n,o,p,q,r,s,t,u,v,w,x,y,z,a0,a1,a2,a3,a4]))) else none) else none) (rr bK.d3)) else (some (.brk 0 [a,b,c,d,e,f,n,o,p,q,r,s,t,u,v,w,x,y,z,a0,a1,a2,a3,a4])))
def bK.d5 (a b c d e f g h i j k l m n o p q r s t u v:C):R:=(bif d.B then (some (.ret [.i 5])) else (bif (decide (a.I≥10)) then (some (.ret [.i 6])) else (bif (decide ((w64 (b.I+i.I))>t.I)) then (some (.ret [.i 7])) else (bif (decide ((w64 (c.I+j.I))>u.I)) then (some (.ret [.i 8])) else (some (.ret [.i 0]))))))
def bK.d6 (a b c d e f g h i j k l m n o p q r s t u v w x:C):R:=(bif f.B then (some (.ret [.i 4])) else (bd (bif (!(p.S.toList==(bs #[]).toList)) then (bif (!a.B) then (bif (p.S.toList==h.S.toList) then (some (.nrm [c,d,e,.b (!(!b.B)),g,h,i,j,k,l,m,n,o,p,q,r,s,t,u,v,w,x])) else (some (.nrm [c,d,e,.b true,g,h,i,j,k,l,m,n,o,p,q,r,s,t,u,v,w,x]))) else (some (.nrm [c,d,e,.b false,g,h,i,j,k,l,m,n,o,p,q,r,s,t,u,v,w,x]))) else (some (.nrm [c,d,e,.b false,g,h,i,j,k,l,m,n,o,p,q,r,s,t,u,v,w,x]))) (Ac bK.d5)))
def bK.d7 (a b c d e f g h i j k l m n o p q r s t u v:C):R:=(ad (kb [k,q,r,s,t,u,v]) fun w=>(bif (!w.B) then (some (.ret [.i 3])) else (ai 0 (lim (rr bK.d4) [.b false,.b false,.i 0,.i 0,.i 0,.b false,d,.i (d.L.length:Int),.i 0,a,b,c,d,e,f,g,h,i,j,k,l,m,n,o,p,q,r,s,t,u,v]) (xc bK.d6))))
def bK.d8 (a b c d e f g h i j k l m n o p q r s t u v:C):R:=(bd (bif (!(o.S.toList==(bs #[]).toList)) then (bif (!(o.S.toList==q.S.toList)) then (some (.ret [.i 2])) else (some (.nrm [a,b,c,d,e,f,g,h,i,j,k,l,m,n,o,p,q,r,s,t,u,v]))) else (some (.nrm [a,b,c,d,e,f,g,h,i,j,k,l,m,n,o,p,q,r,s,t,u,v]))) (Ac bK.d7))
def bK.d9 (a b c d e f g h i j k l m n o p q r s t u v w:C):R:=(bd (bif w.B then (bif v.B then (some (.ret [.i 1])) else (some (.nrm [a,b,c,d,e,f,g,h,i,j,k,l,m,n,o,p,q,r,s,t,u,v]))) else (some (.nrm [a,b,c,d,e,f,g,h,i,j,k,l,m,n,o,p,q,r,s,t,u,v]))) (Ac bK.d8))
def bK:List C→Option (List C):=fun xs=>aZ (Eh bK.d9 xs)
def rz:FS:=⟨4,⟨[(0,z2),(1,z3),(2,z8),(3,zo)],[]⟩,⟨[(0,zi)],[]⟩,[],bK⟩
theorem Cz:aA Tryz.checked.prog T0 54 rz:=bC aE (fn:=Tryz.f54) (c:=Tryz.f54.body.getD .skip) rz (.seq .leaf (.seq (.join ⟨[(4,(.pt 4 0)),(5,(.pt 5 0)),(6,(.pt 6 0))],[(4,z0),(5,z1),(6,z4)]⟩ .leaf) (.seq (.join ⟨[(4,(.pt 4 0)),(5,(.pt 5 0)),(6,(.pt 6 0))],[(4,z0),(5,z1),(6,z4)]⟩ .leaf) (.seq .leaf (.seq .leaf (.seq .leaf (.seq .leaf (.seq (.seq .leaf (.block ⟨[(5,(.pt 5 0)),(6,(.pt 6 0)),(9,zo),(10,zo),(11,zi),(12,zi),(13,zi),(14,zo)],[(5,z1),(6,z4)]⟩ (.loop ⟨[(4,(.pt 4 0)),(5,(.pt 5 0)),(6,(.pt 6 0)),(9,zo),(10,zo),(11,zi),(12,zi),(13,zi),(14,zo),(39,(zl 45)),(40,zi),(41,zi)],[(4,z0),(5,z1),(6,z4)]⟩ (.seq .leaf (.seq .leaf (.seq (.block ⟨[(4,(.pt 4 0)),(5,(.pt 5 0)),(6,(.pt 6 0)),(9,zo),(10,zo),(11,zi),(12,zi),(13,zi),(14,zo),(39,(zl 45)),(40,zi),(41,zi)],[(4,z0),(5,z1),(6,z4)]⟩ (.seq .leaf (.seq .leaf (.seq .leaf (.seq (.join ⟨[(4,(.pt 4 0)),(5,(.pt 5 0)),(6,(.pt 6 0)),(9,zo),(10,zo),(11,zi),(12,zi),(13,zi),(14,zo),(16,(.pt 16 0)),(17,zo),(39,(zl 45)),(40,zi),(41,zi)],[(4,z0),(5,z1),(6,z4),(16,z1)]⟩ .leaf) (.seq (.join ⟨[(4,(.pt 4 0)),(5,(.pt 5 0)),(6,(.pt 6 0)),(9,zo),(10,zo),(11,zi),(12,zi),(13,zi),(14,zo),(16,(.pt 16 0)),(39,(zl 45)),(40,zi),(41,zi)],[(4,z0),(5,z1),(6,z4),(16,z1)]⟩ .leaf) .leaf)))))) .leaf)))))) (.seq (.skip (.seq .leaf (.cond .leaf (.seq (.join ⟨[(5,(.pt 5 0)),(6,(.pt 6 0)),(11,zi),(12,zi),(13,zi),(125,zo)],[(5,z1),(6,z4)]⟩ .leaf) .leaf)))) .leaf))))))))) [(103,some 36,mg),(104,some 58,nO)] (.cons tY (.cons w9 .nil)) (by kernel_rfl) (by kernel_rfl) (by kernel_rfl) (fun xs=>by kernel_rfl)
def yR.d1 (a:C):R:=(bif a.B then (some (.ret [.i 1])) else (some (.ret [.i 0])))
def yR:List C→Option (List C):=fun xs=>aZ (ap1 yR.d1 xs)
def sD:FS:=⟨1,⟨[(0,zo)],[]⟩,⟨[(0,zi)],[]⟩,[],yR⟩
theorem BC:aA Tryz.checked.prog T0 115 sD:=bC aE (fn:=Tryz.f115) (c:=Tryz.f115.body.getD .skip) sD .leaf [] .nil (by kernel_rfl) (by kernel_rfl) (by kernel_rfl) (fun xs=>by kernel_rfl)
def bW.d1 (a b c d e f g h i j k l m n o p q r s t u v w x y z a0 a1 a2 a3 a4 a5 a6:C):R:=(bif (decide (c.I<b.I)) then (bif (decide (0≤c.I)) then (bif (decide (c.I<(a.L.length:Int))) then (ad (kb [((a.L.getD c.I.toNat []).getD 0 .nil),t,u,v,w,x,y]) fun a7=>(bif a7.B then (some (.again [a,b,.i (w64 (c.I+1)),d,e,f,g,h,i,j,k,l,m,n,o,p,q,r,s,t,u,v,w,x,y,z,a0,a1,a2,.i (w64 (a3.I+((a.L.getD c.I.toNat []).getD 1 .nil).I)),a4,a5,a6])) else (some (.again [a,b,.i (w64 (c.I+1)),d,e,f,g,h,i,j,k,l,m,n,o,p,q,r,s,t,u,v,w,x,y,z,a0,a1,a2,a3,a4,a5,a6])))) else none) else none) else (some (.brk 0 [d,e,f,g,h,i,j,k,l,m,n,o,p,q,r,s,t,u,v,w,x,y,z,a0,a1,a2,a3,a4,a5,a6])))
def bW.d2 (a b c d e f g h i j k l m n o p q r s t u v w x y z a0 a1 a2 a3 a4 a5 a6:C):R:=(some (.again [a,b,.i (w64 (c.I+1)),d,e,f,g,h,i,j,k,l,m,n,o,p,q,r,s,t,u,v,w,x,y,z,a0,a1,a2,a3,a4,a5,a6]))
def bW.d3 (a b c d e f g h i j k l m n o p q r s t u v w x y z a0 a1 a2 a3 a4 a5 a6:C):R:=(bif (decide (c.I<b.I)) then (ai 3 (bif (decide (0≤c.I)) then (bif (decide (c.I<(a.L.length:Int))) then (bif (!((((a.L.getD c.I.toNat []).getD 0 .nil).S).toList==h.S.toList)) then (bif ((((a.L.getD c.I.toNat []).getD 11 .nil).S).toList==(bs #[]).toList) then (some (.brk 3 [a,b,c,d,e,f,g,h,i,j,k,l,m,n,o,p,q,r,s,t,u,v,w,x,y,z,a0,a1,a2,a3,a4,a5,a6])) else (bif ((((a.L.getD c.I.toNat []).getD 1 .nil).S).toList==i.S.toList) then (ad (mq [d,e,f,g,((a.L.getD c.I.toNat []).getD 11 .nil)]) fun a7=>(ad (yR [.b (a7.S.toList==u.S.toList)]) fun a8=>(ad (yR [.b ((((a.L.getD c.I.toNat []).getD 11 .nil).S).toList==t.S.toList)]) fun a9=>(bif ((((a.L.getD c.I.toNat []).getD 11 .nil).S).toList==t.S.toList) then (some (.brk 3 [a,b,c,d,e,f,g,h,i,j,k,l,m,n,o,p,q,r,s,t,u,v,w,x,y,z,a0,a1,a2,a3,.i (w64 (a4.I+a8.I)),.i (w64 (a5.I+a9.I)),.i (w64 (a6.I-((a.L.getD c.I.toNat []).getD 4 .nil).I))])) else (some (.brk 3 [a,b,c,d,e,f,g,h,i,j,k,l,m,n,o,p,q,r,s,t,u,v,w,x,y,z,a0,a1,a2,a3,.i (w64 (a4.I+a8.I)),.i (w64 (a5.I+a9.I)),a6])))))) else (bif ((((a.L.getD c.I.toNat []).getD 11 .nil).S).toList==t.S.toList) then (some (.brk 3 [a,b,c,d,e,f,g,h,i,j,k,l,m,n,o,p,q,r,s,t,u,v,w,x,y,z,a0,a1,a2,a3,a4,a5,.i (w64 (a6.I-((a.L.getD c.I.toNat []).getD 4 .nil).I))])) else (some (.brk 3 [a,b,c,d,e,f,g,h,i,j,k,l,m,n,o,p,q,r,s,t,u,v,w,x,y,z,a0,a1,a2,a3,a4,a5,a6]))))) else (some (.brk 3 [a,b,c,d,e,f,g,h,i,j,k,l,m,n,o,p,q,r,s,t,u,v,w,x,y,z,a0,a1,a2,a3,a4,a5,a6]))) else none) else none) (El bW.d2)) else (some (.brk 2 [z,a0,a1,a2,a3,a4,a5,a6])))
def bW.d4 (a b c d e f g h:C):R:=(some (.ret [e,f,g,h]))
def bW.d5 (a b c d e f g h i j k l m n o p q r s t u v w x y z a0 a1 a2 a3:C):R:=(ai 2 (lim (El bW.d3) [d,.i (d.L.length:Int),.i 0,a,b,c,d,e,f,g,h,i,j,k,l,m,n,o,p,q,r,s,t,u,v,w,x,y,z,a0,a1,a2,a3]) (ap8 bW.d4))
def bW.d6 (a b c d e f g h i j k l m n o p q r s t u v:C):R:=(ai 0 (lim (El bW.d1) [l,.i (l.L.length:Int),.i 0,a,b,c,d,e,f,g,h,i,j,k,l,m,n,o,p,q,r,s,t,u,v,.i 0,.i 0,.i 0,.i 0,.i 0,.i 0,.i 0,.i (w64 (t.I-i.I))]) (tD bW.d5))
def bW:List C→Option (List C):=fun xs=>aZ (Ac bW.d6 xs)
def pQ:FS:=⟨3,⟨[(0,z2),(1,z3),(2,z8)],[]⟩,⟨[(0,(.ag [zi,zi,zi,zi]))],[]⟩,[],bW⟩
theorem Bw:aA Tryz.checked.prog T0 72 pQ:=bC aE (fn:=Tryz.f72) (c:=Tryz.f72.body.getD .skip) pQ (.seq .leaf (.seq .leaf (.seq (.seq .leaf (.block ⟨[(3,(.pt 3 0)),(4,(.pt 4 0)),(5,(.pt 5 0)),(6,(.pt 6 0)),(7,(.pt 7 0))],[(3,z0),(4,z1),(5,z4),(6,z7),(7,z7)]⟩ (.loop ⟨[(3,(.pt 3 0)),(4,(.pt 4 0)),(5,(.pt 5 0)),(6,(.pt 6 0)),(7,(.pt 7 0)),(19,(zl 109)),(20,zi),(21,zi)],[(3,z0),(4,z1),(5,z4),(6,z7),(7,z7)]⟩ .leaf))) (.seq (.seq .leaf (.block ⟨[(6,(.pt 6 0)),(7,(.pt 7 0))],[(6,z7),(7,z7)]⟩ (.loop ⟨[(3,(.pt 3 0)),(4,(.pt 4 0)),(5,(.pt 5 0)),(6,(.pt 6 0)),(7,(.pt 7 0)),(37,(zl 45)),(38,zi),(39,zi)],[(3,z0),(4,z1),(5,z4),(6,z7),(7,z7)]⟩ (.seq .leaf (.seq .leaf (.seq (.block ⟨[(3,(.pt 3 0)),(4,(.pt 4 0)),(5,(.pt 5 0)),(6,(.pt 6 0)),(7,(.pt 7 0)),(37,(zl 45)),(38,zi),(39,zi)],[(3,z0),(4,z1),(5,z4),(6,z7),(7,z7)]⟩ .leaf) .leaf)))))) .leaf)))) [(103,some 28,mg),(104,some 63,nO),(115,some 67,sD),(115,some 77,sD)] (.cons tY (.cons w9 (.cons BC (.cons BC .nil)))) (by kernel_rfl) (by kernel_rfl) (by kernel_rfl) (fun xs=>by kernel_rfl)
def fV.d1 (a b c d e f g h i:C):R:=(bif (a.I !=e.I) then (some (.ret [.b (decide (a.I>e.I))])) else (bif (b.I !=f.I) then (some (.ret [.b (decide (b.I<f.I))])) else (bif (c.I !=g.I) then (some (.ret [.b (decide (c.I<g.I))])) else (bif i.B then (some (.ret [.b (decide (d.I<h.I))])) else (some (.ret [.b (decide (d.I>h.I))]))))))
def fV:List C→Option (List C):=fun xs=>aZ (ap9 fV.d1 xs)
def jL:FS:=⟨3,⟨[(0,(.ag [zi,zi,zi,zi])),(1,(.ag [zi,zi,zi,zi])),(2,zo)],[]⟩,⟨[(0,zo)],[]⟩,[],fV⟩
theorem tv:aA Tryz.checked.prog T0 25 jL:=bC aE (fn:=Tryz.f25) (c:=Tryz.f25.body.getD .skip) jL .leaf [] .nil (by kernel_rfl) (by kernel_rfl) (by kernel_rfl) (fun xs=>by kernel_rfl)
def di.d1 (a b c d e f g h i j k l m n o p q r s t u v w x:C):R:=(some (.again [a,b,c,.i (w64 (d.I+1)),e,f,g,h,i,j,k,l,m,n,o,p,q,r,s,t,u,v,w,x]))
def di.d2 (a b c d e f g h i j k l m n o p q r s t u v w x:C):R:=(bif (decide (d.I<c.I)) then (ai 1 (bif (decide (0≤d.I)) then (bif (decide (d.I<(b.L.length:Int))) then (ad (bK [e,f,g,h,i,j,k,l,m,n,o,p,q,r,s,t,((b.L.getD d.I.toNat []).getD 0 .nil),((b.L.getD d.I.toNat []).getD 1 .nil),((b.L.getD d.I.toNat []).getD 2 .nil),((b.L.getD d.I.toNat []).getD 3 .nil),((b.L.getD d.I.toNat []).getD 4 .nil),((b.L.getD d.I.toNat []).getD 5 .nil),.b true]) fun y=>(bif (y.I !=0) then (some (.brk 1 [a,b,c,d,e,f,g,h,i,j,k,l,m,n,o,p,q,r,s,t,u,v,w,x])) else (call4 (bW [e,f,g,h,i,j,k,l,m,n,o,p,q,r,s,t,((b.L.getD d.I.toNat []).getD 0 .nil),((b.L.getD d.I.toNat []).getD 1 .nil),((b.L.getD d.I.toNat []).getD 2 .nil),((b.L.getD d.I.toNat []).getD 3 .nil),((b.L.getD d.I.toNat []).getD 4 .nil),((b.L.getD d.I.toNat []).getD 5 .nil)]) fun z a0 a1 a2=>(bif (!(a.S.toList==(bs #[]).toList)) then (ad (fV [z,a0,a1,a2,u,v,w,x,.b e.B]) fun a3=>(bif a3.B then (some (.brk 1 [((b.L.getD d.I.toNat []).getD 0 .nil),b,c,d,e,f,g,h,i,j,k,l,m,n,o,p,q,r,s,t,z,a0,a1,a2])) else (some (.brk 1 [a,b,c,d,e,f,g,h,i,j,k,l,m,n,o,p,q,r,s,t,u,v,w,x])))) else (some (.brk 1 [((b.L.getD d.I.toNat []).getD 0 .nil),b,c,d,e,f,g,h,i,j,k,l,m,n,o,p,q,r,s,t,z,a0,a1,a2])))))) else none) else none) (xc di.d1)) else (some (.brk 0 [a])))
def di.d3 (a:C):R:=(some (.ret [a]))
def di.d4 (a b c d e f g h i j k l m n o p:C):R:=(ai 0 (lim (xc di.d2) [.s (bs #[]),b,.i (b.L.length:Int),.i 0,a,b,c,d,e,f,g,h,i,j,k,l,m,n,o,p,.i 0,.i 0,.i 0,.i 0]) (ap1 di.d3))
def di:List C→Option (List C):=fun xs=>aZ (I0 di.d4 xs)
def oo:FS:=⟨2,⟨[(0,z2),(1,z3)],[]⟩,⟨[(0,zt)],[]⟩,[],di⟩
theorem y8:aA Tryz.checked.prog T0 70 oo:=bC aE (fn:=Tryz.f70) (c:=Tryz.f70.body.getD .skip) oo (.seq .leaf (.seq .leaf (.seq .leaf (.seq (.seq .leaf (.block ⟨[(5,zt)],[]⟩ (.loop ⟨[(2,(.pt 2 0)),(3,(.pt 3 0)),(5,zt),(6,(.pt 6 0)),(11,(zl 37)),(12,zi),(13,zi)],[(2,z0),(3,z1),(6,z7)]⟩ (.seq .leaf (.seq .leaf (.seq (.block ⟨[(2,(.pt 2 0)),(3,(.pt 3 0)),(5,zt),(6,(.pt 6 0)),(11,(zl 37)),(12,zi),(13,zi)],[(2,z0),(3,z1),(6,z7)]⟩ .leaf) .leaf)))))) .leaf)))) [(25,some 33,jL),(54,some 20,rz),(72,some 25,pQ)] (.cons tv (.cons Cz (.cons Bw .nil))) (by kernel_rfl) (by kernel_rfl) (by kernel_rfl) (fun xs=>by kernel_rfl)
def iU.d1 (a b c d e f g h i j k l m:C):R:=(bif m.isP then (some (.ret [.b (a.S.toList==((m.P.getD 0 .nil).S).toList)])) else none)
def iU:List C→Option (List C):=fun xs=>aZ (oQ iU.d1 xs)
def lz:FS:=⟨2,⟨[(0,z3),(1,(.d (.pt 9)))],[]⟩,⟨[(0,zo)],[]⟩,[],iU⟩
theorem wK:aA Tryz.checked.prog T0 100 lz:=bC aE (fn:=Tryz.f100) (c:=Tryz.f100.body.getD .skip) lz .leaf [] .nil (by kernel_rfl) (by kernel_rfl) (by kernel_rfl) (fun xs=>by kernel_rfl)
def aD.d1 (a b c d:C):R:=(bif (decide (d.I<c.I)) then (bif (decide (0≤d.I)) then (bif (decide (d.I<(a.L.length:Int))) then (ad (iU [((a.L.getD d.I.toNat []).getD 0 .nil),((a.L.getD d.I.toNat []).getD 1 .nil),((a.L.getD d.I.toNat []).getD 2 .nil),((a.L.getD d.I.toNat []).getD 3 .nil),((a.L.getD d.I.toNat []).getD 4 .nil),((a.L.getD d.I.toNat []).getD 5 .nil),((a.L.getD d.I.toNat []).getD 6 .nil),((a.L.getD d.I.toNat []).getD 7 .nil),((a.L.getD d.I.toNat []).getD 8 .nil),((a.L.getD d.I.toNat []).getD 9 .nil),((a.L.getD d.I.toNat []).getD 10 .nil),((a.L.getD d.I.toNat []).getD 11 .nil),b]) fun e=>(bif e.B then (some (.ret [d])) else (some (.again [a,b,c,.i (w64 (d.I+1))])))) else none) else none) else (some (.brk 0 [])))
def aD.d2:R:=(some (.ret [.i (-1)]))
def aD.d3 (a b:C):R:=(ai 0 (lim (ap4 aD.d1) [a,b,.i (a.L.length:Int),.i 0]) (fun xs=>aD.d2))
def aD:List C→Option (List C):=fun xs=>aZ (ap2 aD.d3 xs)
def eQ:FS:=⟨2,⟨[(0,(zl 45)),(1,(.fn 100 [(.d (.pt 9))]))],[]⟩,⟨[(0,zi)],[]⟩,[],aD⟩
theorem kv:aA Tryz.checked.prog T0 99 eQ:=bC aE (fn:=Tryz.f99) (c:=Tryz.f99.body.getD .skip) eQ (.seq .leaf (.seq (.seq .leaf (.block ⟨[],[]⟩ (.loop ⟨[(0,(zl 45)),(1,(.fn 100 [(.d (.pt 9))])),(7,zi),(8,zi)],[]⟩ .leaf))) .leaf)) [(100,some 16,lz)] (.cons wK .nil) (by kernel_rfl) (by kernel_rfl) (by kernel_rfl) (fun xs=>by kernel_rfl)
def jT.d1 (a b c d e:C):R:=(ad (aD [d,.p [e]]) fun f=>(some (.ret [f])))
def jT:List C→Option (List C):=fun xs=>aZ (ap5 jT.d1 xs)
def n9:FS:=⟨2,⟨[(0,z2),(1,zt)],[]⟩,⟨[(0,zi)],[]⟩,[],jT⟩
theorem Ar:aA Tryz.checked.prog T0 52 n9:=bC aE (fn:=Tryz.f52) (c:=Tryz.f52.body.getD .skip) n9 .leaf [(99,some 8,eQ)] (.cons kv .nil) (by kernel_rfl) (by kernel_rfl) (by kernel_rfl) (fun xs=>by kernel_rfl)
def cH.d1 (a b c d e f g h:C):R:=(bif (decide (b.I<a.I)) then (bif (decide (0≤b.I)) then (bif (decide (b.I<(h.L.length:Int))) then (ad (di [c,.l d.L,.l e.L,.l f.L,((h.L.getD b.I.toNat []).getD 0 .nil),((h.L.getD b.I.toNat []).getD 1 .nil),((h.L.getD b.I.toNat []).getD 2 .nil),((h.L.getD b.I.toNat []).getD 3 .nil),((h.L.getD b.I.toNat []).getD 4 .nil),((h.L.getD b.I.toNat []).getD 5 .nil),((h.L.getD b.I.toNat []).getD 6 .nil),((h.L.getD b.I.toNat []).getD 7 .nil),((h.L.getD b.I.toNat []).getD 8 .nil),((h.L.getD b.I.toNat []).getD 9 .nil),((h.L.getD b.I.toNat []).getD 10 .nil),((h.L.getD b.I.toNat []).getD 11 .nil)]) fun i=>(bif (!(i.S.toList==(bs #[]).toList)) then (ad (jT [c,.l d.L,.l e.L,.l f.L,((h.L.getD b.I.toNat []).getD 0 .nil)]) fun j=>(bif (decide (0≤j.I)) then (bif (decide (j.I<(f.L.length:Int))) then (bif (decide (g.L.length+(rows [[((h.L.getD b.I.toNat []).getD 0 .nil),i,.l ao]]).length≤4294967296)) then (some (.brk 1000000 [c,.l d.L,.l e.L,.l (f.L.set j.I.toNat (aL (f.L.getD j.I.toNat []) 11 [i])),.l (g.L++(rows [[((h.L.getD b.I.toNat []).getD 0 .nil),i,.l ao]]))])) else none) else none) else none)) else (some (.again [a,.i (w64 (b.I+1)),c,.l d.L,.l e.L,.l f.L,.l g.L,.l h.L])))) else none) else none) else (some (.brk 0 [c,.l d.L,.l e.L,.l f.L,.l g.L])))
def cH.d2 (a b c d e:C):R:=(some (.ret [a,.l b.L,.l c.L,.l d.L,.l e.L]))
def cH.d3 (a b c d e:C):R:=(call4 (dX [a,.l b.L,.l c.L,.l d.L]) fun f g h i=>(ai 0 (lim (ap8 cH.d1) [.i (i.L.length:Int),.i 0,a,.l f.L,.l g.L,.l h.L,.l e.L,.l i.L]) (ap5 cH.d2)))
def cH.d4 (a b c d:C):R:=(qW 1000000 (call4 (dX [a,.l b.L,.l c.L,.l d.L]) fun e f g h=>(ai 0 (lim (ap8 cH.d1) [.i (h.L.length:Int),.i 0,a,.l e.L,.l f.L,.l g.L,.l ao,.l h.L]) (ap5 cH.d2))) (ap5 cH.d3))
def cH:List C→Option (List C):=fun xs=>aZ (ap4 cH.d4 xs)
def pP:FS:=⟨1,⟨[(0,(.pt 2000 0))],[(2000,z10),(2001,.arr 37 1),(2002,.arr 60 1),(2003,.arr 45 1)]⟩,⟨[(0,(.ow 3004))],[(2000,z10),(2001,.arr 37 1),(2002,.arr 60 1),(2003,.arr 45 1),(3004,.arr 53 1)]⟩,[2000,2001,2002,2003],cH⟩
theorem Bn:aA Tryz.checked.prog T0 84 pP:=oZ aE [41] false (fn:=Tryz.f84) (c:=Tryz.f84.body.getD .skip) pP (.seq .leaf (.scp 0 ⟨[(0,(.pt 2000 0)),(3,(.ow 1293200))],[(2000,z10),(2001,.arr 37 1),(2002,.arr 60 1),(2003,.arr 45 1),(1293200,.arr 53 1)]⟩ (.seq .leaf (.seq .leaf (.seq (.seq .leaf (.block ⟨[(3,(.ow 1293200))],[(2000,z10),(2001,.arr 37 1),(2002,.arr 60 1),(2003,.arr 45 1),(1293200,.arr 53 1)]⟩ (.loop ⟨[(0,(.pt 2000 0)),(3,(.ow 1293200)),(10,(.ow 48059)),(11,zi),(12,zi)],[(2000,z10),(2001,.arr 37 1),(2002,.arr 60 1),(2003,.arr 45 1),(1293200,.arr 53 1),(48059,.arr 45)]⟩ .leaf))) .leaf))) (.seq .leaf (.seq (.seq .leaf (.block ⟨[(3,(.ow 1293200))],[(2000,z10),(2001,.arr 37 1),(2002,.arr 60 1),(2003,.arr 45 1),(1293200,.arr 53 1)]⟩ (.loop ⟨[(0,(.pt 2000 0)),(3,(.ow 1293200)),(10,(.ow 48059)),(11,zi),(12,zi)],[(2000,z10),(2001,.arr 37 1),(2002,.arr 60 1),(2003,.arr 45 1),(1293200,.arr 53 1),(48059,.arr 45)]⟩ .leaf))) .leaf)))) [(52,some 32,n9),(70,some 20,oo),(122,some 10,pn)] (.cons Ar (.cons y8 (.cons AR .nil))) (by kernel_rfl) (by kernel_rfl) (by kernel_rfl) (fun xs=>by kernel_rfl)
def fH.d1 (a b c d:C):R:=(ad (aq [a,b,c,d]) fun e=>(bif (!e.B) then (some (.ret [.b false,.l ao,.l ao,.l ao,.l ao])) else (call4 (du [a,b,c,d]) fun f g h i=>(call5 (cH [f,.l g.L,.l h.L,.l i.L]) fun j k l m n=>(some (.ret [j,.l k.L,.l l.L,.l m.L,.l n.L]))))))
def fH:List C→Option (List C):=fun xs=>aZ (ap4 fH.d1 xs)
def iE:FS:=⟨1,⟨[(0,z2)],[]⟩,⟨[(0,(.tu [z11,(.ow 3003)]))],[(3000,.arr 37 1),(3001,.arr 60 1),(3002,.arr 45 1),(3003,.arr 53 1)]⟩,[],fH⟩
theorem oL:aA Tryz.checked.prog T0 31 iE:=bC aE (fn:=Tryz.f31) (c:=Tryz.f31.body.getD .skip) iE .leaf [(17,some 7,kM),(83,some 11,pH),(84,some 12,pP)] (.cons uX (.cons BF (.cons Bn .nil))) (by kernel_rfl) (by kernel_rfl) (by kernel_rfl) (fun xs=>by kernel_rfl)
def aY.d1 (a b c d e f g h i j k l m n o p q r s t u v w x y z a0 a1 a2 a3 a4:C):R:=(bif (decide (a.I<(m.L.length:Int))) then (bif (decide (0≤a.I)) then (bif (decide (a.I<(m.L.length:Int))) then (ad (gT [((m.L.getD a.I.toNat []).getD 0 .nil),r,s,t,u,v,w]) fun a5=>(bif a5.B then (bif (decide (0≤a.I)) then (bif (decide (a.I<(m.L.length:Int))) then (some (.again [.i (w64 (a.I+1)),b,c,d,e,f,g,h,i,j,k,l,m,n,o,p,q,r,s,t,u,v,w,x,y,z,a0,.i (w64 (a1.I+((m.L.getD a.I.toNat []).getD 1 .nil).I)),a2,a3,a4])) else none) else none) else (some (.again [.i (w64 (a.I+1)),b,c,d,e,f,g,h,i,j,k,l,m,n,o,p,q,r,s,t,u,v,w,x,y,z,a0,a1,a2,a3,a4])))) else none) else none) else (some (.brk 0 [b,c,d,e,f,g,h,i,j,k,l,m,n,o,p,q,r,s,t,u,v,w,x,y,z,a0,a1,a2,a3,a4])))
def aY.d2 (a b c d e f g h i j k l m n o p q r s t u v w x y z a0 a1 a2 a3 a4 a5 a6 a7 a8 a9 b0 b1 b2 b3 b4 b5 b6:C):R:=(bif (a6.S.toList==g.S.toList) then (ad (gw [b,c,d,e,b6]) fun b7=>(bif (b7.S.toList==s.S.toList) then (some (.brk 3 [a,b,c,d,e,f,g,h,i,j,k,l,m,n,o,p,q,r,s,t,u,v,w,x,y,z,a0,a1,.i (w64 (a2.I+1)),a3,a4])) else (some (.brk 3 [a,b,c,d,e,f,g,h,i,j,k,l,m,n,o,p,q,r,s,t,u,v,w,x,y,z,a0,a1,a2,a3,a4])))) else (some (.brk 3 [a,b,c,d,e,f,g,h,i,j,k,l,m,n,o,p,q,r,s,t,u,v,w,x,y,z,a0,a1,a2,a3,a4])))
def aY.d3 (a b c d e f g h i j k l m n o p q r s t u v w x y z a0 a1 a2 a3 a4 a5 a6 a7 a8 a9 b0 b1 b2 b3 b4 b5 b6:C):R:=(bd (bif (a6.S.toList==g.S.toList) then (bif (b6.S.toList==r.S.toList) then (some (.nrm [a,b,c,d,e,f,g,h,i,j,k,l,m,n,o,p,q,r,s,t,u,v,w,x,y,z,a0,a1,a2,.i (w64 (a3.I+1)),a4,a5,a6,a7,a8,a9,b0,b1,b2,b3,b4,b5,b6])) else (some (.nrm [a,b,c,d,e,f,g,h,i,j,k,l,m,n,o,p,q,r,s,t,u,v,w,x,y,z,a0,a1,a2,a3,a4,a5,a6,a7,a8,a9,b0,b1,b2,b3,b4,b5,b6]))) else (some (.nrm [a,b,c,d,e,f,g,h,i,j,k,l,m,n,o,p,q,r,s,t,u,v,w,x,y,z,a0,a1,a2,a3,a4,a5,a6,a7,a8,a9,b0,b1,b2,b3,b4,b5,b6]))) (fun xs=>aY.d2 (xs.getD 0 .nil) (xs.getD 1 .nil) (xs.getD 2 .nil) (xs.getD 3 .nil) (xs.getD 4 .nil) (xs.getD 5 .nil) (xs.getD 6 .nil) (xs.getD 7 .nil) (xs.getD 8 .nil) (xs.getD 9 .nil) (xs.getD 10 .nil) (xs.getD 11 .nil) (xs.getD 12 .nil) (xs.getD 13 .nil) (xs.getD 14 .nil) (xs.getD 15 .nil) (xs.getD 16 .nil) (xs.getD 17 .nil) (xs.getD 18 .nil) (xs.getD 19 .nil) (xs.getD 20 .nil) (xs.getD 21 .nil) (xs.getD 22 .nil) (xs.getD 23 .nil) (xs.getD 24 .nil) (xs.getD 25 .nil) (xs.getD 26 .nil) (xs.getD 27 .nil) (xs.getD 28 .nil) (xs.getD 29 .nil) (xs.getD 30 .nil) (xs.getD 31 .nil) (xs.getD 32 .nil) (xs.getD 33 .nil) (xs.getD 34 .nil) (xs.getD 35 .nil) (xs.getD 36 .nil) (xs.getD 37 .nil) (xs.getD 38 .nil) (xs.getD 39 .nil) (xs.getD 40 .nil) (xs.getD 41 .nil) (xs.getD 42 .nil)))
def aY.d4 (a b c d e f g h i j k l m n o p q r s t u v w x y z a0 a1 a2 a3 a4:C):R:=(some (.again [.i (w64 (a.I+1)),b,c,d,e,f,g,h,i,j,k,l,m,n,o,p,q,r,s,t,u,v,w,x,y,z,a0,a1,a2,a3,a4]))
def aY.d5 (a b c d e f g h i j k l m n o p q r s t u v w x y z a0 a1 a2 a3 a4:C):R:=(bif (decide (a.I<(e.L.length:Int))) then (ai 3 (bif (decide (0≤a.I)) then (bif (decide (a.I<(e.L.length:Int))) then (bif (!((((e.L.getD a.I.toNat []).getD 0 .nil).S).toList==f.S.toList)) then (bif ((((e.L.getD a.I.toNat []).getD 11 .nil).S).toList==(bs #[]).toList) then (some (.brk 3 [a,b,c,d,e,f,g,h,i,j,k,l,m,n,o,p,q,r,s,t,u,v,w,x,y,z,a0,a1,a2,a3,a4])) else (bd (bif ((((e.L.getD a.I.toNat []).getD 11 .nil).S).toList==r.S.toList) then (some (.nrm [a,b,c,d,e,f,g,h,i,j,k,l,m,n,o,p,q,r,s,t,u,v,w,x,y,z,a0,a1,a2,a3,.i (w64 (a4.I-((e.L.getD a.I.toNat []).getD 4 .nil).I)),((e.L.getD a.I.toNat []).getD 0 .nil),((e.L.getD a.I.toNat []).getD 1 .nil),((e.L.getD a.I.toNat []).getD 2 .nil),((e.L.getD a.I.toNat []).getD 3 .nil),((e.L.getD a.I.toNat []).getD 4 .nil),((e.L.getD a.I.toNat []).getD 5 .nil),((e.L.getD a.I.toNat []).getD 6 .nil),((e.L.getD a.I.toNat []).getD 7 .nil),((e.L.getD a.I.toNat []).getD 8 .nil),((e.L.getD a.I.toNat []).getD 9 .nil),((e.L.getD a.I.toNat []).getD 10 .nil),((e.L.getD a.I.toNat []).getD 11 .nil)])) else (some (.nrm [a,b,c,d,e,f,g,h,i,j,k,l,m,n,o,p,q,r,s,t,u,v,w,x,y,z,a0,a1,a2,a3,a4,((e.L.getD a.I.toNat []).getD 0 .nil),((e.L.getD a.I.toNat []).getD 1 .nil),((e.L.getD a.I.toNat []).getD 2 .nil),((e.L.getD a.I.toNat []).getD 3 .nil),((e.L.getD a.I.toNat []).getD 4 .nil),((e.L.getD a.I.toNat []).getD 5 .nil),((e.L.getD a.I.toNat []).getD 6 .nil),((e.L.getD a.I.toNat []).getD 7 .nil),((e.L.getD a.I.toNat []).getD 8 .nil),((e.L.getD a.I.toNat []).getD 9 .nil),((e.L.getD a.I.toNat []).getD 10 .nil),((e.L.getD a.I.toNat []).getD 11 .nil)]))) (fun xs=>aY.d3 (xs.getD 0 .nil) (xs.getD 1 .nil) (xs.getD 2 .nil) (xs.getD 3 .nil) (xs.getD 4 .nil) (xs.getD 5 .nil) (xs.getD 6 .nil) (xs.getD 7 .nil) (xs.getD 8 .nil) (xs.getD 9 .nil) (xs.getD 10 .nil) (xs.getD 11 .nil) (xs.getD 12 .nil) (xs.getD 13 .nil) (xs.getD 14 .nil) (xs.getD 15 .nil) (xs.getD 16 .nil) (xs.getD 17 .nil) (xs.getD 18 .nil) (xs.getD 19 .nil) (xs.getD 20 .nil) (xs.getD 21 .nil) (xs.getD 22 .nil) (xs.getD 23 .nil) (xs.getD 24 .nil) (xs.getD 25 .nil) (xs.getD 26 .nil) (xs.getD 27 .nil) (xs.getD 28 .nil) (xs.getD 29 .nil) (xs.getD 30 .nil) (xs.getD 31 .nil) (xs.getD 32 .nil) (xs.getD 33 .nil) (xs.getD 34 .nil) (xs.getD 35 .nil) (xs.getD 36 .nil) (xs.getD 37 .nil) (xs.getD 38 .nil) (xs.getD 39 .nil) (xs.getD 40 .nil) (xs.getD 41 .nil) (xs.getD 42 .nil)))) else (some (.brk 3 [a,b,c,d,e,f,g,h,i,j,k,l,m,n,o,p,q,r,s,t,u,v,w,x,y,z,a0,a1,a2,a3,a4]))) else none) else none) (rr aY.d4)) else (some (.brk 2 [x,y,z,a0,a1,a2,a3,a4])))
def aY.d6 (a b c d e f g h:C):R:=(some (.ret [e,f,g,h]))
def aY.d7 (a b c d e f g h i j k l m n o p q r s t u v w x y z a0 a1 a2 a3:C):R:=(ai 2 (lim (rr aY.d5) [.i 0,a,b,c,d,e,f,g,h,i,j,k,l,m,n,o,p,q,r,s,t,u,v,w,x,y,z,a0,a1,a2,a3]) (ap8 aY.d6))
def aY.d8 (a b c d e f g h i j k l m n o p q r s t u v:C):R:=(ai 0 (lim (rr aY.d1) [.i 0,a,b,c,d,e,f,g,h,i,j,k,l,m,n,o,p,q,r,s,t,u,v,.i 0,.i 0,.i 0,.i 0,.i 0,.i 0,.i 0,.i (w64 (t.I-i.I))]) (tD aY.d7))
def aY:List C→Option (List C):=fun xs=>aZ (Ac aY.d8 xs)
def kT:FS:=⟨3,⟨[(0,z2),(1,z3),(2,z8)],[]⟩,⟨[(0,(.ag [zi,zi,zi,zi]))],[]⟩,[],aY⟩
theorem sx:aA Tryz.checked.prog T0 73 kT:=bC aE (fn:=Tryz.f73) (c:=Tryz.f73.body.getD .skip) kT (.seq .leaf (.seq .leaf (.seq (.seq .leaf (.block ⟨[(3,(.pt 3 0)),(4,(.pt 4 0)),(5,(.pt 5 0)),(6,(.pt 6 0)),(7,(.pt 7 0))],[(3,z0),(4,z1),(5,z4),(6,z7),(7,z7)]⟩ (.loop ⟨[(3,(.pt 3 0)),(4,(.pt 4 0)),(5,(.pt 5 0)),(6,(.pt 6 0)),(7,(.pt 7 0)),(8,zi)],[(3,z0),(4,z1),(5,z4),(6,z7),(7,z7)]⟩ .leaf))) (.seq (.seq .leaf (.block ⟨[(6,(.pt 6 0)),(7,(.pt 7 0))],[(6,z7),(7,z7)]⟩ (.loop ⟨[(3,(.pt 3 0)),(4,(.pt 4 0)),(5,(.pt 5 0)),(6,(.pt 6 0)),(7,(.pt 7 0)),(9,zi)],[(3,z0),(4,z1),(5,z4),(6,z7),(7,z7)]⟩ (.seq .leaf (.seq (.block ⟨[(3,(.pt 3 0)),(4,(.pt 4 0)),(5,(.pt 5 0)),(6,(.pt 6 0)),(7,(.pt 7 0)),(9,zi)],[(3,z0),(4,z1),(5,z4),(6,z7),(7,z7)]⟩ (.seq .leaf (.seq .leaf (.seq (.join ⟨[(3,(.pt 3 0)),(4,(.pt 4 0)),(5,(.pt 5 0)),(6,(.pt 6 0)),(7,(.pt 7 0)),(9,zi),(10,(.pt 10 0))],[(3,z0),(4,z1),(5,z4),(6,z7),(7,z7),(10,z1)]⟩ .leaf) (.seq (.join ⟨[(3,(.pt 3 0)),(4,(.pt 4 0)),(5,(.pt 5 0)),(6,(.pt 6 0)),(7,(.pt 7 0)),(9,zi),(10,(.pt 10 0))],[(3,z0),(4,z1),(5,z4),(6,z7),(7,z7),(10,z1)]⟩ .leaf) .leaf))))) .leaf))))) .leaf)))) [(105,some 31,j4),(116,some 100,il)] (.cons qD (.cons mP .nil)) (by kernel_rfl) (by kernel_rfl) (by kernel_rfl) (fun xs=>by kernel_rfl)
def fU.d1 (a b c d e f g h i:C):R:=(bif (a.I !=e.I) then (some (.ret [.b (decide (a.I>e.I))])) else (bif (b.I !=f.I) then (some (.ret [.b (decide (b.I<f.I))])) else (bif (c.I !=g.I) then (some (.ret [.b (decide (c.I<g.I))])) else (bif i.B then (some (.ret [.b (decide (d.I<h.I))])) else (some (.ret [.b (decide (d.I>h.I))]))))))
def fU:List C→Option (List C):=fun xs=>aZ (ap9 fU.d1 xs)
def jF:FS:=⟨3,⟨[(0,(.ag [zi,zi,zi,zi])),(1,(.ag [zi,zi,zi,zi])),(2,zo)],[]⟩,⟨[(0,zo)],[]⟩,[],fU⟩
theorem tj:aA Tryz.checked.prog T0 114 jF:=bC aE (fn:=Tryz.f114) (c:=Tryz.f114.body.getD .skip) jF .leaf [] .nil (by kernel_rfl) (by kernel_rfl) (by kernel_rfl) (fun xs=>by kernel_rfl)
def cu.d1 (a b c d e f g h i j k l m n o p q r s:C):R:=(bif c.B then (some (.again [b,.i (w64 (b.I+1)),d,e,f,g,h,i,j,k,l,m,n,o,p,q,r,s])) else (some (.again [a,.i (w64 (b.I+1)),d,e,f,g,h,i,j,k,l,m,n,o,p,q,r,s])))
def cu.d2 (a b c d e f g h i j k l m n o p q r:C):R:=(bif (decide (b.I<(d.L.length:Int))) then (bd (bif (decide (0≤b.I)) then (bif (decide (b.I<(d.L.length:Int))) then (ad (cG [c,d,e,f,g,h,i,j,k,l,m,n,o,p,q,r,((d.L.getD b.I.toNat []).getD 0 .nil),((d.L.getD b.I.toNat []).getD 1 .nil),((d.L.getD b.I.toNat []).getD 2 .nil),((d.L.getD b.I.toNat []).getD 3 .nil),((d.L.getD b.I.toNat []).getD 4 .nil),((d.L.getD b.I.toNat []).getD 5 .nil),.b false]) fun s=>(bif (s.I==0) then (bif (!(decide (a.I<0))) then (bif (decide (0≤b.I)) then (bif (decide (b.I<(d.L.length:Int))) then (call4 (aY [c,d,e,f,g,h,i,j,k,l,m,n,o,p,q,r,((d.L.getD b.I.toNat []).getD 0 .nil),((d.L.getD b.I.toNat []).getD 1 .nil),((d.L.getD b.I.toNat []).getD 2 .nil),((d.L.getD b.I.toNat []).getD 3 .nil),((d.L.getD b.I.toNat []).getD 4 .nil),((d.L.getD b.I.toNat []).getD 5 .nil)]) fun t u v w=>(bif (decide (0≤a.I)) then (bif (decide (a.I<(d.L.length:Int))) then (call4 (aY [c,d,e,f,g,h,i,j,k,l,m,n,o,p,q,r,((d.L.getD a.I.toNat []).getD 0 .nil),((d.L.getD a.I.toNat []).getD 1 .nil),((d.L.getD a.I.toNat []).getD 2 .nil),((d.L.getD a.I.toNat []).getD 3 .nil),((d.L.getD a.I.toNat []).getD 4 .nil),((d.L.getD a.I.toNat []).getD 5 .nil)]) fun x y z a0=>(ad (fU [t,u,v,w,x,y,z,a0,.b c.B]) fun a1=>(some (.nrm [a,b,.b a1.B,c,d,e,f,g,h,i,j,k,l,m,n,o,p,q,r])))) else none) else none)) else none) else none) else (some (.nrm [a,b,.b true,c,d,e,f,g,h,i,j,k,l,m,n,o,p,q,r]))) else (some (.nrm [a,b,.b false,c,d,e,f,g,h,i,j,k,l,m,n,o,p,q,r])))) else none) else none) (wk cu.d1)) else (some (.brk 0 [a,c,d,e,f])))
def cu.d3 (a b c d e:C):R:=(bif (decide (a.I<0)) then (some (.ret [.s (bs #[])])) else (bif (decide (0≤a.I)) then (bif (decide (a.I<(c.L.length:Int))) then (some (.ret [((c.L.getD a.I.toNat []).getD 0 .nil)])) else none) else none))
def cu.d4 (a b c d e f g h i j k l m n o p:C):R:=(ai 0 (lim (Ci cu.d2) [.i (-1),.i 0,a,b,c,d,e,f,g,h,i,j,k,l,m,n,o,p]) (ap5 cu.d3))
def cu:List C→Option (List C):=fun xs=>aZ (I0 cu.d4 xs)
def mN:FS:=⟨2,⟨[(0,z2),(1,z3)],[]⟩,⟨[(0,zt)],[]⟩,[],cu⟩
theorem xW:aA Tryz.checked.prog T0 71 mN:=bC aE (fn:=Tryz.f71) (c:=Tryz.f71.body.getD .skip) mN (.seq .leaf (.seq .leaf (.seq (.seq .leaf (.block ⟨[(2,(.pt 2 0)),(5,zi)],[(2,z0)]⟩ (.loop ⟨[(2,(.pt 2 0)),(3,(.pt 3 0)),(5,zi),(6,zi)],[(2,z0),(3,z1)]⟩ (.seq .leaf (.seq (.skip (.seq (.join ⟨[(2,(.pt 2 0)),(3,(.pt 3 0)),(5,zi),(6,zi),(47,zo)],[(2,z0),(3,z1)]⟩ .leaf) .leaf)) .leaf))))) .leaf))) [(57,some 21,mm),(73,some 34,kT),(73,some 42,kT),(114,some 45,jF)] (.cons uC (.cons sx (.cons sx (.cons tj .nil)))) (by kernel_rfl) (by kernel_rfl) (by kernel_rfl) (fun xs=>by kernel_rfl)
end
end Go.Ev
namespace Go.Ev
open Go.Proofs
noncomputable section
def ej.d1 (a b c d e f g h i:C):R:=(bif (decide (a.I<(h.L.length:Int))) then (bif (decide (0≤a.I)) then (bif (decide (a.I<(h.L.length:Int))) then (ad (ew [b,c,d,e,((h.L.getD a.I.toNat []).getD 0 .nil)]) fun j=>(bif (decide (0≤j.I)) then (bif (decide (j.I<(e.L.length:Int))) then (ad (cu [b,c,d,e,((e.L.getD j.I.toNat []).getD 0 .nil),((e.L.getD j.I.toNat []).getD 1 .nil),((e.L.getD j.I.toNat []).getD 2 .nil),((e.L.getD j.I.toNat []).getD 3 .nil),((e.L.getD j.I.toNat []).getD 4 .nil),((e.L.getD j.I.toNat []).getD 5 .nil),((e.L.getD j.I.toNat []).getD 6 .nil),((e.L.getD j.I.toNat []).getD 7 .nil),((e.L.getD j.I.toNat []).getD 8 .nil),((e.L.getD j.I.toNat []).getD 9 .nil),((e.L.getD j.I.toNat []).getD 10 .nil),((e.L.getD j.I.toNat []).getD 11 .nil)]) fun k=>(bif (!(k.S.toList==(bs #[]).toList)) then (bif (decide (0≤a.I)) then (bif (decide (a.I<(h.L.length:Int))) then (some (.ret [((h.L.getD a.I.toNat []).getD 0 .nil),k,.b true,.l ao])) else none) else none) else (some (.again [.i (w64 (a.I+1)),b,c,d,e,f,g,.l h.L,.l i.L])))) else none) else none)) else none) else none) else (some (.brk 0 [f,g,.l i.L])))
def ej.d2 (a b c:C):R:=(some (.ret [.s (bs #[]),.s (bs #[]),.b false,.l ao]))
def ej.d3 (a b c d:C):R:=(ad (aW [a,b,c,d]) fun e=>(ai 0 (lim (ap9 ej.d1) [.i 0,a,b,c,d,.s (bs #[]),.s (bs #[]),.l e.L,.l ao]) (ap3 ej.d2)))
def ej:List C→Option (List C):=fun xs=>aZ (ap4 ej.d3 xs)
def lj:FS:=⟨1,⟨[(0,z2)],[]⟩,⟨[(0,(.tu [(.ag [zt,zt,(.ow 3000)]),zo]))],[(3000,.arr 9 1)]⟩,[],ej⟩
theorem sg:aA Tryz.checked.prog T0 86 lj:=bC aE (fn:=Tryz.f86) (c:=Tryz.f86.body.getD .skip) lj (.seq .leaf (.seq .leaf (.seq (.seq .leaf (.block ⟨[(2,(.pt 2 0))],[(2,.var 53 [zt,zt,(.ow 1347400)]),(1347400,.arr 9 1)]⟩ (.loop ⟨[(1,(.pt 1 0)),(2,(.pt 2 0)),(4,(.ow 39864)),(5,zi)],[(1,z0),(2,.var 53 [zt,zt,(.ow 1347400)]),(39864,.arr 9 1),(1347400,.arr 9 1)]⟩ .leaf))) .leaf))) [(55,some 23,iQ),(71,some 26,mN),(88,some 8,kW)] (.cons l7 (.cons xW (.cons sf .nil))) (by kernel_rfl) (by kernel_rfl) (by kernel_rfl) (fun xs=>by kernel_rfl)
def bX.d1 (a b c d e f g h i j k l m:C):R:=(bif a.B then (ad (ew [d,.l j.L,.l k.L,.l l.L,e]) fun n=>(bif (decide (0≤n.I)) then (bif (decide (n.I<(l.L.length:Int))) then (bif (decide (c.L.length+(rows [[e,f,.l m.L]]).length≤4294967296)) then (call4 (ej [d,.l j.L,.l k.L,.l (l.L.set n.I.toNat (aL (l.L.getD n.I.toNat []) 11 [f]))]) fun o p q r=>(some (.again [.b q.B,b,.l (c.L++(rows [[e,f,.l m.L]])),d,o,p,.l g.L,.l h.L,.l i.L,.l j.L,.l k.L,.l (l.L.set n.I.toNat (aL (l.L.getD n.I.toNat []) 11 [f])),.l r.L]))) else none) else none) else none)) else (some (.brk 0 [b,.l c.L,d,.l g.L,.l h.L,.l i.L,.l j.L,.l k.L,.l l.L])))
def bX.d2 (a b c d e f g h i:C):R:=(some (.ret [c,.l g.L,.l h.L,.l i.L,.l b.L]))
def bX.d3 (a b c d:C):R:=(ad (aw [a,b,c,d]) fun e=>(bif (!e.B) then (some (.ret [.b false,.l ao,.l ao,.l ao,.l ao])) else (call4 (bU [a,b,c,d]) fun f g h i=>(call4 (ej [f,.l g.L,.l h.L,.l i.L]) fun j k l m=>(ai 0 (lim (oQ bX.d1) [.b l.B,.b false,.l ao,f,j,k,.l ao,.l ao,.l ao,.l g.L,.l h.L,.l i.L,.l m.L]) (ap9 bX.d2))))))
def bX:List C→Option (List C):=fun xs=>aZ (ap4 bX.d3 xs)
def kN:FS:=⟨1,⟨[(0,z2)],[]⟩,⟨[(0,(.tu [z11,(.ow 3003)]))],[(3000,.arr 37 1),(3001,.arr 60 1),(3002,.arr 45 1),(3003,.arr 53 1)]⟩,[],bX⟩
theorem uY:aA Tryz.checked.prog T0 32 kN:=oZ aE [39] false (fn:=Tryz.f32) (c:=Tryz.f32.body.getD .skip) kN (.seq .leaf (.seq .leaf (.seq .leaf (.seq .leaf (.seq (.seq .leaf (.block ⟨[(2,(.pt 2 0)),(4,(.ow 8)),(5,(.pt 5 0))],[(2,.var 27 [zo,(.ow 1344600),(.ow 1344601),(.ow 1344602)]),(8,.arr 53 1),(5,.var 27 [zo,(.ow 68536),(.ow 68537),(.ow 68538)]),(1344600,.arr 37 1),(1344601,.arr 60 1),(1344602,.arr 45 1),(68536,.arr 37 1),(68537,.arr 60 1),(68538,.arr 45 1)]⟩ (.loop ⟨[(2,(.pt 2 0)),(4,(.ow 8)),(5,(.pt 5 0)),(6,(.pt 6 0)),(7,zo)],[(2,.var 27 [zo,(.ow 1344600),(.ow 1344601),(.ow 1344602)]),(8,.arr 53 1),(5,.var 27 [zo,(.ow 68536),(.ow 68537),(.ow 68538)]),(6,.var 53 [zt,zt,(.ow 80824)]),(1344600,.arr 37 1),(1344601,.arr 60 1),(1344602,.arr 45 1),(68536,.arr 37 1),(68537,.arr 60 1),(68538,.arr 45 1),(80824,.arr 9 1)]⟩ .leaf))) .leaf))))) [(15,some 10,fB),(55,some 32,iQ),(85,some 15,jc),(86,some 18,lj),(86,some 24,lj)] (.cons iG (.cons l7 (.cons oc (.cons sg (.cons sg .nil))))) (by kernel_rfl) (by kernel_rfl) (by kernel_rfl) (fun xs=>by kernel_rfl)
def eE.d1 (a b c:C):R:=(bif (decide (c.I<(a.L.length:Int))) then (bif (decide (0≤c.I)) then (bif (decide (c.I<(a.L.length:Int))) then (bif (decide (0≤c.I)) then (bif (decide (c.I<(b.L.length:Int))) then (bif (!((((a.L.getD c.I.toNat []).getD 0 .nil).S).toList==(((b.L.getD c.I.toNat []).getD 0 .nil).S).toList)) then (some (.ret [.b false])) else (some (.again [a,b,.i (w64 (c.I+1))]))) else none) else none) else none) else none) else (some (.brk 0 [])))
def eE.d2:R:=(some (.ret [.b true]))
def eE.d3 (a b:C):R:=(bif ((a.L.length:Int) !=(b.L.length:Int)) then (some (.ret [.b false])) else (ai 0 (lim (ap3 eE.d1) [a,b,.i 0]) (fun xs=>eE.d2)))
def eE:List C→Option (List C):=fun xs=>aZ (ap2 eE.d3 xs)
def nS:FS:=⟨2,⟨[(0,(zl 9)),(1,(zl 9))],[]⟩,⟨[(0,zo)],[]⟩,[],eE⟩
theorem za:aA Tryz.checked.prog T0 13 nS:=bC aE (fn:=Tryz.f13) (c:=Tryz.f13.body.getD .skip) nS (.seq .leaf (.seq .leaf (.seq (.seq .leaf (.block ⟨[],[]⟩ (.loop ⟨[(0,(zl 9)),(1,(zl 9)),(5,zi)],[]⟩ .leaf))) .leaf))) [] .nil (by kernel_rfl) (by kernel_rfl) (by kernel_rfl) (fun xs=>by kernel_rfl)
def jy.d1 (a b c d e f g h i j k l:C):R:=(bif (a.S.toList==g.S.toList) then (bif (b.S.toList==h.S.toList) then (bif (d.I==j.I) then (bif (e.I==k.I) then (bif (f.B==l.B) then (ad (eE [c,i]) fun m=>(some (.ret [.b m.B]))) else (some (.ret [.b false]))) else (some (.ret [.b false]))) else (some (.ret [.b false]))) else (some (.ret [.b false]))) else (some (.ret [.b false])))
def jy:List C→Option (List C):=fun xs=>aZ (jk jy.d1 xs)
def nP:FS:=⟨2,⟨[(0,z8),(1,z8)],[]⟩,⟨[(0,zo)],[]⟩,[],jy⟩
theorem zG:aA Tryz.checked.prog T0 82 nP:=bC aE (fn:=Tryz.f82) (c:=Tryz.f82.body.getD .skip) nP .leaf [(13,some 43,nS)] (.cons za .nil) (by kernel_rfl) (by kernel_rfl) (by kernel_rfl) (fun xs=>by kernel_rfl)
def fi.d1 (a b c d e f g h i j k l m n o p q r s t u v w x y:C):R:=(bif (decide (a.I<(i.L.length:Int))) then (bif (decide (0≤a.I)) then (bif (decide (a.I<(i.L.length:Int))) then (bif (decide (0≤a.I)) then (bif (decide (a.I<(u.L.length:Int))) then (bif (!(((((i.L.getD a.I.toNat []).getD 0 .nil).S).toList==(((u.L.getD a.I.toNat []).getD 0 .nil).S).toList)&&((((i.L.getD a.I.toNat []).getD 1 .nil).I==((u.L.getD a.I.toNat []).getD 1 .nil).I)&&true))) then (some (.ret [.b false])) else (some (.again [.i (w64 (a.I+1)),b,c,d,e,f,g,h,i,j,k,l,m,n,o,p,q,r,s,t,u,v,w,x,y]))) else none) else none) else none) else none) else (some (.brk 0 [])))
def fi.d2:R:=(some (.ret [.b true]))
def fi.d3 (a b c d e f g h i j k l m n o p q r s t u v w x:C):R:=(bif (!(!(a.S.toList==m.S.toList))) then (bif (!(!(b.S.toList==n.S.toList))) then (bif (!(c.I !=o.I)) then (bif (!(d.I !=p.I)) then (bif (!(e.I !=q.I)) then (bif (!(f.I !=r.I)) then (bif (!(!(g.S.toList==s.S.toList))) then (bif (!(i.I !=u.I)) then (bif (!(!(j.S.toList==v.S.toList))) then (bif (!(!(k.S.toList==w.S.toList))) then (bif (!(!(l.S.toList==x.S.toList))) then (bif ((h.L.length:Int) !=(t.L.length:Int)) then (some (.ret [.b false])) else (ai 0 (lim (Gg fi.d1) [.i 0,a,b,c,d,e,f,g,h,i,j,k,l,m,n,o,p,q,r,s,t,u,v,w,x]) (fun xs=>fi.d2))) else (some (.ret [.b false]))) else (some (.ret [.b false]))) else (some (.ret [.b false]))) else (some (.ret [.b false]))) else (some (.ret [.b false]))) else (some (.ret [.b false]))) else (some (.ret [.b false]))) else (some (.ret [.b false]))) else (some (.ret [.b false]))) else (some (.ret [.b false]))) else (some (.ret [.b false])))
def fi:List C→Option (List C):=fun xs=>aZ (xc fi.d3 xs)
def py:FS:=⟨2,⟨[(0,z3),(1,z3)],[]⟩,⟨[(0,zo)],[]⟩,[],fi⟩
theorem Az:aA Tryz.checked.prog T0 35 py:=bC aE (fn:=Tryz.f35) (c:=Tryz.f35.body.getD .skip) py (.seq .leaf (.seq .leaf (.seq (.seq .leaf (.block ⟨[],[]⟩ (.loop ⟨[(2,(.pt 2 0)),(3,(.pt 3 0)),(5,zi)],[(2,z1),(3,z1)]⟩ .leaf))) .leaf))) [] .nil (by kernel_rfl) (by kernel_rfl) (by kernel_rfl) (fun xs=>by kernel_rfl)
def bw.d1 (a b c d e f g h i:C):R:=(bif (decide (a.I<(c.L.length:Int))) then (bif (decide (0≤a.I)) then (bif (decide (a.I<(c.L.length:Int))) then (bif (decide (0≤a.I)) then (bif (decide (a.I<(g.L.length:Int))) then (ad (jy [((c.L.getD a.I.toNat []).getD 0 .nil),((c.L.getD a.I.toNat []).getD 1 .nil),((c.L.getD a.I.toNat []).getD 2 .nil),((c.L.getD a.I.toNat []).getD 3 .nil),((c.L.getD a.I.toNat []).getD 4 .nil),((c.L.getD a.I.toNat []).getD 5 .nil),((g.L.getD a.I.toNat []).getD 0 .nil),((g.L.getD a.I.toNat []).getD 1 .nil),((g.L.getD a.I.toNat []).getD 2 .nil),((g.L.getD a.I.toNat []).getD 3 .nil),((g.L.getD a.I.toNat []).getD 4 .nil),((g.L.getD a.I.toNat []).getD 5 .nil)]) fun j=>(bif (!j.B) then (some (.ret [.b false])) else (some (.again [.i (w64 (a.I+1)),b,c,d,e,f,g,h,i])))) else none) else none) else none) else none) else (some (.brk 0 [b,c,d,e,f,g,h,i])))
def bw.d2 (a b c d e f g h i:C):R:=(bif (decide (a.I<(d.L.length:Int))) then (bif (decide (0≤a.I)) then (bif (decide (a.I<(d.L.length:Int))) then (bif (decide (0≤a.I)) then (bif (decide (a.I<(h.L.length:Int))) then (bif (!(((((d.L.getD a.I.toNat []).getD 0 .nil).S).toList==(((h.L.getD a.I.toNat []).getD 0 .nil).S).toList)&&((((d.L.getD a.I.toNat []).getD 1 .nil).I==((h.L.getD a.I.toNat []).getD 1 .nil).I)&&true))) then (some (.ret [.b false])) else (some (.again [.i (w64 (a.I+1)),b,c,d,e,f,g,h,i]))) else none) else none) else none) else none) else (some (.brk 2 [b,c,d,e,f,g,h,i])))
def bw.d3 (a b c d e f g h i:C):R:=(bif (decide (a.I<(e.L.length:Int))) then (bif (decide (0≤a.I)) then (bif (decide (a.I<(e.L.length:Int))) then (bif (decide (0≤a.I)) then (bif (decide (a.I<(i.L.length:Int))) then (ad (fi [((e.L.getD a.I.toNat []).getD 0 .nil),((e.L.getD a.I.toNat []).getD 1 .nil),((e.L.getD a.I.toNat []).getD 2 .nil),((e.L.getD a.I.toNat []).getD 3 .nil),((e.L.getD a.I.toNat []).getD 4 .nil),((e.L.getD a.I.toNat []).getD 5 .nil),((e.L.getD a.I.toNat []).getD 6 .nil),((e.L.getD a.I.toNat []).getD 7 .nil),((e.L.getD a.I.toNat []).getD 8 .nil),((e.L.getD a.I.toNat []).getD 9 .nil),((e.L.getD a.I.toNat []).getD 10 .nil),((e.L.getD a.I.toNat []).getD 11 .nil),((i.L.getD a.I.toNat []).getD 0 .nil),((i.L.getD a.I.toNat []).getD 1 .nil),((i.L.getD a.I.toNat []).getD 2 .nil),((i.L.getD a.I.toNat []).getD 3 .nil),((i.L.getD a.I.toNat []).getD 4 .nil),((i.L.getD a.I.toNat []).getD 5 .nil),((i.L.getD a.I.toNat []).getD 6 .nil),((i.L.getD a.I.toNat []).getD 7 .nil),((i.L.getD a.I.toNat []).getD 8 .nil),((i.L.getD a.I.toNat []).getD 9 .nil),((i.L.getD a.I.toNat []).getD 10 .nil),((i.L.getD a.I.toNat []).getD 11 .nil)]) fun j=>(bif (!j.B) then (some (.ret [.b false])) else (some (.again [.i (w64 (a.I+1)),b,c,d,e,f,g,h,i])))) else none) else none) else none) else none) else (some (.brk 4 [])))
def bw.d4:R:=(some (.ret [.b true]))
def bw.d5 (a b c d e f g h:C):R:=(ai 4 (lim (ap9 bw.d3) [.i 0,a,b,c,d,e,f,g,h]) (fun xs=>bw.d4))
def bw.d6 (a b c d e f g h:C):R:=(ai 2 (lim (ap9 bw.d2) [.i 0,a,b,c,d,e,f,g,h]) (ap8 bw.d5))
def bw.d7 (a b c d e f g h:C):R:=(bif (!(!(a.B==e.B))) then (bif (!((b.L.length:Int) !=(f.L.length:Int))) then (bif (!((c.L.length:Int) !=(g.L.length:Int))) then (bif ((d.L.length:Int) !=(h.L.length:Int)) then (some (.ret [.b false])) else (ai 0 (lim (ap9 bw.d1) [.i 0,a,b,c,d,e,f,g,h]) (ap8 bw.d6))) else (some (.ret [.b false]))) else (some (.ret [.b false]))) else (some (.ret [.b false])))
def bw:List C→Option (List C):=fun xs=>aZ (ap8 bw.d7 xs)
def nV:FS:=⟨2,⟨[(0,z2),(1,z2)],[]⟩,⟨[(0,zo)],[]⟩,[],bw⟩
theorem ze:aA Tryz.checked.prog T0 29 nV:=bC aE (fn:=Tryz.f29) (c:=Tryz.f29.body.getD .skip) nV (.seq .leaf (.seq .leaf (.seq (.seq .leaf (.block ⟨[(2,(.pt 2 0)),(3,(.pt 3 0))],[(2,z0),(3,z0)]⟩ (.loop ⟨[(2,(.pt 2 0)),(3,(.pt 3 0)),(5,zi)],[(2,z0),(3,z0)]⟩ .leaf))) (.seq (.seq .leaf (.block ⟨[(2,(.pt 2 0)),(3,(.pt 3 0))],[(2,z0),(3,z0)]⟩ (.loop ⟨[(2,(.pt 2 0)),(3,(.pt 3 0)),(6,zi)],[(2,z0),(3,z0)]⟩ .leaf))) (.seq (.seq .leaf (.block ⟨[],[]⟩ (.loop ⟨[(2,(.pt 2 0)),(3,(.pt 3 0)),(7,zi)],[(2,z0),(3,z0)]⟩ .leaf))) .leaf))))) [(35,some 94,py),(82,some 57,nP)] (.cons Az (.cons zG .nil)) (by kernel_rfl) (by kernel_rfl) (by kernel_rfl) (fun xs=>by kernel_rfl)
def bZ.d1 (a b c d e f g h i j k l m n o p q r s:C):R:=(bif c.B then (call5 (fH [d,e,f,g]) fun t u v w x=>(call5 (bX [d,e,f,g]) fun y z a0 a1 a2=>(ad (bw [t,.l u.L,.l v.L,.l w.L,y,.l z.L,.l a0.L,.l a1.L]) fun a3=>(some (.ret [.b a3.B]))))) else (call5 (bA [d,e,f,g,.i 3,.s (bs #[]),.s (bs #[]),.l ao,.i 0,.i 0,.b false,.s (bs #[122,122,45,116,119,105,110]),i,j,.i (w64 ((w64 (k.I+1))+((a.L.length:Int).tmod 5))),l,m,n,o,p,q,r,s,.s (bs #[]),.s (bs #[])]) fun a4 a5 a6 a7 a8=>(bif (a5.I !=0) then (some (.ret [.b false])) else (call5 (fH [a4,.l a6.L,.l a7.L,.l a8.L]) fun a9 b0 b1 b2 b3=>(call13 (dR [a9,.l b0.L,.l b1.L,.l b2.L,b]) fun b4 b5 b6 b7 b8 b9 c0 c1 c2 c3 c4 c5 c6=>(call13 (dR [a9,.l b0.L,.l b1.L,.l b2.L,.s (bs #[122,122,45,116,119,105,110])]) fun c7 c8 c9 d0 d1 d2 d3 d4 d5 d6 d7 d8 d9=>(bif d9.B then (bif (!(d8.S.toList==(bs #[]).toList)) then (some (.ret [.b (!(c5.S.toList==(bs #[]).toList))])) else (some (.ret [.b true]))) else (some (.ret [.b false])))))))))
def bZ.d2 (a b c d e f g:C):R:=(call13 (dR [c,d,e,f,b]) fun h i j k l m n o p q r s t=>(bd (bif (!((g.L.length:Int)==0)) then (bif (!(decide ((f.L.length:Int)>59))) then (some (.nrm [a,b,.b (decide (k.I>999990)),c,d,e,f,h,i,j,k,l,m,n,o,p,q,r,s])) else (some (.nrm [a,b,.b true,c,d,e,f,h,i,j,k,l,m,n,o,p,q,r,s]))) else (some (.nrm [a,b,.b true,c,d,e,f,h,i,j,k,l,m,n,o,p,q,r,s]))) (wk bZ.d1)))
def bZ.d3 (a:C):R:=(bif (decide ((a.L.length:Int)>1048576)) then (some (.ret [.b true])) else (call4 (eF [a]) fun b c d e=>(ad (gB [b,c,d,e]) fun f=>(bd (bif (decide ((f.L.length:Int)>0)) then (bif ((f.L.length:Int) !=0) then (bif (decide (0≤((a.L.length:Int).tmod (f.L.length:Int)))) then (bif (decide (((a.L.length:Int).tmod (f.L.length:Int))<(f.L.length:Int))) then (some (.nrm [a,((f.L.getD ((a.L.length:Int).tmod (f.L.length:Int)).toNat []).getD 0 .nil),b,c,d,e,.l f.L])) else none) else none) else none) else (some (.nrm [a,.s (bs #[]),b,c,d,e,.l f.L]))) (ap7 bZ.d2)))))
def bZ:List C→Option (List C):=fun xs=>aZ (ap1 bZ.d3 xs)
def oN:FS:=⟨1,⟨[(0,(zl 5))],[]⟩,⟨[(0,zo)],[]⟩,[],bZ⟩
theorem uL:aA Tryz.checked.prog T0 8 oN:=bC aE (fn:=Tryz.f8) (c:=Tryz.f8.body.getD .skip) oN (.seq .leaf (.seq .leaf (.seq .leaf (.seq .leaf (.seq .leaf (.seq (.join ⟨[(0,(zl 5)),(3,(.pt 3 0)),(4,(.ow 113592)),(5,zt)],[(3,z0),(113592,.arr 9 1)]⟩ .leaf) (.seq .leaf (.seq (.seq (.join ⟨[(0,(zl 5)),(3,(.pt 3 0)),(5,zt),(6,(.pt 6 0)),(57,zo)],[(3,z0),(6,z1)]⟩ .leaf) .leaf) (.seq .leaf (.seq .leaf (.seq .leaf (.seq .leaf (.seq (.frz [351160,351161,351162] .leaf) (.seq (.frz [379832,379833,379834] .leaf) .leaf)))))))))))))) [(22,some 41,kr),(22,some 97,kr),(22,some 102,kr),(29,some 70,nV),(30,some 24,ij),(31,some 60,iE),(31,some 91,iE),(32,some 65,kN),(34,some 26,kE),(47,some 84,ga)] (.cons pU (.cons pU (.cons pU (.cons ze (.cons qx (.cons oL (.cons oL (.cons uY (.cons uK (.cons jK .nil)))))))))) (by kernel_rfl) (by kernel_rfl) (by kernel_rfl) (fun xs=>by kernel_rfl)
end
end Go.Ev
set_option maxRecDepth 8000
namespace Go.Ev
abbrev Str:=ByteArray
structure Lk where
 sel:Str
 w:Int
structure Bt where
 name:Str
 zone:Str
 marks:List Str
 room:Int
 hold:Int
 shut:Bool
structure Sv where
 name:Str
 spare:Int
structure Cp where
 name:Str
 svc:Str
 rank:Int
 born:Int
 room:Int
 hold:Int
 sel:Str
 likes:List Lk
 apart:Int
 near:Str
 fixed:Str
 at_:Str
structure Fl where
 pack:Bool
 bts:List Bt
 svs:List Sv
 cps:List Cp
def sE (s:Str):List C:=[.s s]
def Lk.e (x:Lk):List C:=[.s x.sel,.i x.w]
def Bt.e (b:Bt):List C:=[.s b.name,.s b.zone,.l (b.marks.map sE),.i b.room,.i b.hold,.b b.shut]
def Sv.e (s:Sv):List C:=[.s s.name,.i s.spare]
def Cp.e (c:Cp):List C:=[.s c.name,.s c.svc,.i c.rank,.i c.born,.i c.room,.i c.hold,.s c.sel,.l (c.likes.map Lk.e),.i c.apart,.s c.near,.s c.fixed,.s c.at_]
def Fl.e (f:Fl):List C:=[.b f.pack,.l (f.bts.map Bt.e),.l (f.svs.map Sv.e),.l (f.cps.map Cp.e)]
def Bt.Sz (K:Nat) (b:Bt):Prop:=b.name.size≤K∧b.zone.size≤K∧b.marks.length≤K∧∀m,m∈b.marks→m.size≤K
def Sv.Sz (K:Nat) (s:Sv):Prop:=s.name.size≤K
def Cp.Sz (K:Nat) (c:Cp):Prop:=c.name.size≤K∧c.svc.size≤K∧c.sel.size≤K∧c.near.size≤K∧c.fixed.size≤K∧c.at_.size≤K∧c.likes.length≤K∧∀x,x∈c.likes→x.sel.size≤K
def Fl.Sz (K:Nat) (f:Fl):Prop:=(f.bts.length≤K∧∀b,b∈f.bts→b.Sz K)∧(f.svs.length≤K∧∀s,s∈f.svs→s.Sz K)∧f.cps.length≤K∧∀c,c∈f.cps→c.Sz K
def BD (K:Nat) (l:List Str):Prop:=l.length≤K∧∀s,s∈l→s.size≤K
theorem getD_map' {α:Type} (e:α→List C) {l:List α} {i:Nat} (h:i<l.length):(l.map e).getD i []=e l[i]:=Bk e h []
theorem w1 {i n:Nat} (h:i<n) (hn:n<4611686018427387904):w64 ((i:Int)+1)=((i+1:Nat):Int):=by
 rw[aP (by omega) (by omega)];rfl
end Go.Ev
namespace Go.Ev
abbrev big:Nat:=4611686018427387904
end Go.Ev
namespace Go.Ev
def Bt.o (b:Bt):List C:=[.s b.name,.s b.zone,.i b.room,.i b.hold,.b b.shut,.l (b.marks.map sE)]
def Cp.o (c:Cp):List C:=[.s c.name,.s c.svc,.i c.rank,.i c.born,.i c.room,.i c.hold,.s c.sel,.i c.apart,.s c.near,.s c.fixed,.s c.at_,.l (c.likes.map Lk.e)]
end Go.Ev
namespace Go.Ev
def within (a b c:Int):Bool:=decide (b≤a)&&decide (a≤c)
theorem fb (a b c:Int):gl [.i a,.i b,.i c]=some [.b (within a b c)]:=by
 simp only[gl,gl.d1,apL,jC,jD,C.I_i,within]
 cases h:decide (a≥b)<;>simp at h<;>simp[h]<;>omega
theorem ma (a b c:Int):fh [.i a,.i b,.i c]=some [.b (within a b c)]:=by
 simp only[fh,fh.d1,apL,jC,jD,C.I_i,within]
 cases h:decide (a≥b)<;>simp at h<;>simp[h]<;>omega
def DD (n:Int):Bool:=(decide (n≥97)&&decide (n≤122))||(decide (n≥48)&&decide (n≤57))||n==45||n==95
def dB (x:UInt8):Bool:=DD (x.toNat:Int)
theorem iy (n:Int):gY [.i n]=some [.b (DD n)]:=by
 simp only[gY,gY.d1,apL,jC,C.I_i,DD]
 cases decide (n≥97)<;>cases decide (n≤122)<;>cases decide (n≥48)<;>cases decide (n≤57)<;>cases n==45<;>simp
theorem oi (n:Int):qa [.i n]=some [.b (DD n)]:=iy n
def aS (s:Str):Bool:=within s.size 1 20&&s.data.toList.all dB
theorem da (s:Str):s.size=s.data.toList.length:=Array.length_toList.symm
theorem dY {s:Str} {i:Nat} (h:i<s.data.toList.length):s.data.getD i 0=s.data.toList[i]:=by
 have:i<s.data.size:=by simpa using h
 simp only[Array.getD,dif_pos this,Array.getInternal_eq_getElem,Array.getElem_toList]
theorem tG {α:Type} (p:α→Bool) (b:Nat) (ys:List C) (K:List C→R):∀(l:List α) (n:Nat),ai b (some (y5 (fun _ s (_:Unit)=>bif p s then .inl () else .inr (.ret [.b false])) (fun _=>.brk b ys) l n ())) K=bif l.all p then K ys else some (.ret [.b false])
 |[],n=>by simp[y5]
 |x::r,n=>by
  simp only[y5,List.all_cons]
  cases p x with
  |true=>simp only[jR,Bool.true_and];exact tG p b ys K r (n+1)
  |false=>simp
theorem cA (s:Str) (hl:s.size≤1048576):ba [.s s]=some [.b (aS s)]:=by
 have hsz:=da s
 have h:=wD (l:=s.data.toList) (S:=fun i (_:Unit)=>[.s s,.i (i:Nat)]) (body:=ap2 ba.d1)
  (fun _ _=>True) (fun i b _=>bif dB b then .inl () else .inr (.ret [.b false])) (fun _=>.brk 0 [])
  (fun i _ hi _=>by
   have hi':i<s.size:=by omega
   cases hb:dB s.data.toList[i]<;>simp only[dB] at hb
   ·exact ⟨by simp only[apL,jC,jD,ba.d1,C.I_i,C.S_s,jY,dY hi,iy,hb,ad];simp[hi'],trivial⟩
   ·exact ⟨by simp only[apL,jC,jD,ba.d1,C.I_i,C.S_s,jY,dY hi,iy,hb,ad,w1 hi' (show s.size<big by simp only[big];omega)];simp[hi'],trivial⟩)
  (fun _ _=>⟨by rw[←hsz];simp[ba.d1],trivial⟩) _ 0 () rfl trivial
 simp only[Int.ofNat_zero,List.drop_zero] at h
 simp only[ba,ba.d3,apL,jC,C.S_s,fb,ad,jI,C.B_b,aS]
 cases hw:within s.size 1 20 with
 |false=>simp
 |true=>
  simp only[jZ,jS]
  erw[h,tG]
  cases (s.data.toList.all dB)<;>simp[ba.d2]
theorem fO (s:Str) (hl:s.size≤1048576):dT [.s s]=some [.b (aS s)]:=by
 have hsz:=da s
 have h:=wD (l:=s.data.toList) (S:=fun i (_:Unit)=>[.s s,.i (s.size:Nat),.i (i:Nat)]) (body:=ap3 dT.d1)
  (fun _ _=>True) (fun i b _=>bif dB b then .inl () else .inr (.ret [.b false])) (fun _=>.brk 0 [])
  (fun i _ hi _=>by
   have hi':i<s.size:=by omega
   cases hb:dB s.data.toList[i]<;>simp only[dB] at hb
   ·exact ⟨by simp only[apL,jC,jD,dT.d1,C.I_i,C.S_s,jY,dY hi,oi,hb,ad];simp[hi'],trivial⟩
   ·exact ⟨by simp only[apL,jC,jD,dT.d1,C.I_i,C.S_s,jY,dY hi,oi,hb,ad,w1 hi' (show s.size<big by simp only[big];omega)];simp[hi'],trivial⟩)
  (fun _ _=>⟨by rw[←hsz];simp[dT.d1],trivial⟩) _ 0 () rfl trivial
 simp only[Int.ofNat_zero,List.drop_zero] at h
 simp only[dT,dT.d3,apL,jC,C.S_s,aS,within]
 by_cases q1:(s.size:Int)<1
 ·have:¬(1:Int)≤s.size:=by omega
  simp[q1,this]
 by_cases q2:(s.size:Int)>20
 ·have:¬(s.size:Int)≤20:=by omega
  simp only[q1,q2,this];simp
 ·have e1:(1:Int)≤s.size:=by omega
  have e2:(s.size:Int)≤20:=by omega
  simp only[q1,q2,e1,e2,decide_true,decide_false,ja,jR,jS,Bool.true_and]
  erw[h,tG]
  cases (s.data.toList.all dB)<;>simp[dT.d2]
end Go.Ev
namespace Go.Ev
def mkS (l:List UInt8):Str:=⟨l.toArray⟩
theorem gF (l:List UInt8):(mkS l).data.toList=l:=rfl
theorem nu (l:List UInt8):(mkS l).size=l.length:=rfl
theorem IB (s:Str):mkS s.data.toList=s:=rfl
theorem lb (s:Str) (i j:Nat):s.extract i j=mkS ((s.data.toList.take j).drop i):=by
 have:(s.extract i j).data=((s.data.toList.take j).drop i).toArray:=by
  rw[ByteArray.data_extract]
  apply Array.toList_inj.1
  simp only[Array.toList_extract,List.extract_eq_take_drop]
  rw[List.drop_take]
 cases h:s.extract i j with
 |mk d=>rw[h] at this;simp only at this;subst this;rfl
def sEq (a b:Str):Bool:=a.toList==b.toList
theorem eH (s:Str):s.toList=s.data.toList:=ByteArray.toList_eq s
theorem bV (a b:Str):sEq a b=true↔a=b:=by
 unfold sEq
 rw[eH,eH,beq_iff_eq]
 constructor
 ·intro h
  cases a;cases b
  simp only at h
  exact congrArg _ (Array.toList_inj.1 h)
 ·rintro rfl;rfl
theorem IC (a b:List UInt8):sEq (mkS a) (mkS b)=(a==b):=by
 unfold sEq;rw[eH,eH,gF,gF]
theorem pw {α:Type} (p:α→Bool):∀l:List α,l.take (l.takeWhile p).length=l.takeWhile p
 |[]=>rfl
 |x::r=>by
  rw[List.takeWhile_cons]
  cases p x with
  |true=>simp[pw p r]
  |false=>simp
theorem j8 {α:Type} (p:α→Bool):∀l:List α,l.drop (l.takeWhile p).length=l.dropWhile p
 |[]=>rfl
 |x::r=>by
  rw[List.takeWhile_cons,List.dropWhile_cons]
  cases p x with
  |true=>simp[j8 p r]
  |false=>simp
theorem sR {α:Type} (l:List α) (i k:Nat):(l.take (i+k)).drop i=(l.drop i).take k:=by rw[List.drop_take];congr 1;omega
theorem qg {α:Type} (p:α→Bool) (l:List α):(l.takeWhile p).length≤l.length:=(List.takeWhile_prefix p).length_le
theorem drop_cons {α:Type} {l r:List α} {i:Nat} {c:α} (h:l.drop i=c::r):∃hi:i<l.length,l[i]=c∧l.drop (i+1)=r:=by
 have hi:i<l.length:=by
  rcases Nat.lt_or_ge i l.length with h'|h'
  ·exact h'
  ·rw[List.drop_eq_nil_of_le h'] at h;simp at h
 rw[List.drop_eq_getElem_cons hi] at h
 simp only[List.cons.injEq] at h
 exact ⟨hi,h.1,h.2⟩
def dm:List UInt8→List (List UInt8)
 |[]=>[]
 |c::r=>if c=32 then dm r else if dB c then (c::r.takeWhile dB)::dm (r.dropWhile dB) else [c]::dm r
termination_by l=>l.length
decreasing_by
 ·simp
 ·have:=(List.dropWhile_suffix (l:=r) dB).length_le;simp;omega
 ·simp
def sym (c:UInt8):Bool:=c==124||c==38||c==33||c==40||c==41||c==61
def gN (c:UInt8):Bool:=c==32||dB c||sym c
theorem bn (c x:UInt8) (m:Int) (h:m=(x.toNat:Int)):(((c.toNat:Nat):Int)==m)=(c==x):=by
 subst h
 rw[Bool.eq_iff_iff,beq_iff_eq,beq_iff_eq]
 constructor
 ·intro h
  exact UInt8.toNat_inj.1 (by exact_mod_cast h)
 ·rintro rfl;rfl
theorem Fa (s:Str) (hl:s.size≤1048576) (i:Nat) (o:C):∀(k n:Nat),k=s.data.toList.length-n→n≤s.data.toList.length→
  lim (ap4 az.d1) [.s s,.i i,.i n,.l o.L]=some (.brk 2 [.s s,.i i,.i (n+((s.data.toList.drop n).takeWhile dB).length:Nat),.l o.L])
 |0,n,hk,hn=>by
  have e:n=s.size:=by rw[da];omega
  have e2:s.data.toList.drop n=[]:=List.drop_eq_nil_of_le (by omega)
  rw[e2]
  refine aQ ?_
  simp[az.d1,e]
 |k+1,n,hk,hn=>by
  have hi:n<s.data.toList.length:=by omega
  have hi':n<s.size:=by rw[da];omega
  have e2:=List.drop_eq_getElem_cons hi
  rw[e2,List.takeWhile_cons]
  cases hb:dB s.data.toList[n] with
  |false=>
   refine aQ ?_
   simp only[dB] at hb
   simp only[apL,jC,jD,az.d1,C.I_i,C.S_s,jY,dY hi,iy,hb,ad]
   simp[hi']
  |true=>
   have h:ap4 az.d1 [.s s,.i i,.i n,.l o.L]=some (.again [.s s,.i i,.i (n+1:Nat),.l o.L]):=by
    simp only[dB] at hb
    simp only[apL,jC,jD,az.d1,C.I_i,C.S_s,jY,dY hi,iy,hb,ad,w1 hi' (show s.size<big by simp only[big];omega)]
    simp[hi']
   rw[aG h,Fa s hl i o k (n+1) (by omega) (by omega)]
   have:n+1+(List.takeWhile dB (s.data.toList.drop (n+1))).length=n+(s.data.toList[n]::List.takeWhile dB (s.data.toList.drop (n+1))).length:=by
    simp only[List.length_cons];omega
   simp only[if_true,this]
def tk (t:List UInt8):List C:=[.s (mkS t)]
theorem He (s:Str) (hl:s.size≤1048576):∀(k i:Nat) (out:List (List C)),s.data.toList.length-i≤k→i≤s.data.toList.length→out.length≤i→
  (((s.data.toList.drop i).all gN=true∧lim (ap3 az.d5) [.s s,.i i,.l out]=some (.brk 0 [.l (out++(dm (s.data.toList.drop i)).map tk)]))∨
   ((s.data.toList.drop i).all gN=false∧∃o,lim (ap3 az.d5) [.s s,.i i,.l out]=some (.ret [.b false,.l o])))
 |k,i,out,hk,hi,ho=>by
  cases hd:s.data.toList.drop i with
  |nil=>
   have:s.data.toList.length≤i:=by simpa using hd
   have e:i=s.size:=by rw[da];omega
   left
   refine ⟨rfl,aQ ?_⟩
   simp[az.d5,e,dm]
  |cons c r=>
   obtain ⟨hi',hc,hr⟩:=drop_cons hd
   have his:i<s.size:=by rw[da];exact hi'
   obtain ⟨k,rfl⟩:∃k',k=k'+1:=⟨k-1,by omega⟩
   have hw:=w1 his (show s.size<big by simp only[big];omega)
   have e32:=bn c 32 32 rfl
   by_cases h32:c=32
   ·subst h32
    have h:ap3 az.d5 [.s s,.i i,.l out]=some (.again [.s s,.i (i+1:Nat),.l out]):=by
     simp only[apL,jC,jD,az.d5,C.I_i,C.S_s,C.L_l,jY,dY hi',hc,hw]
     simp[his,az.d4]
    have ih:=He s hl k (i+1) out (by omega) (by omega) (by omega)
    rw[aG h]
    rw[hr] at ih
    simpa [gN,dm] using ih
   ·have hrun:=Fa s hl i (.l out) _ i rfl hi
    rw[hd] at hrun
    simp only[C.L_l] at hrun
    have hne:(((c.toNat:Nat):Int)==32)=false:=by
     rw[e32,beq_eq_false_iff_ne];exact h32
    cases hlt:dB c with
    |true=>
     have hrl:=qg dB r
     have hrlen:r.length=s.data.toList.length-(i+1):=by rw[←hr];simp
     have h:ap3 az.d5 [.s s,.i i,.l out]=some (.again [.s s,.i (i+1+(r.takeWhile dB).length:Nat),.l (out++[tk (c::r.takeWhile dB)])]):=by
      have hext:s.extract i (i+1+(r.takeWhile dB).length)=mkS (c::r.takeWhile dB):=by
       rw[lb,Nat.add_assoc,sR,hd,Nat.add_comm 1,List.take_succ_cons,pw]
      have e1:(((i+1+(r.takeWhile dB).length:Nat):Int)==(i:Int))=false:=by
       rw[beq_eq_false_iff_ne];omega
      have e2:(i:Int)≤((i+1+(r.takeWhile dB).length:Nat):Int):=by omega
      have e3:((i+1+(r.takeWhile dB).length:Nat):Int)≤(s.size:Int):=by rw[da];omega
      have e4:out.length+1≤4294967296:=by omega
      have e0:i+(List.takeWhile dB (c::r)).length=i+1+(r.takeWhile dB).length:=by
       rw[List.takeWhile_cons,hlt];simp;omega
      rw[e0] at hrun
      simp only[apL,jC,jD,az.d5,C.I_i,C.S_s,C.L_l,jY,dY hi',hc,hne,hrun,aC]
      simp only[az.d3,C.I_i,C.S_s,C.L_l,e1,jY,hext]
      simp only[e2,e3,e4,his,decide_true,jR,jS,jX,rows,List.length_cons,List.length_nil,aC,az.d4,C.L_l,tk]
      simp[his,e4,az.d4]
     have ih:=He s hl k (i+1+(r.takeWhile dB).length) (out++[tk (c::r.takeWhile dB)]) (by omega) (by omega) (by simp;omega)
     rw[aG h]
     have hdr:s.data.toList.drop (i+1+(r.takeWhile dB).length)=r.dropWhile dB:=by
      rw[←List.drop_drop,hr,j8]
     rw[hdr] at ih
     have hall:(c::r).all gN=(r.dropWhile dB).all gN:=by
      have e1:∀r:List UInt8,r.all gN=(r.dropWhile dB).all gN:=by
       intro r
       induction r with
       |nil=>rfl
       |cons x r ih=>
        rw[List.dropWhile_cons]
        cases hx:dB x with
        |true=>simp[gN,hx,←ih]
        |false=>simp
      have:gN c=true:=by simp[gN,hlt]
      rw[List.all_cons,this,Bool.true_and];exact e1 r
     rw[hall]
     have hlex:dm (c::r)=(c::r.takeWhile dB)::dm (r.dropWhile dB):=by
      rw[dm,if_neg h32,if_pos hlt]
     rw[hlex]
     simpa using ih
    |false=>
     have e0:i+(List.takeWhile dB (c::r)).length=i:=by
      rw[List.takeWhile_cons,hlt];simp
     rw[e0] at hrun
     have s1:=bn c 124 124 rfl
     have s2:=bn c 38 38 rfl
     have s3:=bn c 33 33 rfl
     have s4:=bn c 40 40 rfl
     have s5:=bn c 41 41 rfl
     have s6:=bn c 61 61 rfl
     have hsym:az.d3 (.s s) (.i i) (.i i) (.l out)=az.d2 (.s s) (.i i) (.i i) (.b (!sym c)) (.l out):=by
      simp only[az.d3,C.I_i,C.S_s,C.L_l,jY,dY hi',hc,bne,s1,s2,s3,s4,s5,s6,sym]
      cases (c==124)<;>cases (c==38)<;>cases (c==33)<;>cases (c==40)<;>cases (c==41)<;>cases (c==61)<;>simp[his]
     have hd2:az.d2 (.s s) (.i i) (.i i) (.b (!sym c)) (.l out)=if sym c=true then some (.brk 1 [.s s,.i (i+1:Nat),.l (out++[tk [c]])]) else some (.ret [.b false,.l out]):=by
      have hext:s.extract i (i+1)=mkS [c]:=by
       rw[lb,sR,hd];rfl
      have e2:(i:Int)≤((i+1:Nat):Int):=by omega
      have e3:((i+1:Nat):Int)≤(s.size:Int):=by rw[da];omega
      have e4:out.length+1≤4294967296:=by omega
      cases hs:sym c with
      |false=>simp[az.d2]
      |true=>
       simp only[az.d2,C.I_i,C.S_s,C.L_l,C.B_b,hw,jY,hext,e2,e3,decide_true,jR,jS,jX,rows,List.length_cons,List.length_nil,jZ,if_true,tk]
       simp[e4]
     have h0:ap3 az.d5 [.s s,.i i,.l out]=ai 1 (if sym c=true then some (.brk 1 [.s s,.i (i+1:Nat),.l (out++[tk [c]])]) else some (.ret [.b false,.l out])) (ap3 az.d4):=by
      rw[←hd2,←hsym]
      simp only[apL,jC,jD,az.d5,C.I_i,C.S_s,C.L_l,jY,dY hi',hc,hne,hrun,aC]
      simp[his]
     cases hs:sym c with
     |false=>
      right
      rw[hs] at h0
      refine ⟨by simp[gN,hlt,hs,h32],out,ml (by rw[h0];simp)⟩
     |true=>
      rw[hs] at h0
      have h:ap3 az.d5 [.s s,.i i,.l out]=some (.again [.s s,.i (i+1:Nat),.l (out++[tk [c]])]):=by rw[h0];simp[az.d4]
      rw[aG h]
      have ih:=He s hl k (i+1) (out++[tk [c]]) (by omega) (by omega) (by simp;omega)
      rw[hr] at ih
      have hlex:dm (c::r)=[c]::dm r:=by rw[dm,if_neg h32,if_neg (by rw[hlt];simp)]
      have hall:(c::r).all gN=r.all gN:=by simp[gN,hs]
      rw[hlex,hall]
      simpa using ih
theorem xO (s:Str) (hl:s.size≤1048576):
  (s.data.toList.all gN=true∧az [.s s]=some [.b true,.l ((dm s.data.toList).map tk)])∨(s.data.toList.all gN=false∧∃o,az [.s s]=some [.b false,.l o]):=by
 have h:=He s hl _ 0 [] (Nat.le_refl _) (by omega) (by simp)
 simp only[List.drop_zero,jB,Int.ofNat_zero] at h
 simp only[az,az.d7,apL,jC,ao]
 rcases h with ⟨h1,h2⟩|⟨h1,o,h2⟩
 ·exact .inl ⟨h1,by rw[h2];simp[az.d6]⟩
 ·exact .inr ⟨h1,o,by rw[h2];simp⟩
end Go.Ev
namespace Go.Ev
abbrev Tok:=List UInt8
inductive Tr where
 |lf (k:Nat) (n v:Tok)
 |un (t:Tr)
 |bn (k:Nat) (a b:Tr)
def node (k:Nat) (n v:Tok) (m:Nat):List C:=[.i (k:Nat),.s (mkS n),.s (mkS v),.i (m:Nat)]
def Tr.flat:Tr→List (List C)
 |.lf k n v=>[node k n v 0]
 |.un t=>t.flat++[node 3 [] [] 1]
 |.bn k a b=>a.flat++b.flat++[node k [] [] 2]
def opL (f:List Tok→Option (Tr×List Tok)) (op:Tok) (kd:Nat):Nat→Tr→List Tok→Option (Tr×List Tok)
 |0,t,r=>some (t,r)
 |m+1,t,r=>match r with
  |[]=>some (t,[])
  |x::r'=>if x=op then match f r' with
    |none=>none
    |some (t',r'')=>opL f op kd m (.bn kd t t') r''
   else some (t,x::r')
def prs:Nat→Nat→List Tok→Option (Tr×List Tok)
 |0,_,_=>none
 |k+1,c,l=>match c with
  |0=>match prs k 1 l with
   |none=>none
   |some (t,r)=>opL (prs k 1) [124] 5 r.length t r
  |1=>match prs k 2 l with
   |none=>none
   |some (t,r)=>opL (prs k 2) [38] 4 r.length t r
  |_=>match l with
   |[]=>none
   |x::r=>if x=[33] then match prs k 2 r with
     |none=>none
     |some (t,r')=>some (.un t,r')
    else if x=[40] then match prs k 0 r with
     |some (t,y::r')=>if y=[41] then some (t,r') else none
     |_=>none
    else if aS (mkS x)=true then match r with
     |y::r'=>if y=[61] then match r' with
       |v::r''=>if aS (mkS v)=true then some (.lf 2 x v,r'') else none
       |[]=>none
      else some (.lf 1 x [],r)
     |[]=>some (.lf 1 x [],[])
    else none
theorem eU:bs #[]=mkS []:=rfl
theorem zA (k n:Int) (x y:List (List C)) (h:x.length+y.length≤1048576):
  bF [.i k,.i n,.l [[.l x],[.l y]]]=some [.l [[.l x],[.l y]],.l (x++y++[[.i k,.s (mkS []),.s (mkS []),.i n]])]:=by
 have b1:x.length≤4294967296:=by omega
 have b2:x.length+y.length≤4294967296:=by omega
 have b3:x.length+y.length+1≤4294967296:=by omega
 have b4:x.length+(y.length+1)≤4294967296:=by omega
 have w0:w64 1=1:=aP (by omega) (by omega)
 have w1:w64 2=2:=aP (by omega) (by omega)
 have h0:ap5 bF.d1 [.i k,.i n,.i 0,.l [[.l x],[.l y]],.l []]=some (.again [.i k,.i n,.i 1,.l [[.l x],[.l y]],.l x]):=by
  simp[bF.d1,b1,w0]
 have h1:ap5 bF.d1 [.i k,.i n,.i 1,.l [[.l x],[.l y]],.l x]=some (.again [.i k,.i n,.i 2,.l [[.l x],[.l y]],.l (x++y)]):=by
  have e:(1:Int)<2:=by omega
  simp[bF.d1,b2,w1,e]
 have h2:ap5 bF.d1 [.i k,.i n,.i 2,.l [[.l x],[.l y]],.l (x++y)]=some (.brk 0 [.i k,.i n,.l [[.l x],[.l y]],.l (x++y)]):=by
  simp[bF.d1]
 simp only[bF,bF.d3,apL,jC,jD,C.L_l,ao]
 rw[aG h0,aG h1,aQ h2,aC]
 simp[bF.d2,b3,b4,eU]
theorem DI (k n:Int) (x:List (List C)) (h:x.length≤1048576):
  bF [.i k,.i n,.l [[.l x]]]=some [.l [[.l x]],.l (x++[[.i k,.s (mkS []),.s (mkS []),.i n]])]:=by
 have b1:x.length≤4294967296:=by omega
 have b3:x.length+1≤4294967296:=by omega
 have w0:w64 1=1:=aP (by omega) (by omega)
 have h0:ap5 bF.d1 [.i k,.i n,.i 0,.l [[.l x]],.l []]=some (.again [.i k,.i n,.i 1,.l [[.l x]],.l x]):=by
  simp[bF.d1,b1,w0]
 have h2:ap5 bF.d1 [.i k,.i n,.i 1,.l [[.l x]],.l x]=some (.brk 0 [.i k,.i n,.l [[.l x]],.l x]):=by
  simp[bF.d1]
 simp only[bF,bF.d3,apL,jC,jD,C.L_l,ao]
 rw[aG h0,aQ h2,aC]
 simp[bF.d2,b3,eU]
section
variable {T:List Tok} (hl:T.length≤1048576)
include hl
theorem jw (op:Tok) (a:Nat) (bad:Bool) (ha:a≤T.length):bJ [.s (mkS op),.l (T.map tk),.i a,.b bad]=
  match T.drop a with
  |[]=>some [.b false,.l (T.map tk),.i a,.b bad]
  |x::_=>if x=op then some [.b true,.l (T.map tk),.i (a+1:Nat),.b bad] else some [.b false,.l (T.map tk),.i a,.b bad]:=by
 simp only[bJ,bJ.d1,gH,gH.d1,apL,jC,jD,C.ui,C.P_p,C.I_i,C.L_l,jW,jY,jR]
 cases hd:T.drop a with
 |nil=>
  have:T.length≤a:=by simpa using hd
  have e:a=T.length:=by omega
  subst e
  simp[ad]
 |cons x r=>
  obtain ⟨hi,hx,_⟩:=drop_cons hd
  have hw:=w1 hi (show T.length<big by simp only[big];omega)
  rw[getD_map' tk hi,hx]
  have hq:((mkS x).toList==(mkS op).toList)=(x==op):=IC x op
  simp only[tk,jC,C.S_s,hq,hw]
  by_cases he:x=op
  ·subst he;simp[hi,ad]
  ·have hb:(x==op)=false:=by rw[beq_eq_false_iff_ne];exact he
   simp[hi,ad,hb,he]
theorem tT (hs:∀t,t∈T→t.length≤1048576) (a:Nat) (bad:Bool) (ha:a≤T.length):eo [.l (T.map tk),.i a,.b bad]=
  match T.drop a with
  |[]=>some [.s (mkS []),.l (T.map tk),.i a,.b true]
  |x::_=>if aS (mkS x)=true then some [.s (mkS x),.l (T.map tk),.i (a+1:Nat),.b bad] else some [.s (mkS []),.l (T.map tk),.i a,.b true]:=by
 simp only[eo,eo.d1,apL,jC,jD,C.I_i,C.L_l,jW,jY]
 cases hd:T.drop a with
 |nil=>
  have:T.length≤a:=by simpa using hd
  have e:a=T.length:=by omega
  subst e
  simp[eU]
 |cons x r=>
  obtain ⟨hi,hx,_⟩:=drop_cons hd
  have hw:=w1 hi (show T.length<big by simp only[big];omega)
  have hw2:w64 (((a+1:Nat):Int)-1)=a:=by rw[aP (by omega) (by omega)];omega
  rw[getD_map' tk hi,hx]
  have hxs:(mkS x).size≤1048576:=by rw[nu];exact hs x (by rw[←hx];exact List.getElem_mem hi)
  have hge:¬T.length≤a:=by omega
  simp only[tk,jC,cA _ hxs,ad,jI,C.B_b,hw,hw2,jY,getD_map' tk hi,hx]
  cases hn:aS (mkS x)<;>simp[hi,hge,eU]
end
def Res (T:List Tok) (a:Nat) (p:Option (Tr×List Tok)) (nodes:List (List C)) (a':Nat) (bad:Bool):Prop:=
 a≤a'∧a'≤T.length∧nodes.length≤2*(a'-a)+1∧match p with
  |some (t,r)=>bad=false∧nodes=t.flat∧T.drop a'=r∧a<a'
  |none=>bad=true
def SP (T:List Tok) (G:List C→Option (List C)) (f:List Tok→Option (Tr×List Tok)) (a:Nat):Prop:=
 ∃nodes a' bad,G [.l (T.map tk),.i a,.b false]=some [.l nodes,.l (T.map tk),.i (a':Nat),.b bad]∧Res T a (f (T.drop a)) nodes a' bad
end Go.Ev
namespace Go.Ev
section
variable {T:List Tok} (hl:T.length≤1048576/4) (hs:∀t,t∈T→t.length≤1048576)
include hl
theorem FL (G:List C→Option (List C)) (f:List Tok→Option (Tr×List Tok)) (op:Tok) (kd:Nat) (body:C→C→C→C→R) (lo:Nat)
  (hb:∀a b c d,body a b c d=(bif (!d.B) then (call4 (bJ [.s (mkS op),b,c,d]) fun e f g h=>(bif e.B then (call4 (G [f,g,h]) fun i j k l=>(call2 (bF [.i (kd:Nat),.i 2,.l (rows [[a],[i]])]) fun m n=>(some (.again [.l n.L,j,k,l])))) else (some (.brk 0 [a,f,g,h])))) else (some (.brk 0 [a,b,c,d]))))
  (hG:∀a,lo≤a→a≤T.length→SP T G f a):
  ∀(m a:Nat) (t:Tr),T.length-a≤m→lo≤a+1→a≤T.length→t.flat.length≤2*a+1→
   ∃nodes a' bad,lim (ap4 body) [.l t.flat,.l (T.map tk),.i a,.b false]=some (.brk 0 [.l nodes,.l (T.map tk),.i (a':Nat),.b bad])∧
    a≤a'∧a'≤T.length∧nodes.length≤2*(a'-a)+t.flat.length∧match opL f op kd m t (T.drop a) with
     |some (u,r)=>bad=false∧nodes=u.flat∧T.drop a'=r
     |none=>bad=true
 |0,a,t,hm,hlo,ha,ht=>by
  have hd:T.drop a=[]:=List.drop_eq_nil_of_le (by omega)
  refine ⟨t.flat,a,false,aQ ?_,Nat.le_refl _,ha,by omega,?_⟩
  ·simp only[apL,jC,jD,hb,C.B_b,ja,jR]
   rw[jw (by omega) op a false ha,hd]
   simp[call4]
  ·simp[opL]
 |m+1,a,t,hm,hlo,ha,ht=>by
  have hstep:ap4 body [.l t.flat,.l (T.map tk),.i a,.b false]=(call4 (bJ [.s (mkS op),.l (T.map tk),.i a,.b false]) fun e f g h=>(bif e.B then (call4 (G [f,g,h]) fun i j k l=>(call2 (bF [.i (kd:Nat),.i 2,.l (rows [[.l t.flat],[i]])]) fun m n=>(some (.again [.l n.L,j,k,l])))) else (some (.brk 0 [.l t.flat,f,g,h])))):=by
   simp only[apL,jC,jD,hb,C.B_b,ja,jR]
  rw[jw (by omega) op a false ha] at hstep
  cases hd:T.drop a with
  |nil=>
   rw[hd] at hstep
   refine ⟨t.flat,a,false,aQ ?_,Nat.le_refl _,ha,by omega,?_⟩
   ·rw[hstep];simp[call4]
   ·simp[opL,hd]
  |cons x r=>
   rw[hd] at hstep
   obtain ⟨hi,hx,hr⟩:=drop_cons hd
   by_cases he:x=op
   ·simp only[if_pos he,call4,jI,jC,jD,C.B_b,jR] at hstep
    obtain ⟨nodes,a',bad,hg,h1,h2,h3,h4⟩:=hG (a+1) (by omega) (by omega)
    rw[hr] at h4
    rw[hg] at hstep
    have hsum:t.flat.length+nodes.length≤1048576:=by omega
    simp only[jI,jC,jD,rows,zA (kd:Nat) 2 t.flat nodes hsum,call2,C.L_l] at hstep
    have hnd:t.flat++nodes++[[C.i (kd:Nat),.s (mkS []),.s (mkS []),.i 2]]=t.flat++nodes++[node kd [] [] 2]:=rfl
    rw[hnd] at hstep
    cases hf:f r with
    |none=>
     rw[hf] at h4
     simp only at h4
     subst h4
     have hend:ap4 body [.l (t.flat++nodes++[node kd [] [] 2]),.l (T.map tk),.i (a':Nat),.b true]=some (.brk 0 [.l (t.flat++nodes++[node kd [] [] 2]),.l (T.map tk),.i (a':Nat),.b true]):=by
      simp[hb]
     refine ⟨_,a',true,by rw[aG hstep];exact aQ hend,by omega,h2,by simp;omega,?_⟩
     simp[opL,hd,he,hf]
    |some p=>
     obtain ⟨u,r'⟩:=p
     rw[hf] at h4
     obtain ⟨rfl,rfl,h5,h6⟩:=h4
     have e:t.flat++u.flat++[node kd [] [] 2]=(Tr.bn kd t u).flat:=rfl
     rw[e] at hstep
     have hlen:(Tr.bn kd t u).flat.length=t.flat.length+u.flat.length+1:=by simp[Tr.flat];omega
     obtain ⟨nodes2,a2,bad2,q1,q2,q3,q4,q5⟩:=FL G f op kd body lo hb hG m a' (.bn kd t u) (by omega) (by omega) h2 (by omega)
     refine ⟨nodes2,a2,bad2,by rw[aG hstep];exact q1,by omega,q3,by omega,?_⟩
     simp only[opL,hd,if_pos he,hf]
     rw[h5] at q5
     exact q5
   ·simp only[if_neg he,call4,jI,jC,jD,C.B_b,jS] at hstep
    refine ⟨t.flat,a,false,aQ hstep,Nat.le_refl _,ha,by omega,?_⟩
    simp[opL,hd,he]
end
end Go.Ev
namespace Go.Ev
section
variable {T:List Tok} (hl:T.length≤1048576/4) (hs:∀t,t∈T→t.length≤1048576)
include hl hs
theorem Ik (G:List C→Option (List C)) (f:List Tok→Option (Tr×List Tok)) (op:Tok) (kd:Nat) (body:C→C→C→C→R) (d2:C→C→C→C→R) (a:Nat) (ha:a≤T.length)
  (hb:∀a b c d,body a b c d=(bif (!d.B) then (call4 (bJ [.s (mkS op),b,c,d]) fun e f g h=>(bif e.B then (call4 (G [f,g,h]) fun i j k l=>(call2 (bF [.i (kd:Nat),.i 2,.l (rows [[a],[i]])]) fun m n=>(some (.again [.l n.L,j,k,l])))) else (some (.brk 0 [a,f,g,h])))) else (some (.brk 0 [a,b,c,d]))))
  (h2:∀a b c d,d2 a b c d=some (.ret [a,b,c,d])) (hG:∀b,a≤b→b≤T.length→SP T G f b):
  ∃nodes a' bad,aZ (call4 (G [.l (T.map tk),.i a,.b false]) fun d e f g=>(ai 0 (lim (ap4 body) [d,e,f,g]) (ap4 d2)))=some [.l nodes,.l (T.map tk),.i (a':Nat),.b bad]∧
   Res T a (match f (T.drop a) with
   |none=>none
   |some (t,r)=>opL f op kd r.length t r) nodes a' bad:=by
 obtain ⟨nodes,a',bad,hg,q1,q2,q3,q4⟩:=hG a (Nat.le_refl _) ha
 rw[hg]
 simp only[call4,jI,jC,jD]
 cases hf:f (T.drop a) with
 |none=>
  rw[hf] at q4
  simp only at q4
  subst q4
  refine ⟨nodes,a',true,?_,q1,q2,q3,rfl⟩
  rw[aQ (ys:=[.l nodes,.l (T.map tk),.i (a':Nat),.b true]) (i:=0) (by simp[hb])]
  simp[h2]
 |some p=>
  obtain ⟨t,r⟩:=p
  rw[hf] at q4
  obtain ⟨rfl,rfl,q5,q6⟩:=q4
  have hrl:r.length=T.length-a':=by rw[←q5];simp
  obtain ⟨n2,a2,b2,p1,p2,p3,p4,p5⟩:=FL hl G f op kd body a hb (fun b h1 h2=>hG b h1 h2) r.length a' t (by omega) (by omega) q2 (by omega)
  rw[p1]
  rw[q5] at p5
  have hres:Res T a (opL f op kd r.length t r) n2 a2 b2:=by
   refine ⟨by omega,p3,by omega,?_⟩
   cases ho:opL f op kd r.length t r with
   |none=>rw[ho] at p5;exact p5
   |some z=>
    obtain ⟨u,z⟩:=z
    rw[ho] at p5
    exact ⟨p5.1,p5.2.1,p5.2.2,by omega⟩
  exact ⟨n2,a2,b2,by simp[h2],hres⟩
theorem Ii:∀(j c k a:Nat),c≤2→a≤T.length→3*(T.length-a)+(3-c)≤j→j≤k→SP T (aj.g k c) (prs j c) a
 |0,c,k,a,hc,ha,hj,hk=>by omega
 |j+1,c,k,a,hc,ha,hj,hk=>by
  obtain ⟨k,rfl⟩:∃k',k=k'+1:=⟨k-1,by omega⟩
  have ih:=Ii j
  rcases (show c=0∨c=1∨c=2 by omega) with rfl|rfl|rfl
  ·obtain ⟨nodes,a',bad,h1,h2⟩:=Ik hl hs (aj.g k 1) (prs j 1) [124] 5 (aj.d1 (aj.g k 0) (aj.g k 1) (aj.g k 2)) (aj.d2 (aj.g k 0) (aj.g k 1) (aj.g k 2)) a ha
    (fun _ _ _ _=>rfl) (fun _ _ _ _=>rfl) (fun b h1 h2=>ih 1 k b (by omega) h2 (by omega) (by omega))
   exact ⟨nodes,a',bad,h1,h2⟩
  ·obtain ⟨nodes,a',bad,h1,h2⟩:=Ik hl hs (aj.g k 2) (prs j 2) [38] 4 (cO.d1 (aj.g k 0) (aj.g k 1) (aj.g k 2)) (cO.d2 (aj.g k 0) (aj.g k 1) (aj.g k 2)) a ha
    (fun _ _ _ _=>rfl) (fun _ _ _ _=>rfl) (fun b h1 h2=>ih 2 k b (by omega) h2 (by omega) (by omega))
   exact ⟨nodes,a',bad,h1,h2⟩
  ·have hT:T.length≤1048576:=by omega
   have hstep:aj.g (k+1) 2 [.l (T.map tk),.i a,.b false]=aZ (eK.d1 (aj.g k 0) (aj.g k 1) (aj.g k 2) (.l (T.map tk)) (.i a) (.b false)):=rfl
   unfold SP
   rw[hstep]
   have e33:bs #[33]=mkS [33]:=rfl
   have e40:bs #[40]=mkS [40]:=rfl
   have e41:bs #[41]=mkS [41]:=rfl
   have e61:bs #[61]=mkS [61]:=rfl
   simp only[eK.d1,C.B_b,jS,e33,e40,e41,e61,jw hT [33] a false ha]
   cases hd:T.drop a with
   |nil=>
    simp only[call4,jI,jC,jD,C.B_b,jS,jw hT [40] a false ha,tT hT hs a false ha,hd]
    simp only[jZ,jS,rows,eU,jV]
    exact ⟨_,a,true,rfl,Nat.le_refl _,ha,by simp,by simp[prs]⟩
   |cons x r=>
    obtain ⟨hi,hx,hr⟩:=drop_cons hd
    have hsx:=hs x (by rw[←hx];exact List.getElem_mem hi)
    by_cases x33:x=[33]
    ·obtain ⟨nodes,a',bad,hg,q1,q2,q3,q4⟩:=ih 2 k (a+1) (by omega) (by omega) (by omega) (by omega)
     rw[hr] at q4
     simp only[if_pos x33,call4,jI,jC,jD,C.B_b,jR,hg,rows,call2]
     rw[show (3:Int)=((3:Nat):Int) from rfl,DI _ _ nodes (by omega)]
     simp only[jI,jC,jD,C.L_l,jV]
     have hnd:nodes++[[C.i ((3:Nat):Int),.s (mkS []),.s (mkS []),.i 1]]=nodes++[node 3 [] [] 1]:=rfl
     rw[hnd]
     refine ⟨_,a',bad,rfl,by omega,q2,by simp;omega,?_⟩
     simp only[prs,x33,if_true]
     cases hf:prs j 2 r with
     |none=>rw[hf] at q4;exact q4
     |some p=>
      rw[hf] at q4
      obtain ⟨rfl,rfl,q5,q6⟩:=q4
      exact ⟨rfl,rfl,q5,by omega⟩
    simp only[if_neg x33,call4,jI,jC,jD,C.B_b,jS,jw hT [40] a false ha,hd]
    by_cases x40:x=[40]
    ·obtain ⟨nodes,a',bad,hg,q1,q2,q3,q4⟩:=ih 0 k (a+1) (by omega) (by omega) (by omega) (by omega)
     rw[hr] at q4
     simp only[if_pos x40,jI,jC,jD,C.B_b,jR,hg,jw hT [41] a' bad q2]
     have hp:prs (j+1) 2 (x::r)=match prs j 0 r with
       |some (t,y::r')=>if y=[41] then some (t,r') else none
       |_=>none:=by
      simp only[prs,if_neg x33,if_pos x40]<;>rcases prs j 0 r with _|⟨t,_|⟨y,r'⟩⟩<;>rfl
     rw[hp]
     cases hd2:T.drop a' with
     |nil=>
      simp only[jI,jC,jD,C.B_b,ja,jR,jV]
      refine ⟨_,a',true,rfl,by omega,q2,by omega,?_⟩
      cases hf:prs j 0 r with
      |none=>rfl
      |some p=>
       rw[hf] at q4
       obtain ⟨_,_,q5,_⟩:=q4
       obtain ⟨t,r'⟩:=p
       simp only at q5
       rw[hd2] at q5
       subst q5
       rfl
     |cons y r'=>
      obtain ⟨hi2,hx2,hr2⟩:=drop_cons hd2
      by_cases y41:y=[41]
      ·simp only[if_pos y41,jI,jC,jD,C.B_b,jZ,jS,jV]
       refine ⟨_,a'+1,bad,rfl,by omega,by omega,by omega,?_⟩
       cases hf:prs j 0 r with
       |none=>rw[hf] at q4;exact q4
       |some p=>
        rw[hf] at q4
        obtain ⟨q5,q6,q7,_⟩:=q4
        obtain ⟨t,z⟩:=p
        simp only at q7 q6
        rw[hd2] at q7
        subst q7
        simp only[if_pos y41]
        exact ⟨q5,q6,hr2,by omega⟩
      ·simp only[if_neg y41,jI,jC,jD,C.B_b,ja,jR,jV]
       refine ⟨_,a',true,rfl,by omega,q2,by omega,?_⟩
       cases hf:prs j 0 r with
       |none=>rfl
       |some p=>
        rw[hf] at q4
        obtain ⟨_,_,q7,_⟩:=q4
        obtain ⟨t,z⟩:=p
        simp only at q7
        rw[hd2] at q7
        subst q7
        simp only[if_neg y41]
    simp only[if_neg x40,jI,jC,jD,C.B_b,jS,tT hT hs a false ha,hd]
    cases hn:aS (mkS x) with
    |false=>
     simp only[Bool.false_eq_true,if_false,jI,jC,jD,C.B_b,jZ,jS,rows,jV]
     refine ⟨_,a,true,rfl,Nat.le_refl _,ha,by simp,?_⟩
     simp[prs,x33,x40,hn]
    |true=>
     simp only[if_true,jI,jC,jD,C.B_b,ja,jR,jw hT [61] (a+1) false (by omega),hr]
     cases r with
     |nil=>
      simp only[jI,jC,jD,C.B_b,jS,rows,eU,jV]
      refine ⟨_,a+1,false,rfl,by omega,by omega,by simp,?_⟩
      simp only[prs,if_neg x33,if_neg x40,hn,if_true]
      exact ⟨by simp,rfl,hr,by omega⟩
     |cons y r'=>
      obtain ⟨hi2,hx2,hr2⟩:=drop_cons hr
      by_cases y61:y=[61]
      ·simp only[if_pos y61,jI,jC,jD,C.B_b,jR,tT hT hs (a+1+1) false (by omega),hr2]
       cases r' with
       |nil=>
        simp only[jI,jC,jD,rows,jV]
        refine ⟨_,a+1+1,true,rfl,by omega,by omega,by simp,?_⟩
        simp[prs,x33,x40,hn,y61]
       |cons v r''=>
        obtain ⟨hi3,hx3,hr3⟩:=drop_cons hr2
        cases hv:aS (mkS v) with
        |false=>
         simp only[hv,Bool.false_eq_true,if_false,jI,jC,jD,rows,jV]
         refine ⟨_,a+1+1,true,rfl,by omega,by omega,by simp,?_⟩
         simp[prs,x33,x40,hn,y61,hv]
        |true=>
         simp only[hv,if_true,jI,jC,jD,rows,jV]
         refine ⟨_,a+1+1+1,false,rfl,by omega,by omega,by simp,?_⟩
         simp only[prs,if_neg x33,if_neg x40,hn,if_true,y61,hv]
         exact ⟨by simp,rfl,hr3,by omega⟩
      ·simp only[if_neg y61,jI,jC,jD,C.B_b,jS,rows,eU,jV]
       refine ⟨_,a+1,false,rfl,by omega,by omega,by simp,?_⟩
       simp only[prs,if_neg x33,if_neg x40,hn,if_true,if_neg y61]
       exact ⟨by simp,rfl,hr,by omega⟩
end
end Go.Ev
namespace Go.Ev
def sp (c:UInt8):Bool:=c==32
theorem sq:∀l:List UInt8,dm (l.dropWhile sp)=dm l
 |[]=>rfl
 |c::r=>by
  rw[List.dropWhile_cons]
  by_cases h:c=32
  ·subst h
   have:sp 32=true:=rfl
   rw[if_pos this,sq r]
   rw[dm.eq_2,if_pos rfl]
  ·have:sp c=false:=by simp[sp,h]
   rw[this];simp
theorem xf {l r:List UInt8} {c:UInt8} (h:l.dropWhile sp=c::r):c≠32:=by
 have:=List.head?_dropWhile_not sp l
 rw[h] at this
 simp[sp] at this
 exact this
section
variable {s:Str} (hl:s.size≤1048576)
include hl
theorem BE:∀(k i:Nat) (ok:Bool),s.data.toList.length-i≤k→i≤s.data.toList.length→
  lim (ap3 bB.d1) [.s s,.i i,.b ok]=some (.brk 0 [.s s,.i (i+((s.data.toList.drop i).takeWhile sp).length:Nat),.b ok])
 |k,i,ok,hk,hi=>by
  cases hd:s.data.toList.drop i with
  |nil=>
   have:s.data.toList.length≤i:=by simpa using hd
   have e:i=s.size:=by rw[da];omega
   refine aQ ?_
   simp[bB.d1,e]
  |cons c r=>
   obtain ⟨hi',hc,hr⟩:=drop_cons hd
   have his:i<s.size:=by rw[da];exact hi'
   obtain ⟨k,rfl⟩:∃k',k=k'+1:=⟨k-1,by omega⟩
   have hw:=w1 his (show s.size<big by simp only[big];omega)
   have e32:=bn c 32 32 rfl
   rw[List.takeWhile_cons]
   cases hs:sp c with
   |true=>
    have h:ap3 bB.d1 [.s s,.i i,.b ok]=some (.again [.s s,.i (i+1:Nat),.b ok]):=by
     simp only[sp] at hs
     simp only[apL,jC,jD,bB.d1,C.I_i,C.S_s,jY,dY hi',hc,e32,hs,hw]
     simp[his]
    rw[aG h,BE k (i+1) ok (by omega) (by omega),hr]
    simp only[if_true,List.length_cons]
    rw[show i+1+(List.takeWhile sp r).length=i+((List.takeWhile sp r).length+1) by omega]
   |false=>
    refine aQ ?_
    simp only[sp] at hs
    simp only[apL,jC,jD,bB.d1,C.I_i,C.S_s,jY,dY hi',hc,e32,hs]
    simp[his]
def gp (s:Str) (i:Nat):Nat:=i+((s.data.toList.drop i).takeWhile sp).length
omit hl in
theorem zj (i:Nat):s.data.toList.drop (gp s i)=(s.data.toList.drop i).dropWhile sp:=by
 rw[gp,←List.drop_drop,j8]
omit hl in
theorem Iv {i:Nat} (hi:i≤s.data.toList.length):gp s i≤s.data.toList.length:=by
 have:=qg sp (s.data.toList.drop i)
 rw[List.length_drop] at this
 unfold gp;omega
theorem Fe (i:Nat) (ok:Bool) (hi:i≤s.data.toList.length):bB [.s s,.i i,.b ok]=some [.s s,.i (gp s i:Nat),.b ok]:=by
 simp only[bB,bB.d3,apL,jC,jD,BE hl _ i ok (Nat.le_refl _) hi]
 simp[bB.d2,gp]
theorem tH (c:UInt8) (hc:dB c=false) (hc2:c≠32) (i:Nat) (ok:Bool) (hi:i≤s.data.toList.length):∃i',i'≤s.data.toList.length∧∃b,bh [.i (c.toNat:Nat),.s s,.i i,.b ok]=some [.b b,.s s,.i (i':Nat),.b ok]∧
  match dm (s.data.toList.drop i) with
  |[]=>b=false∧dm (s.data.toList.drop i')=[]
  |x::r=>if x=[c] then b=true∧dm (s.data.toList.drop i')=r else b=false∧dm (s.data.toList.drop i')=x::r:=by
 have hg:=zj (s:=s) i
 have hle:=Iv hi
 have hlex:=sq (s.data.toList.drop i)
 simp only[bh,bh.d1,apL,jC,jD,Fe hl i ok hi,call3,jI,C.I_i,C.S_s,jY]
 rw[←hlex]
 cases hd:(s.data.toList.drop i).dropWhile sp with
 |nil=>
  rw[hd] at hg
  have:s.data.toList.length≤gp s i:=by simpa using hg
  have e:gp s i=s.size:=by rw[da];omega
  refine ⟨gp s i,hle,false,by simp[e],?_⟩
  rw[hg]
  simp[dm]
 |cons x r=>
  rw[hd] at hg
  obtain ⟨hi',hx,hr⟩:=drop_cons hg
  have his:gp s i<s.size:=by rw[da];exact hi'
  have hw:=w1 his (show s.size<big by simp only[big];omega)
  have hne:=xf hd
  simp only[dY hi',hx,bn x c _ rfl,hw]
  by_cases he:x=c
  ·subst he
   refine ⟨gp s i+1,by omega,true,by simp[his],?_⟩
   rw[dm.eq_2,if_neg hne,if_neg (by rw[hc];simp),hr]
   simp
  ·have hb:(x==c)=false:=by rw[beq_eq_false_iff_ne];exact he
   refine ⟨gp s i,hle,false,by simp[his,hb],?_⟩
   rw[hg]
   have hneq:∀y r',dm (x::r)=y::r'→y≠[c]:=by
    intro y r' h1 h2
    subst h2
    rw[dm.eq_2,if_neg hne] at h1
    split at h1
    ·simp at h1;exact he h1.1.1
    ·simp at h1;exact he h1.1
   have hnn:dm (x::r)≠[]:=by
    rw[dm.eq_2,if_neg hne];split<;>simp
   cases hq:dm (x::r) with
   |nil=>exact absurd hq hnn
   |cons y r'=>
    simp only
    rw[if_neg (hneq y r' hq)]
    exact ⟨trivial,trivial⟩
theorem IA (o:Nat) (ok:Bool):∀(k i:Nat),s.data.toList.length-i≤k→i≤s.data.toList.length→
  lim (ap4 bj.d1) [.i o,.s s,.i i,.b ok]=some (.brk 0 [.i o,.s s,.i (i+((s.data.toList.drop i).takeWhile dB).length:Nat),.b ok])
 |k,i,hk,hi=>by
  cases hd:s.data.toList.drop i with
  |nil=>
   have:s.data.toList.length≤i:=by simpa using hd
   have e:i=s.size:=by rw[da];omega
   refine aQ ?_
   simp[bj.d1,e]
  |cons c r=>
   obtain ⟨hi',hc,hr⟩:=drop_cons hd
   have his:i<s.size:=by rw[da];exact hi'
   obtain ⟨k,rfl⟩:∃k',k=k'+1:=⟨k-1,by omega⟩
   have hw:=w1 his (show s.size<big by simp only[big];omega)
   rw[List.takeWhile_cons]
   cases hs:dB c with
   |true=>
    have h:ap4 bj.d1 [.i o,.s s,.i i,.b ok]=some (.again [.i o,.s s,.i (i+1:Nat),.b ok]):=by
     simp only[dB] at hs
     simp only[apL,jC,jD,bj.d1,C.I_i,C.S_s,jY,dY hi',hc,oi,hs,hw,ad]
     simp[his]
    rw[aG h,IA o ok k (i+1) (by omega) (by omega),hr]
    simp only[if_true,List.length_cons]
    rw[show i+1+(List.takeWhile dB r).length=i+((List.takeWhile dB r).length+1) by omega]
   |false=>
    refine aQ ?_
    simp only[dB] at hs
    simp only[apL,jC,jD,bj.d1,C.I_i,C.S_s,jY,dY hi',hc,oi,hs,ad]
    simp[his]
theorem Ct (i:Nat) (ok:Bool) (hi:i≤s.data.toList.length):∃i',i'≤s.data.toList.length∧∃z b,bj [.s s,.i i,.b ok]=some [.s z,.s s,.i (i':Nat),.b b]∧
  match dm (s.data.toList.drop i) with
  |[]=>b=false
  |x::r=>if aS (mkS x)=true then b=ok∧z=mkS x∧dm (s.data.toList.drop i')=r else b=false:=by
 have hg:=zj (s:=s) i
 have hle:=Iv hi
 have hlex:=sq (s.data.toList.drop i)
 have hrun:=IA hl (gp s i) ok _ (gp s i) (Nat.le_refl _) hle
 rw[hg] at hrun
 have hlen:=qg dB ((s.data.toList.drop i).dropWhile sp)
 rw[←hg,List.length_drop] at hlen
 rw[hg] at hlen
 have hext:s.extract (gp s i) (gp s i+(((s.data.toList.drop i).dropWhile sp).takeWhile dB).length)=mkS (((s.data.toList.drop i).dropWhile sp).takeWhile dB):=by
  rw[lb,sR,hg,pw]
 have hsz:(mkS (((s.data.toList.drop i).dropWhile sp).takeWhile dB)).size≤1048576:=by
  rw[nu];rw[da] at hl;omega
 have hres:bj [.s s,.i i,.b ok]=some [.s (mkS (((s.data.toList.drop i).dropWhile sp).takeWhile dB)),.s s,.i (gp s i+(((s.data.toList.drop i).dropWhile sp).takeWhile dB).length:Nat),.b (aS (mkS (((s.data.toList.drop i).dropWhile sp).takeWhile dB))&&ok)]:=by
  have e1:gp s i+(((s.data.toList.drop i).dropWhile sp).takeWhile dB).length≤s.size:=by rw[da];omega
  have e2:(gp s i:Int)≤((gp s i+(((s.data.toList.drop i).dropWhile sp).takeWhile dB).length:Nat):Int):=by omega
  have e3:((gp s i+(((s.data.toList.drop i).dropWhile sp).takeWhile dB).length:Nat):Int)≤(s.size:Int):=by omega
  simp only[bj,bj.d3,apL,jC,jD,Fe hl i ok hi,call3,jI,hrun,aC]
  simp only[bj.d2,C.I_i,C.S_s,jY,hext,jX,e2,e3,decide_true,jR,fO _ hsz,ad,jI,jC,C.B_b]
  cases aS (mkS (((s.data.toList.drop i).dropWhile sp).takeWhile dB))<;>rfl
 refine ⟨_,by omega,_,_,hres,?_⟩
 rw[←hlex,←List.drop_drop,hg,j8]
 have hnil:aS (mkS [])=false:=rfl
 cases hd:(s.data.toList.drop i).dropWhile sp with
 |nil=>simp[dm,hnil]
 |cons x r=>
  have hne:=xf hd
  rw[dm.eq_2,if_neg hne]
  cases hs:dB x with
  |true=>
   rw[if_pos rfl,List.takeWhile_cons,hs,List.dropWhile_cons,hs]
   simp only[if_true]
   cases aS (mkS (x::List.takeWhile dB r))<;>simp
  |false=>
   rw[if_neg (by simp),List.takeWhile_cons,hs]
   have h1:aS (mkS [x])=false:=by simp[aS,gF,hs]
   simp[h1,hnil]
end
end Go.Ev
