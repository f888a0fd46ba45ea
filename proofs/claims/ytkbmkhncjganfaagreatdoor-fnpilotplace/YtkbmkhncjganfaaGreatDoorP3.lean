/- Proved here: the law FnPilotPlaceCard of the given program answers true at every input, and leaves the input as it was; no condition. This text: lemmas on the way (an evaluator of the program's code, sound once for all; the functions it prints; plain proofs on these). -/
import Derived.Test.YtkbmkhncjganfaaGreatDoorP2
set_option linter.all false
set_option autoImplicit false
set_option maxRecDepth 100000
namespace Go.Ev
open Go.Proofs
noncomputable section
def aC.d1 (a b c d:C):R:=(bif (decide (c.I<(a.S.size:Int))) then (bif (decide (0≤c.I)) then (bif (decide (c.I<(a.S.size:Int))) then (aa (gV [.i ((a.S.data.getD c.I.toNat 0).toNat:Int)]) fun e=>(bif e.B then (some (.again [a,b,.i (w64 (c.I+1)),.l d.L])) else (some (.brk 2 [a,b,c,.l d.L])))) else none) else none) else (some (.brk 2 [a,b,c,.l d.L])))
def aC.d2 (a b c d e:C):R:=(bif d.B then (some (.ret [.b false,.l e.L])) else (bif (decide (0≤b.I)) then (bif (decide (b.I≤(w64 (c.I+1)))) then (bif (decide ((w64 (c.I+1))≤(a.S.size:Int))) then (bif (decide (e.L.length+(rows [[.s (a.S.extract b.I.toNat (w64 (c.I+1)).toNat)]]).length≤4294967296)) then (some (.brk 1 [a,.i (w64 (c.I+1)),.l (e.L++(rows [[.s (a.S.extract b.I.toNat (w64 (c.I+1)).toNat)]]))])) else none) else none) else none) else none))
def aC.d3 (a b c d:C):R:=(bif (c.I==b.I) then (bf (bif (decide (0≤b.I)) then (bif (decide (b.I<(a.S.size:Int))) then (bif (((a.S.data.getD b.I.toNat 0).toNat:Int) !=124) then (bif (decide (0≤b.I)) then (bif (decide (b.I<(a.S.size:Int))) then (bif (((a.S.data.getD b.I.toNat 0).toNat:Int) !=38) then (bif (decide (0≤b.I)) then (bif (decide (b.I<(a.S.size:Int))) then (bif (((a.S.data.getD b.I.toNat 0).toNat:Int) !=33) then (bif (decide (0≤b.I)) then (bif (decide (b.I<(a.S.size:Int))) then (bif (((a.S.data.getD b.I.toNat 0).toNat:Int) !=40) then (bif (decide (0≤b.I)) then (bif (decide (b.I<(a.S.size:Int))) then (bif (((a.S.data.getD b.I.toNat 0).toNat:Int) !=41) then (bif (decide (0≤b.I)) then (bif (decide (b.I<(a.S.size:Int))) then (some (.nrm [a,b,c,.b (((a.S.data.getD b.I.toNat 0).toNat:Int) !=61),.l d.L])) else none) else none) else (some (.nrm [a,b,c,.b false,.l d.L]))) else none) else none) else (some (.nrm [a,b,c,.b false,.l d.L]))) else none) else none) else (some (.nrm [a,b,c,.b false,.l d.L]))) else none) else none) else (some (.nrm [a,b,c,.b false,.l d.L]))) else none) else none) else (some (.nrm [a,b,c,.b false,.l d.L]))) else none) else none) (ap5 aC.d2)) else (bif (decide (0≤b.I)) then (bif (decide (b.I≤c.I)) then (bif (decide (c.I≤(a.S.size:Int))) then (bif (decide (d.L.length+(rows [[.s (a.S.extract b.I.toNat c.I.toNat)]]).length≤4294967296)) then (some (.brk 1 [a,c,.l (d.L++(rows [[.s (a.S.extract b.I.toNat c.I.toNat)]]))])) else none) else none) else none) else none))
def aC.d4 (a b c:C):R:=(some (.again [a,b,.l c.L]))
def aC.d5 (a b c:C):R:=(bif (decide (b.I<(a.S.size:Int))) then (ah 1 (bif (decide (0≤b.I)) then (bif (decide (b.I<(a.S.size:Int))) then (bif (((a.S.data.getD b.I.toNat 0).toNat:Int)==32) then (some (.brk 1 [a,.i (w64 (b.I+1)),.l c.L])) else (ah 2 (lim (ap4 aC.d1) [a,b,b,.l c.L]) (ap4 aC.d3))) else none) else none) (ap3 aC.d4)) else (some (.brk 0 [.l c.L])))
def aC.d6 (a:C):R:=(some (.ret [.b true,.l a.L]))
def aC.d7 (a:C):R:=(ah 0 (lim (ap3 aC.d5) [a,.i 0,.l ao]) (ap1 aC.d6))
def aC:List C→Option (List C):=fun xs=>aV (ap1 aC.d7 xs)
def mE:FS:=⟨1,⟨[(0,zt)],[]⟩,⟨[(0,(.tu [(.ow 3000),zo]))],[(3000,.arr 9 1)]⟩,[],aC⟩
theorem ye:aB Tryz.checked.prog T0 165 mE:=bA aE (fn:=Tryz.f165) (c:=Tryz.f165.body.getD .skip) mE (.seq .leaf (.seq .leaf (.seq (.seq .leaf (.block ⟨[(4,(.ow 7))],[(7,.arr 9 1)]⟩ (.loop ⟨[(0,zt),(4,(.ow 7)),(5,zi)],[(7,.arr 9 1)]⟩ (.seq .leaf (.block ⟨[(0,zt),(4,(.ow 7)),(5,zi)],[(7,.arr 9 1)]⟩ (.seq .leaf (.seq .leaf (.seq (.block ⟨[(0,zt),(4,(.ow 7)),(5,zi),(6,zi)],[(7,.arr 9 1)]⟩ (.loop ⟨[(0,zt),(4,(.ow 7)),(5,zi),(6,zi)],[(7,.arr 9 1)]⟩ .leaf)) (.seq (.seq .leaf (.cond (.seq (.seq (.join ⟨[(0,zt),(4,(.ow 7)),(5,zi),(6,zi),(67,zo)],[(7,.arr 9 1)]⟩ .leaf) .leaf) .leaf) .leaf)) .leaf))))))))) .leaf))) [(108,some 27,j7)] (.cons qT .nil) (by kernel_rfl) (by kernel_rfl) (by kernel_rfl) (fun xs=>by kernel_rfl)
def gC.d1 (a b:C):R:=(bif a.isP then (bif a.isP then (bif (decide ((a.P.getD 1 .nil).I<(((a.P.getD 0 .nil).L).length:Int))) then (bif a.isP then (bif a.isP then (bif (decide (0≤(a.P.getD 1 .nil).I)) then (bif (decide ((a.P.getD 1 .nil).I<(((a.P.getD 0 .nil).L).length:Int))) then (some (.ret [.b ((((((a.P.getD 0 .nil).L).getD ((a.P.getD 1 .nil).I).toNat []).getD 0 .nil).S).toList==b.S.toList)])) else none) else none) else none) else none) else (some (.ret [.b false]))) else none) else none)
def gC:List C→Option (List C):=fun xs=>aV (ap2 gC.d1 xs)
def j5:FS:=⟨2,⟨[(0,(.d (.pt 187))),(1,zt)],[]⟩,⟨[(0,zo)],[]⟩,[],gC⟩
theorem tD:aB Tryz.checked.prog T0 214 j5:=bA aE (fn:=Tryz.f214) (c:=Tryz.f214.body.getD .skip) j5 .leaf [] .nil (by kernel_rfl) (by kernel_rfl) (by kernel_rfl) (fun xs=>by kernel_rfl)
def bK.d1 (a b c d:C):R:=(aa (gC [.p [b,c,d],a]) fun e=>(bif e.B then (some (.ret [.b true,b,.i (w64 (c.I+1)),d])) else (some (.ret [.b false,b,c,d]))))
def bK:List C→Option (List C):=fun xs=>aV (ap4 bK.d1 xs)
def du:FS:=⟨2,⟨[(0,(.pt 2000 0)),(1,zt)],[(2000,.var 187 [(zl 9),zi,zo])]⟩,⟨[(0,zo)],[(2000,.var 187 [(zl 9),zi,zo])]⟩,[2000],bK⟩
theorem eD:aB Tryz.checked.prog T0 191 du:=bA aE (fn:=Tryz.f191) (c:=Tryz.f191.body.getD .skip) du .leaf [(214,some 7,j5)] (.cons tD .nil) (by kernel_rfl) (by kernel_rfl) (by kernel_rfl) (fun xs=>by kernel_rfl)
def eo.d1 (a b c:C):R:=(bif (!(decide (b.I≥(a.L.length:Int)))) then (bif (decide (0≤b.I)) then (bif (decide (b.I<(a.L.length:Int))) then (aa (bc [((a.L.getD b.I.toNat []).getD 0 .nil)]) fun d=>(bif (!d.B) then (some (.ret [.s (bs #[]),a,b,.b true])) else (bif (decide (0≤(w64 ((w64 (b.I+1))-1)))) then (bif (decide ((w64 ((w64 (b.I+1))-1))<(a.L.length:Int))) then (some (.ret [((a.L.getD (w64 ((w64 (b.I+1))-1)).toNat []).getD 0 .nil),a,.i (w64 (b.I+1)),c])) else none) else none))) else none) else none) else (some (.ret [.s (bs #[]),a,b,.b true])))
def eo:List C→Option (List C):=fun xs=>aV (ap3 eo.d1 xs)
def gj:FS:=⟨1,⟨[(0,(.pt 2000 0))],[(2000,.var 187 [(zl 9),zi,zo])]⟩,⟨[(0,zt)],[(2000,.var 187 [(zl 9),zi,zo])]⟩,[2000],eo⟩
theorem lQ:aB Tryz.checked.prog T0 228 gj:=bA aE (fn:=Tryz.f228) (c:=Tryz.f228.body.getD .skip) gj .leaf [(58,some 24,cg)] (.cons cR .nil) (by kernel_rfl) (by kernel_rfl) (by kernel_rfl) (fun xs=>by kernel_rfl)
def aj.d1 (G0 G1 G2:List C→Option (List C)) (a b c d:C):R:=(bif (!d.B) then (call4 (bK [.s (bs #[124]),b,c,d]) fun e f g h=>(bif e.B then (call4 (G1 [f,g,h]) fun i j k l=>(call2 (bD [.i 5,.i 2,.l (rows [[a],[i]])]) fun m n=>(some (.again [.l n.L,j,k,l])))) else (some (.brk 0 [a,f,g,h])))) else (some (.brk 0 [a,b,c,d])))
def aj.d2 (G0 G1 G2:List C→Option (List C)) (a b c d:C):R:=(some (.ret [a,b,c,d]))
def aj.d3 (G0 G1 G2:List C→Option (List C)) (a b c:C):R:=(call4 (G1 [a,b,c]) fun d e f g=>(ah 0 (lim (ap4 (aj.d1 G0 G1 G2)) [d,e,f,g]) (ap4 (aj.d2 G0 G1 G2))))
def aj.step (G0 G1 G2:List C→Option (List C)):List C→Option (List C):=fun xs=>aV (ap3 (aj.d3 G0 G1 G2) xs)
def dA (G:List C→Option (List C)):FS:=⟨1,⟨[(0,(.pt 2000 0))],[(2000,.var 187 [(.d (.sl 9)),(.d (.int .i64)),(.d .bool)])]⟩,⟨[(0,(.d (.sl 184)))],[(2000,.var 187 [(.d (.sl 9)),(.d (.int .i64)),(.d .bool)])]⟩,[2000],G⟩
def cQ.d1 (G0 G1 G2:List C→Option (List C)) (a b c d:C):R:=(bif (!d.B) then (call4 (bK [.s (bs #[38]),b,c,d]) fun e f g h=>(bif e.B then (call4 (G2 [f,g,h]) fun i j k l=>(call2 (bD [.i 4,.i 2,.l (rows [[a],[i]])]) fun m n=>(some (.again [.l n.L,j,k,l])))) else (some (.brk 0 [a,f,g,h])))) else (some (.brk 0 [a,b,c,d])))
def cQ.d2 (G0 G1 G2:List C→Option (List C)) (a b c d:C):R:=(some (.ret [a,b,c,d]))
def cQ.d3 (G0 G1 G2:List C→Option (List C)) (a b c:C):R:=(call4 (G2 [a,b,c]) fun d e f g=>(ah 0 (lim (ap4 (cQ.d1 G0 G1 G2)) [d,e,f,g]) (ap4 (cQ.d2 G0 G1 G2))))
def cQ.step (G0 G1 G2:List C→Option (List C)):List C→Option (List C):=fun xs=>aV (ap3 (cQ.d3 G0 G1 G2) xs)
def dJ (G:List C→Option (List C)):FS:=⟨1,⟨[(0,(.pt 2000 0))],[(2000,.var 187 [(.d (.sl 9)),(.d (.int .i64)),(.d .bool)])]⟩,⟨[(0,(.d (.sl 184)))],[(2000,.var 187 [(.d (.sl 9)),(.d (.int .i64)),(.d .bool)])]⟩,[2000],G⟩
def eJ.d1 (G0 G1 G2:List C→Option (List C)) (a b c:C):R:=(bif c.B then (some (.ret [.l ao,a,b,c])) else (call4 (bK [.s (bs #[33]),a,b,c]) fun d e f g=>(bif d.B then (call4 (G2 [e,f,g]) fun h i j k=>(call2 (bD [.i 3,.i 1,.l (rows [[h]])]) fun l m=>(some (.ret [.l m.L,i,j,k])))) else (call4 (bK [.s (bs #[40]),e,f,g]) fun n o p q=>(bif n.B then (call4 (G0 [o,p,q]) fun r s t u=>(call4 (bK [.s (bs #[41]),s,t,u]) fun v w x y=>(bif (!v.B) then (some (.ret [r,w,x,.b true])) else (some (.ret [r,w,x,y]))))) else (call4 (eo [o,p,q]) fun z a0 a1 a2=>(bif (!a2.B) then (call4 (bK [.s (bs #[61]),a0,a1,a2]) fun a3 a4 a5 a6=>(bif a3.B then (call4 (eo [a4,a5,a6]) fun a7 a8 a9 b0=>(some (.ret [.l (rows [[.i 2,z,a7,.i 0]]),a8,a9,b0]))) else (some (.ret [.l (rows [[.i 1,z,.s (bs #[]),.i 0]]),a4,a5,a6])))) else (some (.ret [.l (rows [[.i 1,z,.s (bs #[]),.i 0]]),a0,a1,a2])))))))))
def eJ.step (G0 G1 G2:List C→Option (List C)):List C→Option (List C):=fun xs=>aV (ap3 (eJ.d1 G0 G1 G2) xs)
def da (G:List C→Option (List C)):FS:=⟨1,⟨[(0,(.pt 2000 0))],[(2000,.var 187 [(.d (.sl 9)),(.d (.int .i64)),(.d .bool)])]⟩,⟨[(0,(.d (.sl 184)))],[(2000,.var 187 [(.d (.sl 9)),(.d (.int .i64)),(.d .bool)])]⟩,[2000],G⟩
theorem tb {G0 G1 G2:List C→Option (List C)} (h0:aB Tryz.checked.prog T0 166 (dA G0)) (h1:aB Tryz.checked.prog T0 190 (dJ G1)) (h2:aB Tryz.checked.prog T0 213 (da G2)):aB Tryz.checked.prog T0 166 (dA (aj.step G0 G1 G2)):=bA aE (fn:=Tryz.f166) (c:=Tryz.f166.body.getD .skip) (dA (aj.step G0 G1 G2)) (.seq .leaf (.seq .leaf (.seq (.block ⟨[(3,(.d (.sl 184)))],[(2000,.var 187 [(.d (.sl 9)),(.d (.int .i64)),(.d .bool)])]⟩ (.loop ⟨[(0,(.pt 2000 0)),(3,(.d (.sl 184)))],[(2000,.var 187 [(.d (.sl 9)),(.d (.int .i64)),(.d .bool)])]⟩ .leaf)) .leaf))) [(190,some 5,(dJ G1)),(190,some 17,(dJ G1)),(191,some 13,du),(192,some 19,ff)] (.cons h1 (.cons h1 (.cons eD (.cons gW .nil)))) (by kernel_rfl) (by kernel_rfl) (by kernel_rfl) (fun xs=>by kernel_rfl)
theorem sa {G0 G1 G2:List C→Option (List C)} (h0:aB Tryz.checked.prog T0 166 (dA G0)) (h1:aB Tryz.checked.prog T0 190 (dJ G1)) (h2:aB Tryz.checked.prog T0 213 (da G2)):aB Tryz.checked.prog T0 190 (dJ (cQ.step G0 G1 G2)):=bA aE (fn:=Tryz.f190) (c:=Tryz.f190.body.getD .skip) (dJ (cQ.step G0 G1 G2)) (.seq .leaf (.seq .leaf (.seq (.block ⟨[(3,(.d (.sl 184)))],[(2000,.var 187 [(.d (.sl 9)),(.d (.int .i64)),(.d .bool)])]⟩ (.loop ⟨[(0,(.pt 2000 0)),(3,(.d (.sl 184)))],[(2000,.var 187 [(.d (.sl 9)),(.d (.int .i64)),(.d .bool)])]⟩ .leaf)) .leaf))) [(191,some 13,du),(192,some 19,ff),(213,some 5,(da G2)),(213,some 17,(da G2))] (.cons eD (.cons gW (.cons h2 (.cons h2 .nil)))) (by kernel_rfl) (by kernel_rfl) (by kernel_rfl) (fun xs=>by kernel_rfl)
theorem sF {G0 G1 G2:List C→Option (List C)} (h0:aB Tryz.checked.prog T0 166 (dA G0)) (h1:aB Tryz.checked.prog T0 190 (dJ G1)) (h2:aB Tryz.checked.prog T0 213 (da G2)):aB Tryz.checked.prog T0 213 (da (eJ.step G0 G1 G2)):=bA aE (fn:=Tryz.f213) (c:=Tryz.f213.body.getD .skip) (da (eJ.step G0 G1 G2)) (.seq .leaf (.seq (.seq .leaf (.cond (.seq .leaf (.frz [9] .leaf)) .leaf)) (.seq (.seq .leaf (.cond (.seq .leaf (.frz [68537] .leaf)) .leaf)) (.seq .leaf (.seq .leaf (.seq .leaf (.seq .leaf (.frz [44] .leaf)))))))) [(166,some 19,(dA G0)),(191,some 11,du),(191,some 17,du),(191,some 21,du),(191,some 37,du),(192,some 15,ff),(213,some 13,(da G2)),(228,some 28,gj),(228,some 41,gj)] (.cons h0 (.cons eD (.cons eD (.cons eD (.cons eD (.cons gW (.cons h2 (.cons lQ (.cons lQ .nil))))))))) (by kernel_rfl) (by kernel_rfl) (by kernel_rfl) (fun xs=>by kernel_rfl)
def aj.g:Nat→Nat→List C→Option (List C)
 |0,_=>fun _=>none
 |k+1,0=>aj.step (aj.g k 0) (aj.g k 1) (aj.g k 2)
 |k+1,1=>cQ.step (aj.g k 0) (aj.g k 1) (aj.g k 2)
 |k+1,2=>eJ.step (aj.g k 0) (aj.g k 1) (aj.g k 2)
 |_,_=>fun _=>none
theorem cB:∀k:Nat,aB Tryz.checked.prog T0 166 (dA (aj.g k 0))∧aB Tryz.checked.prog T0 190 (dJ (aj.g k 1))∧aB Tryz.checked.prog T0 213 (da (aj.g k 2))
 |0=>⟨jP (fn:=Tryz.f166) (c:=Tryz.f166.body.getD .skip) (1) (⟨[(0,(.pt 2000 0))],[(2000,.var 187 [(.d (.sl 9)),(.d (.int .i64)),(.d .bool)])]⟩) (⟨[(0,(.d (.sl 184)))],[(2000,.var 187 [(.d (.sl 9)),(.d (.int .i64)),(.d .bool)])]⟩) [2000] (by kernel_rfl) (by kernel_rfl) (by kernel_rfl),jP (fn:=Tryz.f190) (c:=Tryz.f190.body.getD .skip) (1) (⟨[(0,(.pt 2000 0))],[(2000,.var 187 [(.d (.sl 9)),(.d (.int .i64)),(.d .bool)])]⟩) (⟨[(0,(.d (.sl 184)))],[(2000,.var 187 [(.d (.sl 9)),(.d (.int .i64)),(.d .bool)])]⟩) [2000] (by kernel_rfl) (by kernel_rfl) (by kernel_rfl),jP (fn:=Tryz.f213) (c:=Tryz.f213.body.getD .skip) (1) (⟨[(0,(.pt 2000 0))],[(2000,.var 187 [(.d (.sl 9)),(.d (.int .i64)),(.d .bool)])]⟩) (⟨[(0,(.d (.sl 184)))],[(2000,.var 187 [(.d (.sl 9)),(.d (.int .i64)),(.d .bool)])]⟩) [2000] (by kernel_rfl) (by kernel_rfl) (by kernel_rfl)⟩
 |k+1=>⟨tb (cB k).1 (cB k).2.1 (cB k).2.2,sa (cB k).1 (cB k).2.1 (cB k).2.2,sF (cB k).1 (cB k).2.1 (cB k).2.2⟩
def aj:List C→Option (List C):=aj.g ie 0
theorem ue:aB Tryz.checked.prog T0 166 (dA aj):=(cB ie).1
def cQ:List C→Option (List C):=aj.g ie 1
def eJ:List C→Option (List C):=aj.g ie 2
def fC.d1 (a:C):R:=(bif (decide ((a.S.size:Int)>200)) then (some (.ret [.l ao,.i 1])) else (call2 (aC [a]) fun b c=>(bif (!b.B) then (some (.ret [.l ao,.i 2])) else (bif ((c.L.length:Int)==0) then (some (.ret [.l (rows [[.i 0,.s (bs #[]),.s (bs #[]),.i 0]]),.i 0])) else (call4 (aj [.l c.L,.i 0,.b false]) fun d e f g=>(bif (!g.B) then (bif (decide (f.I<(c.L.length:Int))) then (some (.ret [.l ao,.i 2])) else (aa (fu [d]) fun h=>(bif (!h.B) then (some (.ret [.l ao,.i 3])) else (some (.ret [d,.i 0]))))) else (some (.ret [.l ao,.i 2]))))))))
def fC:List C→Option (List C):=fun xs=>aV (ap1 fC.d1 xs)
def iC:FS:=⟨1,⟨[(0,zt)],[]⟩,⟨[(0,(.tu [(.ag [(zl 184)]),zi]))],[]⟩,[],fC⟩
theorem oO:aB Tryz.checked.prog T0 136 iC:=bA aE (fn:=Tryz.f136) (c:=Tryz.f136.body.getD .skip) iC (.seq .leaf (.seq .leaf (.seq .leaf (.seq .leaf (.seq (.seq .leaf (.cond (.seq .leaf (.frz [24] .leaf)) .leaf)) (.seq .leaf (.seq (.frz [64440] .leaf) .leaf))))))) [(165,some 14,mE),(166,some 30,(dA aj)),(167,some 47,ji)] (.cons ye (.cons ue (.cons nQ .nil))) (by kernel_rfl) (by kernel_rfl) (by kernel_rfl) (fun xs=>by kernel_rfl)
def fB.d1 (a:C):R:=(call2 (fC [a]) fun b c=>(some (.ret [.b (c.I==0)])))
def fB:List C→Option (List C):=fun xs=>aV (ap1 fB.d1 xs)
def iE:FS:=⟨1,⟨[(0,zt)],[]⟩,⟨[(0,zo)],[]⟩,[],fB⟩
theorem oK:aB Tryz.checked.prog T0 109 iE:=bA aE (fn:=Tryz.f109) (c:=Tryz.f109.body.getD .skip) iE .leaf [(136,some 7,iC)] (.cons oO .nil) (by kernel_rfl) (by kernel_rfl) (by kernel_rfl) (fun xs=>by kernel_rfl)
def bQ.d1 (a b c d e f g h i j k l m:C):R:=(bif (decide (a.I<(i.L.length:Int))) then (bif (decide (0≤a.I)) then (bif (decide (a.I<(i.L.length:Int))) then (aa (fB [((i.L.getD a.I.toNat []).getD 0 .nil)]) fun n=>(bif (!(!n.B)) then (bif (decide (0≤a.I)) then (bif (decide (a.I<(i.L.length:Int))) then (aa (gk [((i.L.getD a.I.toNat []).getD 1 .nil),.i (-9),.i 9]) fun o=>(bif (!o.B) then (some (.ret [.b false])) else (some (.again [.i (w64 (a.I+1)),b,c,d,e,f,g,h,i,j,k,l,m])))) else none) else none) else (some (.ret [.b false])))) else none) else none) else (some (.brk 0 [])))
def bQ.d2:R:=(some (.ret [.b true]))
def bQ.d3 (a b c d e f g h i j k l m:C):R:=(bif a.B then (some (.ret [.b false])) else (ah 0 (lim (oU bQ.d1) [.i 0,b,c,d,e,f,g,h,i,j,k,l,m]) (fun xs=>bQ.d2)))
def bQ.d4 (a b c d e f g h i j k l:C):R:=(aa (bc [a]) fun m=>(bif (!(!m.B)) then (aa (bc [b]) fun n=>(bif (!(!n.B)) then (aa (gk [c,.i 0,.i 100]) fun o=>(bif (!(!o.B)) then (aa (gk [d,.i 0,.i 1000000]) fun p=>(bif (!(!p.B)) then (aa (gk [e,.i 0,.i 1000]) fun q=>(bif (!(!q.B)) then (aa (gk [f,.i 0,.i 1000]) fun r=>(bif (!r.B) then (some (.ret [.b false])) else (bf (aa (fB [g]) fun s=>(bif (!(!s.B)) then (bif (!(decide ((h.L.length:Int)>5))) then (aa (gk [i,.i 0,.i 2]) fun t=>(bif (!(!t.B)) then (bif (!(j.S.toList==(bs #[]).toList)) then (aa (bc [j]) fun u=>(bif (!(!u.B)) then (bif (!(k.S.toList==(bs #[]).toList)) then (aa (bc [k]) fun v=>(some (.nrm [.b (!v.B),a,b,c,d,e,f,g,h,i,j,k,l]))) else (some (.nrm [.b false,a,b,c,d,e,f,g,h,i,j,k,l]))) else (some (.nrm [.b true,a,b,c,d,e,f,g,h,i,j,k,l])))) else (bif (!(k.S.toList==(bs #[]).toList)) then (aa (bc [k]) fun w=>(some (.nrm [.b (!w.B),a,b,c,d,e,f,g,h,i,j,k,l]))) else (some (.nrm [.b false,a,b,c,d,e,f,g,h,i,j,k,l])))) else (some (.nrm [.b true,a,b,c,d,e,f,g,h,i,j,k,l])))) else (some (.nrm [.b true,a,b,c,d,e,f,g,h,i,j,k,l]))) else (some (.nrm [.b true,a,b,c,d,e,f,g,h,i,j,k,l])))) (oU bQ.d3)))) else (some (.ret [.b false])))) else (some (.ret [.b false])))) else (some (.ret [.b false])))) else (some (.ret [.b false])))) else (some (.ret [.b false]))))
def bQ:List C→Option (List C):=fun xs=>aV (js bQ.d4 xs)
def mO:FS:=⟨1,⟨[(0,z3)],[]⟩,⟨[(0,zo)],[]⟩,[],bQ⟩
theorem ya:aB Tryz.checked.prog T0 60 mO:=bA aE (fn:=Tryz.f60) (c:=Tryz.f60.body.getD .skip) mO (.seq .leaf (.seq .leaf (.seq (.seq (.join ⟨[(1,(.pt 1 0)),(75,zo)],[(1,z1)]⟩ .leaf) .leaf) (.seq (.seq .leaf (.block ⟨[],[]⟩ (.loop ⟨[(1,(.pt 1 0)),(3,zi)],[(1,z1)]⟩ .leaf))) .leaf)))) [(58,some 6,cg),(58,some 11,cg),(58,some 61,cg),(58,some 72,cg),(59,some 17,eQ),(59,some 23,eQ),(59,some 29,eQ),(59,some 35,eQ),(59,some 51,eQ),(59,some 98,eQ),(109,some 40,iE),(109,some 89,iE)] (.cons cR (.cons cR (.cons cR (.cons cR (.cons fA (.cons fA (.cons fA (.cons fA (.cons fA (.cons fA (.cons oK (.cons oK .nil)))))))))))) (by kernel_rfl) (by kernel_rfl) (by kernel_rfl) (fun xs=>by kernel_rfl)
def cW.d1 (a b c d e f:C):R:=(bif (decide (b.I<(e.L.length:Int))) then (bif (decide (0≤b.I)) then (bif (decide (b.I<(e.L.length:Int))) then (bif ((((e.L.getD b.I.toNat []).getD 0 .nil).S).toList==a.S.toList) then (some (.ret [b])) else (some (.again [a,.i (w64 (b.I+1)),c,d,e,f]))) else none) else none) else (some (.brk 0 [])))
def cW.d2:R:=(some (.ret [.i (-1)]))
def cW.d3 (a b c d e:C):R:=(ah 0 (lim (ap6 cW.d1) [e,.i 0,a,b,c,d]) (fun xs=>cW.d2))
def cW:List C→Option (List C):=fun xs=>aV (ap5 cW.d3 xs)
def lB:FS:=⟨2,⟨[(0,z2),(1,zt)],[]⟩,⟨[(0,zi)],[]⟩,[],cW⟩
theorem wP:aB Tryz.checked.prog T0 61 lB:=bA aE (fn:=Tryz.f61) (c:=Tryz.f61.body.getD .skip) lB (.seq .leaf (.seq (.seq .leaf (.block ⟨[],[]⟩ (.loop ⟨[(1,zt),(2,(.pt 2 0)),(5,zi)],[(2,z0)]⟩ .leaf))) .leaf)) [] .nil (by kernel_rfl) (by kernel_rfl) (by kernel_rfl) (fun xs=>by kernel_rfl)
def dg.d1 (a b c d e f:C):R:=(bif (decide (b.I<(d.L.length:Int))) then (bif (decide (0≤b.I)) then (bif (decide (b.I<(d.L.length:Int))) then (bif ((((d.L.getD b.I.toNat []).getD 0 .nil).S).toList==a.S.toList) then (some (.ret [b])) else (some (.again [a,.i (w64 (b.I+1)),c,d,e,f]))) else none) else none) else (some (.brk 0 [])))
def dg.d2:R:=(some (.ret [.i (-1)]))
def dg.d3 (a b c d e:C):R:=(ah 0 (lim (ap6 dg.d1) [e,.i 0,a,b,c,d]) (fun xs=>dg.d2))
def dg:List C→Option (List C):=fun xs=>aV (ap5 dg.d3 xs)
def gu:FS:=⟨2,⟨[(0,z2),(1,zt)],[]⟩,⟨[(0,zi)],[]⟩,[],dg⟩
theorem je:aB Tryz.checked.prog T0 56 gu:=bA aE (fn:=Tryz.f56) (c:=Tryz.f56.body.getD .skip) gu (.seq .leaf (.seq (.seq .leaf (.block ⟨[],[]⟩ (.loop ⟨[(1,zt),(2,(.pt 2 0)),(5,zi)],[(2,z0)]⟩ .leaf))) .leaf)) [] .nil (by kernel_rfl) (by kernel_rfl) (by kernel_rfl) (fun xs=>by kernel_rfl)
def bF.d1 (a b c d e f g h i:C):R:=(bif e.B then (bif (decide (0≤d.I)) then (bif (decide (d.I<(i.L.length:Int))) then (bif (decide (0≤d.I)) then (bif (decide (d.I<(i.L.length:Int))) then (some (.again [a,.i (w64 (b.I+((i.L.getD d.I.toNat []).getD 4 .nil).I)),.i (w64 (c.I+((i.L.getD d.I.toNat []).getD 5 .nil).I)),.i (w64 (d.I+1)),f,g,h,i])) else none) else none) else none) else none) else (some (.again [a,b,c,.i (w64 (d.I+1)),f,g,h,i])))
def bF.d2 (a b c d e f g h:C):R:=(bif (decide (d.I<(h.L.length:Int))) then (bf (bif (!(a.S.toList==(bs #[]).toList)) then (bif (decide (0≤d.I)) then (bif (decide (d.I<(h.L.length:Int))) then (some (.nrm [a,b,c,d,.b ((((h.L.getD d.I.toNat []).getD 11 .nil).S).toList==a.S.toList),e,f,g,h])) else none) else none) else (some (.nrm [a,b,c,d,.b false,e,f,g,h]))) (ap9 bF.d1)) else (some (.brk 0 [b,c])))
def bF.d3 (a b:C):R:=(some (.ret [a,b]))
def bF.d4 (a b c d e:C):R:=(aa (dg [a,b,c,d,e]) fun f=>(bif (decide (f.I<0)) then (some (.ret [.i 0,.i 0])) else (ah 0 (lim (ap8 bF.d2) [e,.i 0,.i 0,.i 0,a,b,c,d]) (ap2 bF.d3))))
def bF:List C→Option (List C):=fun xs=>aV (ap5 bF.d4 xs)
def l5:FS:=⟨2,⟨[(0,z2),(1,zt)],[]⟩,⟨[(0,(.tu [zi,zi]))],[]⟩,[],bF⟩
theorem wY:aB Tryz.checked.prog T0 62 l5:=bA aE (fn:=Tryz.f62) (c:=Tryz.f62.body.getD .skip) l5 (.seq .leaf (.seq .leaf (.seq .leaf (.seq .leaf (.seq (.seq .leaf (.block ⟨[(6,zi),(7,zi)],[]⟩ (.loop ⟨[(1,zt),(2,(.pt 2 0)),(6,zi),(7,zi),(8,zi)],[(2,z0)]⟩ (.seq .leaf (.seq (.skip (.seq (.join ⟨[(1,zt),(2,(.pt 2 0)),(6,zi),(7,zi),(8,zi),(31,zo)],[(2,z0)]⟩ .leaf) .leaf)) .leaf))))) .leaf))))) [(56,some 11,gu)] (.cons je .nil) (by kernel_rfl) (by kernel_rfl) (by kernel_rfl) (fun xs=>by kernel_rfl)
def dM.d1 (a b:C):R:=(bif (decide (b.I<(a.S.size:Int))) then (bif (decide (0≤b.I)) then (bif (decide (b.I<(a.S.size:Int))) then (bif (((a.S.data.getD b.I.toNat 0).toNat:Int)==61) then (bif (decide (0≤b.I)) then (bif (decide (b.I≤(a.S.size:Int))) then (bif (decide (0≤(w64 (b.I+1)))) then (bif (decide ((w64 (b.I+1))≤(a.S.size:Int))) then (bif (decide ((a.S.size:Int)≤(a.S.size:Int))) then (bif (decide (0≤b.I)) then (bif (decide (b.I≤(a.S.size:Int))) then (aa (bc [.s (a.S.extract 0 b.I.toNat)]) fun c=>(bif c.B then (bif (decide (0≤(w64 (b.I+1)))) then (bif (decide ((w64 (b.I+1))≤(a.S.size:Int))) then (bif (decide ((a.S.size:Int)≤(a.S.size:Int))) then (aa (bc [.s (a.S.extract (w64 (b.I+1)).toNat (a.S.size:Int).toNat)]) fun d=>(some (.ret [.s (a.S.extract 0 b.I.toNat),.s (a.S.extract (w64 (b.I+1)).toNat (a.S.size:Int).toNat),.b d.B]))) else none) else none) else none) else (some (.ret [.s (a.S.extract 0 b.I.toNat),.s (a.S.extract (w64 (b.I+1)).toNat (a.S.size:Int).toNat),.b false])))) else none) else none) else none) else none) else none) else none) else none) else (some (.again [a,.i (w64 (b.I+1))]))) else none) else none) else (some (.brk 0 [a])))
def dM.d2 (a:C):R:=(aa (bc [a]) fun b=>(some (.ret [a,.s (bs #[]),.b b.B])))
def dM.d3 (a:C):R:=(ah 0 (lim (ap2 dM.d1) [a,.i 0]) (ap1 dM.d2))
def dM:List C→Option (List C):=fun xs=>aV (ap1 dM.d3 xs)
def kv:FS:=⟨1,⟨[(0,zt)],[]⟩,⟨[(0,(.tu [zt,zt,zo]))],[]⟩,[],dM⟩
theorem qc:aB Tryz.checked.prog T0 139 kv:=bA aE (fn:=Tryz.f139) (c:=Tryz.f139.body.getD .skip) kv (.seq .leaf (.seq (.seq .leaf (.block ⟨[(0,zt)],[]⟩ (.loop ⟨[(0,zt),(5,zi)],[]⟩ .leaf))) .leaf)) [(58,some 26,cg),(58,some 32,cg),(58,some 36,cg)] (.cons cR (.cons cR (.cons cR .nil))) (by kernel_rfl) (by kernel_rfl) (by kernel_rfl) (fun xs=>by kernel_rfl)
def bd.d1 (a b c d:C):R:=(bif (decide (d.I<b.I)) then (bif (decide (0≤d.I)) then (bif (decide (d.I<(a.L.length:Int))) then (call3 (dM [((a.L.getD d.I.toNat []).getD 0 .nil)]) fun e f g=>(bif (e.S.toList==c.S.toList) then (some (.ret [.b false])) else (some (.again [a,b,c,.i (w64 (d.I+1))])))) else none) else none) else (some (.brk 2 [a,b,c])))
def bd.d2 (a b c:C):R:=(some (.again [a,c,.i (w64 (b.I+1))]))
def bd.d3 (a b c:C):R:=(ah 2 (lim (ap4 bd.d1) [a,b,c,.i 0]) (ap3 bd.d2))
def bd.d4 (a b c:C):R:=(bif (decide (c.I<(a.L.length:Int))) then (bif (decide (0≤c.I)) then (bif (decide (c.I<(a.L.length:Int))) then (call3 (dM [((a.L.getD c.I.toNat []).getD 0 .nil)]) fun d e f=>(bf (bif (!(!f.B)) then (bif (decide (c.I>0)) then (bif (decide (0≤(w64 (c.I-1)))) then (bif (decide ((w64 (c.I-1))<(a.L.length:Int))) then (bif (decide (0≤c.I)) then (bif (decide (c.I<(a.L.length:Int))) then (bif (!(!(Op.bytesLess (((a.L.getD (w64 (c.I-1)).toNat []).getD 0 .nil).S).toList (((a.L.getD c.I.toNat []).getD 0 .nil).S).toList))) then (bif (d.S.toList==b.S.toList) then (some (.ret [.b false])) else (some (.nrm [a,c,d]))) else (some (.ret [.b false]))) else none) else none) else none) else none) else (some (.nrm [a,c,d]))) else (some (.ret [.b false]))) (ap3 bd.d3))) else none) else none) else (some (.brk 0 [])))
def bd.d5:R:=(some (.ret [.b true]))
def bd.d6 (a:C):R:=(bif (decide ((a.L.length:Int)>10)) then (some (.ret [.b false])) else (ah 0 (lim (ap3 bd.d4) [a,.s (bs #[]),.i 0]) (fun xs=>bd.d5)))
def bd:List C→Option (List C):=fun xs=>aV (ap1 bd.d6 xs)
def lG:FS:=⟨1,⟨[(0,(zl 9))],[]⟩,⟨[(0,zo)],[]⟩,[],bd⟩
theorem wa:aB Tryz.checked.prog T0 110 lG:=bA aE (fn:=Tryz.f110) (c:=Tryz.f110.body.getD .skip) lG (.seq .leaf (.seq .leaf (.seq .leaf (.seq (.seq .leaf (.block ⟨[],[]⟩ (.loop ⟨[(0,(zl 9)),(3,zt),(4,zi)],[]⟩ (.seq .leaf (.seq (.skip (.seq .leaf (.seq (.join ⟨[(0,(zl 9)),(4,zi),(5,zt)],[]⟩ .leaf) (.seq (.seq .leaf (.block ⟨[(0,(zl 9)),(4,zi),(5,zt)],[]⟩ (.loop ⟨[(0,(zl 9)),(4,zi),(5,zt),(8,zi)],[]⟩ .leaf))) .leaf)))) .leaf))))) .leaf)))) [(139,some 26,kv),(139,some 63,kv)] (.cons qc (.cons qc .nil)) (by kernel_rfl) (by kernel_rfl) (by kernel_rfl) (fun xs=>by kernel_rfl)
def gT.d1 (a b c d e f:C):R:=(aa (bc [a]) fun g=>(bif g.B then (aa (bc [b]) fun h=>(bif h.B then (aa (bd [c]) fun i=>(bif i.B then (aa (gk [d,.i 0,.i 1000]) fun j=>(bif j.B then (aa (gk [e,.i 0,.i 1000]) fun k=>(some (.ret [.b k.B]))) else (some (.ret [.b false])))) else (some (.ret [.b false])))) else (some (.ret [.b false])))) else (some (.ret [.b false]))))
def gT:List C→Option (List C):=fun xs=>aV (ap6 gT.d1 xs)
def lv:FS:=⟨1,⟨[(0,z8)],[]⟩,⟨[(0,zo)],[]⟩,[],gT⟩
theorem xz:aB Tryz.checked.prog T0 63 lv:=bA aE (fn:=Tryz.f63) (c:=Tryz.f63.body.getD .skip) lv .leaf [(58,some 5,cg),(58,some 9,cg),(59,some 19,eQ),(59,some 24,eQ),(110,some 14,lG)] (.cons cR (.cons cR (.cons fA (.cons fA (.cons wa .nil))))) (by kernel_rfl) (by kernel_rfl) (by kernel_rfl) (fun xs=>by kernel_rfl)
def ej.d1 (a b c d e f g:C):R:=(bif (decide (c.I<(g.L.length:Int))) then (bif (decide (0≤c.I)) then (bif (decide (c.I<(g.L.length:Int))) then (bif ((((g.L.getD c.I.toNat []).getD 11 .nil).S).toList==a.S.toList) then (some (.again [a,.i (w64 (b.I+1)),.i (w64 (c.I+1)),d,e,f,g])) else (some (.again [a,b,.i (w64 (c.I+1)),d,e,f,g]))) else none) else none) else (some (.brk 0 [b])))
def ej.d2 (a:C):R:=(some (.ret [a]))
def ej.d3 (a b c d e:C):R:=(ah 0 (lim (ap7 ej.d1) [e,.i 0,.i 0,a,b,c,d]) (ap1 ej.d2))
def ej:List C→Option (List C):=fun xs=>aV (ap5 ej.d3 xs)
def oj:FS:=⟨2,⟨[(0,z2),(1,zt)],[]⟩,⟨[(0,zi)],[]⟩,[],ej⟩
theorem zX:aB Tryz.checked.prog T0 64 oj:=bA aE (fn:=Tryz.f64) (c:=Tryz.f64.body.getD .skip) oj (.seq .leaf (.seq .leaf (.seq (.seq .leaf (.block ⟨[(5,zi)],[]⟩ (.loop ⟨[(1,zt),(2,(.pt 2 0)),(5,zi),(6,zi)],[(2,z0)]⟩ .leaf))) .leaf))) [] .nil (by kernel_rfl) (by kernel_rfl) (by kernel_rfl) (fun xs=>by kernel_rfl)
def ax.d1 (a b c d e:C):R:=(bif (decide (a.I<(d.L.length:Int))) then (bif (decide (0≤a.I)) then (bif (decide (a.I<(d.L.length:Int))) then (aa (bc [((d.L.getD a.I.toNat []).getD 0 .nil)]) fun f=>(bif (!(!f.B)) then (bif (decide (a.I>0)) then (bif (decide (0≤(w64 (a.I-1)))) then (bif (decide ((w64 (a.I-1))<(d.L.length:Int))) then (bif (!(!(Op.bytesLess (((d.L.getD (w64 (a.I-1)).toNat []).getD 0 .nil).S).toList (((d.L.getD a.I.toNat []).getD 0 .nil).S).toList))) then (aa (gk [((d.L.getD a.I.toNat []).getD 1 .nil),.i 0,.i 60]) fun g=>(bif (!g.B) then (some (.ret [.b false])) else (some (.again [.i (w64 (a.I+1)),b,c,d,e])))) else (some (.ret [.b false]))) else none) else none) else (aa (gk [((d.L.getD a.I.toNat []).getD 1 .nil),.i 0,.i 60]) fun h=>(bif (!h.B) then (some (.ret [.b false])) else (some (.again [.i (w64 (a.I+1)),b,c,d,e]))))) else (some (.ret [.b false])))) else none) else none) else (some (.brk 0 [b,c,d,e])))
def ax.d2 (a b c d e f:C):R:=(bif b.B then (some (.ret [.b false])) else (some (.again [.i (w64 (a.I+1)),c,d,e,f])))
def ax.d3 (a b c d e:C):R:=(bif (decide (a.I<(e.L.length:Int))) then (bif (decide (0≤a.I)) then (bif (decide (a.I<(e.L.length:Int))) then (bf (aa (bQ [((e.L.getD a.I.toNat []).getD 0 .nil),((e.L.getD a.I.toNat []).getD 1 .nil),((e.L.getD a.I.toNat []).getD 2 .nil),((e.L.getD a.I.toNat []).getD 3 .nil),((e.L.getD a.I.toNat []).getD 4 .nil),((e.L.getD a.I.toNat []).getD 5 .nil),((e.L.getD a.I.toNat []).getD 6 .nil),((e.L.getD a.I.toNat []).getD 7 .nil),((e.L.getD a.I.toNat []).getD 8 .nil),((e.L.getD a.I.toNat []).getD 9 .nil),((e.L.getD a.I.toNat []).getD 10 .nil),((e.L.getD a.I.toNat []).getD 11 .nil)]) fun f=>(bif (!(!f.B)) then (bif (decide (a.I>0)) then (bif (decide (0≤(w64 (a.I-1)))) then (bif (decide ((w64 (a.I-1))<(e.L.length:Int))) then (bif (!(!(Op.bytesLess (((e.L.getD (w64 (a.I-1)).toNat []).getD 0 .nil).S).toList (((e.L.getD a.I.toNat []).getD 0 .nil).S).toList))) then (aa (cW [b,c,d,e,((e.L.getD a.I.toNat []).getD 1 .nil)]) fun g=>(bif (!(decide (g.I<0))) then (bif (!((((e.L.getD a.I.toNat []).getD 11 .nil).S).toList==(bs #[]).toList)) then (aa (dg [b,c,d,e,((e.L.getD a.I.toNat []).getD 11 .nil)]) fun h=>(some (.nrm [a,.b (decide (h.I<0)),b,c,d,e]))) else (some (.nrm [a,.b false,b,c,d,e]))) else (some (.nrm [a,.b true,b,c,d,e])))) else (some (.nrm [a,.b true,b,c,d,e]))) else none) else none) else (aa (cW [b,c,d,e,((e.L.getD a.I.toNat []).getD 1 .nil)]) fun i=>(bif (!(decide (i.I<0))) then (bif (!((((e.L.getD a.I.toNat []).getD 11 .nil).S).toList==(bs #[]).toList)) then (aa (dg [b,c,d,e,((e.L.getD a.I.toNat []).getD 11 .nil)]) fun j=>(some (.nrm [a,.b (decide (j.I<0)),b,c,d,e]))) else (some (.nrm [a,.b false,b,c,d,e]))) else (some (.nrm [a,.b true,b,c,d,e]))))) else (some (.nrm [a,.b true,b,c,d,e])))) (ap6 ax.d2)) else none) else none) else (some (.brk 2 [b,c,d,e])))
def ax.d4 (a b c d e:C):R:=(bif (decide (a.I<(c.L.length:Int))) then (bif (decide (0≤a.I)) then (bif (decide (a.I<(c.L.length:Int))) then (call2 (bF [b,c,d,e,((c.L.getD a.I.toNat []).getD 0 .nil)]) fun f g=>(aa (gT [((c.L.getD a.I.toNat []).getD 0 .nil),((c.L.getD a.I.toNat []).getD 1 .nil),((c.L.getD a.I.toNat []).getD 2 .nil),((c.L.getD a.I.toNat []).getD 3 .nil),((c.L.getD a.I.toNat []).getD 4 .nil),((c.L.getD a.I.toNat []).getD 5 .nil)]) fun h=>(bif (!(!h.B)) then (bif (decide (a.I>0)) then (bif (decide (0≤(w64 (a.I-1)))) then (bif (decide ((w64 (a.I-1))<(c.L.length:Int))) then (bif (!(!(Op.bytesLess (((c.L.getD (w64 (a.I-1)).toNat []).getD 0 .nil).S).toList (((c.L.getD a.I.toNat []).getD 0 .nil).S).toList))) then (bif (!(decide (f.I>((c.L.getD a.I.toNat []).getD 3 .nil).I))) then (bif (!(decide (g.I>((c.L.getD a.I.toNat []).getD 4 .nil).I))) then (aa (ej [b,c,d,e,((c.L.getD a.I.toNat []).getD 0 .nil)]) fun i=>(bif (decide (i.I>10)) then (some (.ret [.b false])) else (some (.again [.i (w64 (a.I+1)),b,c,d,e])))) else (some (.ret [.b false]))) else (some (.ret [.b false]))) else (some (.ret [.b false]))) else none) else none) else (bif (!(decide (f.I>((c.L.getD a.I.toNat []).getD 3 .nil).I))) then (bif (!(decide (g.I>((c.L.getD a.I.toNat []).getD 4 .nil).I))) then (aa (ej [b,c,d,e,((c.L.getD a.I.toNat []).getD 0 .nil)]) fun j=>(bif (decide (j.I>10)) then (some (.ret [.b false])) else (some (.again [.i (w64 (a.I+1)),b,c,d,e])))) else (some (.ret [.b false]))) else (some (.ret [.b false])))) else (some (.ret [.b false]))))) else none) else none) else (some (.brk 4 [])))
def ax.d5:R:=(some (.ret [.b true]))
def ax.d6 (a b c d:C):R:=(ah 4 (lim (ap5 ax.d4) [.i 0,a,b,c,d]) (fun xs=>ax.d5))
def ax.d7 (a b c d:C):R:=(ah 2 (lim (ap5 ax.d3) [.i 0,a,b,c,d]) (ap4 ax.d6))
def ax.d8 (a b c d:C):R:=(bif (!(decide ((b.L.length:Int)>12))) then (bif (!(decide ((c.L.length:Int)>30))) then (bif (decide ((d.L.length:Int)>60)) then (some (.ret [.b false])) else (ah 0 (lim (ap5 ax.d1) [.i 0,a,b,c,d]) (ap4 ax.d7))) else (some (.ret [.b false]))) else (some (.ret [.b false])))
def ax:List C→Option (List C):=fun xs=>aV (ap4 ax.d8 xs)
def eV:FS:=⟨1,⟨[(0,z2)],[]⟩,⟨[(0,zo)],[]⟩,[],ax⟩
theorem gy:aB Tryz.checked.prog T0 15 eV:=bA aE (fn:=Tryz.f15) (c:=Tryz.f15.body.getD .skip) eV (.seq .leaf (.seq .leaf (.seq (.seq .leaf (.block ⟨[(1,(.pt 1 0))],[(1,z0)]⟩ (.loop ⟨[(1,(.pt 1 0)),(3,zi)],[(1,z0)]⟩ .leaf))) (.seq (.seq .leaf (.block ⟨[(1,(.pt 1 0))],[(1,z0)]⟩ (.loop ⟨[(1,(.pt 1 0)),(5,zi)],[(1,z0)]⟩ (.seq .leaf (.seq (.skip (.seq .leaf (.seq (.join ⟨[(1,(.pt 1 0)),(5,zi),(114,zo)],[(1,z0)]⟩ .leaf) .leaf))) .leaf))))) (.seq (.seq .leaf (.block ⟨[],[]⟩ (.loop ⟨[(1,(.pt 1 0)),(7,zi)],[(1,z0)]⟩ .leaf))) .leaf))))) [(56,some 111,gu),(58,some 41,cg),(59,some 62,eQ),(60,some 78,mO),(61,some 100,lB),(62,some 131,l5),(63,some 135,lv),(64,some 169,oj)] (.cons je (.cons cR (.cons fA (.cons ya (.cons wP (.cons wY (.cons xz (.cons zX .nil)))))))) (by kernel_rfl) (by kernel_rfl) (by kernel_rfl) (fun xs=>by kernel_rfl)
def fZ.d1 (a b c d e f:C):R:=(bif (decide (ao.length+c.L.length≤4294967296)) then (some (.ret [a,b,d,e,f,.l (ao++c.L)])) else none)
def fZ:List C→Option (List C):=fun xs=>aV (ap6 fZ.d1 xs)
def jm:FS:=⟨1,⟨[(0,z8)],[]⟩,⟨[(0,(.ag [zt,zt,(.ow 3000),zi,zi,zo]))],[(3000,.arr 9 1)]⟩,[],fZ⟩
theorem pg:aB Tryz.checked.prog T0 123 jm:=bA aE (fn:=Tryz.f123) (c:=Tryz.f123.body.getD .skip) jm .leaf [] .nil (by kernel_rfl) (by kernel_rfl) (by kernel_rfl) (fun xs=>by kernel_rfl)
def gR.d1 (a b c d e f g h i j k l:C):R:=(bif (decide (ao.length+h.L.length≤4294967296)) then (some (.ret [a,b,c,d,e,f,g,i,j,k,l,.l (ao++h.L)])) else none)
def gR:List C→Option (List C):=fun xs=>aV (js gR.d1 xs)
def kc:FS:=⟨1,⟨[(0,z3)],[]⟩,⟨[(0,(.ag [zt,zt,zi,zi,zi,zi,zt,(.ow 3000),zi,zt,zt,zt]))],[(3000,.arr 109 1)]⟩,[],gR⟩
theorem qG:aB Tryz.checked.prog T0 124 kc:=bA aE (fn:=Tryz.f124) (c:=Tryz.f124.body.getD .skip) kc .leaf [] .nil (by kernel_rfl) (by kernel_rfl) (by kernel_rfl) (fun xs=>by kernel_rfl)
def bV.d1 (a b c d e f g h i j k l m:C):R:=(bif (decide (a.I<(c.L.length:Int))) then (bif (decide (0≤a.I)) then (bif (decide (a.I<(c.L.length:Int))) then (call6 (fZ [((c.L.getD a.I.toNat []).getD 0 .nil),((c.L.getD a.I.toNat []).getD 1 .nil),((c.L.getD a.I.toNat []).getD 2 .nil),((c.L.getD a.I.toNat []).getD 3 .nil),((c.L.getD a.I.toNat []).getD 4 .nil),((c.L.getD a.I.toNat []).getD 5 .nil)]) fun n o p q r s=>(bif (decide (k.L.length+(rows [[n,o,.l s.L,p,q,r]]).length≤4294967296)) then (some (.again [.i (w64 (a.I+1)),b,c,d,e,f,g,.l h.L,.l i.L,.l j.L,.l (k.L++(rows [[n,o,.l s.L,p,q,r]])),.l l.L,.l m.L])) else none)) else none) else none) else (some (.brk 0 [b,c,d,e,f,g,.l h.L,.l i.L,.l j.L,.l k.L,.l l.L,.l m.L])))
def bV.d2 (a b c d e f g h i j k l m:C):R:=(bif (decide (a.I<(e.L.length:Int))) then (bif (decide (0≤a.I)) then (bif (decide (a.I<(e.L.length:Int))) then (call12 (gR [((e.L.getD a.I.toNat []).getD 0 .nil),((e.L.getD a.I.toNat []).getD 1 .nil),((e.L.getD a.I.toNat []).getD 2 .nil),((e.L.getD a.I.toNat []).getD 3 .nil),((e.L.getD a.I.toNat []).getD 4 .nil),((e.L.getD a.I.toNat []).getD 5 .nil),((e.L.getD a.I.toNat []).getD 6 .nil),((e.L.getD a.I.toNat []).getD 7 .nil),((e.L.getD a.I.toNat []).getD 8 .nil),((e.L.getD a.I.toNat []).getD 9 .nil),((e.L.getD a.I.toNat []).getD 10 .nil),((e.L.getD a.I.toNat []).getD 11 .nil)]) fun n o p q r s t u v w x y=>(bif (decide (m.L.length+(rows [[n,o,p,q,r,s,t,.l y.L,u,v,w,x]]).length≤4294967296)) then (some (.again [.i (w64 (a.I+1)),b,c,d,e,f,g,.l h.L,.l i.L,.l j.L,.l k.L,.l l.L,.l (m.L++(rows [[n,o,p,q,r,s,t,.l y.L,u,v,w,x]]))])) else none)) else none) else none) else (some (.brk 2 [f,g,.l h.L,.l i.L,.l j.L,.l k.L,.l l.L,.l m.L])))
def bV.d3 (a b c d e f g h:C):R:=(some (.ret [b,.l f.L,.l g.L,.l h.L]))
def bV.d4 (a b c d e f g h i j k l:C):R:=(ah 2 (lim (oU bV.d2) [.i 0,a,b,c,d,e,f,.l g.L,.l h.L,.l i.L,.l j.L,.l k.L,.l l.L]) (ap8 bV.d3))
def bV.d5 (a b c d:C):R:=(bif (decide (ao.length+c.L.length≤4294967296)) then (ah 0 (lim (oU bV.d1) [.i 0,a,b,c,d,.b false,.b a.B,.l ao,.l ao,.l ao,.l ao,.l (ao++c.L),.l ao]) (js bV.d4)) else none)
def bV:List C→Option (List C):=fun xs=>aV (ap4 bV.d5 xs)
def jq:FS:=⟨1,⟨[(0,z2)],[]⟩,⟨[(0,z11)],[(3000,.arr 37 1),(3001,.arr 60 1),(3002,.arr 45 1)]⟩,[],bV⟩
theorem nN:aB Tryz.checked.prog T0 85 jq:=pH aE [28,46] false (fn:=Tryz.f85) (c:=Tryz.f85.body.getD .skip) jq (.seq .leaf (.seq .leaf (.seq (.seq .leaf (.block ⟨[(1,(.pt 1 0)),(2,(.pt 2 0)),(3,(.pt 3 0))],[(1,z0),(2,z13),(3,.var 27 [zo,(.ow 1154603),(.ow 8),(.ow 1154604)]),(1154600,.arr 37 1),(1154601,.arr 60 1),(1154602,.arr 45 1),(1154603,.arr 37 1),(8,.arr 60 1),(1154604,.arr 45 1)]⟩ (.loop ⟨[(1,(.pt 1 0)),(2,(.pt 2 0)),(3,(.pt 3 0)),(4,zi)],[(1,z0),(2,z13),(3,.var 27 [zo,(.ow 1154603),(.ow 8),(.ow 1154604)]),(1154600,.arr 37 1),(1154601,.arr 60 1),(1154602,.arr 45 1),(1154603,.arr 37 1),(8,.arr 60 1),(1154604,.arr 45 1)]⟩ .leaf))) (.seq (.seq .leaf (.block ⟨[(2,(.pt 2 0)),(3,(.pt 3 0))],[(2,z13),(3,.var 27 [zo,(.ow 1154603),(.ow 8),(.ow 1154604)]),(1154600,.arr 37 1),(1154601,.arr 60 1),(1154602,.arr 45 1),(1154603,.arr 37 1),(8,.arr 60 1),(1154604,.arr 45 1)]⟩ (.loop ⟨[(1,(.pt 1 0)),(2,(.pt 2 0)),(3,(.pt 3 0)),(5,zi)],[(1,z0),(2,z13),(3,.var 27 [zo,(.ow 1154603),(.ow 8),(.ow 1154604)]),(1154600,.arr 37 1),(1154601,.arr 60 1),(1154602,.arr 45 1),(1154603,.arr 37 1),(8,.arr 60 1),(1154604,.arr 45 1)]⟩ .leaf))) .leaf)))) [(123,some 27,jm),(124,some 45,kc)] (.cons pg (.cons qG .nil)) (by kernel_rfl) (by kernel_rfl) (by kernel_rfl) (fun xs=>by kernel_rfl)
def eu.d1 (a b c d e f:C):R:=(bif (decide (b.I<(f.L.length:Int))) then (bif (decide (0≤b.I)) then (bif (decide (b.I<(f.L.length:Int))) then (bif ((((f.L.getD b.I.toNat []).getD 0 .nil).S).toList==a.S.toList) then (some (.ret [b])) else (some (.again [a,.i (w64 (b.I+1)),c,d,e,f]))) else none) else none) else (some (.brk 0 [])))
def eu.d2:R:=(some (.ret [.i (-1)]))
def eu.d3 (a b c d e:C):R:=(ah 0 (lim (ap6 eu.d1) [e,.i 0,a,b,c,d]) (fun xs=>eu.d2))
def eu:List C→Option (List C):=fun xs=>aV (ap5 eu.d3 xs)
def iO:FS:=⟨2,⟨[(0,z2),(1,zt)],[]⟩,⟨[(0,zi)],[]⟩,[],eu⟩
theorem mm:aB Tryz.checked.prog T0 55 iO:=bA aE (fn:=Tryz.f55) (c:=Tryz.f55.body.getD .skip) iO (.seq .leaf (.seq (.seq .leaf (.block ⟨[],[]⟩ (.loop ⟨[(1,zt),(2,(.pt 2 0)),(5,zi)],[(2,z0)]⟩ .leaf))) .leaf)) [] .nil (by kernel_rfl) (by kernel_rfl) (by kernel_rfl) (fun xs=>by kernel_rfl)
end
end Go.Ev
namespace Go.Ev
open Go.Proofs
noncomputable section
def aZ.d1 (a b c d e f g h i j k l m n o p q r s t u v w x y z a0 a1 a2 a3:C):R:=(bif (decide (a.I<(a1.L.length:Int))) then (bif (decide (0≤a.I)) then (bif (decide (a.I<(a1.L.length:Int))) then (bif (Op.bytesLess (((a1.L.getD a.I.toNat []).getD 0 .nil).S).toList c.S.toList) then (some (.again [.i (w64 (a.I+1)),b,c,d,e,f,g,h,i,j,k,l,m,n,o,p,q,r,s,t,u,v,w,x,.l y.L,.l z.L,.l a0.L,.l a1.L,.l a2.L,.l a3.L])) else (some (.brk 1 [a,b,c,d,e,f,g,h,i,j,k,l,m,n,o,p,q,r,s,t,u,v,w,x,.l y.L,.l z.L,.l a0.L,.l a1.L,.l a2.L,.l a3.L]))) else none) else none) else (some (.brk 1 [a,b,c,d,e,f,g,h,i,j,k,l,m,n,o,p,q,r,s,t,u,v,w,x,.l y.L,.l z.L,.l a0.L,.l a1.L,.l a2.L,.l a3.L])))
def aZ.d2 (a b c d e f g h i j k l m n o p q r s t u v w x y z a0 a1 a2 a3 a4:C):R:=(bif (decide (0≤a.I)) then (bif (decide (a.I≤(z.L.length:Int))) then (bif (decide (ao.length+((z.L.take a.I.toNat).drop 0).length≤4294967296)) then (call6 (fZ [d,e,f,g,h,i]) fun a5 a6 a7 a8 a9 b0=>(bif (decide ((ao++((z.L.take a.I.toNat).drop 0)).length+(rows [[a5,a6,.l b0.L,a7,a8,a9]]).length≤4294967296)) then (bif (decide (((ao++((z.L.take a.I.toNat).drop 0))++(rows [[a5,a6,.l b0.L,a7,a8,a9]])).length+b.L.length≤4294967296)) then (some (.ret [y,.b true,.l (((ao++((z.L.take a.I.toNat).drop 0))++(rows [[a5,a6,.l b0.L,a7,a8,a9]]))++b.L),.l a3.L,.l a4.L])) else none) else none)) else none) else none) else none)
def aZ.d3 (a b c d e f g h i j k l m n o p q r s t u v w x y z a0 a1 a2 a3:C):R:=(bif (decide (0≤a.I)) then (bif (decide (a.I≤(a1.L.length:Int))) then (bif (decide ((a1.L.length:Int)≤(a1.L.length:Int))) then (bf (bif (decide ((((a1.L.take (a1.L.length:Int).toNat).drop a.I.toNat).length:Int)>0)) then (bif (decide (0<(((a1.L.take (a1.L.length:Int).toNat).drop a.I.toNat).length:Int))) then (bif ((((((a1.L.take (a1.L.length:Int).toNat).drop a.I.toNat).getD 0 []).getD 0 .nil).S).toList==c.S.toList) then (bif (decide (1≤(((a1.L.take (a1.L.length:Int).toNat).drop a.I.toNat).length:Int))) then (bif (decide ((((a1.L.take (a1.L.length:Int).toNat).drop a.I.toNat).length:Int)≤(((a1.L.take (a1.L.length:Int).toNat).drop a.I.toNat).length:Int))) then (some (.nrm [a,.l ((((a1.L.take (a1.L.length:Int).toNat).drop a.I.toNat).take (((a1.L.take (a1.L.length:Int).toNat).drop a.I.toNat).length:Int).toNat).drop 1),b,c,d,e,f,g,h,i,j,k,l,m,n,o,p,q,r,s,t,u,v,w,x,.l a1.L,.l y.L,.l z.L,.l a0.L,.l a2.L,.l a3.L])) else none) else none) else (some (.nrm [a,.l ((a1.L.take (a1.L.length:Int).toNat).drop a.I.toNat),b,c,d,e,f,g,h,i,j,k,l,m,n,o,p,q,r,s,t,u,v,w,x,.l a1.L,.l y.L,.l z.L,.l a0.L,.l a2.L,.l a3.L]))) else none) else (some (.nrm [a,.l ((a1.L.take (a1.L.length:Int).toNat).drop a.I.toNat),b,c,d,e,f,g,h,i,j,k,l,m,n,o,p,q,r,s,t,u,v,w,x,.l a1.L,.l y.L,.l z.L,.l a0.L,.l a2.L,.l a3.L]))) (sC aZ.d2)) else none) else none) else none)
def aZ.d4 (a b c d e f g h i j k l m n o p q r s t u v w x y z a0 a1 a2 a3:C):R:=(bif (decide (a.I<(a3.L.length:Int))) then (bif (decide (0≤a.I)) then (bif (decide (a.I<(a3.L.length:Int))) then (bif ((((a3.L.getD a.I.toNat []).getD 11 .nil).S).toList==u.S.toList) then (bif (decide (0≤a.I)) then (bif (decide (a.I<(a3.L.length:Int))) then (some (.again [.i (w64 (a.I+1)),b,c,d,e,f,g,h,i,j,k,l,m,n,o,p,q,r,s,t,u,v,w,x,.l y.L,.l z.L,.l a0.L,.l a1.L,.l a2.L,.l (a3.L.set a.I.toNat (aK (a3.L.getD a.I.toNat []) 11 [.s (bs #[])]))])) else none) else none) else (some (.again [.i (w64 (a.I+1)),b,c,d,e,f,g,h,i,j,k,l,m,n,o,p,q,r,s,t,u,v,w,x,.l y.L,.l z.L,.l a0.L,.l a1.L,.l a2.L,.l a3.L]))) else none) else none) else (some (.brk 3 [w,x,.l y.L,.l z.L,.l a0.L,.l a1.L,.l a2.L,.l a3.L])))
def aZ.d5 (a b c d e f g h:C):R:=(some (.ret [b,.b true,.l f.L,.l g.L,.l h.L]))
def aZ.d6 (a b c d e f g h i j k l m n o p q r s t u v w x y z a0 a1 a2 a3:C):R:=(bif (decide (a.I<(a3.L.length:Int))) then (bif (decide (0≤a.I)) then (bif (decide (a.I<(a3.L.length:Int))) then (bif (Op.bytesLess (((a3.L.getD a.I.toNat []).getD 0 .nil).S).toList i.S.toList) then (some (.again [.i (w64 (a.I+1)),b,c,d,e,f,g,h,i,j,k,l,m,n,o,p,q,r,s,t,u,v,w,x,.l y.L,.l z.L,.l a0.L,.l a1.L,.l a2.L,.l a3.L])) else (some (.brk 5 [a,b,c,d,e,f,g,h,i,j,k,l,m,n,o,p,q,r,s,t,u,v,w,x,.l y.L,.l z.L,.l a0.L,.l a1.L,.l a2.L,.l a3.L]))) else none) else none) else (some (.brk 5 [a,b,c,d,e,f,g,h,i,j,k,l,m,n,o,p,q,r,s,t,u,v,w,x,.l y.L,.l z.L,.l a0.L,.l a1.L,.l a2.L,.l a3.L])))
def aZ.d7 (a b c d e f g h i j k l m n o p q r s t u v w x y z a0 a1 a2 a3 a4:C):R:=(bif (decide (0≤a.I)) then (bif (decide (a.I≤(z.L.length:Int))) then (bif (decide (ao.length+((z.L.take a.I.toNat).drop 0).length≤4294967296)) then (call12 (gR [j,k,l,m,n,o,p,q,r,s,t,u]) fun a5 a6 a7 a8 a9 b0 b1 b2 b3 b4 b5 b6=>(bif (decide ((ao++((z.L.take a.I.toNat).drop 0)).length+(rows [[a5,a6,a7,a8,a9,b0,b1,.l b6.L,b2,b3,b4,b5]]).length≤4294967296)) then (bif (decide (((ao++((z.L.take a.I.toNat).drop 0))++(rows [[a5,a6,a7,a8,a9,b0,b1,.l b6.L,b2,b3,b4,b5]])).length+b.L.length≤4294967296)) then (some (.ret [y,.b true,.l a3.L,.l a4.L,.l (((ao++((z.L.take a.I.toNat).drop 0))++(rows [[a5,a6,a7,a8,a9,b0,b1,.l b6.L,b2,b3,b4,b5]]))++b.L)])) else none) else none)) else none) else none) else none)
def aZ.d8 (a b c d e f g h i j k l m n o p q r s t u v w x y z a0 a1 a2 a3:C):R:=(bif (decide (0≤a.I)) then (bif (decide (a.I≤(a3.L.length:Int))) then (bif (decide ((a3.L.length:Int)≤(a3.L.length:Int))) then (bf (bif (decide ((((a3.L.take (a3.L.length:Int).toNat).drop a.I.toNat).length:Int)>0)) then (bif (decide (0<(((a3.L.take (a3.L.length:Int).toNat).drop a.I.toNat).length:Int))) then (bif ((((((a3.L.take (a3.L.length:Int).toNat).drop a.I.toNat).getD 0 []).getD 0 .nil).S).toList==i.S.toList) then (bif (decide (1≤(((a3.L.take (a3.L.length:Int).toNat).drop a.I.toNat).length:Int))) then (bif (decide ((((a3.L.take (a3.L.length:Int).toNat).drop a.I.toNat).length:Int)≤(((a3.L.take (a3.L.length:Int).toNat).drop a.I.toNat).length:Int))) then (some (.nrm [a,.l ((((a3.L.take (a3.L.length:Int).toNat).drop a.I.toNat).take (((a3.L.take (a3.L.length:Int).toNat).drop a.I.toNat).length:Int).toNat).drop 1),b,c,d,e,f,g,h,i,j,k,l,m,n,o,p,q,r,s,t,u,v,w,x,.l a3.L,.l y.L,.l z.L,.l a0.L,.l a1.L,.l a2.L])) else none) else none) else (some (.nrm [a,.l ((a3.L.take (a3.L.length:Int).toNat).drop a.I.toNat),b,c,d,e,f,g,h,i,j,k,l,m,n,o,p,q,r,s,t,u,v,w,x,.l a3.L,.l y.L,.l z.L,.l a0.L,.l a1.L,.l a2.L]))) else none) else (some (.nrm [a,.l ((a3.L.take (a3.L.length:Int).toNat).drop a.I.toNat),b,c,d,e,f,g,h,i,j,k,l,m,n,o,p,q,r,s,t,u,v,w,x,.l a3.L,.l y.L,.l z.L,.l a0.L,.l a1.L,.l a2.L]))) (sC aZ.d7)) else none) else none) else none)
def aZ.d9 (a b c d e f g h i j k l m n o p q r s t u v w x y:C):R:=(call4 (bV [a,b,c,d]) fun z a0 a1 a2=>(bif (e.I==1) then (ah 1 (lim (xR aZ.d1) [.i 0,e,f,g,h,i,j,k,l,m,n,o,p,q,r,s,t,u,v,w,x,y,.b false,z,.l ao,.l ao,.l ao,.l a0.L,.l a1.L,.l a2.L]) (xR aZ.d3)) else (bif (e.I==2) then (aa (dg [z,.l a0.L,.l a1.L,.l a2.L,x]) fun a3=>(bif (decide (a3.I<0)) then (some (.ret [z,.b false,.l a0.L,.l a1.L,.l a2.L])) else (bif (decide (0≤a3.I)) then (bif (decide (a3.I≤(a0.L.length:Int))) then (bif (decide (ao.length+((a0.L.take a3.I.toNat).drop 0).length≤4294967296)) then (bif (decide (0≤(w64 (a3.I+1)))) then (bif (decide ((w64 (a3.I+1))≤(a0.L.length:Int))) then (bif (decide ((a0.L.length:Int)≤(a0.L.length:Int))) then (bif (decide ((ao++((a0.L.take a3.I.toNat).drop 0)).length+((a0.L.take (a0.L.length:Int).toNat).drop (w64 (a3.I+1)).toNat).length≤4294967296)) then (ah 3 (lim (xR aZ.d4) [.i 0,e,f,g,h,i,j,k,l,m,n,o,p,q,r,s,t,u,v,w,x,y,.b false,z,.l ao,.l ao,.l ao,.l ((ao++((a0.L.take a3.I.toNat).drop 0))++((a0.L.take (a0.L.length:Int).toNat).drop (w64 (a3.I+1)).toNat)),.l a1.L,.l a2.L]) (ap8 aZ.d5)) else none) else none) else none) else none) else none) else none) else none))) else (bif (e.I==3) then (ah 5 (lim (xR aZ.d6) [.i 0,e,f,g,h,i,j,k,l,m,n,o,p,q,r,s,t,u,v,w,x,y,.b false,z,.l ao,.l ao,.l ao,.l a0.L,.l a1.L,.l a2.L]) (xR aZ.d8)) else (bif (e.I==4) then (aa (eu [z,.l a0.L,.l a1.L,.l a2.L,x]) fun a4=>(bif (decide (a4.I<0)) then (some (.ret [z,.b false,.l a0.L,.l a1.L,.l a2.L])) else (bif (decide (0≤a4.I)) then (bif (decide (a4.I≤(a2.L.length:Int))) then (bif (decide (ao.length+((a2.L.take a4.I.toNat).drop 0).length≤4294967296)) then (bif (decide (0≤(w64 (a4.I+1)))) then (bif (decide ((w64 (a4.I+1))≤(a2.L.length:Int))) then (bif (decide ((a2.L.length:Int)≤(a2.L.length:Int))) then (bif (decide ((ao++((a2.L.take a4.I.toNat).drop 0)).length+((a2.L.take (a2.L.length:Int).toNat).drop (w64 (a4.I+1)).toNat).length≤4294967296)) then (some (.ret [z,.b true,.l a0.L,.l a1.L,.l ((ao++((a2.L.take a4.I.toNat).drop 0))++((a2.L.take (a2.L.length:Int).toNat).drop (w64 (a4.I+1)).toNat))])) else none) else none) else none) else none) else none) else none) else none))) else (bif (e.I==5) then (aa (eu [z,.l a0.L,.l a1.L,.l a2.L,x]) fun a5=>(bif (!(decide (a5.I<0))) then (bif (!(y.S.toList==(bs #[]).toList)) then (aa (dg [z,.l a0.L,.l a1.L,.l a2.L,y]) fun a6=>(bif (decide (a6.I<0)) then (some (.ret [z,.b false,.l a0.L,.l a1.L,.l a2.L])) else (bif (decide (0≤a5.I)) then (bif (decide (a5.I<(a2.L.length:Int))) then (some (.ret [z,.b true,.l a0.L,.l a1.L,.l (a2.L.set a5.I.toNat (aK (a2.L.getD a5.I.toNat []) 11 [y]))])) else none) else none))) else (bif (decide (0≤a5.I)) then (bif (decide (a5.I<(a2.L.length:Int))) then (some (.ret [z,.b true,.l a0.L,.l a1.L,.l (a2.L.set a5.I.toNat (aK (a2.L.getD a5.I.toNat []) 11 [y]))])) else none) else none)) else (some (.ret [z,.b false,.l a0.L,.l a1.L,.l a2.L])))) else (some (.ret [z,.b true,.l a0.L,.l a1.L,.l a2.L]))))))))
def aZ:List C→Option (List C):=fun xs=>aV (Gf aZ.d9 xs)
def nJ:FS:=⟨2,⟨[(0,z2),(1,(.ag [zi,zt,zt,(zl 9),zi,zi,zo,zt,zt,zi,zi,zi,zi,zt,(zl 109),zi,zt,zt,zt,zt,zt]))],[]⟩,⟨[(0,(.tu [z11,zo]))],[(3000,.arr 37),(3001,.arr 60 1),(3002,.arr 45)]⟩,[],aZ⟩
theorem Az:aB Tryz.checked.prog T0 95 nJ:=pH aE [68,165] false (fn:=Tryz.f95) (c:=Tryz.f95.body.getD .skip) nJ (.seq .leaf (.seq .leaf (.seq (.seq .leaf (.skip (.seq .leaf (.cond (.seq .leaf (.seq (.block ⟨[(3,(.pt 3 0)),(4,(.pt 4 0)),(6,(.pt 6 0)),(7,zi)],[(3,z6),(4,.var 27 [zo,(.ow 1143000),(.ow 1143001),(.ow 1143002)]),(6,.var 27 [zo,(.ow 72632),(.ow 72633),(.ow 72634)]),(1143000,.arr 37 1),(1143001,.arr 60 1),(1143002,.arr 45 1),(72632,.arr 37 1),(72633,.arr 60 1),(72634,.arr 45 1)]⟩ (.loop ⟨[(3,(.pt 3 0)),(4,(.pt 4 0)),(6,(.pt 6 0)),(7,zi)],[(3,z6),(4,.var 27 [zo,(.ow 1143000),(.ow 1143001),(.ow 1143002)]),(6,.var 27 [zo,(.ow 72632),(.ow 72633),(.ow 72634)]),(1143000,.arr 37 1),(1143001,.arr 60 1),(1143002,.arr 45 1),(72632,.arr 37 1),(72633,.arr 60 1),(72634,.arr 45 1)]⟩ .leaf)) (.seq .leaf (.seq (.join ⟨[(3,(.pt 3 0)),(4,(.pt 4 0)),(6,(.pt 6 0)),(7,zi),(8,(zl 37))],[(3,z6),(4,.var 27 [zo,(.ow 1143000),(.ow 1143001),(.ow 1143002)]),(6,.var 27 [zo,(zl 37),(.ow 72633),(.ow 72634)]),(1143000,.arr 37 1),(1143001,.arr 60 1),(1143002,.arr 45 1),(72633,.arr 60 1),(72634,.arr 45 1)]⟩ (.frz [72632] .leaf)) .leaf)))) (.seq .leaf (.cond (.seq .leaf (.seq .leaf (.seq .leaf (.seq .leaf (.block ⟨[(4,(.pt 4 0)),(6,(.pt 6 0))],[(4,.var 27 [zo,(.ow 1146600),(.ow 1146601),(.ow 1146602)]),(6,.var 27 [zo,(.ow 82),(.ow 72633),(.ow 72634)]),(1146600,.arr 37 1),(1146601,.arr 60 1),(1146602,.arr 45 1),(82,.arr 37),(72633,.arr 60 1),(72634,.arr 45 1)]⟩ (.loop ⟨[(3,(.pt 3 0)),(4,(.pt 4 0)),(6,(.pt 6 0)),(10,zi)],[(3,z6),(4,.var 27 [zo,(.ow 1146600),(.ow 1146601),(.ow 1146602)]),(6,.var 27 [zo,(.ow 82),(.ow 72633),(.ow 72634)]),(1146600,.arr 37 1),(1146601,.arr 60 1),(1146602,.arr 45 1),(82,.arr 37),(72633,.arr 60 1),(72634,.arr 45 1)]⟩ .leaf)))))) (.seq .leaf (.cond (.seq .leaf (.seq (.block ⟨[(3,(.pt 3 0)),(4,(.pt 4 0)),(6,(.pt 6 0)),(11,zi)],[(3,z6),(4,.var 27 [zo,(.ow 1148800),(.ow 1148801),(.ow 1148802)]),(6,.var 27 [zo,(.ow 72632),(.ow 72633),(.ow 72634)]),(1148800,.arr 37 1),(1148801,.arr 60 1),(1148802,.arr 45 1),(72632,.arr 37 1),(72633,.arr 60 1),(72634,.arr 45 1)]⟩ (.loop ⟨[(3,(.pt 3 0)),(4,(.pt 4 0)),(6,(.pt 6 0)),(11,zi)],[(3,z6),(4,.var 27 [zo,(.ow 1148800),(.ow 1148801),(.ow 1148802)]),(6,.var 27 [zo,(.ow 72632),(.ow 72633),(.ow 72634)]),(1148800,.arr 37 1),(1148801,.arr 60 1),(1148802,.arr 45 1),(72632,.arr 37 1),(72633,.arr 60 1),(72634,.arr 45 1)]⟩ .leaf)) (.seq .leaf (.seq (.join ⟨[(3,(.pt 3 0)),(4,(.pt 4 0)),(6,(.pt 6 0)),(11,zi),(12,(zl 45))],[(3,z6),(4,.var 27 [zo,(.ow 1148800),(.ow 1148801),(.ow 1148802)]),(6,.var 27 [zo,(.ow 72632),(.ow 72633),(zl 45)]),(1148800,.arr 37 1),(1148801,.arr 60 1),(1148802,.arr 45 1),(72632,.arr 37 1),(72633,.arr 60 1)]⟩ (.frz [72634] .leaf)) .leaf)))) .leaf)))))))) .leaf))) [(55,some 175,iO),(55,some 197,iO),(56,some 78,gu),(56,some 208,gu),(85,some 16,jq),(123,some 67,jm),(124,some 164,kc)] (.cons mm (.cons mm (.cons je (.cons je (.cons nN (.cons pg (.cons qG .nil))))))) (by kernel_rfl) (by kernel_rfl) (by kernel_rfl) (fun xs=>by kernel_rfl)
def cS.d1 (a b c d e f g h i j k l m n o p q r s t u v w x y z a0 a1 a2 a3:C):R:=(bif (!a.B) then (some (.ret [.b false,.i 3,.l ao,.l ao,.l ao])) else (aa (gk [b,.i 1,.i 5]) fun a4=>(bif (!a4.B) then (some (.ret [.b false,.i 4,.l ao,.l ao,.l ao])) else (some (.ret [x,.i 0,.l a1.L,.l a2.L,.l a3.L])))))
def cS.d2 (a b c d e f g h i j k l m n o p q r s t u v w x y:C):R:=(aa (ax [a,b,c,d]) fun z=>(bif (!z.B) then (some (.ret [.b false,.i 1,.l ao,.l ao,.l ao])) else (call5 (aZ [a,b,c,d,e,f,g,h,i,j,k,l,m,n,o,p,q,r,s,t,u,v,w,x,y]) fun a0 a1 a2 a3 a4=>(bf (bif a1.B then (aa (ax [a0,.l a2.L,.l a3.L,.l a4.L]) fun a5=>(bif (!a5.B) then (some (.ret [.b false,.i 2,.l ao,.l ao,.l ao])) else (some (.nrm [.b a1.B,e,f,g,h,i,j,k,l,m,n,o,p,q,r,s,t,u,v,w,x,y,.b false,a0,.l ao,.l ao,.l ao,.l a2.L,.l a3.L,.l a4.L])))) else (some (.nrm [.b a1.B,e,f,g,h,i,j,k,l,m,n,o,p,q,r,s,t,u,v,w,x,y,.b false,a0,.l ao,.l ao,.l ao,.l a2.L,.l a3.L,.l a4.L]))) (xR cS.d1)))))
def cS:List C→Option (List C):=fun xs=>aV (Gf cS.d2 xs)
def gZ:FS:=⟨2,⟨[(0,z2),(1,(.ag [zi,zt,zt,(zl 9),zi,zi,zo,zt,zt,zi,zi,zi,zi,zt,(zl 109),zi,zt,zt,zt,zt,zt]))],[]⟩,⟨[(0,(.tu [z11,zi]))],[(3000,.arr 37),(3001,.arr 60 1),(3002,.arr 45)]⟩,[],cS⟩
theorem mZ:aB Tryz.checked.prog T0 47 gZ:=bA aE (fn:=Tryz.f47) (c:=Tryz.f47.body.getD .skip) gZ (.seq .leaf (.seq .leaf (.seq .leaf (.seq (.join ⟨[(3,(.pt 3 0)),(4,(.pt 4 0)),(6,(.pt 6 0)),(7,zo)],[(3,z6),(4,.var 27 [zo,(.ow 1081800),(.ow 1081801),(.ow 1081802)]),(6,.var 27 [zo,(.ow 68536),(.ow 68537),(.ow 68538)]),(1081800,.arr 37 1),(1081801,.arr 60 1),(1081802,.arr 45 1),(68536,.arr 37),(68537,.arr 60 1),(68538,.arr 45)]⟩ .leaf) .leaf)))) [(15,some 9,eV),(15,some 21,eV),(59,some 30,eQ),(95,some 15,nJ)] (.cons gy (.cons gy (.cons fA (.cons Az .nil)))) (by kernel_rfl) (by kernel_rfl) (by kernel_rfl) (fun xs=>by kernel_rfl)
def j3.d1 (a b c d e f:C):R:=(bif (decide (ao.length+c.L.length≤4294967296)) then (bif (decide ((bs #[122,111,110,101,61]).size+b.S.size≤4294967296)) then (bif (decide ((ao++c.L).length+(rows [[.s ((bs #[122,111,110,101,61])++b.S)]]).length≤4294967296)) then (some (.ret [.l ((ao++c.L)++(rows [[.s ((bs #[122,111,110,101,61])++b.S)]]))])) else none) else none) else none)
def j3:List C→Option (List C):=fun xs=>aV (ap6 j3.d1 xs)
def nT:FS:=⟨1,⟨[(0,z8)],[]⟩,⟨[(0,(.ow 3000))],[(3000,.arr 9 1)]⟩,[],j3⟩
theorem zn:aB Tryz.checked.prog T0 138 nT:=bA aE (fn:=Tryz.f138) (c:=Tryz.f138.body.getD .skip) nT .leaf [] .nil (by kernel_rfl) (by kernel_rfl) (by kernel_rfl) (fun xs=>by kernel_rfl)
def aY.d1 (G0:List C→Option (List C)) (a b c d e f g:C):R:=(bif c.B then (some (.ret [.b true])) else (some (.again [a,.i (w64 (b.I+1)),d,e,f,g])))
def aY.d2 (G0:List C→Option (List C)) (a b c d e f:C):R:=(bif (decide (b.I<(a.L.length:Int))) then (bif (decide (0≤b.I)) then (bif (decide (b.I<(a.L.length:Int))) then (call3 (dM [((a.L.getD b.I.toNat []).getD 0 .nil)]) fun g h i=>(bf (bif i.B then (bif (g.S.toList==d.S.toList) then (bif (!(c.I==1)) then (some (.nrm [a,b,.b (h.S.toList==e.S.toList),c,d,e,f])) else (some (.nrm [a,b,.b true,c,d,e,f]))) else (some (.nrm [a,b,.b false,c,d,e,f]))) else (some (.nrm [a,b,.b false,c,d,e,f]))) (ap7 (aY.d1 G0)))) else none) else none) else (some (.brk 1 [])))
def aY.d3 (G0:List C→Option (List C)):R:=(some (.ret [.b false]))
def aY.d4 (G0:List C→Option (List C)) (a b c d:C):R:=(bif (decide (0≤c.I)) then (bif (decide (c.I<(a.L.length:Int))) then (bif (((a.L.getD c.I.toNat []).getD 0 .nil).I==0) then (some (.ret [.b true])) else (bif (((a.L.getD c.I.toNat []).getD 0 .nil).I==3) then (bif (decide (0≤c.I)) then (bif (decide (c.I<(b.L.length:Int))) then (bif (decide (0<((((b.L.getD c.I.toNat []).getD 0 .nil).L).length:Int))) then (aa (G0 [a,b,(((((b.L.getD c.I.toNat []).getD 0 .nil).L).getD 0 []).getD 0 .nil),d]) fun e=>(some (.ret [.b (!e.B)]))) else none) else none) else none) else (bif (((a.L.getD c.I.toNat []).getD 0 .nil).I==4) then (bif (decide (0≤c.I)) then (bif (decide (c.I<(b.L.length:Int))) then (bif (decide (0<((((b.L.getD c.I.toNat []).getD 0 .nil).L).length:Int))) then (aa (G0 [a,b,(((((b.L.getD c.I.toNat []).getD 0 .nil).L).getD 0 []).getD 0 .nil),d]) fun f=>(bif f.B then (bif (decide (0≤c.I)) then (bif (decide (c.I<(b.L.length:Int))) then (bif (decide (1<((((b.L.getD c.I.toNat []).getD 0 .nil).L).length:Int))) then (aa (G0 [a,b,(((((b.L.getD c.I.toNat []).getD 0 .nil).L).getD 1 []).getD 0 .nil),d]) fun g=>(some (.ret [.b g.B]))) else none) else none) else none) else (some (.ret [.b false])))) else none) else none) else none) else (bif (((a.L.getD c.I.toNat []).getD 0 .nil).I==5) then (bif (decide (0≤c.I)) then (bif (decide (c.I<(b.L.length:Int))) then (bif (decide (0<((((b.L.getD c.I.toNat []).getD 0 .nil).L).length:Int))) then (aa (G0 [a,b,(((((b.L.getD c.I.toNat []).getD 0 .nil).L).getD 0 []).getD 0 .nil),d]) fun h=>(bif (!h.B) then (bif (decide (0≤c.I)) then (bif (decide (c.I<(b.L.length:Int))) then (bif (decide (1<((((b.L.getD c.I.toNat []).getD 0 .nil).L).length:Int))) then (aa (G0 [a,b,(((((b.L.getD c.I.toNat []).getD 0 .nil).L).getD 1 []).getD 0 .nil),d]) fun i=>(some (.ret [.b i.B]))) else none) else none) else none) else (some (.ret [.b true])))) else none) else none) else none) else (ah 1 (lim (ap6 (aY.d2 G0)) [d,.i 0,((a.L.getD c.I.toNat []).getD 0 .nil),((a.L.getD c.I.toNat []).getD 1 .nil),((a.L.getD c.I.toNat []).getD 2 .nil),((a.L.getD c.I.toNat []).getD 3 .nil)]) (fun xs=>(aY.d3 G0))))))) else none) else none)
def aY.step (G0:List C→Option (List C)):List C→Option (List C):=fun xs=>aV (ap4 (aY.d4 G0) xs)
def eh (G:List C→Option (List C)):FS:=⟨4,⟨[(0,(.ag [(.d (.sl 184))])),(1,(.d (.sl 73))),(2,(.d (.int .i64))),(3,(.d (.sl 9)))],[]⟩,⟨[(0,(.d .bool))],[]⟩,[],G⟩
theorem zI {G0:List C→Option (List C)} (h0:aB Tryz.checked.prog T0 169 (eh G0)):aB Tryz.checked.prog T0 169 (eh (aY.step G0)):=bA aE (fn:=Tryz.f169) (c:=Tryz.f169.body.getD .skip) (eh (aY.step G0)) (.seq .leaf (.seq .leaf (.seq .leaf (.seq (.seq .leaf (.block ⟨[],[]⟩ (.loop ⟨[(3,(.d (.sl 9))),(9,(.pt 9 0)),(10,(.d (.int .i64)))],[(9,.var 184 [(.d (.int .i64)),(.d .str),(.d .str),(.d (.int .i64))])]⟩ (.seq .leaf (.seq (.skip (.seq .leaf (.seq (.join ⟨[(3,(.d (.sl 9))),(9,(.pt 9 0)),(10,(.d (.int .i64))),(116,(.d .bool))],[(9,.var 184 [(.d (.int .i64)),(.d .str),(.d .str),(.d (.int .i64))])]⟩ .leaf) .leaf))) .leaf))))) .leaf)))) [(139,some 95,kv),(169,some 34,(eh G0)),(169,some 47,(eh G0)),(169,some 58,(eh G0)),(169,some 71,(eh G0)),(169,some 82,(eh G0))] (.cons qc (.cons h0 (.cons h0 (.cons h0 (.cons h0 (.cons h0 .nil)))))) (by kernel_rfl) (by kernel_rfl) (by kernel_rfl) (fun xs=>by kernel_rfl)
def aY.g:Nat→Nat→List C→Option (List C)
 |0,_=>fun _=>none
 |k+1,0=>aY.step (aY.g k 0)
 |_,_=>fun _=>none
theorem qO:∀k:Nat,aB Tryz.checked.prog T0 169 (eh (aY.g k 0))
 |0=>jP (fn:=Tryz.f169) (c:=Tryz.f169.body.getD .skip) (4) (⟨[(0,(.ag [(.d (.sl 184))])),(1,(.d (.sl 73))),(2,(.d (.int .i64))),(3,(.d (.sl 9)))],[]⟩) (⟨[(0,(.d .bool))],[]⟩) [] (by kernel_rfl) (by kernel_rfl) (by kernel_rfl)
 |k+1=>zI (qO k)
def aY:List C→Option (List C):=aY.g ie 0
theorem Am:aB Tryz.checked.prog T0 169 (eh aY):=qO ie
def gn.d1 (a b:C):R:=(aa (fu [a]) fun c=>(bif (!c.B) then (some (.ret [.b false])) else (call2 (dL [a]) fun d e=>(aa (aY [a,.l e.L,.i (w64 ((a.L.length:Int)-1)),b]) fun f=>(some (.ret [.b f.B]))))))
def gn:List C→Option (List C):=fun xs=>aV (ap2 gn.d1 xs)
def kI:FS:=⟨2,⟨[(0,(.ag [(zl 184)])),(1,(zl 9))],[]⟩,⟨[(0,zo)],[]⟩,[],gn⟩
theorem uY:aB Tryz.checked.prog T0 137 kI:=bA aE (fn:=Tryz.f137) (c:=Tryz.f137.body.getD .skip) kI .leaf [(167,some 8,ji),(168,some 12,iT),(169,some 22,(eh aY))] (.cons nQ (.cons mu (.cons Am .nil))) (by kernel_rfl) (by kernel_rfl) (by kernel_rfl) (fun xs=>by kernel_rfl)
def gN.d1 (a b c d e f g:C):R:=(call2 (fC [a]) fun h i=>(bif (i.I==0) then (aa (j3 [b,c,d,e,f,g]) fun j=>(aa (gn [h,.l j.L]) fun k=>(some (.ret [.b k.B])))) else (some (.ret [.b false]))))
def gN:List C→Option (List C):=fun xs=>aV (ap7 gN.d1 xs)
def ka:FS:=⟨2,⟨[(0,zt),(1,z8)],[]⟩,⟨[(0,zo)],[]⟩,[],gN⟩
theorem qN:aB Tryz.checked.prog T0 105 ka:=bA aE (fn:=Tryz.f105) (c:=Tryz.f105.body.getD .skip) ka .leaf [(136,some 9,iC),(137,some 18,kI),(138,some 17,nT)] (.cons oO (.cons uY (.cons zn .nil))) (by kernel_rfl) (by kernel_rfl) (by kernel_rfl) (fun xs=>by kernel_rfl)
def gg.d1 (a b c d e:C):R:=(aa (dg [a,b,c,d,e]) fun f=>(bif (decide (f.I<0)) then (some (.ret [.s (bs #[])])) else (bif (decide (0≤f.I)) then (bif (decide (f.I<(b.L.length:Int))) then (some (.ret [((b.L.getD f.I.toNat []).getD 1 .nil)])) else none) else none)))
def gg:List C→Option (List C):=fun xs=>aV (ap5 gg.d1 xs)
def iv:FS:=⟨2,⟨[(0,z2),(1,zt)],[]⟩,⟨[(0,zt)],[]⟩,[],gg⟩
theorem mJ:aB Tryz.checked.prog T0 116 iv:=bA aE (fn:=Tryz.f116) (c:=Tryz.f116.body.getD .skip) iv .leaf [(56,some 8,gu)] (.cons je .nil) (by kernel_rfl) (by kernel_rfl) (by kernel_rfl) (fun xs=>by kernel_rfl)
def bg.d1 (a b c d e f g h i j k l m n o p q r s t u v w x y z a0 a1 a2 a3 a4 a5 a6 a7 a8:C):R:=(aa (gg [b,c,d,e,a8]) fun a9=>(bif (a9.S.toList==s.S.toList) then (bif (!(a5.I==2)) then (bif (n.I==2) then (some (.ret [.b true])) else (some (.brk 1 [a,b,c,d,e,f,g,h,i,j,k,l,m,n,o,p,q,r,s,t,u,v,w]))) else (some (.ret [.b true]))) else (some (.brk 1 [a,b,c,d,e,f,g,h,i,j,k,l,m,n,o,p,q,r,s,t,u,v,w]))))
def bg.d2 (a b c d e f g h i j k l m n o p q r s t u v w:C):R:=(some (.again [.i (w64 (a.I+1)),b,c,d,e,f,g,h,i,j,k,l,m,n,o,p,q,r,s,t,u,v,w]))
def bg.d3 (a b c d e f g h i j k l m n o p q r s t u v w:C):R:=(bif (decide (a.I<(e.L.length:Int))) then (ah 1 (bif (decide (0≤a.I)) then (bif (decide (a.I<(e.L.length:Int))) then (bif (!((((e.L.getD a.I.toNat []).getD 0 .nil).S).toList==f.S.toList)) then (bif (!(!((((e.L.getD a.I.toNat []).getD 1 .nil).S).toList==g.S.toList))) then (bif ((((e.L.getD a.I.toNat []).getD 11 .nil).S).toList==(bs #[]).toList) then (some (.brk 1 [a,b,c,d,e,f,g,h,i,j,k,l,m,n,o,p,q,r,s,t,u,v,w])) else (bf (bif ((((e.L.getD a.I.toNat []).getD 11 .nil).S).toList==r.S.toList) then (bif (!(((e.L.getD a.I.toNat []).getD 8 .nil).I !=0)) then (bif (n.I !=0) then (some (.ret [.b true])) else (some (.nrm [a,b,c,d,e,f,g,h,i,j,k,l,m,n,o,p,q,r,s,t,u,v,w,((e.L.getD a.I.toNat []).getD 0 .nil),((e.L.getD a.I.toNat []).getD 1 .nil),((e.L.getD a.I.toNat []).getD 2 .nil),((e.L.getD a.I.toNat []).getD 3 .nil),((e.L.getD a.I.toNat []).getD 4 .nil),((e.L.getD a.I.toNat []).getD 5 .nil),((e.L.getD a.I.toNat []).getD 6 .nil),((e.L.getD a.I.toNat []).getD 7 .nil),((e.L.getD a.I.toNat []).getD 8 .nil),((e.L.getD a.I.toNat []).getD 9 .nil),((e.L.getD a.I.toNat []).getD 10 .nil),((e.L.getD a.I.toNat []).getD 11 .nil)]))) else (some (.ret [.b true]))) else (some (.nrm [a,b,c,d,e,f,g,h,i,j,k,l,m,n,o,p,q,r,s,t,u,v,w,((e.L.getD a.I.toNat []).getD 0 .nil),((e.L.getD a.I.toNat []).getD 1 .nil),((e.L.getD a.I.toNat []).getD 2 .nil),((e.L.getD a.I.toNat []).getD 3 .nil),((e.L.getD a.I.toNat []).getD 4 .nil),((e.L.getD a.I.toNat []).getD 5 .nil),((e.L.getD a.I.toNat []).getD 6 .nil),((e.L.getD a.I.toNat []).getD 7 .nil),((e.L.getD a.I.toNat []).getD 8 .nil),((e.L.getD a.I.toNat []).getD 9 .nil),((e.L.getD a.I.toNat []).getD 10 .nil),((e.L.getD a.I.toNat []).getD 11 .nil)]))) (Jx bg.d1))) else (some (.brk 1 [a,b,c,d,e,f,g,h,i,j,k,l,m,n,o,p,q,r,s,t,u,v,w]))) else (some (.brk 1 [a,b,c,d,e,f,g,h,i,j,k,l,m,n,o,p,q,r,s,t,u,v,w]))) else none) else none) (EA bg.d2)) else (some (.brk 0 [])))
def bg.d4:R:=(some (.ret [.b false]))
def bg.d5 (a b c d e f g h i j k l m n o p q r s t u v:C):R:=(ah 0 (lim (EA bg.d3) [.i 0,a,b,c,d,e,f,g,h,i,j,k,l,m,n,o,p,q,r,s,t,u,v]) (fun xs=>bg.d4))
def bg:List C→Option (List C):=fun xs=>aV (uZ bg.d5 xs)
def kD:FS:=⟨3,⟨[(0,z2),(1,z3),(2,z8)],[]⟩,⟨[(0,zo)],[]⟩,[],bg⟩
theorem u0:aB Tryz.checked.prog T0 106 kD:=bA aE (fn:=Tryz.f106) (c:=Tryz.f106.body.getD .skip) kD (.seq .leaf (.seq (.seq .leaf (.block ⟨[],[]⟩ (.loop ⟨[(3,(.pt 3 0)),(4,(.pt 4 0)),(5,(.pt 5 0)),(7,zi)],[(3,z0),(4,z1),(5,z4)]⟩ (.seq .leaf (.seq (.block ⟨[(3,(.pt 3 0)),(4,(.pt 4 0)),(5,(.pt 5 0)),(7,zi)],[(3,z0),(4,z1),(5,z4)]⟩ (.seq .leaf (.seq .leaf (.seq (.join ⟨[(3,(.pt 3 0)),(4,(.pt 4 0)),(5,(.pt 5 0)),(7,zi),(8,(.pt 8 0))],[(3,z0),(4,z1),(5,z4),(8,z1)]⟩ .leaf) .leaf)))) .leaf))))) .leaf)) [(116,some 56,iv)] (.cons mJ .nil) (by kernel_rfl) (by kernel_rfl) (by kernel_rfl) (fun xs=>by kernel_rfl)
def eG.d1 (a b c d e f g h i j k l m n o p q r s t u v w x:C):R:=(some (.again [a,.i (w64 (b.I+1)),c,d,e,f,g,h,i,j,k,l,m,n,o,p,q,r,s,t,u,v,w,x]))
def eG.d2 (a b c d e f g h i j k l m n o p q r s t u v w x:C):R:=(bif (decide (b.I<(f.L.length:Int))) then (ah 1 (bif (decide (0≤b.I)) then (bif (decide (b.I<(f.L.length:Int))) then (bif (!((((f.L.getD b.I.toNat []).getD 0 .nil).S).toList==g.S.toList)) then (bif (!(!((((f.L.getD b.I.toNat []).getD 1 .nil).S).toList==p.S.toList))) then (bif ((((f.L.getD b.I.toNat []).getD 11 .nil).S).toList==(bs #[]).toList) then (some (.brk 1 [a,b,c,d,e,f,g,h,i,j,k,l,m,n,o,p,q,r,s,t,u,v,w,x])) else (aa (gg [c,d,e,f,((f.L.getD b.I.toNat []).getD 11 .nil)]) fun y=>(bif (y.S.toList==t.S.toList) then (some (.ret [.b false])) else (some (.brk 1 [.b true,b,c,d,e,f,g,h,i,j,k,l,m,n,o,p,q,r,s,t,u,v,w,x]))))) else (some (.brk 1 [a,b,c,d,e,f,g,h,i,j,k,l,m,n,o,p,q,r,s,t,u,v,w,x]))) else (some (.brk 1 [a,b,c,d,e,f,g,h,i,j,k,l,m,n,o,p,q,r,s,t,u,v,w,x]))) else none) else none) (xT eG.d1)) else (some (.brk 0 [a,g,h,i,j,k,l,m,n,o,p,q,r])))
def eG.d3 (a b c d e f g h i j k l m:C):R:=(bif (!a.B) then (some (.ret [.b (!(k.S.toList==c.S.toList))])) else (some (.ret [.b true])))
def eG.d4 (a b c d e f g h i j k l m n o p q r s t u v:C):R:=(bif (n.S.toList==(bs #[]).toList) then (some (.ret [.b false])) else (ah 0 (lim (xT eG.d2) [.b false,.i 0,a,b,c,d,e,f,g,h,i,j,k,l,m,n,o,p,q,r,s,t,u,v]) (oU eG.d3)))
def eG:List C→Option (List C):=fun xs=>aV (uZ eG.d4 xs)
def q9:FS:=⟨3,⟨[(0,z2),(1,z3),(2,z8)],[]⟩,⟨[(0,zo)],[]⟩,[],eG⟩
theorem CJ:aB Tryz.checked.prog T0 107 q9:=bA aE (fn:=Tryz.f107) (c:=Tryz.f107.body.getD .skip) q9 (.seq .leaf (.seq .leaf (.seq .leaf (.seq (.seq .leaf (.block ⟨[(4,(.pt 4 0)),(7,zo)],[(4,z1)]⟩ (.loop ⟨[(3,(.pt 3 0)),(4,(.pt 4 0)),(5,(.pt 5 0)),(7,zo),(8,zi)],[(3,z0),(4,z1),(5,z4)]⟩ (.seq .leaf (.seq (.block ⟨[(3,(.pt 3 0)),(4,(.pt 4 0)),(5,(.pt 5 0)),(7,zo),(8,zi)],[(3,z0),(4,z1),(5,z4)]⟩ .leaf) .leaf))))) .leaf)))) [(116,some 45,iv)] (.cons mJ .nil) (by kernel_rfl) (by kernel_rfl) (by kernel_rfl) (fun xs=>by kernel_rfl)
def cE.d1 (a b c d e f g h i j k l m n o p q r s t u v w x y z a0 a1 a2 a3 a4 a5 a6 a7 a8 a9 b0 b1 b2 b3:C):R:=(bif f.B then (some (.again [a,.i (w64 (b.I+a6.I)),.i (w64 (c.I+a7.I)),.i (w64 (d.I+1)),.i (w64 (e.I+1)),g,h,i,j,k,l,m,n,o,p,q,r,s,t,u,v,w,x,y,z,a0,a1])) else (some (.again [a,b,c,d,.i (w64 (e.I+1)),g,h,i,j,k,l,m,n,o,p,q,r,s,t,u,v,w,x,y,z,a0,a1])))
def cE.d2 (a b c d e f g h i j k l m n o p q r s t u v w x y z a0:C):R:=(bif (decide (e.I<(i.L.length:Int))) then (bif (decide (0≤e.I)) then (bif (decide (e.I<(i.L.length:Int))) then (bf (bif (!((((i.L.getD e.I.toNat []).getD 0 .nil).S).toList==j.S.toList)) then (some (.nrm [a,b,c,d,e,.b ((((i.L.getD e.I.toNat []).getD 11 .nil).S).toList==v.S.toList),f,g,h,i,j,k,l,m,n,o,p,q,r,s,t,u,v,w,x,y,z,a0,((i.L.getD e.I.toNat []).getD 0 .nil),((i.L.getD e.I.toNat []).getD 1 .nil),((i.L.getD e.I.toNat []).getD 2 .nil),((i.L.getD e.I.toNat []).getD 3 .nil),((i.L.getD e.I.toNat []).getD 4 .nil),((i.L.getD e.I.toNat []).getD 5 .nil),((i.L.getD e.I.toNat []).getD 6 .nil),((i.L.getD e.I.toNat []).getD 7 .nil),((i.L.getD e.I.toNat []).getD 8 .nil),((i.L.getD e.I.toNat []).getD 9 .nil),((i.L.getD e.I.toNat []).getD 10 .nil),((i.L.getD e.I.toNat []).getD 11 .nil)])) else (some (.nrm [a,b,c,d,e,.b false,f,g,h,i,j,k,l,m,n,o,p,q,r,s,t,u,v,w,x,y,z,a0,((i.L.getD e.I.toNat []).getD 0 .nil),((i.L.getD e.I.toNat []).getD 1 .nil),((i.L.getD e.I.toNat []).getD 2 .nil),((i.L.getD e.I.toNat []).getD 3 .nil),((i.L.getD e.I.toNat []).getD 4 .nil),((i.L.getD e.I.toNat []).getD 5 .nil),((i.L.getD e.I.toNat []).getD 6 .nil),((i.L.getD e.I.toNat []).getD 7 .nil),((i.L.getD e.I.toNat []).getD 8 .nil),((i.L.getD e.I.toNat []).getD 9 .nil),((i.L.getD e.I.toNat []).getD 10 .nil),((i.L.getD e.I.toNat []).getD 11 .nil)]))) (Ju cE.d1)) else none) else none) else (some (.brk 0 [a,b,c,d,f,g,h,i,j,k,l,m,n,o,p,q,r,s,t,u,v,w,x,y,z,a0])))
def cE.d3 (a b c d e f g h i j k l m n o p q r s t u v w x y z:C):R:=(bif d.B then (some (.ret [.i 2])) else (aa (gN [o,u,v,w,x,y,z]) fun a0=>(bif (!a0.B) then (some (.ret [.i 3])) else (aa (bg [e,f,g,h,i,j,k,l,m,n,o,p,q,r,s,t,u,v,w,x,y,z]) fun a1=>(bif a1.B then (some (.ret [.i 4])) else (aa (eG [e,f,g,h,i,j,k,l,m,n,o,p,q,r,s,t,u,v,w,x,y,z]) fun a2=>(bif a2.B then (some (.ret [.i 5])) else (bif (decide (c.I≥10)) then (some (.ret [.i 6])) else (bif (decide (a.I>x.I)) then (some (.ret [.i 7])) else (bif (decide (b.I>y.I)) then (some (.ret [.i 8])) else (some (.ret [.i 0]))))))))))))
def cE.d4 (a b c d e f g h i j k l m n o p q r s t u v w x y z:C):R:=(bif d.B then (some (.ret [.i 1])) else (bf (bif (!(s.S.toList==(bs #[]).toList)) then (some (.nrm [a,b,c,.b (!(s.S.toList==u.S.toList)),e,f,g,h,i,j,k,l,m,n,o,p,q,r,s,t,u,v,w,x,y,z])) else (some (.nrm [a,b,c,.b false,e,f,g,h,i,j,k,l,m,n,o,p,q,r,s,t,u,v,w,x,y,z]))) (Hn cE.d3)))
def cE.d5 (a b c d e f g h i j k l m n o p q r s t u v w x y z:C):R:=(bf (bif z.B then (some (.nrm [b,c,d,.b (!a.B),e,f,g,h,i,j,k,l,m,n,o,p,q,r,s,t,u,v,w,x,y,z])) else (some (.nrm [b,c,d,.b false,e,f,g,h,i,j,k,l,m,n,o,p,q,r,s,t,u,v,w,x,y,z]))) (Hn cE.d4))
def cE.d6 (a b c d e f g h i j k l m n o p q r s t u v w:C):R:=(ah 0 (lim (Fi cE.d2) [w,i,j,.i 0,.i 0,a,b,c,d,e,f,g,h,i,j,k,l,m,n,o,p,q,r,s,t,u,v]) (Hn cE.d5))
def cE:List C→Option (List C):=fun xs=>aV (EA cE.d6 xs)
def mo:FS:=⟨4,⟨[(0,z2),(1,z3),(2,z8),(3,zo)],[]⟩,⟨[(0,zi)],[]⟩,[],cE⟩
theorem uE:aB Tryz.checked.prog T0 57 mo:=bA aE (fn:=Tryz.f57) (c:=Tryz.f57.body.getD .skip) mo (.seq .leaf (.seq .leaf (.seq .leaf (.seq .leaf (.seq (.seq .leaf (.block ⟨[(3,zo),(4,(.pt 4 0)),(5,(.pt 5 0)),(6,(.pt 6 0)),(9,zi),(10,zi),(11,zi)],[(4,z0),(5,z1),(6,z4)]⟩ (.loop ⟨[(3,zo),(4,(.pt 4 0)),(5,(.pt 5 0)),(6,(.pt 6 0)),(9,zi),(10,zi),(11,zi),(12,zi)],[(4,z0),(5,z1),(6,z4)]⟩ (.seq .leaf (.seq (.skip (.seq .leaf (.seq (.join ⟨[(3,zo),(4,(.pt 4 0)),(5,(.pt 5 0)),(6,(.pt 6 0)),(9,zi),(10,zi),(11,zi),(12,zi),(13,(.pt 13 0)),(41,zo)],[(4,z0),(5,z1),(6,z4),(13,z1)]⟩ .leaf) .leaf))) .leaf))))) (.seq (.skip (.seq (.join ⟨[(4,(.pt 4 0)),(5,(.pt 5 0)),(6,(.pt 6 0)),(9,zi),(10,zi),(11,zi),(52,zo)],[(4,z0),(5,z1),(6,z4)]⟩ .leaf) (.cond .leaf (.seq (.join ⟨[(4,(.pt 4 0)),(5,(.pt 5 0)),(6,(.pt 6 0)),(9,zi),(10,zi),(11,zi),(59,zo)],[(4,z0),(5,z1),(6,z4)]⟩ .leaf) .leaf)))) .leaf)))))) [(105,some 74,ka),(106,some 80,kD),(107,some 85,q9)] (.cons qN (.cons u0 (.cons CJ .nil))) (by kernel_rfl) (by kernel_rfl) (by kernel_rfl) (fun xs=>by kernel_rfl)
def aH.d1 (a b c d e f g h i j k l:C):R:=(bif (decide (b.I<a.I)) then (aa (dG [b]) fun m=>(bif (decide ((bs #[98]).size+m.S.size≤4294967296)) then (call8 (fP [.s ((bs #[98])++m.S),c,d]) fun n o p q r s t u=>(bif (decide (j.L.length+(rows [[n,o,.l u.L,p,q,r]]).length≤4294967296)) then (some (.again [a,.i (w64 (b.I+1)),s,t,e,f,.l g.L,.l h.L,.l i.L,.l (j.L++(rows [[n,o,.l u.L,p,q,r]])),.l k.L,.l l.L])) else none)) else none)) else (some (.brk 0 [c,d,e,f,.l g.L,.l h.L,.l i.L,.l j.L,.l k.L,.l l.L])))
def aH.d2 (a b c d e f g h i j k:C):R:=(bif (decide (a.I<4)) then (bif (decide (0≤a.I)) then (bif (decide (a.I<((rows [[.s (bs #[99,97,99,104,101])],[.s (bs #[100,98])],[.s (bs #[106,111,98])],[.s (bs #[119,101,98])]]).length:Int))) then (call3 (ae [.i 5,b,c]) fun l m n=>(bif (decide (j.L.length+(rows [[(((rows [[.s (bs #[99,97,99,104,101])],[.s (bs #[100,98])],[.s (bs #[106,111,98])],[.s (bs #[119,101,98])]]).getD a.I.toNat []).getD 0 .nil),l]]).length≤4294967296)) then (some (.again [.i (w64 (a.I+1)),m,n,d,e,.l f.L,.l g.L,.l h.L,.l i.L,.l (j.L++(rows [[(((rows [[.s (bs #[99,97,99,104,101])],[.s (bs #[100,98])],[.s (bs #[106,111,98])],[.s (bs #[119,101,98])]]).getD a.I.toNat []).getD 0 .nil),l]])),.l k.L])) else none)) else none) else none) else (some (.brk 2 [b,c,d,e,.l f.L,.l g.L,.l h.L,.l i.L,.l j.L,.l k.L])))
def aH.d3 (a b c d e f g h i j k l:C):R:=(bif (decide (b.I>0)) then (call14 (ca [b,c,d]) fun m n o p q r s t u v w x y z=>(call5 (cS [f,g,h,i,.i 3,.s (bs #[]),.s (bs #[]),.l ao,.i 0,.i 0,.b false,m,n,o,p,q,r,s,t,u,v,w,x,.s (bs #[]),.s (bs #[])]) fun a0 a1 a2 a3 a4=>(bif (a1.I==0) then (some (.again [a,.i (w64 (b.I-1)),y,z,e,a0,.l a2.L,.l a3.L,.l a4.L,.l j.L,.l k.L,.l l.L])) else (some (.again [a,.i (w64 (b.I-1)),y,z,e,f,g,h,i,.l j.L,.l k.L,.l l.L]))))) else (some (.brk 4 [a,c,d,e,f,g,h,i,.l j.L,.l k.L,.l l.L])))
def aH.d4 (a b c d e f g h i j k l m n o p q r s:C):R:=(bif c.B then (bif (decide (0≤b.I)) then (bif (decide (b.I<(j.L.length:Int))) then (call5 (cS [g,h,i,j,.i 5,.s (bs #[]),.s (bs #[]),.l ao,.i 0,.i 0,.b false,.s (bs #[]),.s (bs #[]),.i 0,.i 0,.i 0,.i 0,.s (bs #[]),.l ao,.i 0,.s (bs #[]),.s (bs #[]),.s (bs #[]),((j.L.getD b.I.toNat []).getD 0 .nil),k]) fun t u v w x=>(bif (u.I==0) then (some (.again [a,.i (w64 (b.I+1)),d,e,f,t,.l v.L,.l w.L,.l x.L,.l q.L,.l r.L,.l s.L])) else (some (.again [a,.i (w64 (b.I+1)),d,e,f,g,h,i,j,.l q.L,.l r.L,.l s.L])))) else none) else none) else (some (.again [a,.i (w64 (b.I+1)),d,e,f,g,h,i,j,.l q.L,.l r.L,.l s.L])))
def aH.d5 (a b c d e f g h i j k l:C):R:=(bif (decide (b.I<(i.L.length:Int))) then (call3 (ae [.i 4,c,d]) fun m n o=>(bif (decide (m.I<a.I)) then (call3 (ae [.i (g.L.length:Int),n,o]) fun p q r=>(bif (decide (0≤p.I)) then (bif (decide (p.I<(g.L.length:Int))) then (bif (decide (0≤b.I)) then (bif (decide (b.I<(i.L.length:Int))) then (aa (cE [f,g,h,i,((i.L.getD b.I.toNat []).getD 0 .nil),((i.L.getD b.I.toNat []).getD 1 .nil),((i.L.getD b.I.toNat []).getD 2 .nil),((i.L.getD b.I.toNat []).getD 3 .nil),((i.L.getD b.I.toNat []).getD 4 .nil),((i.L.getD b.I.toNat []).getD 5 .nil),((i.L.getD b.I.toNat []).getD 6 .nil),((i.L.getD b.I.toNat []).getD 7 .nil),((i.L.getD b.I.toNat []).getD 8 .nil),((i.L.getD b.I.toNat []).getD 9 .nil),((i.L.getD b.I.toNat []).getD 10 .nil),((i.L.getD b.I.toNat []).getD 11 .nil),((g.L.getD p.I.toNat []).getD 0 .nil),((g.L.getD p.I.toNat []).getD 1 .nil),((g.L.getD p.I.toNat []).getD 2 .nil),((g.L.getD p.I.toNat []).getD 3 .nil),((g.L.getD p.I.toNat []).getD 4 .nil),((g.L.getD p.I.toNat []).getD 5 .nil),.b true]) fun s=>(bf (bif (!(s.I==0)) then (bif (decide (s.I<6)) then (call3 (ae [.i 8,q,r]) fun t u v=>(some (.nrm [a,b,.b (t.I==0),u,v,e,f,g,h,i,((g.L.getD p.I.toNat []).getD 0 .nil),((g.L.getD p.I.toNat []).getD 1 .nil),((g.L.getD p.I.toNat []).getD 2 .nil),((g.L.getD p.I.toNat []).getD 3 .nil),((g.L.getD p.I.toNat []).getD 4 .nil),((g.L.getD p.I.toNat []).getD 5 .nil),.l j.L,.l k.L,.l l.L]))) else (some (.nrm [a,b,.b false,q,r,e,f,g,h,i,((g.L.getD p.I.toNat []).getD 0 .nil),((g.L.getD p.I.toNat []).getD 1 .nil),((g.L.getD p.I.toNat []).getD 2 .nil),((g.L.getD p.I.toNat []).getD 3 .nil),((g.L.getD p.I.toNat []).getD 4 .nil),((g.L.getD p.I.toNat []).getD 5 .nil),.l j.L,.l k.L,.l l.L]))) else (some (.nrm [a,b,.b true,q,r,e,f,g,h,i,((g.L.getD p.I.toNat []).getD 0 .nil),((g.L.getD p.I.toNat []).getD 1 .nil),((g.L.getD p.I.toNat []).getD 2 .nil),((g.L.getD p.I.toNat []).getD 3 .nil),((g.L.getD p.I.toNat []).getD 4 .nil),((g.L.getD p.I.toNat []).getD 5 .nil),.l j.L,.l k.L,.l l.L]))) (Af aH.d4))) else none) else none) else none) else none)) else (some (.again [a,.i (w64 (b.I+1)),n,o,e,f,g,h,i,.l j.L,.l k.L,.l l.L])))) else (some (.brk 6 [c,d,e,f,g,h,i,.l j.L,.l k.L,.l l.L])))
def aH.d6 (a b c d e f g h i j:C):R:=(some (.ret [d,e,f,g,a,b]))
def aH.d7 (a b c d e f g h i j k:C):R:=(ah 6 (lim (js aH.d5) [a,.i 0,b,c,d,e,f,g,h,.l i.L,.l j.L,.l k.L]) (tn aH.d6))
def aH.d8 (a b c d e f g h i j:C):R:=(call3 (ae [.i 4,a,b]) fun k l m=>(call3 (ae [.i 14,l,m]) fun n o p=>(ah 4 (lim (js aH.d3) [k,.i (w64 (1+n.I)),o,p,c,d,.l h.L,.l i.L,.l j.L,.l e.L,.l f.L,.l g.L]) (AI aH.d7))))
def aH.d9 (a b c d e f g h i j:C):R:=(ah 2 (lim (AI aH.d2) [.i 0,a,b,c,d,.l e.L,.l f.L,.l g.L,.l h.L,.l i.L,.l j.L]) (tn aH.d8))
def aH.d10 (a b:C):R:=(call3 (ae [.i 2,a,b]) fun c d e=>(call3 (ae [.i 5,d,e]) fun f g h=>(ah 0 (lim (js aH.d1) [.i (w64 (1+f.I)),.i 0,g,h,.b false,.b (c.I==0),.l ao,.l ao,.l ao,.l ao,.l ao,.l ao]) (tn aH.d9))))
def aH:List C→Option (List C):=fun xs=>aV (ap2 aH.d10 xs)
def po:FS:=⟨1,⟨[(0,(.pt 2000 0))],[(2000,z5)]⟩,⟨[(0,z2)],[(2000,z5)]⟩,[2000],aH⟩
theorem AN:aB Tryz.checked.prog T0 97 po:=pH aE [35] false (fn:=Tryz.f97) (c:=Tryz.f97.body.getD .skip) po (.seq .leaf (.seq .leaf (.seq .leaf (.seq (.seq .leaf (.block ⟨[(0,(.pt 2000 0)),(2,(.pt 2 0)),(3,(.pt 3 0))],[(2000,z5),(2,z9),(3,z14),(1027200,.arr 37 1),(1027201,.arr 60 1),(1027202,.arr 45 1),(1027203,.arr 37 1),(1027204,.arr 60 1),(1027205,.arr 45 1)]⟩ (.loop ⟨[(0,(.pt 2000 0)),(2,(.pt 2 0)),(3,(.pt 3 0)),(4,zi),(5,zi)],[(2000,z5),(2,z9),(3,z14),(1027200,.arr 37 1),(1027201,.arr 60 1),(1027202,.arr 45 1),(1027203,.arr 37 1),(1027204,.arr 60 1),(1027205,.arr 45 1)]⟩ .leaf))) (.seq (.seq .leaf (.block ⟨[(0,(.pt 2000 0)),(2,(.pt 2 0)),(3,(.pt 3 0))],[(2000,z5),(2,z9),(3,z14),(1027200,.arr 37 1),(1027201,.arr 60 1),(1027202,.arr 45 1),(1027203,.arr 37 1),(1027204,.arr 60 1),(1027205,.arr 45 1)]⟩ (.loop ⟨[(0,(.pt 2000 0)),(2,(.pt 2 0)),(3,(.pt 3 0)),(6,zi)],[(2000,z5),(2,z9),(3,z14),(1027200,.arr 37 1),(1027201,.arr 60 1),(1027202,.arr 45 1),(1027203,.arr 37 1),(1027204,.arr 60 1),(1027205,.arr 45 1)]⟩ .leaf))) (.seq .leaf (.seq (.seq .leaf (.block ⟨[(0,(.pt 2000 0)),(2,(.pt 2 0)),(3,(.pt 3 0)),(7,zi)],[(2000,z5),(2,z9),(3,z0),(1027200,.arr 37 1),(1027201,.arr 60 1),(1027202,.arr 45 1)]⟩ (.loop ⟨[(0,(.pt 2000 0)),(2,(.pt 2 0)),(3,(.pt 3 0)),(7,zi),(8,zi)],[(2000,z5),(2,z9),(3,z0),(1027200,.arr 37 1),(1027201,.arr 60 1),(1027202,.arr 45 1)]⟩ (.seq .leaf (.seq (.skip (.seq (.frz [1027203,1027204,1027205] .leaf) .leaf)) .leaf))))) (.seq (.seq .leaf (.block ⟨[(2,(.pt 2 0)),(3,(.pt 3 0))],[(2000,z5),(2,z9),(3,z0),(1027200,.arr 37 1),(1027201,.arr 60 1),(1027202,.arr 45 1)]⟩ (.loop ⟨[(0,(.pt 2000 0)),(2,(.pt 2 0)),(3,(.pt 3 0)),(7,zi),(11,zi)],[(2000,z5),(2,z9),(3,z0),(1027200,.arr 37 1),(1027201,.arr 60 1),(1027202,.arr 45 1)]⟩ (.seq .leaf (.seq (.skip (.seq .leaf (.cond (.seq .leaf (.seq .leaf (.seq (.join ⟨[(0,(.pt 2000 0)),(2,(.pt 2 0)),(3,(.pt 3 0)),(7,zi),(11,zi),(12,(.pt 12 0)),(113,zo)],[(2000,z5),(2,z9),(3,z0),(12,z4),(1027200,.arr 37 1),(1027201,.arr 60 1),(1027202,.arr 45 1)]⟩ .leaf) (.cond (.seq (.frz [1027203] .leaf) .leaf) .leaf)))) .leaf))) .leaf))))) .leaf)))))))) [(47,some 69,gZ),(47,some 125,gZ),(57,some 102,mo),(76,some 17,ab),(76,some 21,ab),(76,some 49,ab),(76,some 55,ab),(76,some 57,ab),(76,some 83,ab),(76,some 92,ab),(76,some 110,ab),(131,some 32,(fg dG)),(132,some 34,jK),(133,some 67,kF)] (.cons mZ (.cons mZ (.cons uE (.cons ad (.cons ad (.cons ad (.cons ad (.cons ad (.cons ad (.cons ad (.cons ad (.cons nO (.cons tH (.cons u9 .nil)))))))))))))) (by kernel_rfl) (by kernel_rfl) (by kernel_rfl) (fun xs=>by kernel_rfl)
end
end Go.Ev
namespace Go.Ev
open Go.Proofs
noncomputable section
def eI.d1 (a b c:C):R:=(bif (decide (b.I>0)) then (bif ((b.I.tmod 2)==1) then (bif (decide (c.S.size+a.S.size≤4294967296)) then (bif (decide (a.S.size+a.S.size≤4294967296)) then (some (.again [.s (a.S++a.S),.i (w64 (b.I.tdiv 2)),.s (c.S++a.S)])) else none) else none) else (bif (decide (a.S.size+a.S.size≤4294967296)) then (some (.again [.s (a.S++a.S),.i (w64 (b.I.tdiv 2)),c])) else none)) else (some (.brk 0 [c])))
def eI.d2 (a:C):R:=(some (.ret [a]))
def eI.d3 (a b:C):R:=(ah 0 (lim (ap3 eI.d1) [a,b,.s (bs #[])]) (ap1 eI.d2))
def eI:List C→Option (List C):=fun xs=>aV (ap2 eI.d3 xs)
def mf:FS:=⟨2,⟨[(0,zt),(1,zi)],[]⟩,⟨[(0,zt)],[]⟩,[],eI⟩
theorem ur:aB Tryz.checked.prog T0 134 mf:=bA aE (fn:=Tryz.f134) (c:=Tryz.f134.body.getD .skip) mf (.seq .leaf (.seq .leaf (.seq (.block ⟨[(5,zt)],[]⟩ (.loop ⟨[(0,zt),(1,zi),(5,zt)],[]⟩ .leaf)) .leaf))) [] .nil (by kernel_rfl) (by kernel_rfl) (by kernel_rfl) (fun xs=>by kernel_rfl)
def bJ.d1 (a b c d e f g h i j k l:C):R:=(bif (decide (0≤a.I)) then (bif (decide (a.I<(l.L.length:Int))) then (bif (decide ((((l.L.getD a.I.toNat []).getD 7 .nil).L.length:Int)<b.I)) then (bif (decide (0≤a.I)) then (bif (decide (a.I<(l.L.length:Int))) then (call3 (ae [.i 2,c,d]) fun m n o=>(call3 (ae [.i 2,n,o]) fun p q r=>(bif (decide (((l.L.getD a.I.toNat []).getD 7 .nil).L.length+(rows [[.s (bs #[]),.i (w64 (9+(w64 (m.I*p.I))))]]).length≤4294967296)) then (bif (decide (0≤a.I)) then (bif (decide (a.I<((l.L.set a.I.toNat (aK (l.L.getD a.I.toNat []) 7 [.nil])).length:Int))) then (bif (List.all ((l.L.set a.I.toNat (aK (l.L.getD a.I.toNat []) 7 [.nil])).set a.I.toNat (aK ((l.L.set a.I.toNat (aK (l.L.getD a.I.toNat []) 7 [.nil])).getD a.I.toNat []) 7 [.l (((l.L.getD a.I.toNat []).getD 7 .nil).L++(rows [[.s (bs #[]),.i (w64 (9+(w64 (m.I*p.I))))]]))])) (pR [.str,.str,(.int .i64),(.int .i64),(.int .i64),(.int .i64),.str,(.sl 109),(.int .i64),.str,.str,.str])) then (some (.again [a,b,q,r,e,f,.l g.L,.l h.L,.l i.L,.l j.L,.l k.L,.l ((l.L.set a.I.toNat (aK (l.L.getD a.I.toNat []) 7 [.nil])).set a.I.toNat (aK ((l.L.set a.I.toNat (aK (l.L.getD a.I.toNat []) 7 [.nil])).getD a.I.toNat []) 7 [.l (((l.L.getD a.I.toNat []).getD 7 .nil).L++(rows [[.s (bs #[]),.i (w64 (9+(w64 (m.I*p.I))))]]))]))])) else none) else none) else none) else none))) else none) else none) else (some (.brk 1 [c,d,e,f,.l g.L,.l h.L,.l i.L,.l j.L,.l k.L,.l l.L]))) else none) else none)
def bJ.d2 (a b c d e f g h i j:C):R:=(some (.nrm [a,b,c,d,.l j.L,.l e.L,.l f.L,.l g.L,.l h.L,.l i.L]))
def bJ.d3 (a b c d e f g h i j k l m:C):R:=(bif (decide (c.I<b.I)) then (bif (decide ((bs #[99]).size+(kq (rows [[.i (IntKind.wrap .u8 (w64 (97+c.I)))]])).size≤4294967296)) then (bif (decide (0≤a.I)) then (bif (decide (a.I<(k.L.length:Int))) then (bif (decide (m.L.length+(rows [[.s ((bs #[99])++(kq (rows [[.i (IntKind.wrap .u8 (w64 (97+c.I)))]]))),.s (bs #[119,101,98]),.i 0,.i 0,.i 0,.i 0,.s (bs #[]),.l ao,.i 0,.s (bs #[]),.s (bs #[]),((k.L.getD a.I.toNat []).getD 0 .nil)]]).length≤4294967296)) then (some (.again [a,b,.i (w64 (c.I+1)),d,e,f,g,.l h.L,.l i.L,.l j.L,.l k.L,.l l.L,.l (m.L++(rows [[.s ((bs #[99])++(kq (rows [[.i (IntKind.wrap .u8 (w64 (97+c.I)))]]))),.s (bs #[119,101,98]),.i 0,.i 0,.i 0,.i 0,.s (bs #[]),.l ao,.i 0,.s (bs #[]),.s (bs #[]),((k.L.getD a.I.toNat []).getD 0 .nil)]]))])) else none) else none) else none) else none) else (some (.brk 3 [d,e,f,g,.l h.L,.l i.L,.l j.L,.l k.L,.l l.L,.l m.L])))
def bJ.d4 (a b c d e f g h i j:C):R:=(some (.ret [d,e,a,b,.l i.L,.l j.L]))
def bJ.d5 (a b c d e f:C):R:=(call4 (bV [a,b,c,d]) fun g h i j=>(call3 (ae [.i (h.L.length:Int),e,f]) fun k l m=>(call3 (ae [.i (j.L.length:Int),l,m]) fun n o p=>(bif (!((h.L.length:Int)==0)) then (bif ((j.L.length:Int)==0) then (some (.ret [.b false,.l ao,o,p,.l ao,.l (rows [[.s (bs #[]),.i 0]])])) else (bf (call3 (ae [.i 16,o,p]) fun q r s=>(bif (q.I==0) then (call3 (ae [.i 2,r,s]) fun t u v=>(aa (eI [.s (bs #[110]),.i (w64 (20+t.I))]) fun w=>(call3 (ae [.i 4,u,v]) fun x y z=>(bif (decide (0≤x.I)) then (bif (decide (x.I<((rows [[.s (bs #[])],[.s (bs #[65])],[.s (bs #[122,122])],[w]]).length:Int))) then (bif (decide (0≤k.I)) then (bif (decide (k.I<(h.L.length:Int))) then (some (.nrm [y,z,.b false,g,.l j.L,.l ao,.l ao,.l ao,.l (h.L.set k.I.toNat (aK (h.L.getD k.I.toNat []) 0 [(((rows [[.s (bs #[])],[.s (bs #[65])],[.s (bs #[122,122])],[w]]).getD x.I.toNat []).getD 0 .nil)])),.l i.L])) else none) else none) else none) else none)))) else (bif (q.I==1) then (call3 (ae [.i 2,r,s]) fun a0 a1 a2=>(bif (decide (0≤a0.I)) then (bif (decide (a0.I<((rows [[.s (bs #[])],[.s (bs #[120,32,121])]]).length:Int))) then (bif (decide (0≤k.I)) then (bif (decide (k.I<(h.L.length:Int))) then (some (.nrm [a1,a2,.b false,g,.l j.L,.l ao,.l ao,.l ao,.l (h.L.set k.I.toNat (aK (h.L.getD k.I.toNat []) 1 [(((rows [[.s (bs #[])],[.s (bs #[120,32,121])]]).getD a0.I.toNat []).getD 0 .nil)])),.l i.L])) else none) else none) else none) else none)) else (bif (q.I==2) then (call3 (ae [.i 6,r,s]) fun a3 a4 a5=>(bif (decide (0≤a3.I)) then (bif (decide (a3.I<((rows [[.l (rows [[.s (bs #[98])],[.s (bs #[97])]])],[.l (rows [[.s (bs #[97])],[.s (bs #[97,61,98])]])],[.l (rows [[.s (bs #[97,61,98])],[.s (bs #[97,61,99])]])],[.l (rows [[.s (bs #[65])]])],[.l (rows [[.s (bs #[97])],[.s (bs #[97,45,120])],[.s (bs #[97,61,98])]])],[.l (rows [[.s (bs #[49])],[.s (bs #[50])],[.s (bs #[51])],[.s (bs #[52])],[.s (bs #[53])],[.s (bs #[54])],[.s (bs #[55])],[.s (bs #[56])],[.s (bs #[57])],[.s (bs #[97])],[.s (bs #[98])]])]]).length:Int))) then (bif (decide (0≤k.I)) then (bif (decide (k.I<(h.L.length:Int))) then (some (.nrm [a4,a5,.b false,g,.l j.L,.l ao,.l ao,.l ao,.l (h.L.set k.I.toNat (aK (h.L.getD k.I.toNat []) 2 [(((rows [[.l (rows [[.s (bs #[98])],[.s (bs #[97])]])],[.l (rows [[.s (bs #[97])],[.s (bs #[97,61,98])]])],[.l (rows [[.s (bs #[97,61,98])],[.s (bs #[97,61,99])]])],[.l (rows [[.s (bs #[65])]])],[.l (rows [[.s (bs #[97])],[.s (bs #[97,45,120])],[.s (bs #[97,61,98])]])],[.l (rows [[.s (bs #[49])],[.s (bs #[50])],[.s (bs #[51])],[.s (bs #[52])],[.s (bs #[53])],[.s (bs #[54])],[.s (bs #[55])],[.s (bs #[56])],[.s (bs #[57])],[.s (bs #[97])],[.s (bs #[98])]])]]).getD a3.I.toNat []).getD 0 .nil)])),.l i.L])) else none) else none) else none) else none)) else (bif (q.I==3) then (call3 (ae [.i 4,r,s]) fun a6 a7 a8=>(bif (decide (0≤a6.I)) then (bif (decide (a6.I<((rows [[.i (-1)],[.i 0],[.i 1000],[.i 1001]]).length:Int))) then (bif (decide (0≤k.I)) then (bif (decide (k.I<(h.L.length:Int))) then (some (.nrm [a7,a8,.b false,g,.l j.L,.l ao,.l ao,.l ao,.l (h.L.set k.I.toNat (aK (h.L.getD k.I.toNat []) 3 [(((rows [[.i (-1)],[.i 0],[.i 1000],[.i 1001]]).getD a6.I.toNat []).getD 0 .nil)])),.l i.L])) else none) else none) else none) else none)) else (bif (q.I==4) then (bif (decide (0≤k.I)) then (bif (decide (k.I<(h.L.length:Int))) then (bif (decide (h.L.length+(rows [[((h.L.getD k.I.toNat []).getD 0 .nil),((h.L.getD k.I.toNat []).getD 1 .nil),((h.L.getD k.I.toNat []).getD 2 .nil),((h.L.getD k.I.toNat []).getD 3 .nil),((h.L.getD k.I.toNat []).getD 4 .nil),((h.L.getD k.I.toNat []).getD 5 .nil)]]).length≤4294967296)) then (some (.nrm [r,s,.b false,g,.l j.L,.l ao,.l ao,.l ao,.l (h.L++(rows [[((h.L.getD k.I.toNat []).getD 0 .nil),((h.L.getD k.I.toNat []).getD 1 .nil),((h.L.getD k.I.toNat []).getD 2 .nil),((h.L.getD k.I.toNat []).getD 3 .nil),((h.L.getD k.I.toNat []).getD 4 .nil),((h.L.getD k.I.toNat []).getD 5 .nil)]])),.l i.L])) else none) else none) else none) else (bif (q.I==5) then (call3 (ae [.i 4,r,s]) fun a9 b0 b1=>(call3 (ae [.i 3,b0,b1]) fun b2 b3 b4=>(bif (decide (0≤b2.I)) then (bif (decide (b2.I<((rows [[.i (-1)],[.i 60],[.i 61]]).length:Int))) then (bif (decide (0≤a9.I)) then (bif (decide (a9.I<(i.L.length:Int))) then (some (.nrm [b3,b4,.b false,g,.l j.L,.l ao,.l ao,.l ao,.l h.L,.l (i.L.set a9.I.toNat (aK (i.L.getD a9.I.toNat []) 1 [(((rows [[.i (-1)],[.i 60],[.i 61]]).getD b2.I.toNat []).getD 0 .nil)]))])) else none) else none) else none) else none))) else (bif (q.I==6) then (call3 (ae [.i 3,r,s]) fun b5 b6 b7=>(bif (decide (0≤b5.I)) then (bif (decide (b5.I<((rows [[.i (-1)],[.i 100],[.i 101]]).length:Int))) then (bif (decide (0≤n.I)) then (bif (decide (n.I<(j.L.length:Int))) then (some (.nrm [b6,b7,.b false,g,.l (j.L.set n.I.toNat (aK (j.L.getD n.I.toNat []) 2 [(((rows [[.i (-1)],[.i 100],[.i 101]]).getD b5.I.toNat []).getD 0 .nil)])),.l ao,.l ao,.l ao,.l h.L,.l i.L])) else none) else none) else none) else none)) else (bif (q.I==7) then (call3 (ae [.i 3,r,s]) fun b8 b9 c0=>(bif (decide (0≤b8.I)) then (bif (decide (b8.I<((rows [[.i (-1)],[.i 1000000],[.i 1000001]]).length:Int))) then (bif (decide (0≤n.I)) then (bif (decide (n.I<(j.L.length:Int))) then (some (.nrm [b9,c0,.b false,g,.l (j.L.set n.I.toNat (aK (j.L.getD n.I.toNat []) 3 [(((rows [[.i (-1)],[.i 1000000],[.i 1000001]]).getD b8.I.toNat []).getD 0 .nil)])),.l ao,.l ao,.l ao,.l h.L,.l i.L])) else none) else none) else none) else none)) else (bif (q.I==8) then (call3 (ae [.i 3,r,s]) fun c1 c2 c3=>(bif (decide (0≤c1.I)) then (bif (decide (c1.I<((rows [[.i (-1)],[.i 1000],[.i 1001]]).length:Int))) then (bif (decide (0≤n.I)) then (bif (decide (n.I<(j.L.length:Int))) then (some (.nrm [c2,c3,.b false,g,.l (j.L.set n.I.toNat (aK (j.L.getD n.I.toNat []) 4 [(((rows [[.i (-1)],[.i 1000],[.i 1001]]).getD c1.I.toNat []).getD 0 .nil)])),.l ao,.l ao,.l ao,.l h.L,.l i.L])) else none) else none) else none) else none)) else (bif (q.I==9) then (aa (eI [.s (bs #[97]),.i 201]) fun c4=>(call3 (ae [.i 4,r,s]) fun c5 c6 c7=>(bif (decide (0≤c5.I)) then (bif (decide (c5.I<((rows [[.s (bs #[97,32,98])],[.s (bs #[33])],[c4],[.s (bs #[120])]]).length:Int))) then (bif (decide (0≤n.I)) then (bif (decide (n.I<(j.L.length:Int))) then (some (.nrm [c6,c7,.b false,g,.l (j.L.set n.I.toNat (aK (j.L.getD n.I.toNat []) 6 [(((rows [[.s (bs #[97,32,98])],[.s (bs #[33])],[c4],[.s (bs #[120])]]).getD c5.I.toNat []).getD 0 .nil)])),.l ao,.l ao,.l ao,.l h.L,.l i.L])) else none) else none) else none) else none))) else (bif (q.I==10) then (call3 (ae [.i 2,r,s]) fun c8 c9 d0=>(ah 1 (lim (js bJ.d1) [n,.i (w64 (5+c8.I)),c9,d0,.b false,g,.l ao,.l ao,.l ao,.l h.L,.l i.L,.l j.L]) (tn bJ.d2))) else (bif (q.I==11) then (call3 (ae [.i 2,r,s]) fun d1 d2 d3=>(bif (decide (0≤d1.I)) then (bif (decide (d1.I<((rows [[.i (-1)],[.i 3]]).length:Int))) then (bif (decide (0≤n.I)) then (bif (decide (n.I<(j.L.length:Int))) then (some (.nrm [d2,d3,.b false,g,.l (j.L.set n.I.toNat (aK (j.L.getD n.I.toNat []) 8 [(((rows [[.i (-1)],[.i 3]]).getD d1.I.toNat []).getD 0 .nil)])),.l ao,.l ao,.l ao,.l h.L,.l i.L])) else none) else none) else none) else none)) else (bif (q.I==12) then (call3 (ae [.i 3,r,s]) fun d4 d5 d6=>(bif (decide (0≤d4.I)) then (bif (decide (d4.I<((rows [[.s (bs #[103,111,110,101])],[.s (bs #[98,48])],[.s (bs #[98,49])]]).length:Int))) then (bif (decide (0≤n.I)) then (bif (decide (n.I<(j.L.length:Int))) then (some (.nrm [d5,d6,.b false,g,.l (j.L.set n.I.toNat (aK (j.L.getD n.I.toNat []) 11 [(((rows [[.s (bs #[103,111,110,101])],[.s (bs #[98,48])],[.s (bs #[98,49])]]).getD d4.I.toNat []).getD 0 .nil)])),.l ao,.l ao,.l ao,.l h.L,.l i.L])) else none) else none) else none) else none)) else (bif (q.I==13) then (call3 (ae [.i 2,r,s]) fun d7 d8 d9=>(bif (decide (0≤d7.I)) then (bif (decide (d7.I<((rows [[.s (bs #[110,111,110,101])],[.s (bs #[])]]).length:Int))) then (bif (decide (0≤n.I)) then (bif (decide (n.I<(j.L.length:Int))) then (some (.nrm [d8,d9,.b false,g,.l (j.L.set n.I.toNat (aK (j.L.getD n.I.toNat []) 1 [(((rows [[.s (bs #[110,111,110,101])],[.s (bs #[])]]).getD d7.I.toNat []).getD 0 .nil)])),.l ao,.l ao,.l ao,.l h.L,.l i.L])) else none) else none) else none) else none)) else (bif (q.I==14) then (call3 (ae [.i 2,r,s]) fun e0 e1 e2=>(ah 3 (lim (oU bJ.d3) [k,.i (w64 (10+e0.I)),.i 0,e1,e2,.b false,g,.l ao,.l ao,.l ao,.l h.L,.l i.L,.l ao]) (tn bJ.d2))) else (call3 (ae [.i 2,r,s]) fun e3 e4 e5=>(bif (decide (0≤e3.I)) then (bif (decide (e3.I<((rows [[.s (bs #[65])],[.s (bs #[119,101,98])]]).length:Int))) then (bif (decide (0≤n.I)) then (bif (decide (n.I<(j.L.length:Int))) then (call3 (ae [.i 2,e4,e5]) fun e6 e7 e8=>(bif (decide (0≤e6.I)) then (bif (decide (e6.I<((rows [[.s (bs #[120,32,121])],[.s (bs #[98,48])]]).length:Int))) then (bif (decide (0≤n.I)) then (bif (decide (n.I<((j.L.set n.I.toNat (aK (j.L.getD n.I.toNat []) 9 [(((rows [[.s (bs #[65])],[.s (bs #[119,101,98])]]).getD e3.I.toNat []).getD 0 .nil)])).length:Int))) then (some (.nrm [e7,e8,.b false,g,.l ((j.L.set n.I.toNat (aK (j.L.getD n.I.toNat []) 9 [(((rows [[.s (bs #[65])],[.s (bs #[119,101,98])]]).getD e3.I.toNat []).getD 0 .nil)])).set n.I.toNat (aK ((j.L.set n.I.toNat (aK (j.L.getD n.I.toNat []) 9 [(((rows [[.s (bs #[65])],[.s (bs #[119,101,98])]]).getD e3.I.toNat []).getD 0 .nil)])).getD n.I.toNat []) 10 [(((rows [[.s (bs #[120,32,121])],[.s (bs #[98,48])]]).getD e6.I.toNat []).getD 0 .nil)])),.l ao,.l ao,.l ao,.l h.L,.l i.L])) else none) else none) else none) else none)) else none) else none) else none) else none)))))))))))))))))) (tn bJ.d4))) else (some (.ret [.b false,.l ao,o,p,.l ao,.l (rows [[.s (bs #[]),.i 0]])]))))))
def bJ:List C→Option (List C):=fun xs=>aV (ap6 bJ.d5 xs)
def oc:FS:=⟨2,⟨[(0,(.pt 2000 0)),(1,z2)],[(2000,z5)]⟩,⟨[(0,(.ag [zo,(.ow 3001),(.ow 3002),(zl 45)]))],[(2000,z5),(3001,.arr 37),(3002,.arr 60 1)]⟩,[2000],bJ⟩
theorem zw:aB Tryz.checked.prog T0 98 oc:=Ie aE [125,287] true [37,60] (fn:=Tryz.f98) (c:=Tryz.f98.body.getD .skip) oc (.seq .leaf (.seq .leaf (.seq .leaf (.seq .leaf (.seq .leaf (.seq (.join ⟨[(4,(.pt 4 0)),(5,(.pt 5 0))],[(2000,z5),(4,.var 27 [zo,(.ow 1195700),(.ow 1195701),(.ow 1195702)]),(5,.var 27 [zo,(.ow 56248),(.ow 56249),(zl 45)]),(1195700,.arr 37 1),(1195701,.arr 60 1),(1195702,.arr 45 1),(56248,.arr 37),(56249,.arr 60 1)]⟩ (.seq .leaf (.skip (.seq .leaf (.cond .leaf (.seq .leaf (.cond .leaf (.seq .leaf (.cond .leaf (.seq .leaf (.cond .leaf (.seq .leaf (.cond .leaf (.seq .leaf (.cond .leaf (.seq .leaf (.cond .leaf (.seq .leaf (.cond .leaf (.seq .leaf (.cond .leaf (.seq .leaf (.cond .leaf (.seq .leaf (.cond (.seq .leaf (.block ⟨[(4,(.pt 4 0)),(5,(.pt 5 0))],[(2000,z5),(4,.var 27 [zo,(.ow 1195700),(.ow 1195701),(.ow 1195702)]),(5,.var 27 [zo,(.ow 56248),(.ow 56249),(.ow 56250)]),(1195700,.arr 37 1),(1195701,.arr 60 1),(1195702,.arr 45 1),(56248,.arr 37 1),(56249,.arr 60 1),(56250,.arr 45 2)]⟩ (.loop ⟨[(0,(.pt 2000 0)),(4,(.pt 4 0)),(5,(.pt 5 0)),(7,zi),(8,zi)],[(2000,z5),(4,.var 27 [zo,(.ow 1195700),(.ow 1195701),(.ow 1195702)]),(5,.var 27 [zo,(.ow 56248),(.ow 56249),(.ow 56250)]),(1195700,.arr 37 1),(1195701,.arr 60 1),(1195702,.arr 45 1),(56248,.arr 37 1),(56249,.arr 60 1),(56250,.arr 45 2)]⟩ .leaf))) (.seq .leaf (.cond .leaf (.seq .leaf (.cond .leaf (.seq .leaf (.cond .leaf (.seq .leaf (.cond (.seq .leaf (.seq .leaf (.seq .leaf (.block ⟨[(4,(.pt 4 0)),(5,(.pt 5 0))],[(2000,z5),(4,.var 27 [zo,(.ow 1198800),(.ow 1198801),(.ow 1198802)]),(5,.var 27 [zo,(.ow 56248),(.ow 56249),(.ow 265)]),(1198800,.arr 37 1),(1198801,.arr 60 1),(1198802,.arr 45 1),(56248,.arr 37 1),(56249,.arr 60 1),(265,.arr 45 1)]⟩ (.loop ⟨[(4,(.pt 4 0)),(5,(.pt 5 0)),(6,zi),(9,zi),(10,zi)],[(2000,z5),(4,.var 27 [zo,(.ow 1198800),(.ow 1198801),(.ow 1198802)]),(5,.var 27 [zo,(.ow 56248),(.ow 56249),(.ow 265)]),(1198800,.arr 37 1),(1198801,.arr 60 1),(1198802,.arr 45 1),(56248,.arr 37 1),(56249,.arr 60 1),(265,.arr 45 1)]⟩ .leaf))))) .leaf))))))))))))))))))))))))))))))))) .leaf)))))) [(76,some 17,ab),(76,some 22,ab),(76,some 37,ab),(76,some 43,ab),(76,some 53,ab),(76,some 64,ab),(76,some 69,ab),(76,some 81,ab),(76,some 99,ab),(76,some 111,ab),(76,some 133,ab),(76,some 136,ab),(76,some 148,ab),(76,some 160,ab),(76,some 172,ab),(76,some 185,ab),(76,some 193,ab),(76,some 214,ab),(76,some 216,ab),(76,some 231,ab),(76,some 243,ab),(76,some 255,ab),(76,some 263,ab),(85,some 12,jq),(134,some 66,mf),(134,some 182,mf)] (.cons ad (.cons ad (.cons ad (.cons ad (.cons ad (.cons ad (.cons ad (.cons ad (.cons ad (.cons ad (.cons ad (.cons ad (.cons ad (.cons ad (.cons ad (.cons ad (.cons ad (.cons ad (.cons ad (.cons ad (.cons ad (.cons ad (.cons ad (.cons nN (.cons ur (.cons ur .nil)))))))))))))))))))))))))) (by kernel_rfl) (by kernel_rfl) (by kernel_rfl) (fun xs=>by kernel_rfl)
def nR.d1 (a b:C):R:=(call3 (ae [.i 12,a,b]) fun c d e=>(bif (c.I==0) then (call6 (cF [d,e]) fun f g h i j k=>(some (.ret [f,.l i.L,.l j.L,.l k.L,g,h]))) else (call6 (aH [d,e]) fun l m n o p q=>(call3 (ae [.i 16,p,q]) fun r s t=>(bif (r.I==0) then (call6 (bJ [l,m,n,o,s,t]) fun u v w x y z=>(some (.ret [u,.l y.L,.l z.L,v,w,x]))) else (some (.ret [l,m,n,o,s,t])))))))
def nR:List C→Option (List C):=fun xs=>aV (ap2 nR.d1 xs)
def rn:FS:=⟨1,⟨[(0,(.pt 2000 0))],[(2000,z5)]⟩,⟨[(0,z2)],[(2000,z5)]⟩,[2000],nR⟩
theorem Cw:aB Tryz.checked.prog T0 49 rn:=bA aE (fn:=Tryz.f49) (c:=Tryz.f49.body.getD .skip) rn (.seq .leaf (.seq (.seq .leaf (.cond (.seq .leaf (.frz [39865,39866,39867] .leaf)) .leaf)) (.seq .leaf (.seq (.seq .leaf (.cond (.seq .leaf (.frz [72633,72634] .leaf)) .leaf)) .leaf)))) [(76,some 5,ab),(76,some 12,ab),(96,some 8,pv),(97,some 10,po),(98,some 16,oc)] (.cons ad (.cons ad (.cons Bo (.cons AN (.cons zw .nil))))) (by kernel_rfl) (by kernel_rfl) (by kernel_rfl) (fun xs=>by kernel_rfl)
def eC.d1 (a:C):R:=(call2 (lS [a]) fun b c=>(call6 (nR [b,c]) fun d e f g h i=>(some (.ret [d,e,f,g]))))
def eC:List C→Option (List C):=fun xs=>aV (ap1 eC.d1 xs)
def ig:FS:=⟨1,⟨[(0,(zl 5))],[]⟩,⟨[(0,z2)],[]⟩,[],eC⟩
theorem qF:aB Tryz.checked.prog T0 30 ig:=bA aE (fn:=Tryz.f30) (c:=Tryz.f30.body.getD .skip) ig .leaf [(48,some 4,py),(49,some 5,rn)] (.cons A8 (.cons Cw .nil)) (by kernel_rfl) (by kernel_rfl) (by kernel_rfl) (fun xs=>by kernel_rfl)
def qq.d1 (a:C):R:=(bif (decide (a.I≥97)) then (bif (!(decide (a.I≤122))) then (bif (decide (a.I≥48)) then (bif (!(decide (a.I≤57))) then (bif (!(a.I==45)) then (some (.ret [.b (a.I==95)])) else (some (.ret [.b true]))) else (some (.ret [.b true]))) else (bif (!(a.I==45)) then (some (.ret [.b (a.I==95)])) else (some (.ret [.b true])))) else (some (.ret [.b true]))) else (bif (decide (a.I≥48)) then (bif (!(decide (a.I≤57))) then (bif (!(a.I==45)) then (some (.ret [.b (a.I==95)])) else (some (.ret [.b true]))) else (some (.ret [.b true]))) else (bif (!(a.I==45)) then (some (.ret [.b (a.I==95)])) else (some (.ret [.b true])))))
def qq:List C→Option (List C):=fun xs=>aV (ap1 qq.d1 xs)
def od:FS:=⟨1,⟨[(0,(.d (.int .u8)))],[]⟩,⟨[(0,zo)],[]⟩,[],qq⟩
theorem xm:aB Tryz.checked.prog T0 112 od:=bA aE (fn:=Tryz.f112) (c:=Tryz.f112.body.getD .skip) od .leaf [] .nil (by kernel_rfl) (by kernel_rfl) (by kernel_rfl) (fun xs=>by kernel_rfl)
def dP.d1 (a b c:C):R:=(bif (decide (c.I<b.I)) then (bif (decide (0≤c.I)) then (bif (decide (c.I<(a.S.size:Int))) then (aa (qq [.i ((a.S.data.getD c.I.toNat 0).toNat:Int)]) fun d=>(bif (!d.B) then (some (.ret [.b false])) else (some (.again [a,b,.i (w64 (c.I+1))])))) else none) else none) else (some (.brk 0 [])))
def dP.d2:R:=(some (.ret [.b true]))
def dP.d3 (a:C):R:=(bif (!(decide ((a.S.size:Int)<1))) then (bif (decide ((a.S.size:Int)>20)) then (some (.ret [.b false])) else (ah 0 (lim (ap3 dP.d1) [a,.i (a.S.size:Int),.i 0]) (fun xs=>dP.d2))) else (some (.ret [.b false])))
def dP:List C→Option (List C):=fun xs=>aV (ap1 dP.d3 xs)
def fh:FS:=⟨1,⟨[(0,zt)],[]⟩,⟨[(0,zo)],[]⟩,[],dP⟩
theorem gf:aB Tryz.checked.prog T0 66 fh:=bA aE (fn:=Tryz.f66) (c:=Tryz.f66.body.getD .skip) fh (.seq .leaf (.seq .leaf (.seq (.seq .leaf (.block ⟨[],[]⟩ (.loop ⟨[(0,zt),(13,zi),(14,zi)],[]⟩ .leaf))) .leaf))) [(112,some 20,od)] (.cons xm .nil) (by kernel_rfl) (by kernel_rfl) (by kernel_rfl) (fun xs=>by kernel_rfl)
def fi.d1 (a b c:C):R:=(bif (decide (a.I≥b.I)) then (some (.ret [.b (decide (a.I≤c.I))])) else (some (.ret [.b false])))
def fi:List C→Option (List C):=fun xs=>aV (ap3 fi.d1 xs)
def eN:FS:=⟨3,⟨[(0,zi),(1,zi),(2,zi)],[]⟩,⟨[(0,zo)],[]⟩,[],fi⟩
theorem fF:aB Tryz.checked.prog T0 67 eN:=bA aE (fn:=Tryz.f67) (c:=Tryz.f67.body.getD .skip) eN .leaf [] .nil (by kernel_rfl) (by kernel_rfl) (by kernel_rfl) (fun xs=>by kernel_rfl)
def eE:List C→Option (List C):=ibF
def fk:FS:=⟨2,⟨[(0,.d .str),(1,.d (.int .u8))],[]⟩,⟨[(0,.d (.int .i64))],[]⟩,[],eE⟩
theorem jb:aB Tryz.checked.prog T0 215 fk:=Jp
def aR.d1 (a b c d:C):R:=(bif d.B then (some (.ret [.i 0])) else (bif (c.I==1) then (bif (decide (0<(b.S.size:Int))) then (aa (eE [a,.i ((b.S.data.getD 0 0).toNat:Int)]) fun e=>(some (.ret [e]))) else none) else (bif (decide (c.I≥(a.S.size:Int))) then (some (.ret [.i (-1)])) else none)))
def aR.d2 (a b:C):R:=(bf (bif (!((b.S.size:Int)==0)) then (some (.nrm [a,b,.i (b.S.size:Int),.b (b.S.toList==a.S.toList)])) else (some (.nrm [a,b,.i (b.S.size:Int),.b true]))) (ap4 aR.d1))
def aR:List C→Option (List C):=fun xs=>aV (ap2 aR.d2 xs)
def eK:FS:=⟨2,⟨[(0,zt),(1,zt)],[]⟩,⟨[(0,zi)],[]⟩,[],aR⟩
theorem kB:aB Tryz.checked.prog T0 195 eK:=bA aE (fn:=Tryz.f195) (c:=Tryz.f195.body.getD .skip) eK (.seq .leaf (.seq .leaf (.seq (.skip (.seq (.join ⟨[(0,zt),(1,zt),(5,zi),(16,zo)],[]⟩ .leaf) .leaf)) .leaf))) [(215,some 30,fk)] (.cons jb .nil) (by kernel_rfl) (by kernel_rfl) (by kernel_rfl) (fun xs=>by kernel_rfl)
def cT.d1 (a b:C):R:=(aa (aR [a,b]) fun c=>(bif (decide (c.I≥0)) then (bif (decide (0≤c.I)) then (bif (decide (c.I≤(a.S.size:Int))) then (bif (decide (0≤(w64 (c.I+(b.S.size:Int))))) then (bif (decide ((w64 (c.I+(b.S.size:Int)))≤(a.S.size:Int))) then (bif (decide ((a.S.size:Int)≤(a.S.size:Int))) then (some (.ret [.s (a.S.extract 0 c.I.toNat),.s (a.S.extract (w64 (c.I+(b.S.size:Int))).toNat (a.S.size:Int).toNat),.b true])) else none) else none) else none) else none) else none) else (some (.ret [a,.s (bs #[]),.b false]))))
def cT:List C→Option (List C):=fun xs=>aV (ap2 cT.d1 xs)
def eZ:FS:=⟨2,⟨[(0,zt),(1,zt)],[]⟩,⟨[(0,(.tu [zt,zt,zo]))],[]⟩,[],cT⟩
theorem k9:aB Tryz.checked.prog T0 170 eZ:=bA aE (fn:=Tryz.f170) (c:=Tryz.f170.body.getD .skip) eZ .leaf [(195,some 10,eK)] (.cons kB .nil) (by kernel_rfl) (by kernel_rfl) (by kernel_rfl) (fun xs=>by kernel_rfl)
def iW.d1 (a b:C):R:=(call3 (cT [a,b]) fun c d e=>(some (.ret [c,d,.b e.B])))
def iW:List C→Option (List C):=fun xs=>aV (ap2 iW.d1 xs)
def lT:FS:=⟨2,⟨[(0,zt),(1,zt)],[]⟩,⟨[(0,(.tu [zt,zt,zo]))],[]⟩,[],iW⟩
theorem w9:aB Tryz.checked.prog T0 140 lT:=bA aE (fn:=Tryz.f140) (c:=Tryz.f140.body.getD .skip) lT .leaf [(170,some 9,eZ)] (.cons k9 .nil) (by kernel_rfl) (by kernel_rfl) (by kernel_rfl) (fun xs=>by kernel_rfl)
def mz.d1 (a:C):R:=(call3 (iW [a,.s (bs #[61])]) fun b c d=>(aa (dP [b]) fun e=>(bif e.B then (bif (!(!d.B)) then (aa (dP [c]) fun f=>(some (.ret [b,c,.b f.B]))) else (some (.ret [b,c,.b true]))) else (some (.ret [b,c,.b false])))))
def mz:List C→Option (List C):=fun xs=>aV (ap1 mz.d1 xs)
def ou:FS:=⟨1,⟨[(0,zt)],[]⟩,⟨[(0,(.tu [zt,zt,zo]))],[]⟩,[],mz⟩
theorem wJ:aB Tryz.checked.prog T0 111 ou:=bA aE (fn:=Tryz.f111) (c:=Tryz.f111.body.getD .skip) ou .leaf [(66,some 17,fh),(66,some 23,fh),(140,some 10,lT)] (.cons gf (.cons gf (.cons w9 .nil))) (by kernel_rfl) (by kernel_rfl) (by kernel_rfl) (fun xs=>by kernel_rfl)
def dE.d1 (a b c d e f g h i j:C):R:=(bif (decide (c.I<b.I)) then (bif (decide (0≤c.I)) then (bif (decide (c.I<(a.L.length:Int))) then (call3 (mz [((a.L.getD c.I.toNat []).getD 0 .nil)]) fun k l m=>(bif (!(!m.B)) then (bif (!((kW (.b false) k.S j.L).B)) then (bif (decide (c.I>0)) then (bif (decide (0≤(w64 (c.I-1)))) then (bif (decide ((w64 (c.I-1))<(f.L.length:Int))) then (bif ((Op.bytesLess (((a.L.getD c.I.toNat []).getD 0 .nil).S).toList (((f.L.getD (w64 (c.I-1)).toNat []).getD 0 .nil).S).toList)||((((a.L.getD c.I.toNat []).getD 0 .nil).S).toList==(((f.L.getD (w64 (c.I-1)).toNat []).getD 0 .nil).S).toList)) then (some (.ret [.b false])) else (some (.again [a,b,.i (w64 (c.I+1)),d,e,f,g,h,i,.l (l6 k.S (.b true) j.L)]))) else none) else none) else (some (.again [a,b,.i (w64 (c.I+1)),d,e,f,g,h,i,.l (l6 k.S (.b true) j.L)]))) else (some (.ret [.b false]))) else (some (.ret [.b false])))) else none) else none) else (some (.brk 0 [])))
def dE.d2:R:=(some (.ret [.b true]))
def dE.d3 (a b c d e f:C):R:=(aa (dP [a]) fun g=>(bif (!(!g.B)) then (aa (dP [b]) fun h=>(bif (!(!h.B)) then (bif (!(decide ((c.L.length:Int)>10))) then (aa (fi [d,.i 0,.i 1000]) fun i=>(bif (!(!i.B)) then (aa (fi [e,.i 0,.i 1000]) fun j=>(bif (!j.B) then (some (.ret [.b false])) else (ah 0 (lim (tn dE.d1) [c,.i (c.L.length:Int),.i 0,a,b,c,d,e,f,.l ao]) (fun xs=>dE.d2)))) else (some (.ret [.b false])))) else (some (.ret [.b false]))) else (some (.ret [.b false])))) else (some (.ret [.b false]))))
def dE:List C→Option (List C):=fun xs=>aV (ap6 dE.d3 xs)
def mS:FS:=⟨1,⟨[(0,z8)],[]⟩,⟨[(0,zo)],[]⟩,[],dE⟩
theorem yf:aB Tryz.checked.prog T0 65 mS:=bA aE (fn:=Tryz.f65) (c:=Tryz.f65.body.getD .skip) mS (.seq .leaf (.seq .leaf (.seq .leaf (.seq (.seq .leaf (.block ⟨[],[]⟩ (.loop ⟨[(1,(.pt 1 0)),(3,(.mp 37)),(39,(zl 9)),(40,zi),(41,zi)],[(1,z4),(37,.mp 4)]⟩ .leaf))) .leaf)))) [(66,some 11,fh),(66,some 16,fh),(67,some 28,eN),(67,some 34,eN),(111,some 48,ou)] (.cons gf (.cons gf (.cons fF (.cons fF (.cons wJ .nil))))) (by kernel_rfl) (by kernel_rfl) (by kernel_rfl) (fun xs=>by kernel_rfl)
def aJ.d1 (a b:C):R:=(bif (decide ((a.S.size:Int)>0)) then (bif (decide (0≤(w64 ((a.S.size:Int)-1)))) then (bif (decide ((w64 ((a.S.size:Int)-1))<(a.S.size:Int))) then (bif (((a.S.data.getD (w64 ((a.S.size:Int)-1)).toNat 0).toNat:Int)==b.I) then (bif (decide (0≤(w64 ((a.S.size:Int)-1)))) then (bif (decide ((w64 ((a.S.size:Int)-1))≤(a.S.size:Int))) then (some (.again [.s (a.S.extract 0 (w64 ((a.S.size:Int)-1)).toNat),b])) else none) else none) else (some (.brk 0 [a]))) else none) else none) else (some (.brk 0 [a])))
def aJ.d2 (a:C):R:=(some (.ret [a]))
def aJ.d3 (a b:C):R:=(ah 0 (lim (ap2 aJ.d1) [a,b]) (ap1 aJ.d2))
def aJ:List C→Option (List C):=fun xs=>aV (ap2 aJ.d3 xs)
def fT:FS:=⟨2,⟨[(0,zt),(1,(.d (.int .u8)))],[]⟩,⟨[(0,zt)],[]⟩,[],aJ⟩
theorem mK:aB Tryz.checked.prog T0 172 fT:=bA aE (fn:=Tryz.f172) (c:=Tryz.f172.body.getD .skip) fT (.seq .leaf (.seq (.block ⟨[(0,zt)],[]⟩ (.loop ⟨[(0,zt),(1,(.d (.int .u8)))],[]⟩ .leaf)) .leaf)) [] .nil (by kernel_rfl) (by kernel_rfl) (by kernel_rfl) (fun xs=>by kernel_rfl)
def aL.d1 (a b:C):R:=(bif (decide ((a.S.size:Int)>0)) then (bif (decide (0<(a.S.size:Int))) then (bif (((a.S.data.getD 0 0).toNat:Int)==b.I) then (bif (decide (1≤(a.S.size:Int))) then (bif (decide ((a.S.size:Int)≤(a.S.size:Int))) then (some (.again [.s (a.S.extract 1 (a.S.size:Int).toNat),b])) else none) else none) else (some (.brk 0 [a]))) else none) else (some (.brk 0 [a])))
def aL.d2 (a:C):R:=(some (.ret [a]))
def aL.d3 (a b:C):R:=(ah 0 (lim (ap2 aL.d1) [a,b]) (ap1 aL.d2))
def aL:List C→Option (List C):=fun xs=>aV (ap2 aL.d3 xs)
def fW:FS:=⟨2,⟨[(0,zt),(1,(.d (.int .u8)))],[]⟩,⟨[(0,zt)],[]⟩,[],aL⟩
theorem nu:aB Tryz.checked.prog T0 171 fW:=bA aE (fn:=Tryz.f171) (c:=Tryz.f171.body.getD .skip) fW (.seq .leaf (.seq (.block ⟨[(0,zt)],[]⟩ (.loop ⟨[(0,zt),(1,(.d (.int .u8)))],[]⟩ .leaf)) .leaf)) [] .nil (by kernel_rfl) (by kernel_rfl) (by kernel_rfl) (fun xs=>by kernel_rfl)
def fH.d1 (a:C):R:=none
def fH:List C→Option (List C):=fun xs=>aV (ap1 fH.d1 xs)
def fX:FS:=⟨1,⟨[(0,zt)],[]⟩,⟨[],[]⟩,[],fH⟩
theorem nA:aB Tryz.checked.prog T0 173 fX:=bA aE (fn:=Tryz.f173) (c:=Tryz.f173.body.getD .skip) fX .leaf [] .nil (by kernel_rfl) (by kernel_rfl) (by kernel_rfl) (fun xs=>by kernel_rfl)
def fb.d1 (a b:C):R:=(ib (fH [b]) fun _=>none)
def fb.d2 (a b:C):R:=(bif (!(a.S.toList==(bs #[]).toList)) then (bif (b.S.toList==(bs #[]).toList) then (some (.ret [a])) else (bf (bif ((b.S.size:Int)==1) then (bif (decide (0<(b.S.size:Int))) then (bif (decide (((b.S.data.getD 0 0).toNat:Int)<128)) then (bif (decide (0<(b.S.size:Int))) then (aa (aJ [a,.i ((b.S.data.getD 0 0).toNat:Int)]) fun c=>(bif (decide (0<(b.S.size:Int))) then (aa (aL [c,.i ((b.S.data.getD 0 0).toNat:Int)]) fun d=>(some (.ret [d]))) else none)) else none) else (some (.nrm [a,b]))) else none) else (some (.nrm [a,b]))) (ap2 fb.d1))) else (some (.ret [a])))
def fb:List C→Option (List C):=fun xs=>aV (ap2 fb.d2 xs)
def kL:FS:=⟨2,⟨[(0,zt),(1,zt)],[]⟩,⟨[(0,zt)],[]⟩,[],fb⟩
theorem u7:aB Tryz.checked.prog T0 141 kL:=bA aE (fn:=Tryz.f141) (c:=Tryz.f141.body.getD .skip) kL (.seq .leaf (.seq .leaf (.seq (.join ⟨[(0,zt),(1,zt)],[]⟩ .leaf) .leaf))) [(171,some 28,fW),(172,some 25,fT),(173,some 31,fX)] (.cons nu (.cons mK (.cons nA .nil))) (by kernel_rfl) (by kernel_rfl) (by kernel_rfl) (fun xs=>by kernel_rfl)
def bC.d1 (a b c:C):R:=(bif (decide (b.I<(a.S.size:Int))) then (bif (decide (0≤b.I)) then (bif (decide (b.I<(a.S.size:Int))) then (bif (((a.S.data.getD b.I.toNat 0).toNat:Int)==32) then (some (.again [a,.i (w64 (b.I+1)),c])) else (some (.brk 0 [a,b,c]))) else none) else none) else (some (.brk 0 [a,b,c])))
def bC.d2 (a b c:C):R:=(some (.ret [a,b,c]))
def bC.d3 (a b c:C):R:=(ah 0 (lim (ap3 bC.d1) [a,b,c]) (ap3 bC.d2))
def bC:List C→Option (List C):=fun xs=>aV (ap3 bC.d3 xs)
def fY:FS:=⟨1,⟨[(0,(.pt 2000 0))],[(2000,.var 158 [zt,zi,zo])]⟩,⟨[(0,(.tu []))],[(2000,.var 158 [zt,zi,zo])]⟩,[2000],bC⟩
theorem jt:aB Tryz.checked.prog T0 143 fY:=bA aE (fn:=Tryz.f143) (c:=Tryz.f143.body.getD .skip) fY (.block ⟨[],[(2000,.var 158 [zt,zi,zo])]⟩ (.loop ⟨[(0,(.pt 2000 0))],[(2000,.var 158 [zt,zi,zo])]⟩ .leaf)) [] .nil (by kernel_rfl) (by kernel_rfl) (by kernel_rfl) (fun xs=>by kernel_rfl)
def bl.d1 (a b c d:C):R:=(call3 (bC [b,c,d]) fun e f g=>(bif (decide (f.I<(e.S.size:Int))) then (bif (decide (0≤f.I)) then (bif (decide (f.I<(e.S.size:Int))) then (bif (((e.S.data.getD f.I.toNat 0).toNat:Int)==a.I) then (some (.ret [.b true,e,.i (w64 (f.I+1)),g])) else (some (.ret [.b false,e,f,g]))) else none) else none) else (some (.ret [.b false,e,f,g]))))
def bl:List C→Option (List C):=fun xs=>aV (ap4 bl.d1 xs)
def dI:FS:=⟨2,⟨[(0,(.pt 2000 0)),(1,(.d (.int .u8)))],[(2000,.var 158 [zt,zi,zo])]⟩,⟨[(0,zo)],[(2000,.var 158 [zt,zi,zo])]⟩,[2000],bl⟩
theorem eR:aB Tryz.checked.prog T0 179 dI:=bA aE (fn:=Tryz.f179) (c:=Tryz.f179.body.getD .skip) dI .leaf [(143,some 6,fY)] (.cons jt .nil) (by kernel_rfl) (by kernel_rfl) (by kernel_rfl) (fun xs=>by kernel_rfl)
def bj.d1 (a b c d:C):R:=(bif (decide (c.I<(b.S.size:Int))) then (bif (decide (0≤c.I)) then (bif (decide (c.I<(b.S.size:Int))) then (aa (qq [.i ((b.S.data.getD c.I.toNat 0).toNat:Int)]) fun e=>(bif e.B then (some (.again [a,b,.i (w64 (c.I+1)),d])) else (some (.brk 0 [a,b,c,d])))) else none) else none) else (some (.brk 0 [a,b,c,d])))
def bj.d2 (a b c d:C):R:=(bif (decide (0≤a.I)) then (bif (decide (a.I≤c.I)) then (bif (decide (c.I≤(b.S.size:Int))) then (aa (dP [.s (b.S.extract a.I.toNat c.I.toNat)]) fun e=>(bif (!e.B) then (bif (decide (0≤a.I)) then (bif (decide (a.I≤c.I)) then (bif (decide (c.I≤(b.S.size:Int))) then (some (.ret [.s (b.S.extract a.I.toNat c.I.toNat),b,c,.b false])) else none) else none) else none) else (bif (decide (0≤a.I)) then (bif (decide (a.I≤c.I)) then (bif (decide (c.I≤(b.S.size:Int))) then (some (.ret [.s (b.S.extract a.I.toNat c.I.toNat),b,c,d])) else none) else none) else none))) else none) else none) else none)
def bj.d3 (a b c:C):R:=(call3 (bC [a,b,c]) fun d e f=>(ah 0 (lim (ap4 bj.d1) [e,d,e,f]) (ap4 bj.d2)))
def bj:List C→Option (List C):=fun xs=>aV (ap3 bj.d3 xs)
def gI:FS:=⟨1,⟨[(0,(.pt 2000 0))],[(2000,.var 158 [zt,zi,zo])]⟩,⟨[(0,zt)],[(2000,.var 158 [zt,zi,zo])]⟩,[2000],bj⟩
theorem ma:aB Tryz.checked.prog T0 222 gI:=bA aE (fn:=Tryz.f222) (c:=Tryz.f222.body.getD .skip) gI (.seq .leaf (.seq .leaf (.seq .leaf (.seq (.block ⟨[(0,(.pt 2000 0)),(3,zi)],[(2000,.var 158 [zt,zi,zo])]⟩ (.loop ⟨[(0,(.pt 2000 0)),(3,zi)],[(2000,.var 158 [zt,zi,zo])]⟩ .leaf)) .leaf)))) [(66,some 49,fh),(112,some 30,od),(143,some 5,fY)] (.cons gf (.cons xm (.cons jt .nil))) (by kernel_rfl) (by kernel_rfl) (by kernel_rfl) (fun xs=>by kernel_rfl)
def ar.d1 (G0 G1 G2:List C→Option (List C)) (a b c d:C):R:=(bif d.B then (call4 (bl [.i 124,b,c,d]) fun e f g h=>(bif e.B then (call4 (G1 [f,g,h]) fun i j k l=>(some (.again [.p [.i 5,.s (bs #[]),.s (bs #[]),.l (rows [[a],[i]])],j,k,l]))) else (some (.brk 0 [a,f,g,h])))) else (some (.brk 0 [a,b,c,d])))
def ar.d2 (G0 G1 G2:List C→Option (List C)) (a b c d:C):R:=(some (.ret [a,b,c,d]))
def ar.d3 (G0 G1 G2:List C→Option (List C)) (a b c:C):R:=(call4 (G1 [a,b,c]) fun d e f g=>(ah 0 (lim (ap4 (ar.d1 G0 G1 G2)) [d,e,f,g]) (ap4 (ar.d2 G0 G1 G2))))
def ar.step (G0 G1 G2:List C→Option (List C)):List C→Option (List C):=fun xs=>aV (ap3 (ar.d3 G0 G1 G2) xs)
def dQ (G:List C→Option (List C)):FS:=⟨1,⟨[(0,(.pt 2000 0))],[(2000,.var 158 [(.d .str),(.d (.int .i64)),(.d .bool)])]⟩,⟨[(0,(.d (.pt 155)))],[(2000,.var 158 [(.d .str),(.d (.int .i64)),(.d .bool)])]⟩,[2000],G⟩
def dx.d1 (G0 G1 G2:List C→Option (List C)) (a b c d:C):R:=(bif d.B then (call4 (bl [.i 38,b,c,d]) fun e f g h=>(bif e.B then (call4 (G2 [f,g,h]) fun i j k l=>(some (.again [.p [.i 4,.s (bs #[]),.s (bs #[]),.l (rows [[a],[i]])],j,k,l]))) else (some (.brk 0 [a,f,g,h])))) else (some (.brk 0 [a,b,c,d])))
def dx.d2 (G0 G1 G2:List C→Option (List C)) (a b c d:C):R:=(some (.ret [a,b,c,d]))
def dx.d3 (G0 G1 G2:List C→Option (List C)) (a b c:C):R:=(call4 (G2 [a,b,c]) fun d e f g=>(ah 0 (lim (ap4 (dx.d1 G0 G1 G2)) [d,e,f,g]) (ap4 (dx.d2 G0 G1 G2))))
def dx.step (G0 G1 G2:List C→Option (List C)):List C→Option (List C):=fun xs=>aV (ap3 (dx.d3 G0 G1 G2) xs)
def dV (G:List C→Option (List C)):FS:=⟨1,⟨[(0,(.pt 2000 0))],[(2000,.var 158 [(.d .str),(.d (.int .i64)),(.d .bool)])]⟩,⟨[(0,(.d (.pt 155)))],[(2000,.var 158 [(.d .str),(.d (.int .i64)),(.d .bool)])]⟩,[2000],G⟩
def fc.d1 (G0 G1 G2:List C→Option (List C)) (a b c:C):R:=(bif (!c.B) then (some (.ret [.p [.i 0,.s (bs #[]),.s (bs #[]),.l ao],a,b,c])) else (call4 (bl [.i 33,a,b,c]) fun d e f g=>(bif d.B then (call4 (G2 [e,f,g]) fun h i j k=>(some (.ret [.p [.i 3,.s (bs #[]),.s (bs #[]),.l (rows [[h]])],i,j,k]))) else (call4 (bl [.i 40,e,f,g]) fun l m n o=>(bif l.B then (call4 (G0 [m,n,o]) fun p q r s=>(bif s.B then (call4 (bl [.i 41,q,r,s]) fun t u v w=>(some (.ret [p,u,v,.b t.B]))) else (some (.ret [p,q,r,.b false])))) else (call4 (bj [m,n,o]) fun x y z a0=>(bif a0.B then (call4 (bl [.i 61,y,z,a0]) fun a1 a2 a3 a4=>(bif a1.B then (call4 (bj [a2,a3,a4]) fun a5 a6 a7 a8=>(some (.ret [.p [.i 2,x,a5,.l ao],a6,a7,a8]))) else (some (.ret [.p [.i 1,x,.s (bs #[]),.l ao],a2,a3,a4])))) else (some (.ret [.p [.i 1,x,.s (bs #[]),.l ao],y,z,a0])))))))))
def fc.step (G0 G1 G2:List C→Option (List C)):List C→Option (List C):=fun xs=>aV (ap3 (fc.d1 G0 G1 G2) xs)
def dC (G:List C→Option (List C)):FS:=⟨1,⟨[(0,(.pt 2000 0))],[(2000,.var 158 [(.d .str),(.d (.int .i64)),(.d .bool)])]⟩,⟨[(0,(.d (.pt 155)))],[(2000,.var 158 [(.d .str),(.d (.int .i64)),(.d .bool)])]⟩,[2000],G⟩
theorem vl {G0 G1 G2:List C→Option (List C)} (h0:aB Tryz.checked.prog T0 142 (dQ G0)) (h1:aB Tryz.checked.prog T0 178 (dV G1)) (h2:aB Tryz.checked.prog T0 200 (dC G2)):aB Tryz.checked.prog T0 142 (dQ (ar.step G0 G1 G2)):=bA aE (fn:=Tryz.f142) (c:=Tryz.f142.body.getD .skip) (dQ (ar.step G0 G1 G2)) (.seq .leaf (.seq .leaf (.seq (.block ⟨[(3,(.d (.pt 155)))],[(2000,.var 158 [(.d .str),(.d (.int .i64)),(.d .bool)])]⟩ (.loop ⟨[(0,(.pt 2000 0)),(3,(.d (.pt 155)))],[(2000,.var 158 [(.d .str),(.d (.int .i64)),(.d .bool)])]⟩ .leaf)) .leaf))) [(178,some 5,(dV G1)),(178,some 16,(dV G1)),(179,some 12,dI)] (.cons h1 (.cons h1 (.cons eR .nil))) (by kernel_rfl) (by kernel_rfl) (by kernel_rfl) (fun xs=>by kernel_rfl)
theorem tz {G0 G1 G2:List C→Option (List C)} (h0:aB Tryz.checked.prog T0 142 (dQ G0)) (h1:aB Tryz.checked.prog T0 178 (dV G1)) (h2:aB Tryz.checked.prog T0 200 (dC G2)):aB Tryz.checked.prog T0 178 (dV (dx.step G0 G1 G2)):=bA aE (fn:=Tryz.f178) (c:=Tryz.f178.body.getD .skip) (dV (dx.step G0 G1 G2)) (.seq .leaf (.seq .leaf (.seq (.block ⟨[(3,(.d (.pt 155)))],[(2000,.var 158 [(.d .str),(.d (.int .i64)),(.d .bool)])]⟩ (.loop ⟨[(0,(.pt 2000 0)),(3,(.d (.pt 155)))],[(2000,.var 158 [(.d .str),(.d (.int .i64)),(.d .bool)])]⟩ .leaf)) .leaf))) [(179,some 12,dI),(200,some 5,(dC G2)),(200,some 16,(dC G2))] (.cons eR (.cons h2 (.cons h2 .nil))) (by kernel_rfl) (by kernel_rfl) (by kernel_rfl) (fun xs=>by kernel_rfl)
theorem tA {G0 G1 G2:List C→Option (List C)} (h0:aB Tryz.checked.prog T0 142 (dQ G0)) (h1:aB Tryz.checked.prog T0 178 (dV G1)) (h2:aB Tryz.checked.prog T0 200 (dC G2)):aB Tryz.checked.prog T0 200 (dC (fc.step G0 G1 G2)):=bA aE (fn:=Tryz.f200) (c:=Tryz.f200.body.getD .skip) (dC (fc.step G0 G1 G2)) (.seq .leaf (.seq (.skip (.seq .leaf (.cond (.seq .leaf (.frz [12] .leaf)) (.seq .leaf (.cond (.seq .leaf (.frz [18,20] .leaf)) .leaf))))) (.seq .leaf (.seq .leaf (.seq .leaf (.frz [41] .leaf)))))) [(142,some 25,(dQ G0)),(179,some 15,dI),(179,some 23,dI),(179,some 33,dI),(179,some 48,dI),(200,some 17,(dC G2)),(222,some 39,gI),(222,some 53,gI)] (.cons h0 (.cons eR (.cons eR (.cons eR (.cons eR (.cons h2 (.cons ma (.cons ma .nil)))))))) (by kernel_rfl) (by kernel_rfl) (by kernel_rfl) (fun xs=>by kernel_rfl)
def ar.g:Nat→Nat→List C→Option (List C)
 |0,_=>fun _=>none
 |k+1,0=>ar.step (ar.g k 0) (ar.g k 1) (ar.g k 2)
 |k+1,1=>dx.step (ar.g k 0) (ar.g k 1) (ar.g k 2)
 |k+1,2=>fc.step (ar.g k 0) (ar.g k 1) (ar.g k 2)
 |_,_=>fun _=>none
theorem cU:∀k:Nat,aB Tryz.checked.prog T0 142 (dQ (ar.g k 0))∧aB Tryz.checked.prog T0 178 (dV (ar.g k 1))∧aB Tryz.checked.prog T0 200 (dC (ar.g k 2))
 |0=>⟨jP (fn:=Tryz.f142) (c:=Tryz.f142.body.getD .skip) (1) (⟨[(0,(.pt 2000 0))],[(2000,.var 158 [(.d .str),(.d (.int .i64)),(.d .bool)])]⟩) (⟨[(0,(.d (.pt 155)))],[(2000,.var 158 [(.d .str),(.d (.int .i64)),(.d .bool)])]⟩) [2000] (by kernel_rfl) (by kernel_rfl) (by kernel_rfl),jP (fn:=Tryz.f178) (c:=Tryz.f178.body.getD .skip) (1) (⟨[(0,(.pt 2000 0))],[(2000,.var 158 [(.d .str),(.d (.int .i64)),(.d .bool)])]⟩) (⟨[(0,(.d (.pt 155)))],[(2000,.var 158 [(.d .str),(.d (.int .i64)),(.d .bool)])]⟩) [2000] (by kernel_rfl) (by kernel_rfl) (by kernel_rfl),jP (fn:=Tryz.f200) (c:=Tryz.f200.body.getD .skip) (1) (⟨[(0,(.pt 2000 0))],[(2000,.var 158 [(.d .str),(.d (.int .i64)),(.d .bool)])]⟩) (⟨[(0,(.d (.pt 155)))],[(2000,.var 158 [(.d .str),(.d (.int .i64)),(.d .bool)])]⟩) [2000] (by kernel_rfl) (by kernel_rfl) (by kernel_rfl)⟩
 |k+1=>⟨vl (cU k).1 (cU k).2.1 (cU k).2.2,tz (cU k).1 (cU k).2.1 (cU k).2.2,tA (cU k).1 (cU k).2.1 (cU k).2.2⟩
def ar:List C→Option (List C):=ar.g ie 0
theorem vz:aB Tryz.checked.prog T0 142 (dQ ar):=(cU ie).1
def dx:List C→Option (List C):=ar.g ie 1
def fc:List C→Option (List C):=ar.g ie 2
def au.d1 (G0:List C→Option (List C)) (a b c d:C):R:=(bif (decide (d.I<c.I)) then (bif (decide (0≤d.I)) then (bif (decide (d.I<(b.L.length:Int))) then (aa (G0 [((b.L.getD d.I.toNat []).getD 0 .nil)]) fun e=>(some (.again [.i (if (w64 (e.I+1))>a.I then (w64 (e.I+1)) else a.I),b,c,.i (w64 (d.I+1))]))) else none) else none) else (some (.brk 0 [a])))
def au.d2 (G0:List C→Option (List C)) (a:C):R:=(some (.ret [a]))
def au.d3 (G0:List C→Option (List C)) (a:C):R:=(bif a.isP then (ah 0 (lim (ap4 (au.d1 G0)) [.i 0,(a.P.getD 3 .nil),.i (((a.P.getD 3 .nil).L).length:Int),.i 0]) (ap1 (au.d2 G0))) else none)
def au.step (G0:List C→Option (List C)):List C→Option (List C):=fun xs=>aV (ap1 (au.d3 G0) xs)
def eS (G:List C→Option (List C)):FS:=⟨1,⟨[(0,(.d (.pt 155)))],[]⟩,⟨[(0,(.d (.int .i64)))],[]⟩,[],G⟩
theorem uV {G0:List C→Option (List C)} (h0:aB Tryz.checked.prog T0 144 (eS G0)):aB Tryz.checked.prog T0 144 (eS (au.step G0)):=bA aE (fn:=Tryz.f144) (c:=Tryz.f144.body.getD .skip) (eS (au.step G0)) (.seq .leaf (.seq .leaf (.seq (.seq .leaf (.block ⟨[(3,(.d (.int .i64)))],[]⟩ (.loop ⟨[(3,(.d (.int .i64))),(9,(.d (.sl 127))),(10,(.d (.int .i64))),(11,(.d (.int .i64)))],[]⟩ .leaf))) .leaf))) [(144,some 17,(eS G0))] (.cons h0 .nil) (by kernel_rfl) (by kernel_rfl) (by kernel_rfl) (fun xs=>by kernel_rfl)
def au.g:Nat→Nat→List C→Option (List C)
 |0,_=>fun _=>none
 |k+1,0=>au.step (au.g k 0)
 |_,_=>fun _=>none
theorem nz:∀k:Nat,aB Tryz.checked.prog T0 144 (eS (au.g k 0))
 |0=>jP (fn:=Tryz.f144) (c:=Tryz.f144.body.getD .skip) (1) (⟨[(0,(.d (.pt 155)))],[]⟩) (⟨[(0,(.d (.int .i64)))],[]⟩) [] (by kernel_rfl) (by kernel_rfl) (by kernel_rfl)
 |k+1=>uV (nz k)
def au:List C→Option (List C):=au.g ie 0
theorem vu:aB Tryz.checked.prog T0 144 (eS au):=nz ie
def jn.d1 (a:C):R:=(bif (decide ((a.S.size:Int)>200)) then (some (.ret [.nil,.i 1])) else (aa (fb [a,.s (bs #[32])]) fun b=>(bif (b.S.toList==(bs #[]).toList) then (some (.ret [.p [.i 0,.s (bs #[]),.s (bs #[]),.l ao],.i 0])) else (call4 (ar [a,.i 0,.b true]) fun c d e f=>(call3 (bC [d,e,f]) fun g h i=>(bif (!(!i.B)) then (bif (decide (h.I<(a.S.size:Int))) then (some (.ret [.nil,.i 2])) else (aa (au [c]) fun j=>(bif (decide (j.I>20)) then (some (.ret [.nil,.i 3])) else (some (.ret [c,.i 0]))))) else (some (.ret [.nil,.i 2]))))))))
def jn:List C→Option (List C):=fun xs=>aV (ap1 jn.d1 xs)
def km:FS:=⟨1,⟨[(0,zt)],[]⟩,⟨[(0,(.tu [(.d (.pt 155)),zi]))],[]⟩,[],jn⟩
theorem ph:aB Tryz.checked.prog T0 113 km:=bA aE (fn:=Tryz.f113) (c:=Tryz.f113.body.getD .skip) km (.seq .leaf (.seq .leaf (.seq (.seq .leaf (.cond (.seq .leaf (.frz [13] .leaf)) .leaf)) .leaf))) [(141,some 10,kL),(142,some 18,(dQ ar)),(143,some 20,fY),(144,some 36,(eS au))] (.cons u7 (.cons vz (.cons jt (.cons vu .nil)))) (by kernel_rfl) (by kernel_rfl) (by kernel_rfl) (fun xs=>by kernel_rfl)
def cV.d1 (a b c:C):R:=(bif (decide (c.I<b.I)) then (bif (decide (0≤c.I)) then (bif (decide (c.I<(a.L.length:Int))) then (call2 (jn [((a.L.getD c.I.toNat []).getD 0 .nil)]) fun d e=>(bif (!(e.I !=0)) then (aa (fi [((a.L.getD c.I.toNat []).getD 1 .nil),.i (-9),.i 9]) fun f=>(bif (!f.B) then (some (.ret [.b false])) else (some (.again [a,b,.i (w64 (c.I+1))])))) else (some (.ret [.b false])))) else none) else none) else (some (.brk 0 [])))
def cV.d2:R:=(some (.ret [.b true]))
def cV.d3 (a b c d e f g h i j k l m:C):R:=(bif a.B then (some (.ret [.b false])) else (call2 (jn [h]) fun n o=>(bif (o.I !=0) then (some (.ret [.b false])) else (ah 0 (lim (ap3 cV.d1) [i,.i (i.L.length:Int),.i 0]) (fun xs=>cV.d2)))))
def cV.d4 (a b c d e f g h i j k l:C):R:=(bf (aa (dP [a]) fun m=>(bif (!(!m.B)) then (aa (fi [c,.i 0,.i 100]) fun n=>(bif (!(!n.B)) then (aa (fi [d,.i 0,.i 1000000]) fun o=>(bif (!(!o.B)) then (aa (fi [e,.i 0,.i 1000]) fun p=>(bif (!(!p.B)) then (aa (fi [f,.i 0,.i 1000]) fun q=>(bif (!(!q.B)) then (bif (!(decide ((h.L.length:Int)>5))) then (aa (fi [i,.i 0,.i 2]) fun r=>(bif (!(!r.B)) then (bif (!(j.S.toList==(bs #[]).toList)) then (aa (dP [j]) fun s=>(bif (!(!s.B)) then (bif (!(k.S.toList==(bs #[]).toList)) then (aa (dP [k]) fun t=>(some (.nrm [.b (!t.B),a,b,c,d,e,f,g,h,i,j,k,l]))) else (some (.nrm [.b false,a,b,c,d,e,f,g,h,i,j,k,l]))) else (some (.nrm [.b true,a,b,c,d,e,f,g,h,i,j,k,l])))) else (bif (!(k.S.toList==(bs #[]).toList)) then (aa (dP [k]) fun u=>(some (.nrm [.b (!u.B),a,b,c,d,e,f,g,h,i,j,k,l]))) else (some (.nrm [.b false,a,b,c,d,e,f,g,h,i,j,k,l])))) else (some (.nrm [.b true,a,b,c,d,e,f,g,h,i,j,k,l])))) else (some (.nrm [.b true,a,b,c,d,e,f,g,h,i,j,k,l]))) else (some (.nrm [.b true,a,b,c,d,e,f,g,h,i,j,k,l])))) else (some (.nrm [.b true,a,b,c,d,e,f,g,h,i,j,k,l])))) else (some (.nrm [.b true,a,b,c,d,e,f,g,h,i,j,k,l])))) else (some (.nrm [.b true,a,b,c,d,e,f,g,h,i,j,k,l])))) else (some (.nrm [.b true,a,b,c,d,e,f,g,h,i,j,k,l])))) (oU cV.d3))
def cV:List C→Option (List C):=fun xs=>aV (js cV.d4 xs)
def nP:FS:=⟨1,⟨[(0,z3)],[]⟩,⟨[(0,zo)],[]⟩,[],cV⟩
theorem An:aB Tryz.checked.prog T0 68 nP:=bA aE (fn:=Tryz.f68) (c:=Tryz.f68.body.getD .skip) nP (.seq .leaf (.seq (.seq (.join ⟨[(1,(.pt 1 0)),(70,zo)],[(1,z1)]⟩ .leaf) .leaf) (.seq .leaf (.seq (.seq .leaf (.block ⟨[],[]⟩ (.loop ⟨[(80,(zl 109)),(81,zi),(82,zi)],[]⟩ .leaf))) .leaf)))) [(66,some 11,fh),(66,some 56,fh),(66,some 67,fh),(67,some 16,eN),(67,some 22,eN),(67,some 28,eN),(67,some 34,eN),(67,some 46,eN),(67,some 97,eN),(113,some 74,km),(113,some 89,km)] (.cons gf (.cons gf (.cons gf (.cons fF (.cons fF (.cons fF (.cons fF (.cons fF (.cons fF (.cons ph (.cons ph .nil))))))))))) (by kernel_rfl) (by kernel_rfl) (by kernel_rfl) (fun xs=>by kernel_rfl)
end
end Go.Ev
namespace Go.Ev
open Go.Proofs
noncomputable section
def h9.d1 (a b c d e f g:C):R:=(bif g.isP then (some (.ret [.b (a.S.toList==((g.P.getD 0 .nil).S).toList)])) else none)
def h9:List C→Option (List C):=fun xs=>aV (ap7 h9.d1 xs)
def kH:FS:=⟨2,⟨[(0,z8),(1,(.d (.pt 9)))],[]⟩,⟨[(0,zo)],[]⟩,[],h9⟩
theorem uW:aB Tryz.checked.prog T0 102 kH:=bA aE (fn:=Tryz.f102) (c:=Tryz.f102.body.getD .skip) kH .leaf [] .nil (by kernel_rfl) (by kernel_rfl) (by kernel_rfl) (fun xs=>by kernel_rfl)
def aD.d1 (a b c d:C):R:=(bif (decide (d.I<c.I)) then (bif (decide (0≤d.I)) then (bif (decide (d.I<(a.L.length:Int))) then (aa (h9 [((a.L.getD d.I.toNat []).getD 0 .nil),((a.L.getD d.I.toNat []).getD 1 .nil),((a.L.getD d.I.toNat []).getD 2 .nil),((a.L.getD d.I.toNat []).getD 3 .nil),((a.L.getD d.I.toNat []).getD 4 .nil),((a.L.getD d.I.toNat []).getD 5 .nil),b]) fun e=>(bif e.B then (some (.ret [d])) else (some (.again [a,b,c,.i (w64 (d.I+1))])))) else none) else none) else (some (.brk 0 [])))
def aD.d2:R:=(some (.ret [.i (-1)]))
def aD.d3 (a b:C):R:=(ah 0 (lim (ap4 aD.d1) [a,b,.i (a.L.length:Int),.i 0]) (fun xs=>aD.d2))
def aD:List C→Option (List C):=fun xs=>aV (ap2 aD.d3 xs)
def ey:FS:=⟨2,⟨[(0,(zl 37)),(1,(.fn 102 [(.d (.pt 9))]))],[]⟩,⟨[(0,zi)],[]⟩,[],aD⟩
theorem j4:aB Tryz.checked.prog T0 101 ey:=bA aE (fn:=Tryz.f101) (c:=Tryz.f101.body.getD .skip) ey (.seq .leaf (.seq (.seq .leaf (.block ⟨[],[]⟩ (.loop ⟨[(0,(zl 37)),(1,(.fn 102 [(.d (.pt 9))])),(7,zi),(8,zi)],[]⟩ .leaf))) .leaf)) [(102,some 16,kH)] (.cons uW .nil) (by kernel_rfl) (by kernel_rfl) (by kernel_rfl) (fun xs=>by kernel_rfl)
def eT.d1 (a b c d e:C):R:=(aa (aD [b,.p [e]]) fun f=>(some (.ret [f])))
def eT:List C→Option (List C):=fun xs=>aV (ap5 eT.d1 xs)
def fS:FS:=⟨2,⟨[(0,z2),(1,zt)],[]⟩,⟨[(0,zi)],[]⟩,[],eT⟩
theorem iw:aB Tryz.checked.prog T0 53 fS:=bA aE (fn:=Tryz.f53) (c:=Tryz.f53.body.getD .skip) fS .leaf [(101,some 8,ey)] (.cons j4 .nil) (by kernel_rfl) (by kernel_rfl) (by kernel_rfl) (fun xs=>by kernel_rfl)
def dw.d1 (a b c d e f:C):R:=(bif (decide (f.I<e.I)) then (bif (decide (0≤f.I)) then (bif (decide (f.I<(d.L.length:Int))) then (bif ((((d.L.getD f.I.toNat []).getD 11 .nil).S).toList==a.S.toList) then (some (.again [a,.i (w64 (b.I+((d.L.getD f.I.toNat []).getD 4 .nil).I)),.i (w64 (c.I+((d.L.getD f.I.toNat []).getD 5 .nil).I)),d,e,.i (w64 (f.I+1))])) else (some (.again [a,b,c,d,e,.i (w64 (f.I+1))]))) else none) else none) else (some (.brk 0 [b,c])))
def dw.d2 (a b:C):R:=(some (.ret [a,b]))
def dw.d3 (a b c d e:C):R:=(bif (!(e.S.toList==(bs #[]).toList)) then (aa (eT [a,b,c,d,e]) fun f=>(bif (decide (f.I<0)) then (some (.ret [.i 0,.i 0])) else (ah 0 (lim (ap6 dw.d1) [e,.i 0,.i 0,d,.i (d.L.length:Int),.i 0]) (ap2 dw.d2)))) else (some (.ret [.i 0,.i 0])))
def dw:List C→Option (List C):=fun xs=>aV (ap5 dw.d3 xs)
def lI:FS:=⟨2,⟨[(0,z2),(1,zt)],[]⟩,⟨[(0,(.tu [zi,zi]))],[]⟩,[],dw⟩
theorem wV:aB Tryz.checked.prog T0 69 lI:=bA aE (fn:=Tryz.f69) (c:=Tryz.f69.body.getD .skip) lI (.seq .leaf (.seq .leaf (.seq .leaf (.seq (.seq .leaf (.block ⟨[(6,zi),(7,zi)],[]⟩ (.loop ⟨[(1,zt),(6,zi),(7,zi),(19,(zl 45)),(20,zi),(21,zi)],[]⟩ .leaf))) .leaf)))) [(53,some 15,fS)] (.cons iw .nil) (by kernel_rfl) (by kernel_rfl) (by kernel_rfl) (fun xs=>by kernel_rfl)
def aq.d1 (a b c d e f g:C):R:=(bif (decide (c.I<b.I)) then (bif (decide (0≤c.I)) then (bif (decide (c.I<(a.L.length:Int))) then (aa (dE [((a.L.getD c.I.toNat []).getD 0 .nil),((a.L.getD c.I.toNat []).getD 1 .nil),((a.L.getD c.I.toNat []).getD 2 .nil),((a.L.getD c.I.toNat []).getD 3 .nil),((a.L.getD c.I.toNat []).getD 4 .nil),((a.L.getD c.I.toNat []).getD 5 .nil)]) fun h=>(bif (!(!h.B)) then (bif (decide (c.I>0)) then (bif (decide (0≤(w64 (c.I-1)))) then (bif (decide ((w64 (c.I-1))<(e.L.length:Int))) then (bif ((Op.bytesLess (((a.L.getD c.I.toNat []).getD 0 .nil).S).toList (((e.L.getD (w64 (c.I-1)).toNat []).getD 0 .nil).S).toList)||((((a.L.getD c.I.toNat []).getD 0 .nil).S).toList==(((e.L.getD (w64 (c.I-1)).toNat []).getD 0 .nil).S).toList)) then (some (.ret [.b false])) else (some (.again [a,b,.i (w64 (c.I+1)),d,e,f,g]))) else none) else none) else (some (.again [a,b,.i (w64 (c.I+1)),d,e,f,g]))) else (some (.ret [.b false])))) else none) else none) else (some (.brk 0 [d,e,f,g])))
def aq.d2 (a b c d e f g h:C):R:=(bif (decide (c.I<b.I)) then (bif (decide (0≤c.I)) then (bif (decide (c.I<(a.L.length:Int))) then (aa (dP [((a.L.getD c.I.toNat []).getD 0 .nil)]) fun i=>(bif (!(!i.B)) then (aa (fi [((a.L.getD c.I.toNat []).getD 1 .nil),.i 0,.i 60]) fun j=>(bif (!(!j.B)) then (bif (decide (c.I>0)) then (bif (decide (0≤(w64 (c.I-1)))) then (bif (decide ((w64 (c.I-1))<(f.L.length:Int))) then (bif ((Op.bytesLess (((a.L.getD c.I.toNat []).getD 0 .nil).S).toList (((f.L.getD (w64 (c.I-1)).toNat []).getD 0 .nil).S).toList)||((((a.L.getD c.I.toNat []).getD 0 .nil).S).toList==(((f.L.getD (w64 (c.I-1)).toNat []).getD 0 .nil).S).toList)) then (some (.ret [.b false])) else (some (.again [a,b,.i (w64 (c.I+1)),d,e,f,g,.l (l6 (((a.L.getD c.I.toNat []).getD 0 .nil).S) (.b true) h.L)]))) else none) else none) else (some (.again [a,b,.i (w64 (c.I+1)),d,e,f,g,.l (l6 (((a.L.getD c.I.toNat []).getD 0 .nil).S) (.b true) h.L)]))) else (some (.ret [.b false])))) else (some (.ret [.b false])))) else none) else none) else (some (.brk 2 [d,e,f,g,.l h.L])))
def aq.d3 (a b c d e f g h i j k l m n o p q r s t u v:C):R:=(bif d.B then (some (.ret [.b false])) else (some (.again [a,b,.i (w64 (c.I+1)),e,f,g,h,.l i.L,.l (l6 v.S (.i (w64 ((kW (.i 0) v.S j.L).I+1))) j.L)])))
def aq.d4 (a b c d e f g h i:C):R:=(bif (decide (c.I<b.I)) then (bif (decide (0≤c.I)) then (bif (decide (c.I<(a.L.length:Int))) then (bf (aa (cV [((a.L.getD c.I.toNat []).getD 0 .nil),((a.L.getD c.I.toNat []).getD 1 .nil),((a.L.getD c.I.toNat []).getD 2 .nil),((a.L.getD c.I.toNat []).getD 3 .nil),((a.L.getD c.I.toNat []).getD 4 .nil),((a.L.getD c.I.toNat []).getD 5 .nil),((a.L.getD c.I.toNat []).getD 6 .nil),((a.L.getD c.I.toNat []).getD 7 .nil),((a.L.getD c.I.toNat []).getD 8 .nil),((a.L.getD c.I.toNat []).getD 9 .nil),((a.L.getD c.I.toNat []).getD 10 .nil),((a.L.getD c.I.toNat []).getD 11 .nil)]) fun j=>(bif (!(!j.B)) then (bif (!(!((kW (.b false) (((a.L.getD c.I.toNat []).getD 1 .nil).S) h.L).B))) then (bif (decide (c.I>0)) then (bif (decide (0≤(w64 (c.I-1)))) then (bif (decide ((w64 (c.I-1))<(g.L.length:Int))) then (bif (!((Op.bytesLess (((a.L.getD c.I.toNat []).getD 0 .nil).S).toList (((g.L.getD (w64 (c.I-1)).toNat []).getD 0 .nil).S).toList)||((((a.L.getD c.I.toNat []).getD 0 .nil).S).toList==(((g.L.getD (w64 (c.I-1)).toNat []).getD 0 .nil).S).toList))) then (bif (!((((a.L.getD c.I.toNat []).getD 11 .nil).S).toList==(bs #[]).toList)) then (aa (eT [d,e,f,g,((a.L.getD c.I.toNat []).getD 11 .nil)]) fun k=>(some (.nrm [a,b,c,.b (decide (k.I<0)),d,e,f,g,.l h.L,.l i.L,((a.L.getD c.I.toNat []).getD 0 .nil),((a.L.getD c.I.toNat []).getD 1 .nil),((a.L.getD c.I.toNat []).getD 2 .nil),((a.L.getD c.I.toNat []).getD 3 .nil),((a.L.getD c.I.toNat []).getD 4 .nil),((a.L.getD c.I.toNat []).getD 5 .nil),((a.L.getD c.I.toNat []).getD 6 .nil),((a.L.getD c.I.toNat []).getD 7 .nil),((a.L.getD c.I.toNat []).getD 8 .nil),((a.L.getD c.I.toNat []).getD 9 .nil),((a.L.getD c.I.toNat []).getD 10 .nil),((a.L.getD c.I.toNat []).getD 11 .nil)]))) else (some (.nrm [a,b,c,.b false,d,e,f,g,.l h.L,.l i.L,((a.L.getD c.I.toNat []).getD 0 .nil),((a.L.getD c.I.toNat []).getD 1 .nil),((a.L.getD c.I.toNat []).getD 2 .nil),((a.L.getD c.I.toNat []).getD 3 .nil),((a.L.getD c.I.toNat []).getD 4 .nil),((a.L.getD c.I.toNat []).getD 5 .nil),((a.L.getD c.I.toNat []).getD 6 .nil),((a.L.getD c.I.toNat []).getD 7 .nil),((a.L.getD c.I.toNat []).getD 8 .nil),((a.L.getD c.I.toNat []).getD 9 .nil),((a.L.getD c.I.toNat []).getD 10 .nil),((a.L.getD c.I.toNat []).getD 11 .nil)]))) else (some (.nrm [a,b,c,.b true,d,e,f,g,.l h.L,.l i.L,((a.L.getD c.I.toNat []).getD 0 .nil),((a.L.getD c.I.toNat []).getD 1 .nil),((a.L.getD c.I.toNat []).getD 2 .nil),((a.L.getD c.I.toNat []).getD 3 .nil),((a.L.getD c.I.toNat []).getD 4 .nil),((a.L.getD c.I.toNat []).getD 5 .nil),((a.L.getD c.I.toNat []).getD 6 .nil),((a.L.getD c.I.toNat []).getD 7 .nil),((a.L.getD c.I.toNat []).getD 8 .nil),((a.L.getD c.I.toNat []).getD 9 .nil),((a.L.getD c.I.toNat []).getD 10 .nil),((a.L.getD c.I.toNat []).getD 11 .nil)]))) else none) else none) else (bif (!((((a.L.getD c.I.toNat []).getD 11 .nil).S).toList==(bs #[]).toList)) then (aa (eT [d,e,f,g,((a.L.getD c.I.toNat []).getD 11 .nil)]) fun l=>(some (.nrm [a,b,c,.b (decide (l.I<0)),d,e,f,g,.l h.L,.l i.L,((a.L.getD c.I.toNat []).getD 0 .nil),((a.L.getD c.I.toNat []).getD 1 .nil),((a.L.getD c.I.toNat []).getD 2 .nil),((a.L.getD c.I.toNat []).getD 3 .nil),((a.L.getD c.I.toNat []).getD 4 .nil),((a.L.getD c.I.toNat []).getD 5 .nil),((a.L.getD c.I.toNat []).getD 6 .nil),((a.L.getD c.I.toNat []).getD 7 .nil),((a.L.getD c.I.toNat []).getD 8 .nil),((a.L.getD c.I.toNat []).getD 9 .nil),((a.L.getD c.I.toNat []).getD 10 .nil),((a.L.getD c.I.toNat []).getD 11 .nil)]))) else (some (.nrm [a,b,c,.b false,d,e,f,g,.l h.L,.l i.L,((a.L.getD c.I.toNat []).getD 0 .nil),((a.L.getD c.I.toNat []).getD 1 .nil),((a.L.getD c.I.toNat []).getD 2 .nil),((a.L.getD c.I.toNat []).getD 3 .nil),((a.L.getD c.I.toNat []).getD 4 .nil),((a.L.getD c.I.toNat []).getD 5 .nil),((a.L.getD c.I.toNat []).getD 6 .nil),((a.L.getD c.I.toNat []).getD 7 .nil),((a.L.getD c.I.toNat []).getD 8 .nil),((a.L.getD c.I.toNat []).getD 9 .nil),((a.L.getD c.I.toNat []).getD 10 .nil),((a.L.getD c.I.toNat []).getD 11 .nil)])))) else (some (.nrm [a,b,c,.b true,d,e,f,g,.l h.L,.l i.L,((a.L.getD c.I.toNat []).getD 0 .nil),((a.L.getD c.I.toNat []).getD 1 .nil),((a.L.getD c.I.toNat []).getD 2 .nil),((a.L.getD c.I.toNat []).getD 3 .nil),((a.L.getD c.I.toNat []).getD 4 .nil),((a.L.getD c.I.toNat []).getD 5 .nil),((a.L.getD c.I.toNat []).getD 6 .nil),((a.L.getD c.I.toNat []).getD 7 .nil),((a.L.getD c.I.toNat []).getD 8 .nil),((a.L.getD c.I.toNat []).getD 9 .nil),((a.L.getD c.I.toNat []).getD 10 .nil),((a.L.getD c.I.toNat []).getD 11 .nil)]))) else (some (.nrm [a,b,c,.b true,d,e,f,g,.l h.L,.l i.L,((a.L.getD c.I.toNat []).getD 0 .nil),((a.L.getD c.I.toNat []).getD 1 .nil),((a.L.getD c.I.toNat []).getD 2 .nil),((a.L.getD c.I.toNat []).getD 3 .nil),((a.L.getD c.I.toNat []).getD 4 .nil),((a.L.getD c.I.toNat []).getD 5 .nil),((a.L.getD c.I.toNat []).getD 6 .nil),((a.L.getD c.I.toNat []).getD 7 .nil),((a.L.getD c.I.toNat []).getD 8 .nil),((a.L.getD c.I.toNat []).getD 9 .nil),((a.L.getD c.I.toNat []).getD 10 .nil),((a.L.getD c.I.toNat []).getD 11 .nil)])))) (uZ aq.d3)) else none) else none) else (some (.brk 4 [d,e,f,g,.l i.L])))
def aq.d5 (a b c d e f g h:C):R:=(bif (decide (c.I<b.I)) then (bif (decide (0≤c.I)) then (bif (decide (c.I<(a.L.length:Int))) then (call2 (dw [d,e,f,g,((a.L.getD c.I.toNat []).getD 0 .nil)]) fun i j=>(bif (!(decide ((kW (.i 0) (((a.L.getD c.I.toNat []).getD 0 .nil).S) h.L).I>10))) then (bif (!(decide (i.I>((a.L.getD c.I.toNat []).getD 3 .nil).I))) then (bif (decide (j.I>((a.L.getD c.I.toNat []).getD 4 .nil).I)) then (some (.ret [.b false])) else (some (.again [a,b,.i (w64 (c.I+1)),d,e,f,g,.l h.L]))) else (some (.ret [.b false]))) else (some (.ret [.b false])))) else none) else none) else (some (.brk 6 [])))
def aq.d6:R:=(some (.ret [.b true]))
def aq.d7 (a b c d e:C):R:=(ah 6 (lim (ap8 aq.d5) [b,.i (b.L.length:Int),.i 0,a,b,c,d,.l e.L]) (fun xs=>aq.d6))
def aq.d8 (a b c d e:C):R:=(ah 4 (lim (ap9 aq.d4) [d,.i (d.L.length:Int),.i 0,a,b,c,d,.l e.L,.l ao]) (ap5 aq.d7))
def aq.d9 (a b c d:C):R:=(ah 2 (lim (ap8 aq.d2) [c,.i (c.L.length:Int),.i 0,a,b,c,d,.l ao]) (ap5 aq.d8))
def aq.d10 (a b c d:C):R:=(bif (!(decide ((b.L.length:Int)>12))) then (bif (!(decide ((c.L.length:Int)>30))) then (bif (decide ((d.L.length:Int)>60)) then (some (.ret [.b false])) else (ah 0 (lim (ap7 aq.d1) [b,.i (b.L.length:Int),.i 0,a,b,c,d]) (ap4 aq.d9))) else (some (.ret [.b false]))) else (some (.ret [.b false])))
def aq:List C→Option (List C):=fun xs=>aV (ap4 aq.d10 xs)
def fq:FS:=⟨1,⟨[(0,z2)],[]⟩,⟨[(0,zo)],[]⟩,[],aq⟩
theorem iI:aB Tryz.checked.prog T0 17 fq:=bA aE (fn:=Tryz.f17) (c:=Tryz.f17.body.getD .skip) fq (.seq .leaf (.seq .leaf (.seq (.seq .leaf (.block ⟨[(1,(.pt 1 0))],[(1,z0)]⟩ (.loop ⟨[(1,(.pt 1 0)),(32,(zl 37)),(33,zi),(34,zi)],[(1,z0)]⟩ .leaf))) (.seq .leaf (.seq (.seq .leaf (.block ⟨[(1,(.pt 1 0)),(5,(.mp 59))],[(1,z0),(59,.mp 4)]⟩ (.loop ⟨[(1,(.pt 1 0)),(5,(.mp 59)),(61,(zl 60)),(62,zi),(63,zi)],[(1,z0),(59,.mp 4)]⟩ .leaf))) (.seq .leaf (.seq (.seq .leaf (.block ⟨[(1,(.pt 1 0)),(8,(.mp 98))],[(1,z0),(98,.mp 3)]⟩ (.loop ⟨[(1,(.pt 1 0)),(5,(.mp 59)),(8,(.mp 98)),(100,(zl 45)),(101,zi),(102,zi)],[(1,z0),(59,.mp 4),(98,.mp 3)]⟩ (.seq .leaf (.seq .leaf (.seq (.skip (.seq .leaf (.seq (.seq (.join ⟨[(1,(.pt 1 0)),(5,(.mp 59)),(8,(.mp 98)),(10,(.pt 10 0)),(100,(zl 45)),(101,zi),(102,zi),(144,zo)],[(1,z0),(59,.mp 4),(98,.mp 3),(10,z1)]⟩ .leaf) .leaf) .leaf))) .leaf)))))) (.seq (.seq .leaf (.block ⟨[],[]⟩ (.loop ⟨[(1,(.pt 1 0)),(8,(.mp 98)),(152,(zl 37)),(153,zi),(154,zi)],[(1,z0),(98,.mp 3)]⟩ .leaf))) .leaf)))))))) [(53,some 141,fS),(65,some 40,mS),(66,some 70,fh),(67,some 75,eN),(68,some 108,nP),(69,some 162,lI)] (.cons iw (.cons yf (.cons gf (.cons fF (.cons An (.cons wV .nil)))))) (by kernel_rfl) (by kernel_rfl) (by kernel_rfl) (fun xs=>by kernel_rfl)
def fK.d1 (a b c d e f:C):R:=(bif (decide (c.L.length≤4294967296)) then (some (.ret [a,b,d,e,f,.l c.L])) else none)
def fK:List C→Option (List C):=fun xs=>aV (ap6 fK.d1 xs)
def jQ:FS:=⟨1,⟨[(0,z8)],[]⟩,⟨[(0,(.ag [zt,zt,(.ow 3000),zi,zi,zo]))],[(3000,.arr 9 1)]⟩,[],fK⟩
theorem tQ:aB Tryz.checked.prog T0 120 jQ:=bA aE (fn:=Tryz.f120) (c:=Tryz.f120.body.getD .skip) jQ .leaf [] .nil (by kernel_rfl) (by kernel_rfl) (by kernel_rfl) (fun xs=>by kernel_rfl)
def gr.d1 (a b c d e f g h i j k l:C):R:=(bif (decide (h.L.length≤4294967296)) then (some (.ret [a,b,c,d,e,f,g,i,j,k,l,.l h.L])) else none)
def gr:List C→Option (List C):=fun xs=>aV (js gr.d1 xs)
def kP:FS:=⟨1,⟨[(0,z3)],[]⟩,⟨[(0,(.ag [zt,zt,zi,zi,zi,zi,zt,(.ow 3000),zi,zt,zt,zt]))],[(3000,.arr 109 1)]⟩,[],gr⟩
theorem vt:aB Tryz.checked.prog T0 121 kP:=bA aE (fn:=Tryz.f121) (c:=Tryz.f121.body.getD .skip) kP .leaf [] .nil (by kernel_rfl) (by kernel_rfl) (by kernel_rfl) (fun xs=>by kernel_rfl)
def dr.d1 (a b c d e f g h i j k l m n o:C):R:=(bif (decide (c.I<b.I)) then (bif (decide (0≤c.I)) then (bif (decide (c.I<(a.L.length:Int))) then (call6 (fK [((a.L.getD c.I.toNat []).getD 0 .nil),((a.L.getD c.I.toNat []).getD 1 .nil),((a.L.getD c.I.toNat []).getD 2 .nil),((a.L.getD c.I.toNat []).getD 3 .nil),((a.L.getD c.I.toNat []).getD 4 .nil),((a.L.getD c.I.toNat []).getD 5 .nil)]) fun p q r s t u=>(bif (decide (m.L.length+(rows [[p,q,.l u.L,r,s,t]]).length≤4294967296)) then (some (.again [a,b,.i (w64 (c.I+1)),d,e,f,g,h,i,.l j.L,.l k.L,.l l.L,.l (m.L++(rows [[p,q,.l u.L,r,s,t]])),.l n.L,.l o.L])) else none)) else none) else none) else (some (.brk 0 [d,e,f,g,h,i,.l j.L,.l k.L,.l l.L,.l m.L,.l n.L,.l o.L])))
def dr.d2 (a b c d e f g h i j k:C):R:=(bif (decide (c.I<b.I)) then (bif (decide (0≤c.I)) then (bif (decide (c.I<(a.L.length:Int))) then (call12 (gr [((a.L.getD c.I.toNat []).getD 0 .nil),((a.L.getD c.I.toNat []).getD 1 .nil),((a.L.getD c.I.toNat []).getD 2 .nil),((a.L.getD c.I.toNat []).getD 3 .nil),((a.L.getD c.I.toNat []).getD 4 .nil),((a.L.getD c.I.toNat []).getD 5 .nil),((a.L.getD c.I.toNat []).getD 6 .nil),((a.L.getD c.I.toNat []).getD 7 .nil),((a.L.getD c.I.toNat []).getD 8 .nil),((a.L.getD c.I.toNat []).getD 9 .nil),((a.L.getD c.I.toNat []).getD 10 .nil),((a.L.getD c.I.toNat []).getD 11 .nil)]) fun l m n o p q r s t u v w=>(bif (decide (k.L.length+(rows [[l,m,n,o,p,q,r,.l w.L,s,t,u,v]]).length≤4294967296)) then (some (.again [a,b,.i (w64 (c.I+1)),d,e,.l f.L,.l g.L,.l h.L,.l i.L,.l j.L,.l (k.L++(rows [[l,m,n,o,p,q,r,.l w.L,s,t,u,v]]))])) else none)) else none) else none) else (some (.brk 2 [d,e,.l f.L,.l g.L,.l h.L,.l i.L,.l j.L,.l k.L])))
def dr.d3 (a b c d e f g h:C):R:=(some (.ret [b,.l f.L,.l g.L,.l h.L]))
def dr.d4 (a b c d e f g h i j k l:C):R:=(ah 2 (lim (AI dr.d2) [d,.i (d.L.length:Int),.i 0,e,f,.l g.L,.l h.L,.l i.L,.l j.L,.l k.L,.l l.L]) (ap8 dr.d3))
def dr.d5 (a b c d:C):R:=(bif (decide (c.L.length≤4294967296)) then (ah 0 (lim (I3 dr.d1) [b,.i (b.L.length:Int),.i 0,a,b,c,d,.b false,.b a.B,.l ao,.l ao,.l ao,.l ao,.l c.L,.l ao]) (js dr.d4)) else none)
def dr:List C→Option (List C):=fun xs=>aV (ap4 dr.d5 xs)
def pq:FS:=⟨1,⟨[(0,z2)],[]⟩,⟨[(0,z11)],[(3000,.arr 37 1),(3001,.arr 60 1),(3002,.arr 45 1)]⟩,[],dr⟩
theorem BR:aB Tryz.checked.prog T0 83 pq:=pH aE [25,40] false (fn:=Tryz.f83) (c:=Tryz.f83.body.getD .skip) pq (.seq .leaf (.seq .leaf (.seq (.seq .leaf (.block ⟨[(1,(.pt 1 0)),(2,(.pt 2 0)),(3,(.pt 3 0))],[(1,z0),(2,z15),(3,.var 27 [zo,(.ow 1281703),(.ow 12),(.ow 1281704)]),(1281700,.arr 37 1),(1281701,.arr 60 1),(1281702,.arr 45 1),(1281703,.arr 37 1),(12,.arr 60 1),(1281704,.arr 45 1)]⟩ (.loop ⟨[(1,(.pt 1 0)),(2,(.pt 2 0)),(3,(.pt 3 0)),(15,(zl 37)),(16,zi),(17,zi)],[(1,z0),(2,z15),(3,.var 27 [zo,(.ow 1281703),(.ow 12),(.ow 1281704)]),(1281700,.arr 37 1),(1281701,.arr 60 1),(1281702,.arr 45 1),(1281703,.arr 37 1),(12,.arr 60 1),(1281704,.arr 45 1)]⟩ .leaf))) (.seq (.seq .leaf (.block ⟨[(2,(.pt 2 0)),(3,(.pt 3 0))],[(2,z15),(3,.var 27 [zo,(.ow 1281703),(.ow 12),(.ow 1281704)]),(1281700,.arr 37 1),(1281701,.arr 60 1),(1281702,.arr 45 1),(1281703,.arr 37 1),(12,.arr 60 1),(1281704,.arr 45 1)]⟩ (.loop ⟨[(2,(.pt 2 0)),(3,(.pt 3 0)),(30,(zl 45)),(31,zi),(32,zi)],[(2,z15),(3,.var 27 [zo,(.ow 1281703),(.ow 12),(.ow 1281704)]),(1281700,.arr 37 1),(1281701,.arr 60 1),(1281702,.arr 45 1),(1281703,.arr 37 1),(12,.arr 60 1),(1281704,.arr 45 1)]⟩ .leaf))) .leaf)))) [(120,some 24,jQ),(121,some 39,kP)] (.cons tQ (.cons vt .nil)) (by kernel_rfl) (by kernel_rfl) (by kernel_rfl) (fun xs=>by kernel_rfl)
def strings_Compare:List C→Option (List C):=scF
def lR:FS:=⟨2,⟨[(0,.d .str),(1,.d .str)],[]⟩,⟨[(0,.d (.int .i64))],[]⟩,[],strings_Compare⟩
theorem ru:aB Tryz.checked.prog T0 149 lR:=Jj
def gh.d1 (a b c d e f g h i j k l m n o p q r s t u v w x:C):R:=(bif (c.I !=o.I) then (some (.ret [.i (w64 (o.I-c.I))])) else (bif (d.I !=p.I) then (some (.ret [.i (w64 (d.I-p.I))])) else (aa (strings_Compare [a,m]) fun y=>(some (.ret [y])))))
def gh:List C→Option (List C):=fun xs=>aV (xT gh.d1 xs)
def qL:FS:=⟨2,⟨[(0,z3),(1,z3)],[]⟩,⟨[(0,zi)],[]⟩,[],gh⟩
theorem yc:aB Tryz.checked.prog T0 148 qL:=bA aE (fn:=Tryz.f148) (c:=Tryz.f148.body.getD .skip) qL .leaf [(149,some 31,lR)] (.cons ru .nil) (by kernel_rfl) (by kernel_rfl) (by kernel_rfl) (fun xs=>by kernel_rfl)
theorem pI (a0 a1 a6 a9 a10 a11:ByteArray) (a2 a3 a4 a5 a8:Int) (a7:List (List C)) (b0 b1 b6 b9 b10 b11:ByteArray) (b2 b3 b4 b5 b8:Int) (b7:List (List C)):gh [.s a0,.s a1,.i a2,.i a3,.i a4,.i a5,.s a6,.l a7,.i a8,.s a9,.s a10,.s a11,.s b0,.s b1,.i b2,.i b3,.i b4,.i b5,.s b6,.l b7,.i b8,.s b9,.s b10,.s b11]=some [.i (Cb a2 a3 a0 b2 b3 b0)]:=by
 unfold Cb
 cases h1:(a2 !=b2) with
 |true=>show aV (bif (a2 !=b2) then _ else _)=_;rw[h1];rfl
 |false=>
  cases h2:(a3 !=b3) with
  |true=>show aV (bif (a2 !=b2) then _ else (bif (a3 !=b3) then _ else _))=_;rw[h1,h2];rfl
  |false=>show aV (bif (a2 !=b2) then _ else (bif (a3 !=b3) then _ else _))=_;rw[h1,h2];rfl
def er:List C→Option (List C):=xG cpQ gh
def gA:FS:=⟨2,⟨[(0,(.ow 2000)),(1,(.fn 148 []))],[(2000,.arr 45)]⟩,⟨[(0,(.tu []))],[(2000,.arr 45)]⟩,[2000],er⟩
theorem kE:aB Tryz.checked.prog T0 147 gA:=FT yc pI
def dY.d1 (a b c d e f:C):R:=(some (.again [a,.i (w64 (b.I+1)),.l c.L,.l d.L,.l e.L,.l f.L]))
def dY.d2 (a b c d e f:C):R:=(bif (decide (b.I<a.I)) then (bf (bif (decide (0≤b.I)) then (bif (decide (b.I<(e.L.length:Int))) then (bif ((((e.L.getD b.I.toNat []).getD 11 .nil).S).toList==(bs #[]).toList) then (bif (decide (f.L.length+(rows [[((e.L.getD b.I.toNat []).getD 0 .nil),((e.L.getD b.I.toNat []).getD 1 .nil),((e.L.getD b.I.toNat []).getD 2 .nil),((e.L.getD b.I.toNat []).getD 3 .nil),((e.L.getD b.I.toNat []).getD 4 .nil),((e.L.getD b.I.toNat []).getD 5 .nil),((e.L.getD b.I.toNat []).getD 6 .nil),((e.L.getD b.I.toNat []).getD 7 .nil),((e.L.getD b.I.toNat []).getD 8 .nil),((e.L.getD b.I.toNat []).getD 9 .nil),((e.L.getD b.I.toNat []).getD 10 .nil),((e.L.getD b.I.toNat []).getD 11 .nil)]]).length≤4294967296)) then (some (.nrm [a,b,.l c.L,.l d.L,.l e.L,.l (f.L++(rows [[((e.L.getD b.I.toNat []).getD 0 .nil),((e.L.getD b.I.toNat []).getD 1 .nil),((e.L.getD b.I.toNat []).getD 2 .nil),((e.L.getD b.I.toNat []).getD 3 .nil),((e.L.getD b.I.toNat []).getD 4 .nil),((e.L.getD b.I.toNat []).getD 5 .nil),((e.L.getD b.I.toNat []).getD 6 .nil),((e.L.getD b.I.toNat []).getD 7 .nil),((e.L.getD b.I.toNat []).getD 8 .nil),((e.L.getD b.I.toNat []).getD 9 .nil),((e.L.getD b.I.toNat []).getD 10 .nil),((e.L.getD b.I.toNat []).getD 11 .nil)]]))])) else none) else (some (.nrm [a,b,.l c.L,.l d.L,.l e.L,.l f.L]))) else none) else none) (ap6 dY.d1)) else (some (.brk 0 [.l c.L,.l d.L,.l e.L,.l f.L])))
def dY.d3 (a b c d:C):R:=(aa (er [.l d.L]) fun e=>(some (.ret [.l a.L,.l b.L,.l c.L,.l e.L])))
def dY.d4 (a b c d:C):R:=(ah 0 (lim (ap6 dY.d2) [.i (d.L.length:Int),.i 0,.l b.L,.l c.L,.l d.L,.l ao]) (ap4 dY.d3))
def dY:List C→Option (List C):=fun xs=>aV (ap4 dY.d4 xs)
def pE:FS:=⟨1,⟨[(0,(.ag [zo,(.ow 2000),(.ow 2001),(.ow 2002)]))],[(2000,.arr 37 1),(2001,.arr 60 1),(2002,.arr 45 1)]⟩,⟨[(0,(.ow 3003))],[(2000,.arr 37 1),(2001,.arr 60 1),(2002,.arr 45 1),(3003,.arr 45)]⟩,[2000,2001,2002],dY⟩
theorem Bn:aB Tryz.checked.prog T0 122 pE:=pH aE [18] false (fn:=Tryz.f122) (c:=Tryz.f122.body.getD .skip) pE (.seq .leaf (.seq .leaf (.seq (.seq .leaf (.block ⟨[(3,(.ow 1294100))],[(2000,.arr 37 1),(2001,.arr 60 1),(2002,.arr 45 1),(1294100,.arr 45)]⟩ (.loop ⟨[(3,(.ow 1294100)),(7,(.ow 2002)),(8,zi),(9,zi)],[(2000,.arr 37 1),(2001,.arr 60 1),(2002,.arr 45 1),(1294100,.arr 45)]⟩ (.seq .leaf (.seq .leaf (.seq (.join ⟨[(3,(.ow 1294100)),(7,(.ow 2002)),(8,zi),(9,zi)],[(2000,.arr 37 1),(2001,.arr 60 1),(2002,.arr 45 1),(1294100,.arr 45)]⟩ .leaf) .leaf)))))) .leaf))) [(147,some 22,gA)] (.cons kE .nil) (by kernel_rfl) (by kernel_rfl) (by kernel_rfl) (fun xs=>by kernel_rfl)
def aw.d1 (G0:List C→Option (List C)) (a b c d e:C):R:=(bif e.B then (some (.ret [.b true])) else (some (.again [a,b,c,.i (w64 (d.I+1))])))
def aw.d2 (G0:List C→Option (List C)) (a b c d:C):R:=(bif (decide (d.I<c.I)) then (bif (decide (0≤d.I)) then (bif (decide (d.I<(b.L.length:Int))) then (call3 (mz [((b.L.getD d.I.toNat []).getD 0 .nil)]) fun e f g=>(bf (bif g.B then (bif a.isP then (bif (e.S.toList==((a.P.getD 1 .nil).S).toList) then (bif a.isP then (bif (!((a.P.getD 0 .nil).I==1)) then (bif a.isP then (some (.nrm [a,b,c,d,.b (f.S.toList==((a.P.getD 2 .nil).S).toList)])) else none) else (some (.nrm [a,b,c,d,.b true]))) else none) else (some (.nrm [a,b,c,d,.b false]))) else none) else (some (.nrm [a,b,c,d,.b false]))) (ap5 (aw.d1 G0)))) else none) else none) else (some (.brk 1 [])))
def aw.d3 (G0:List C→Option (List C)):R:=(some (.ret [.b false]))
def aw.d4 (G0:List C→Option (List C)) (a b c d:C):R:=(bif d.B then (ah 1 (lim (ap4 (aw.d2 G0)) [a,b,.i (b.L.length:Int),.i 0]) (fun xs=>(aw.d3 G0))) else (bif (c.I==3) then (bif a.isP then (bif (decide (0<(((a.P.getD 3 .nil).L).length:Int))) then (aa (G0 [((((a.P.getD 3 .nil).L).getD 0 []).getD 0 .nil),b]) fun e=>(some (.ret [.b (!e.B)]))) else none) else none) else (bif (c.I==4) then (bif a.isP then (bif (decide (0<(((a.P.getD 3 .nil).L).length:Int))) then (aa (G0 [((((a.P.getD 3 .nil).L).getD 0 []).getD 0 .nil),b]) fun f=>(bif f.B then (bif a.isP then (bif (decide (1<(((a.P.getD 3 .nil).L).length:Int))) then (aa (G0 [((((a.P.getD 3 .nil).L).getD 1 []).getD 0 .nil),b]) fun g=>(some (.ret [.b g.B]))) else none) else none) else (some (.ret [.b false])))) else none) else none) else (bif (c.I==5) then (bif a.isP then (bif (decide (0<(((a.P.getD 3 .nil).L).length:Int))) then (aa (G0 [((((a.P.getD 3 .nil).L).getD 0 []).getD 0 .nil),b]) fun h=>(bif (!h.B) then (bif a.isP then (bif (decide (1<(((a.P.getD 3 .nil).L).length:Int))) then (aa (G0 [((((a.P.getD 3 .nil).L).getD 1 []).getD 0 .nil),b]) fun i=>(some (.ret [.b i.B]))) else none) else none) else (some (.ret [.b true])))) else none) else none) else (some (.ret [.b true]))))))
def aw.d5 (G0:List C→Option (List C)) (a b:C):R:=(bif a.isP then (bf (bif ((a.P.getD 0 .nil).I==1) then (some (.nrm [a,b,(a.P.getD 0 .nil),.b ((a.P.getD 0 .nil).I==1)])) else (some (.nrm [a,b,(a.P.getD 0 .nil),.b ((a.P.getD 0 .nil).I==2)]))) (ap4 (aw.d4 G0))) else none)
def aw.step (G0:List C→Option (List C)):List C→Option (List C):=fun xs=>aV (ap2 (aw.d5 G0) xs)
def cP (G:List C→Option (List C)):FS:=⟨2,⟨[(0,(.d (.pt 155))),(1,(.d (.sl 9)))],[]⟩,⟨[(0,(.d .bool))],[]⟩,[],G⟩
theorem ve {G0:List C→Option (List C)} (h0:aB Tryz.checked.prog T0 135 (cP G0)):aB Tryz.checked.prog T0 135 (cP (aw.step G0)):=bA aE (fn:=Tryz.f135) (c:=Tryz.f135.body.getD .skip) (cP (aw.step G0)) (.seq .leaf (.seq (.seq .leaf (.skip (.seq (.join ⟨[(0,(.d (.pt 155))),(1,(.d (.sl 9))),(13,(.d (.int .i64))),(14,(.d .bool))],[]⟩ .leaf) (.cond (.seq (.seq .leaf (.block ⟨[],[]⟩ (.loop ⟨[(0,(.d (.pt 155))),(17,(.d (.sl 9))),(18,(.d (.int .i64))),(19,(.d (.int .i64)))],[]⟩ (.seq .leaf (.seq .leaf (.seq (.skip (.seq .leaf (.seq .leaf (.seq (.join ⟨[(0,(.d (.pt 155))),(17,(.d (.sl 9))),(18,(.d (.int .i64))),(19,(.d (.int .i64))),(52,(.d .bool))],[]⟩ .leaf) .leaf)))) .leaf)))))) .leaf) .leaf)))) .leaf)) [(111,some 25,ou),(135,some 63,(cP G0)),(135,some 74,(cP G0)),(135,some 83,(cP G0)),(135,some 94,(cP G0)),(135,some 103,(cP G0))] (.cons wJ (.cons h0 (.cons h0 (.cons h0 (.cons h0 (.cons h0 .nil)))))) (by kernel_rfl) (by kernel_rfl) (by kernel_rfl) (fun xs=>by kernel_rfl)
def aw.g:Nat→Nat→List C→Option (List C)
 |0,_=>fun _=>none
 |k+1,0=>aw.step (aw.g k 0)
 |_,_=>fun _=>none
theorem ng:∀k:Nat,aB Tryz.checked.prog T0 135 (cP (aw.g k 0))
 |0=>jP (fn:=Tryz.f135) (c:=Tryz.f135.body.getD .skip) (2) (⟨[(0,(.d (.pt 155))),(1,(.d (.sl 9)))],[]⟩) (⟨[(0,(.d .bool))],[]⟩) [] (by kernel_rfl) (by kernel_rfl) (by kernel_rfl)
 |k+1=>ve (ng k)
def aw:List C→Option (List C):=aw.g ie 0
theorem u6:aB Tryz.checked.prog T0 135 (cP aw):=ng ie
def kn.d1 (a b c d e f g:C):R:=(call2 (jn [a]) fun h i=>(bif (i.I==0) then (bif (decide (d.L.length≤4294967296)) then (bif (decide ((bs #[122,111,110,101,61]).size+c.S.size≤4294967296)) then (bif (decide (d.L.length+(rows [[.s ((bs #[122,111,110,101,61])++c.S)]]).length≤4294967296)) then (aa (aw [h,.l (d.L++(rows [[.s ((bs #[122,111,110,101,61])++c.S)]]))]) fun j=>(some (.ret [.b j.B]))) else none) else none) else none) else (some (.ret [.b false]))))
def kn:List C→Option (List C):=fun xs=>aV (ap7 kn.d1 xs)
def mB:FS:=⟨2,⟨[(0,zt),(1,z8)],[]⟩,⟨[(0,zo)],[]⟩,[],kn⟩
theorem uk:aB Tryz.checked.prog T0 103 mB:=bA aE (fn:=Tryz.f103) (c:=Tryz.f103.body.getD .skip) mB .leaf [(113,some 9,km),(135,some 24,(cP aw))] (.cons ph (.cons u6 .nil)) (by kernel_rfl) (by kernel_rfl) (by kernel_rfl) (fun xs=>by kernel_rfl)
def mc.d1 (a b c d e:C):R:=(aa (eT [a,b,c,d,e]) fun f=>(bif (decide (f.I≥0)) then (bif (decide (0≤f.I)) then (bif (decide (f.I<(b.L.length:Int))) then (some (.ret [((b.L.getD f.I.toNat []).getD 1 .nil)])) else none) else none) else (some (.ret [.s (bs #[])]))))
def mc:List C→Option (List C):=fun xs=>aV (ap5 mc.d1 xs)
def nZ:FS:=⟨2,⟨[(0,z2),(1,zt)],[]⟩,⟨[(0,zt)],[]⟩,[],mc⟩
theorem wD:aB Tryz.checked.prog T0 104 nZ:=bA aE (fn:=Tryz.f104) (c:=Tryz.f104.body.getD .skip) nZ .leaf [(53,some 8,fS)] (.cons iw .nil) (by kernel_rfl) (by kernel_rfl) (by kernel_rfl) (fun xs=>by kernel_rfl)
def bH.d1 (a b c d e f g h i j k l m n o p q r s t u v w x y z a0 a1 a2 a3 a4 a5 a6 a7 a8 a9 b0 b1 b2 b3 b4 b5 b6:C):R:=(bif (b6.S.toList==z.S.toList) then (some (.brk 1 [a,b,.i (w64 (c.I+1)),.i (w64 (d.I+a9.I)),.i (w64 (e.I+b0.I)),f,g,h,i,j,k,l,m,n,o,p,q,r,s,t,u,v,w,x,y,z,a0,a1,a2,a3,a4])) else (some (.brk 1 [a,b,c,d,e,f,g,h,i,j,k,l,m,n,o,p,q,r,s,t,u,v,w,x,y,z,a0,a1,a2,a3,a4])))
def bH.d2 (a b c d e f g h i j k l m n o p q r s t u v w x y z a0 a1 a2 a3 a4 a5 a6 a7 a8 a9 b0 b1 b2 b3 b4 b5 b6 b7:C):R:=(bf (bif (!a.B) then (bif (a7.S.toList==x.S.toList) then (some (.nrm [.b g.B,b,c,d,e,f,h,i,j,k,l,m,n,o,p,q,r,s,t,u,v,w,x,y,z,a0,a1,a2,a3,a4,a5,a6,a7,a8,a9,b0,b1,b2,b3,b4,b5,b6,b7])) else (some (.nrm [.b false,b,c,d,e,f,h,i,j,k,l,m,n,o,p,q,r,s,t,u,v,w,x,y,z,a0,a1,a2,a3,a4,a5,a6,a7,a8,a9,b0,b1,b2,b3,b4,b5,b6,b7]))) else (some (.nrm [.b true,b,c,d,e,f,h,i,j,k,l,m,n,o,p,q,r,s,t,u,v,w,x,y,z,a0,a1,a2,a3,a4,a5,a6,a7,a8,a9,b0,b1,b2,b3,b4,b5,b6,b7]))) (fun xs=>bH.d1 (xs.getD 0 .nil) (xs.getD 1 .nil) (xs.getD 2 .nil) (xs.getD 3 .nil) (xs.getD 4 .nil) (xs.getD 5 .nil) (xs.getD 6 .nil) (xs.getD 7 .nil) (xs.getD 8 .nil) (xs.getD 9 .nil) (xs.getD 10 .nil) (xs.getD 11 .nil) (xs.getD 12 .nil) (xs.getD 13 .nil) (xs.getD 14 .nil) (xs.getD 15 .nil) (xs.getD 16 .nil) (xs.getD 17 .nil) (xs.getD 18 .nil) (xs.getD 19 .nil) (xs.getD 20 .nil) (xs.getD 21 .nil) (xs.getD 22 .nil) (xs.getD 23 .nil) (xs.getD 24 .nil) (xs.getD 25 .nil) (xs.getD 26 .nil) (xs.getD 27 .nil) (xs.getD 28 .nil) (xs.getD 29 .nil) (xs.getD 30 .nil) (xs.getD 31 .nil) (xs.getD 32 .nil) (xs.getD 33 .nil) (xs.getD 34 .nil) (xs.getD 35 .nil) (xs.getD 36 .nil) (xs.getD 37 .nil) (xs.getD 38 .nil) (xs.getD 39 .nil) (xs.getD 40 .nil) (xs.getD 41 .nil) (xs.getD 42 .nil)))
def bH.d3 (a b c d e f g h i j k l m n o p q r s t u v w x y z a0 a1 a2 a3 a4:C):R:=(some (.again [a,b,c,d,e,f,g,h,.i (w64 (i.I+1)),j,k,l,m,n,o,p,q,r,s,t,u,v,w,x,y,z,a0,a1,a2,a3,a4]))
def bH.d4 (a b c d e f g h i j k l m n o p q r s t u v w x y z a0 a1 a2 a3 a4:C):R:=(bif (decide (i.I<h.I)) then (ah 1 (bif (decide (0≤i.I)) then (bif (decide (i.I<(g.L.length:Int))) then (bif (!((((g.L.getD i.I.toNat []).getD 0 .nil).S).toList==n.S.toList)) then (bif ((((g.L.getD i.I.toNat []).getD 11 .nil).S).toList==(bs #[]).toList) then (some (.brk 1 [a,b,c,d,e,f,g,h,i,j,k,l,m,n,o,p,q,r,s,t,u,v,w,x,y,z,a0,a1,a2,a3,a4])) else (aa (mc [j,k,l,m,((g.L.getD i.I.toNat []).getD 11 .nil)]) fun a5=>(bf (bif ((((g.L.getD i.I.toNat []).getD 1 .nil).S).toList==o.S.toList) then (bif (!f.B) then (bif ((((g.L.getD i.I.toNat []).getD 11 .nil).S).toList==z.S.toList) then (bif (!(decide ((w64 (v.I+((g.L.getD i.I.toNat []).getD 8 .nil).I))>0))) then (bif (a5.S.toList==a0.S.toList) then (bif (!(v.I==2)) then (some (.nrm [a,.b true,c,d,e,.b (((g.L.getD i.I.toNat []).getD 8 .nil).I==2),.b (a5.S.toList==a0.S.toList),g,h,i,j,k,l,m,n,o,p,q,r,s,t,u,v,w,x,y,z,a0,a1,a2,a3,a4,((g.L.getD i.I.toNat []).getD 0 .nil),((g.L.getD i.I.toNat []).getD 1 .nil),((g.L.getD i.I.toNat []).getD 2 .nil),((g.L.getD i.I.toNat []).getD 3 .nil),((g.L.getD i.I.toNat []).getD 4 .nil),((g.L.getD i.I.toNat []).getD 5 .nil),((g.L.getD i.I.toNat []).getD 6 .nil),((g.L.getD i.I.toNat []).getD 7 .nil),((g.L.getD i.I.toNat []).getD 8 .nil),((g.L.getD i.I.toNat []).getD 9 .nil),((g.L.getD i.I.toNat []).getD 10 .nil),((g.L.getD i.I.toNat []).getD 11 .nil)])) else (some (.nrm [a,.b true,c,d,e,.b true,.b (a5.S.toList==a0.S.toList),g,h,i,j,k,l,m,n,o,p,q,r,s,t,u,v,w,x,y,z,a0,a1,a2,a3,a4,((g.L.getD i.I.toNat []).getD 0 .nil),((g.L.getD i.I.toNat []).getD 1 .nil),((g.L.getD i.I.toNat []).getD 2 .nil),((g.L.getD i.I.toNat []).getD 3 .nil),((g.L.getD i.I.toNat []).getD 4 .nil),((g.L.getD i.I.toNat []).getD 5 .nil),((g.L.getD i.I.toNat []).getD 6 .nil),((g.L.getD i.I.toNat []).getD 7 .nil),((g.L.getD i.I.toNat []).getD 8 .nil),((g.L.getD i.I.toNat []).getD 9 .nil),((g.L.getD i.I.toNat []).getD 10 .nil),((g.L.getD i.I.toNat []).getD 11 .nil)]))) else (some (.nrm [a,.b true,c,d,e,.b false,.b (a5.S.toList==a0.S.toList),g,h,i,j,k,l,m,n,o,p,q,r,s,t,u,v,w,x,y,z,a0,a1,a2,a3,a4,((g.L.getD i.I.toNat []).getD 0 .nil),((g.L.getD i.I.toNat []).getD 1 .nil),((g.L.getD i.I.toNat []).getD 2 .nil),((g.L.getD i.I.toNat []).getD 3 .nil),((g.L.getD i.I.toNat []).getD 4 .nil),((g.L.getD i.I.toNat []).getD 5 .nil),((g.L.getD i.I.toNat []).getD 6 .nil),((g.L.getD i.I.toNat []).getD 7 .nil),((g.L.getD i.I.toNat []).getD 8 .nil),((g.L.getD i.I.toNat []).getD 9 .nil),((g.L.getD i.I.toNat []).getD 10 .nil),((g.L.getD i.I.toNat []).getD 11 .nil)]))) else (some (.nrm [a,.b true,c,d,e,.b true,.b (a5.S.toList==a0.S.toList),g,h,i,j,k,l,m,n,o,p,q,r,s,t,u,v,w,x,y,z,a0,a1,a2,a3,a4,((g.L.getD i.I.toNat []).getD 0 .nil),((g.L.getD i.I.toNat []).getD 1 .nil),((g.L.getD i.I.toNat []).getD 2 .nil),((g.L.getD i.I.toNat []).getD 3 .nil),((g.L.getD i.I.toNat []).getD 4 .nil),((g.L.getD i.I.toNat []).getD 5 .nil),((g.L.getD i.I.toNat []).getD 6 .nil),((g.L.getD i.I.toNat []).getD 7 .nil),((g.L.getD i.I.toNat []).getD 8 .nil),((g.L.getD i.I.toNat []).getD 9 .nil),((g.L.getD i.I.toNat []).getD 10 .nil),((g.L.getD i.I.toNat []).getD 11 .nil)]))) else (bif (a5.S.toList==a0.S.toList) then (bif (!(v.I==2)) then (some (.nrm [a,.b true,c,d,e,.b (((g.L.getD i.I.toNat []).getD 8 .nil).I==2),.b (a5.S.toList==a0.S.toList),g,h,i,j,k,l,m,n,o,p,q,r,s,t,u,v,w,x,y,z,a0,a1,a2,a3,a4,((g.L.getD i.I.toNat []).getD 0 .nil),((g.L.getD i.I.toNat []).getD 1 .nil),((g.L.getD i.I.toNat []).getD 2 .nil),((g.L.getD i.I.toNat []).getD 3 .nil),((g.L.getD i.I.toNat []).getD 4 .nil),((g.L.getD i.I.toNat []).getD 5 .nil),((g.L.getD i.I.toNat []).getD 6 .nil),((g.L.getD i.I.toNat []).getD 7 .nil),((g.L.getD i.I.toNat []).getD 8 .nil),((g.L.getD i.I.toNat []).getD 9 .nil),((g.L.getD i.I.toNat []).getD 10 .nil),((g.L.getD i.I.toNat []).getD 11 .nil)])) else (some (.nrm [a,.b true,c,d,e,.b true,.b (a5.S.toList==a0.S.toList),g,h,i,j,k,l,m,n,o,p,q,r,s,t,u,v,w,x,y,z,a0,a1,a2,a3,a4,((g.L.getD i.I.toNat []).getD 0 .nil),((g.L.getD i.I.toNat []).getD 1 .nil),((g.L.getD i.I.toNat []).getD 2 .nil),((g.L.getD i.I.toNat []).getD 3 .nil),((g.L.getD i.I.toNat []).getD 4 .nil),((g.L.getD i.I.toNat []).getD 5 .nil),((g.L.getD i.I.toNat []).getD 6 .nil),((g.L.getD i.I.toNat []).getD 7 .nil),((g.L.getD i.I.toNat []).getD 8 .nil),((g.L.getD i.I.toNat []).getD 9 .nil),((g.L.getD i.I.toNat []).getD 10 .nil),((g.L.getD i.I.toNat []).getD 11 .nil)]))) else (some (.nrm [a,.b true,c,d,e,.b false,.b (a5.S.toList==a0.S.toList),g,h,i,j,k,l,m,n,o,p,q,r,s,t,u,v,w,x,y,z,a0,a1,a2,a3,a4,((g.L.getD i.I.toNat []).getD 0 .nil),((g.L.getD i.I.toNat []).getD 1 .nil),((g.L.getD i.I.toNat []).getD 2 .nil),((g.L.getD i.I.toNat []).getD 3 .nil),((g.L.getD i.I.toNat []).getD 4 .nil),((g.L.getD i.I.toNat []).getD 5 .nil),((g.L.getD i.I.toNat []).getD 6 .nil),((g.L.getD i.I.toNat []).getD 7 .nil),((g.L.getD i.I.toNat []).getD 8 .nil),((g.L.getD i.I.toNat []).getD 9 .nil),((g.L.getD i.I.toNat []).getD 10 .nil),((g.L.getD i.I.toNat []).getD 11 .nil)])))) else (some (.nrm [a,.b true,c,d,e,.b true,.b (a5.S.toList==a0.S.toList),g,h,i,j,k,l,m,n,o,p,q,r,s,t,u,v,w,x,y,z,a0,a1,a2,a3,a4,((g.L.getD i.I.toNat []).getD 0 .nil),((g.L.getD i.I.toNat []).getD 1 .nil),((g.L.getD i.I.toNat []).getD 2 .nil),((g.L.getD i.I.toNat []).getD 3 .nil),((g.L.getD i.I.toNat []).getD 4 .nil),((g.L.getD i.I.toNat []).getD 5 .nil),((g.L.getD i.I.toNat []).getD 6 .nil),((g.L.getD i.I.toNat []).getD 7 .nil),((g.L.getD i.I.toNat []).getD 8 .nil),((g.L.getD i.I.toNat []).getD 9 .nil),((g.L.getD i.I.toNat []).getD 10 .nil),((g.L.getD i.I.toNat []).getD 11 .nil)]))) else (some (.nrm [a,b,c,d,e,f,.b (a5.S.toList==a0.S.toList),g,h,i,j,k,l,m,n,o,p,q,r,s,t,u,v,w,x,y,z,a0,a1,a2,a3,a4,((g.L.getD i.I.toNat []).getD 0 .nil),((g.L.getD i.I.toNat []).getD 1 .nil),((g.L.getD i.I.toNat []).getD 2 .nil),((g.L.getD i.I.toNat []).getD 3 .nil),((g.L.getD i.I.toNat []).getD 4 .nil),((g.L.getD i.I.toNat []).getD 5 .nil),((g.L.getD i.I.toNat []).getD 6 .nil),((g.L.getD i.I.toNat []).getD 7 .nil),((g.L.getD i.I.toNat []).getD 8 .nil),((g.L.getD i.I.toNat []).getD 9 .nil),((g.L.getD i.I.toNat []).getD 10 .nil),((g.L.getD i.I.toNat []).getD 11 .nil)]))) (fun xs=>bH.d2 (xs.getD 0 .nil) (xs.getD 1 .nil) (xs.getD 2 .nil) (xs.getD 3 .nil) (xs.getD 4 .nil) (xs.getD 5 .nil) (xs.getD 6 .nil) (xs.getD 7 .nil) (xs.getD 8 .nil) (xs.getD 9 .nil) (xs.getD 10 .nil) (xs.getD 11 .nil) (xs.getD 12 .nil) (xs.getD 13 .nil) (xs.getD 14 .nil) (xs.getD 15 .nil) (xs.getD 16 .nil) (xs.getD 17 .nil) (xs.getD 18 .nil) (xs.getD 19 .nil) (xs.getD 20 .nil) (xs.getD 21 .nil) (xs.getD 22 .nil) (xs.getD 23 .nil) (xs.getD 24 .nil) (xs.getD 25 .nil) (xs.getD 26 .nil) (xs.getD 27 .nil) (xs.getD 28 .nil) (xs.getD 29 .nil) (xs.getD 30 .nil) (xs.getD 31 .nil) (xs.getD 32 .nil) (xs.getD 33 .nil) (xs.getD 34 .nil) (xs.getD 35 .nil) (xs.getD 36 .nil) (xs.getD 37 .nil) (xs.getD 38 .nil) (xs.getD 39 .nil) (xs.getD 40 .nil) (xs.getD 41 .nil) (xs.getD 42 .nil) (xs.getD 43 .nil))))) else (some (.brk 1 [a,b,c,d,e,f,g,h,i,j,k,l,m,n,o,p,q,r,s,t,u,v,w,x,y,z,a0,a1,a2,a3,a4]))) else none) else none) (sC bH.d3)) else (some (.brk 0 [a,b,c,d,e,f,n,o,p,q,r,s,t,u,v,w,x,y,z,a0,a1,a2,a3,a4])))
def bH.d5 (a b c d e f g h i j k l m n o p q r s t u v:C):R:=(bif d.B then (some (.ret [.i 5])) else (bif (decide (a.I≥10)) then (some (.ret [.i 6])) else (bif (decide ((w64 (b.I+i.I))>t.I)) then (some (.ret [.i 7])) else (bif (decide ((w64 (c.I+j.I))>u.I)) then (some (.ret [.i 8])) else (some (.ret [.i 0]))))))
def bH.d6 (a b c d e f g h i j k l m n o p q r s t u v w x:C):R:=(bif f.B then (some (.ret [.i 4])) else (bf (bif (!(p.S.toList==(bs #[]).toList)) then (bif (!a.B) then (bif (p.S.toList==h.S.toList) then (some (.nrm [c,d,e,.b (!(!b.B)),g,h,i,j,k,l,m,n,o,p,q,r,s,t,u,v,w,x])) else (some (.nrm [c,d,e,.b true,g,h,i,j,k,l,m,n,o,p,q,r,s,t,u,v,w,x]))) else (some (.nrm [c,d,e,.b false,g,h,i,j,k,l,m,n,o,p,q,r,s,t,u,v,w,x]))) else (some (.nrm [c,d,e,.b false,g,h,i,j,k,l,m,n,o,p,q,r,s,t,u,v,w,x]))) (uZ bH.d5)))
def bH.d7 (a b c d e f g h i j k l m n o p q r s t u v:C):R:=(aa (kn [k,q,r,s,t,u,v]) fun w=>(bif (!w.B) then (some (.ret [.i 3])) else (ah 0 (lim (sC bH.d4) [.b false,.b false,.i 0,.i 0,.i 0,.b false,d,.i (d.L.length:Int),.i 0,a,b,c,d,e,f,g,h,i,j,k,l,m,n,o,p,q,r,s,t,u,v]) (xT bH.d6))))
def bH.d8 (a b c d e f g h i j k l m n o p q r s t u v:C):R:=(bf (bif (!(o.S.toList==(bs #[]).toList)) then (bif (!(o.S.toList==q.S.toList)) then (some (.ret [.i 2])) else (some (.nrm [a,b,c,d,e,f,g,h,i,j,k,l,m,n,o,p,q,r,s,t,u,v]))) else (some (.nrm [a,b,c,d,e,f,g,h,i,j,k,l,m,n,o,p,q,r,s,t,u,v]))) (uZ bH.d7))
def bH.d9 (a b c d e f g h i j k l m n o p q r s t u v w:C):R:=(bf (bif w.B then (bif v.B then (some (.ret [.i 1])) else (some (.nrm [a,b,c,d,e,f,g,h,i,j,k,l,m,n,o,p,q,r,s,t,u,v]))) else (some (.nrm [a,b,c,d,e,f,g,h,i,j,k,l,m,n,o,p,q,r,s,t,u,v]))) (uZ bH.d8))
def bH:List C→Option (List C):=fun xs=>aV (EA bH.d9 xs)
def lC:FS:=⟨4,⟨[(0,z2),(1,z3),(2,z8),(3,zo)],[]⟩,⟨[(0,zi)],[]⟩,[],bH⟩
theorem qX:aB Tryz.checked.prog T0 54 lC:=bA aE (fn:=Tryz.f54) (c:=Tryz.f54.body.getD .skip) lC (.seq .leaf (.seq (.join ⟨[(4,(.pt 4 0)),(5,(.pt 5 0)),(6,(.pt 6 0))],[(4,z0),(5,z1),(6,z4)]⟩ .leaf) (.seq (.join ⟨[(4,(.pt 4 0)),(5,(.pt 5 0)),(6,(.pt 6 0))],[(4,z0),(5,z1),(6,z4)]⟩ .leaf) (.seq .leaf (.seq .leaf (.seq .leaf (.seq .leaf (.seq (.seq .leaf (.block ⟨[(5,(.pt 5 0)),(6,(.pt 6 0)),(9,zo),(10,zo),(11,zi),(12,zi),(13,zi),(14,zo)],[(5,z1),(6,z4)]⟩ (.loop ⟨[(4,(.pt 4 0)),(5,(.pt 5 0)),(6,(.pt 6 0)),(9,zo),(10,zo),(11,zi),(12,zi),(13,zi),(14,zo),(39,(zl 45)),(40,zi),(41,zi)],[(4,z0),(5,z1),(6,z4)]⟩ (.seq .leaf (.seq .leaf (.seq (.block ⟨[(4,(.pt 4 0)),(5,(.pt 5 0)),(6,(.pt 6 0)),(9,zo),(10,zo),(11,zi),(12,zi),(13,zi),(14,zo),(39,(zl 45)),(40,zi),(41,zi)],[(4,z0),(5,z1),(6,z4)]⟩ (.seq .leaf (.seq .leaf (.seq .leaf (.seq (.join ⟨[(4,(.pt 4 0)),(5,(.pt 5 0)),(6,(.pt 6 0)),(9,zo),(10,zo),(11,zi),(12,zi),(13,zi),(14,zo),(16,(.pt 16 0)),(17,zo),(39,(zl 45)),(40,zi),(41,zi)],[(4,z0),(5,z1),(6,z4),(16,z1)]⟩ .leaf) (.seq (.join ⟨[(4,(.pt 4 0)),(5,(.pt 5 0)),(6,(.pt 6 0)),(9,zo),(10,zo),(11,zi),(12,zi),(13,zi),(14,zo),(16,(.pt 16 0)),(39,(zl 45)),(40,zi),(41,zi)],[(4,z0),(5,z1),(6,z4),(16,z1)]⟩ .leaf) .leaf)))))) .leaf)))))) (.seq (.skip (.seq .leaf (.cond .leaf (.seq (.join ⟨[(5,(.pt 5 0)),(6,(.pt 6 0)),(11,zi),(12,zi),(13,zi),(125,zo)],[(5,z1),(6,z4)]⟩ .leaf) .leaf)))) .leaf))))))))) [(103,some 36,mB),(104,some 58,nZ)] (.cons uk (.cons wD .nil)) (by kernel_rfl) (by kernel_rfl) (by kernel_rfl) (fun xs=>by kernel_rfl)
def yQ.d1 (a:C):R:=(bif a.B then (some (.ret [.i 1])) else (some (.ret [.i 0])))
def yQ:List C→Option (List C):=fun xs=>aV (ap1 yQ.d1 xs)
def sM:FS:=⟨1,⟨[(0,zo)],[]⟩,⟨[(0,zi)],[]⟩,[],yQ⟩
theorem B8:aB Tryz.checked.prog T0 115 sM:=bA aE (fn:=Tryz.f115) (c:=Tryz.f115.body.getD .skip) sM .leaf [] .nil (by kernel_rfl) (by kernel_rfl) (by kernel_rfl) (fun xs=>by kernel_rfl)
end
end Go.Ev
namespace Go.Ev
open Go.Proofs
noncomputable section
def bW.d1 (a b c d e f g h i j k l m n o p q r s t u v w x y z a0 a1 a2 a3 a4 a5 a6:C):R:=(bif (decide (c.I<b.I)) then (bif (decide (0≤c.I)) then (bif (decide (c.I<(a.L.length:Int))) then (aa (kn [((a.L.getD c.I.toNat []).getD 0 .nil),t,u,v,w,x,y]) fun a7=>(bif a7.B then (some (.again [a,b,.i (w64 (c.I+1)),d,e,f,g,h,i,j,k,l,m,n,o,p,q,r,s,t,u,v,w,x,y,z,a0,a1,a2,.i (w64 (a3.I+((a.L.getD c.I.toNat []).getD 1 .nil).I)),a4,a5,a6])) else (some (.again [a,b,.i (w64 (c.I+1)),d,e,f,g,h,i,j,k,l,m,n,o,p,q,r,s,t,u,v,w,x,y,z,a0,a1,a2,a3,a4,a5,a6])))) else none) else none) else (some (.brk 0 [d,e,f,g,h,i,j,k,l,m,n,o,p,q,r,s,t,u,v,w,x,y,z,a0,a1,a2,a3,a4,a5,a6])))
def bW.d2 (a b c d e f g h i j k l m n o p q r s t u v w x y z a0 a1 a2 a3 a4 a5 a6:C):R:=(some (.again [a,b,.i (w64 (c.I+1)),d,e,f,g,h,i,j,k,l,m,n,o,p,q,r,s,t,u,v,w,x,y,z,a0,a1,a2,a3,a4,a5,a6]))
def bW.d3 (a b c d e f g h i j k l m n o p q r s t u v w x y z a0 a1 a2 a3 a4 a5 a6:C):R:=(bif (decide (c.I<b.I)) then (ah 3 (bif (decide (0≤c.I)) then (bif (decide (c.I<(a.L.length:Int))) then (bif (!((((a.L.getD c.I.toNat []).getD 0 .nil).S).toList==h.S.toList)) then (bif ((((a.L.getD c.I.toNat []).getD 11 .nil).S).toList==(bs #[]).toList) then (some (.brk 3 [a,b,c,d,e,f,g,h,i,j,k,l,m,n,o,p,q,r,s,t,u,v,w,x,y,z,a0,a1,a2,a3,a4,a5,a6])) else (bif ((((a.L.getD c.I.toNat []).getD 1 .nil).S).toList==i.S.toList) then (aa (mc [d,e,f,g,((a.L.getD c.I.toNat []).getD 11 .nil)]) fun a7=>(aa (yQ [.b (a7.S.toList==u.S.toList)]) fun a8=>(aa (yQ [.b ((((a.L.getD c.I.toNat []).getD 11 .nil).S).toList==t.S.toList)]) fun a9=>(bif ((((a.L.getD c.I.toNat []).getD 11 .nil).S).toList==t.S.toList) then (some (.brk 3 [a,b,c,d,e,f,g,h,i,j,k,l,m,n,o,p,q,r,s,t,u,v,w,x,y,z,a0,a1,a2,a3,.i (w64 (a4.I+a8.I)),.i (w64 (a5.I+a9.I)),.i (w64 (a6.I-((a.L.getD c.I.toNat []).getD 4 .nil).I))])) else (some (.brk 3 [a,b,c,d,e,f,g,h,i,j,k,l,m,n,o,p,q,r,s,t,u,v,w,x,y,z,a0,a1,a2,a3,.i (w64 (a4.I+a8.I)),.i (w64 (a5.I+a9.I)),a6])))))) else (bif ((((a.L.getD c.I.toNat []).getD 11 .nil).S).toList==t.S.toList) then (some (.brk 3 [a,b,c,d,e,f,g,h,i,j,k,l,m,n,o,p,q,r,s,t,u,v,w,x,y,z,a0,a1,a2,a3,a4,a5,.i (w64 (a6.I-((a.L.getD c.I.toNat []).getD 4 .nil).I))])) else (some (.brk 3 [a,b,c,d,e,f,g,h,i,j,k,l,m,n,o,p,q,r,s,t,u,v,w,x,y,z,a0,a1,a2,a3,a4,a5,a6]))))) else (some (.brk 3 [a,b,c,d,e,f,g,h,i,j,k,l,m,n,o,p,q,r,s,t,u,v,w,x,y,z,a0,a1,a2,a3,a4,a5,a6]))) else none) else none) (El bW.d2)) else (some (.brk 2 [z,a0,a1,a2,a3,a4,a5,a6])))
def bW.d4 (a b c d e f g h:C):R:=(some (.ret [e,f,g,h]))
def bW.d5 (a b c d e f g h i j k l m n o p q r s t u v w x y z a0 a1 a2 a3:C):R:=(ah 2 (lim (El bW.d3) [d,.i (d.L.length:Int),.i 0,a,b,c,d,e,f,g,h,i,j,k,l,m,n,o,p,q,r,s,t,u,v,w,x,y,z,a0,a1,a2,a3]) (ap8 bW.d4))
def bW.d6 (a b c d e f g h i j k l m n o p q r s t u v:C):R:=(ah 0 (lim (El bW.d1) [l,.i (l.L.length:Int),.i 0,a,b,c,d,e,f,g,h,i,j,k,l,m,n,o,p,q,r,s,t,u,v,.i 0,.i 0,.i 0,.i 0,.i 0,.i 0,.i 0,.i (w64 (t.I-i.I))]) (xR bW.d5))
def bW:List C→Option (List C):=fun xs=>aV (uZ bW.d6 xs)
def pP:FS:=⟨3,⟨[(0,z2),(1,z3),(2,z8)],[]⟩,⟨[(0,(.ag [zi,zi,zi,zi]))],[]⟩,[],bW⟩
theorem Bz:aB Tryz.checked.prog T0 72 pP:=bA aE (fn:=Tryz.f72) (c:=Tryz.f72.body.getD .skip) pP (.seq .leaf (.seq .leaf (.seq (.seq .leaf (.block ⟨[(3,(.pt 3 0)),(4,(.pt 4 0)),(5,(.pt 5 0)),(6,(.pt 6 0)),(7,(.pt 7 0))],[(3,z0),(4,z1),(5,z4),(6,z7),(7,z7)]⟩ (.loop ⟨[(3,(.pt 3 0)),(4,(.pt 4 0)),(5,(.pt 5 0)),(6,(.pt 6 0)),(7,(.pt 7 0)),(19,(zl 109)),(20,zi),(21,zi)],[(3,z0),(4,z1),(5,z4),(6,z7),(7,z7)]⟩ .leaf))) (.seq (.seq .leaf (.block ⟨[(6,(.pt 6 0)),(7,(.pt 7 0))],[(6,z7),(7,z7)]⟩ (.loop ⟨[(3,(.pt 3 0)),(4,(.pt 4 0)),(5,(.pt 5 0)),(6,(.pt 6 0)),(7,(.pt 7 0)),(37,(zl 45)),(38,zi),(39,zi)],[(3,z0),(4,z1),(5,z4),(6,z7),(7,z7)]⟩ (.seq .leaf (.seq .leaf (.seq (.block ⟨[(3,(.pt 3 0)),(4,(.pt 4 0)),(5,(.pt 5 0)),(6,(.pt 6 0)),(7,(.pt 7 0)),(37,(zl 45)),(38,zi),(39,zi)],[(3,z0),(4,z1),(5,z4),(6,z7),(7,z7)]⟩ .leaf) .leaf)))))) .leaf)))) [(103,some 28,mB),(104,some 63,nZ),(115,some 67,sM),(115,some 77,sM)] (.cons uk (.cons wD (.cons B8 (.cons B8 .nil)))) (by kernel_rfl) (by kernel_rfl) (by kernel_rfl) (fun xs=>by kernel_rfl)
def fM.d1 (a b c d e f g h i:C):R:=(bif (a.I !=e.I) then (some (.ret [.b (decide (a.I>e.I))])) else (bif (b.I !=f.I) then (some (.ret [.b (decide (b.I<f.I))])) else (bif (c.I !=g.I) then (some (.ret [.b (decide (c.I<g.I))])) else (bif i.B then (some (.ret [.b (decide (d.I<h.I))])) else (some (.ret [.b (decide (d.I>h.I))]))))))
def fM:List C→Option (List C):=fun xs=>aV (ap9 fM.d1 xs)
def jL:FS:=⟨3,⟨[(0,(.ag [zi,zi,zi,zi])),(1,(.ag [zi,zi,zi,zi])),(2,zo)],[]⟩,⟨[(0,zo)],[]⟩,[],fM⟩
theorem tB:aB Tryz.checked.prog T0 25 jL:=bA aE (fn:=Tryz.f25) (c:=Tryz.f25.body.getD .skip) jL .leaf [] .nil (by kernel_rfl) (by kernel_rfl) (by kernel_rfl) (fun xs=>by kernel_rfl)
def dh.d1 (a b c d e f g h i j k l m n o p q r s t u v w x:C):R:=(some (.again [a,b,c,.i (w64 (d.I+1)),e,f,g,h,i,j,k,l,m,n,o,p,q,r,s,t,u,v,w,x]))
def dh.d2 (a b c d e f g h i j k l m n o p q r s t u v w x:C):R:=(bif (decide (d.I<c.I)) then (ah 1 (bif (decide (0≤d.I)) then (bif (decide (d.I<(b.L.length:Int))) then (aa (bH [e,f,g,h,i,j,k,l,m,n,o,p,q,r,s,t,((b.L.getD d.I.toNat []).getD 0 .nil),((b.L.getD d.I.toNat []).getD 1 .nil),((b.L.getD d.I.toNat []).getD 2 .nil),((b.L.getD d.I.toNat []).getD 3 .nil),((b.L.getD d.I.toNat []).getD 4 .nil),((b.L.getD d.I.toNat []).getD 5 .nil),.b true]) fun y=>(bif (y.I !=0) then (some (.brk 1 [a,b,c,d,e,f,g,h,i,j,k,l,m,n,o,p,q,r,s,t,u,v,w,x])) else (call4 (bW [e,f,g,h,i,j,k,l,m,n,o,p,q,r,s,t,((b.L.getD d.I.toNat []).getD 0 .nil),((b.L.getD d.I.toNat []).getD 1 .nil),((b.L.getD d.I.toNat []).getD 2 .nil),((b.L.getD d.I.toNat []).getD 3 .nil),((b.L.getD d.I.toNat []).getD 4 .nil),((b.L.getD d.I.toNat []).getD 5 .nil)]) fun z a0 a1 a2=>(bif (!(a.S.toList==(bs #[]).toList)) then (aa (fM [z,a0,a1,a2,u,v,w,x,.b e.B]) fun a3=>(bif a3.B then (some (.brk 1 [((b.L.getD d.I.toNat []).getD 0 .nil),b,c,d,e,f,g,h,i,j,k,l,m,n,o,p,q,r,s,t,z,a0,a1,a2])) else (some (.brk 1 [a,b,c,d,e,f,g,h,i,j,k,l,m,n,o,p,q,r,s,t,u,v,w,x])))) else (some (.brk 1 [((b.L.getD d.I.toNat []).getD 0 .nil),b,c,d,e,f,g,h,i,j,k,l,m,n,o,p,q,r,s,t,z,a0,a1,a2])))))) else none) else none) (xT dh.d1)) else (some (.brk 0 [a])))
def dh.d3 (a:C):R:=(some (.ret [a]))
def dh.d4 (a b c d e f g h i j k l m n o p:C):R:=(ah 0 (lim (xT dh.d2) [.s (bs #[]),b,.i (b.L.length:Int),.i 0,a,b,c,d,e,f,g,h,i,j,k,l,m,n,o,p,.i 0,.i 0,.i 0,.i 0]) (ap1 dh.d3))
def dh:List C→Option (List C):=fun xs=>aV (Iv dh.d4 xs)
def nY:FS:=⟨2,⟨[(0,z2),(1,z3)],[]⟩,⟨[(0,zt)],[]⟩,[],dh⟩
theorem Al:aB Tryz.checked.prog T0 70 nY:=bA aE (fn:=Tryz.f70) (c:=Tryz.f70.body.getD .skip) nY (.seq .leaf (.seq .leaf (.seq .leaf (.seq (.seq .leaf (.block ⟨[(5,zt)],[]⟩ (.loop ⟨[(2,(.pt 2 0)),(3,(.pt 3 0)),(5,zt),(6,(.pt 6 0)),(11,(zl 37)),(12,zi),(13,zi)],[(2,z0),(3,z1),(6,z7)]⟩ (.seq .leaf (.seq .leaf (.seq (.block ⟨[(2,(.pt 2 0)),(3,(.pt 3 0)),(5,zt),(6,(.pt 6 0)),(11,(zl 37)),(12,zi),(13,zi)],[(2,z0),(3,z1),(6,z7)]⟩ .leaf) .leaf)))))) .leaf)))) [(25,some 33,jL),(54,some 20,lC),(72,some 25,pP)] (.cons tB (.cons qX (.cons Bz .nil))) (by kernel_rfl) (by kernel_rfl) (by kernel_rfl) (fun xs=>by kernel_rfl)
def iQ.d1 (a b c d e f g h i j k l m:C):R:=(bif m.isP then (some (.ret [.b (a.S.toList==((m.P.getD 0 .nil).S).toList)])) else none)
def iQ:List C→Option (List C):=fun xs=>aV (oU iQ.d1 xs)
def lO:FS:=⟨2,⟨[(0,z3),(1,(.d (.pt 9)))],[]⟩,⟨[(0,zo)],[]⟩,[],iQ⟩
theorem xQ:aB Tryz.checked.prog T0 100 lO:=bA aE (fn:=Tryz.f100) (c:=Tryz.f100.body.getD .skip) lO .leaf [] .nil (by kernel_rfl) (by kernel_rfl) (by kernel_rfl) (fun xs=>by kernel_rfl)
def aF.d1 (a b c d:C):R:=(bif (decide (d.I<c.I)) then (bif (decide (0≤d.I)) then (bif (decide (d.I<(a.L.length:Int))) then (aa (iQ [((a.L.getD d.I.toNat []).getD 0 .nil),((a.L.getD d.I.toNat []).getD 1 .nil),((a.L.getD d.I.toNat []).getD 2 .nil),((a.L.getD d.I.toNat []).getD 3 .nil),((a.L.getD d.I.toNat []).getD 4 .nil),((a.L.getD d.I.toNat []).getD 5 .nil),((a.L.getD d.I.toNat []).getD 6 .nil),((a.L.getD d.I.toNat []).getD 7 .nil),((a.L.getD d.I.toNat []).getD 8 .nil),((a.L.getD d.I.toNat []).getD 9 .nil),((a.L.getD d.I.toNat []).getD 10 .nil),((a.L.getD d.I.toNat []).getD 11 .nil),b]) fun e=>(bif e.B then (some (.ret [d])) else (some (.again [a,b,c,.i (w64 (d.I+1))])))) else none) else none) else (some (.brk 0 [])))
def aF.d2:R:=(some (.ret [.i (-1)]))
def aF.d3 (a b:C):R:=(ah 0 (lim (ap4 aF.d1) [a,b,.i (a.L.length:Int),.i 0]) (fun xs=>aF.d2))
def aF:List C→Option (List C):=fun xs=>aV (ap2 aF.d3 xs)
def eO:FS:=⟨2,⟨[(0,(zl 45)),(1,(.fn 100 [(.d (.pt 9))]))],[]⟩,⟨[(0,zi)],[]⟩,[],aF⟩
theorem ku:aB Tryz.checked.prog T0 99 eO:=bA aE (fn:=Tryz.f99) (c:=Tryz.f99.body.getD .skip) eO (.seq .leaf (.seq (.seq .leaf (.block ⟨[],[]⟩ (.loop ⟨[(0,(zl 45)),(1,(.fn 100 [(.d (.pt 9))])),(7,zi),(8,zi)],[]⟩ .leaf))) .leaf)) [(100,some 16,lO)] (.cons xQ .nil) (by kernel_rfl) (by kernel_rfl) (by kernel_rfl) (fun xs=>by kernel_rfl)
def iU.d1 (a b c d e:C):R:=(aa (aF [d,.p [e]]) fun f=>(some (.ret [f])))
def iU:List C→Option (List C):=fun xs=>aV (ap5 iU.d1 xs)
def k7:FS:=⟨2,⟨[(0,z2),(1,zt)],[]⟩,⟨[(0,zi)],[]⟩,[],iU⟩
theorem sS:aB Tryz.checked.prog T0 52 k7:=bA aE (fn:=Tryz.f52) (c:=Tryz.f52.body.getD .skip) k7 .leaf [(99,some 8,eO)] (.cons ku .nil) (by kernel_rfl) (by kernel_rfl) (by kernel_rfl) (fun xs=>by kernel_rfl)
def cI.d1 (a b c d e f g h:C):R:=(bif (decide (b.I<a.I)) then (bif (decide (0≤b.I)) then (bif (decide (b.I<(h.L.length:Int))) then (aa (dh [c,.l d.L,.l e.L,.l f.L,((h.L.getD b.I.toNat []).getD 0 .nil),((h.L.getD b.I.toNat []).getD 1 .nil),((h.L.getD b.I.toNat []).getD 2 .nil),((h.L.getD b.I.toNat []).getD 3 .nil),((h.L.getD b.I.toNat []).getD 4 .nil),((h.L.getD b.I.toNat []).getD 5 .nil),((h.L.getD b.I.toNat []).getD 6 .nil),((h.L.getD b.I.toNat []).getD 7 .nil),((h.L.getD b.I.toNat []).getD 8 .nil),((h.L.getD b.I.toNat []).getD 9 .nil),((h.L.getD b.I.toNat []).getD 10 .nil),((h.L.getD b.I.toNat []).getD 11 .nil)]) fun i=>(bif (!(i.S.toList==(bs #[]).toList)) then (aa (iU [c,.l d.L,.l e.L,.l f.L,((h.L.getD b.I.toNat []).getD 0 .nil)]) fun j=>(bif (decide (0≤j.I)) then (bif (decide (j.I<(f.L.length:Int))) then (bif (decide (g.L.length+(rows [[((h.L.getD b.I.toNat []).getD 0 .nil),i,.l ao]]).length≤4294967296)) then (some (.brk 1000000 [c,.l d.L,.l e.L,.l (f.L.set j.I.toNat (aK (f.L.getD j.I.toNat []) 11 [i])),.l (g.L++(rows [[((h.L.getD b.I.toNat []).getD 0 .nil),i,.l ao]]))])) else none) else none) else none)) else (some (.again [a,.i (w64 (b.I+1)),c,.l d.L,.l e.L,.l f.L,.l g.L,.l h.L])))) else none) else none) else (some (.brk 0 [c,.l d.L,.l e.L,.l f.L,.l g.L])))
def cI.d2 (a b c d e:C):R:=(some (.ret [a,.l b.L,.l c.L,.l d.L,.l e.L]))
def cI.d3 (a b c d e:C):R:=(call4 (dY [a,.l b.L,.l c.L,.l d.L]) fun f g h i=>(ah 0 (lim (ap8 cI.d1) [.i (i.L.length:Int),.i 0,a,.l f.L,.l g.L,.l h.L,.l e.L,.l i.L]) (ap5 cI.d2)))
def cI.d4 (a b c d:C):R:=(ry 1000000 (call4 (dY [a,.l b.L,.l c.L,.l d.L]) fun e f g h=>(ah 0 (lim (ap8 cI.d1) [.i (h.L.length:Int),.i 0,a,.l e.L,.l f.L,.l g.L,.l ao,.l h.L]) (ap5 cI.d2))) (ap5 cI.d3))
def cI:List C→Option (List C):=fun xs=>aV (ap4 cI.d4 xs)
def pA:FS:=⟨1,⟨[(0,(.pt 2000 0))],[(2000,z10),(2001,.arr 37 1),(2002,.arr 60 1),(2003,.arr 45 1)]⟩,⟨[(0,(.ow 3004))],[(2000,z10),(2001,.arr 37 1),(2002,.arr 60 1),(2003,.arr 45 1),(3004,.arr 53 1)]⟩,[2000,2001,2002,2003],cI⟩
theorem AY:aB Tryz.checked.prog T0 84 pA:=pH aE [41] false (fn:=Tryz.f84) (c:=Tryz.f84.body.getD .skip) pA (.seq .leaf (.scp 0 ⟨[(0,(.pt 2000 0)),(3,(.ow 1287500))],[(2000,z10),(2001,.arr 37 1),(2002,.arr 60 1),(2003,.arr 45 1),(1287500,.arr 53 1)]⟩ (.seq .leaf (.seq .leaf (.seq (.seq .leaf (.block ⟨[(3,(.ow 1287500))],[(2000,z10),(2001,.arr 37 1),(2002,.arr 60 1),(2003,.arr 45 1),(1287500,.arr 53 1)]⟩ (.loop ⟨[(0,(.pt 2000 0)),(3,(.ow 1287500)),(10,(.ow 48059)),(11,zi),(12,zi)],[(2000,z10),(2001,.arr 37 1),(2002,.arr 60 1),(2003,.arr 45 1),(1287500,.arr 53 1),(48059,.arr 45)]⟩ .leaf))) .leaf))) (.seq .leaf (.seq (.seq .leaf (.block ⟨[(3,(.ow 1287500))],[(2000,z10),(2001,.arr 37 1),(2002,.arr 60 1),(2003,.arr 45 1),(1287500,.arr 53 1)]⟩ (.loop ⟨[(0,(.pt 2000 0)),(3,(.ow 1287500)),(10,(.ow 48059)),(11,zi),(12,zi)],[(2000,z10),(2001,.arr 37 1),(2002,.arr 60 1),(2003,.arr 45 1),(1287500,.arr 53 1),(48059,.arr 45)]⟩ .leaf))) .leaf)))) [(52,some 32,k7),(70,some 20,nY),(122,some 10,pE)] (.cons sS (.cons Al (.cons Bn .nil))) (by kernel_rfl) (by kernel_rfl) (by kernel_rfl) (fun xs=>by kernel_rfl)
def gq.d1 (a b c d:C):R:=(aa (aq [a,b,c,d]) fun e=>(bif (!e.B) then (some (.ret [.b false,.l ao,.l ao,.l ao,.l ao])) else (call4 (dr [a,b,c,d]) fun f g h i=>(call5 (cI [f,.l g.L,.l h.L,.l i.L]) fun j k l m n=>(some (.ret [j,.l k.L,.l l.L,.l m.L,.l n.L]))))))
def gq:List C→Option (List C):=fun xs=>aV (ap4 gq.d1 xs)
def kJ:FS:=⟨1,⟨[(0,z2)],[]⟩,⟨[(0,(.tu [z11,(.ow 3003)]))],[(3000,.arr 37 1),(3001,.arr 60 1),(3002,.arr 45 1),(3003,.arr 53 1)]⟩,[],gq⟩
theorem vf:aB Tryz.checked.prog T0 31 kJ:=bA aE (fn:=Tryz.f31) (c:=Tryz.f31.body.getD .skip) kJ .leaf [(17,some 7,fq),(83,some 11,pq),(84,some 12,pA)] (.cons iI (.cons BR (.cons AY .nil))) (by kernel_rfl) (by kernel_rfl) (by kernel_rfl) (fun xs=>by kernel_rfl)
def iS.d1 (a b c d e f g h i j k l m n o p q r s t u v w x:C):R:=(bif (c.I !=o.I) then (some (.ret [.b (decide (c.I>o.I))])) else (bif (d.I !=p.I) then (some (.ret [.b (decide (d.I<p.I))])) else (some (.ret [.b (Op.bytesLess a.S.toList m.S.toList)]))))
def iS:List C→Option (List C):=fun xs=>aV (xT iS.d1 xs)
def oG:FS:=⟨2,⟨[(0,z3),(1,z3)],[]⟩,⟨[(0,zo)],[]⟩,[],iS⟩
theorem zk:aB Tryz.checked.prog T0 125 oG:=bA aE (fn:=Tryz.f125) (c:=Tryz.f125.body.getD .skip) oG .leaf [] .nil (by kernel_rfl) (by kernel_rfl) (by kernel_rfl) (fun xs=>by kernel_rfl)
def aX.d1 (a b c d e f g:C):R:=(bif (decide (b.I<(g.L.length:Int))) then (bif (decide (0≤b.I)) then (bif (decide (b.I<(g.L.length:Int))) then (bif (decide (0≤a.I)) then (bif (decide (a.I<(f.L.length:Int))) then (aa (iS [((g.L.getD b.I.toNat []).getD 0 .nil),((g.L.getD b.I.toNat []).getD 1 .nil),((g.L.getD b.I.toNat []).getD 2 .nil),((g.L.getD b.I.toNat []).getD 3 .nil),((g.L.getD b.I.toNat []).getD 4 .nil),((g.L.getD b.I.toNat []).getD 5 .nil),((g.L.getD b.I.toNat []).getD 6 .nil),((g.L.getD b.I.toNat []).getD 7 .nil),((g.L.getD b.I.toNat []).getD 8 .nil),((g.L.getD b.I.toNat []).getD 9 .nil),((g.L.getD b.I.toNat []).getD 10 .nil),((g.L.getD b.I.toNat []).getD 11 .nil),((f.L.getD a.I.toNat []).getD 0 .nil),((f.L.getD a.I.toNat []).getD 1 .nil),((f.L.getD a.I.toNat []).getD 2 .nil),((f.L.getD a.I.toNat []).getD 3 .nil),((f.L.getD a.I.toNat []).getD 4 .nil),((f.L.getD a.I.toNat []).getD 5 .nil),((f.L.getD a.I.toNat []).getD 6 .nil),((f.L.getD a.I.toNat []).getD 7 .nil),((f.L.getD a.I.toNat []).getD 8 .nil),((f.L.getD a.I.toNat []).getD 9 .nil),((f.L.getD a.I.toNat []).getD 10 .nil),((f.L.getD a.I.toNat []).getD 11 .nil)]) fun h=>(bif h.B then (some (.again [a,.i (w64 (b.I+1)),c,d,e,f,.l g.L])) else (some (.brk 2 [a,b,c,d,e,f,.l g.L])))) else none) else none) else none) else none) else (some (.brk 2 [a,b,c,d,e,f,.l g.L])))
def aX.d2 (a b c d e f g:C):R:=(bif (decide (0≤b.I)) then (bif (decide (b.I≤(g.L.length:Int))) then (bif (decide (ao.length+((g.L.take b.I.toNat).drop 0).length≤4294967296)) then (bif (decide (0≤a.I)) then (bif (decide (a.I<(f.L.length:Int))) then (bif (decide ((ao++((g.L.take b.I.toNat).drop 0)).length+(rows [[((f.L.getD a.I.toNat []).getD 0 .nil),((f.L.getD a.I.toNat []).getD 1 .nil),((f.L.getD a.I.toNat []).getD 2 .nil),((f.L.getD a.I.toNat []).getD 3 .nil),((f.L.getD a.I.toNat []).getD 4 .nil),((f.L.getD a.I.toNat []).getD 5 .nil),((f.L.getD a.I.toNat []).getD 6 .nil),((f.L.getD a.I.toNat []).getD 7 .nil),((f.L.getD a.I.toNat []).getD 8 .nil),((f.L.getD a.I.toNat []).getD 9 .nil),((f.L.getD a.I.toNat []).getD 10 .nil),((f.L.getD a.I.toNat []).getD 11 .nil)]]).length≤4294967296)) then (bif (decide (0≤b.I)) then (bif (decide (b.I≤(g.L.length:Int))) then (bif (decide ((g.L.length:Int)≤(g.L.length:Int))) then (bif (decide (((ao++((g.L.take b.I.toNat).drop 0))++(rows [[((f.L.getD a.I.toNat []).getD 0 .nil),((f.L.getD a.I.toNat []).getD 1 .nil),((f.L.getD a.I.toNat []).getD 2 .nil),((f.L.getD a.I.toNat []).getD 3 .nil),((f.L.getD a.I.toNat []).getD 4 .nil),((f.L.getD a.I.toNat []).getD 5 .nil),((f.L.getD a.I.toNat []).getD 6 .nil),((f.L.getD a.I.toNat []).getD 7 .nil),((f.L.getD a.I.toNat []).getD 8 .nil),((f.L.getD a.I.toNat []).getD 9 .nil),((f.L.getD a.I.toNat []).getD 10 .nil),((f.L.getD a.I.toNat []).getD 11 .nil)]])).length+((g.L.take (g.L.length:Int).toNat).drop b.I.toNat).length≤4294967296)) then (some (.brk 1 [a,c,d,e,f,.l (((ao++((g.L.take b.I.toNat).drop 0))++(rows [[((f.L.getD a.I.toNat []).getD 0 .nil),((f.L.getD a.I.toNat []).getD 1 .nil),((f.L.getD a.I.toNat []).getD 2 .nil),((f.L.getD a.I.toNat []).getD 3 .nil),((f.L.getD a.I.toNat []).getD 4 .nil),((f.L.getD a.I.toNat []).getD 5 .nil),((f.L.getD a.I.toNat []).getD 6 .nil),((f.L.getD a.I.toNat []).getD 7 .nil),((f.L.getD a.I.toNat []).getD 8 .nil),((f.L.getD a.I.toNat []).getD 9 .nil),((f.L.getD a.I.toNat []).getD 10 .nil),((f.L.getD a.I.toNat []).getD 11 .nil)]]))++((g.L.take (g.L.length:Int).toNat).drop b.I.toNat))])) else none) else none) else none) else none) else none) else none) else none) else none) else none) else none)
def aX.d3 (a b c d e f:C):R:=(some (.again [.i (w64 (a.I+1)),b,c,d,e,.l f.L]))
def aX.d4 (a b c d e f:C):R:=(bif (decide (a.I<(e.L.length:Int))) then (ah 1 (bif (decide (0≤a.I)) then (bif (decide (a.I<(e.L.length:Int))) then (bif (!((((e.L.getD a.I.toNat []).getD 11 .nil).S).toList==(bs #[]).toList)) then (some (.brk 1 [a,b,c,d,e,.l f.L])) else (ah 2 (lim (ap7 aX.d1) [a,.i 0,b,c,d,e,.l f.L]) (ap7 aX.d2))) else none) else none) (ap6 aX.d3)) else (some (.brk 0 [.l f.L])))
def aX.d5 (a b c:C):R:=(bif (decide (a.I<(b.L.length:Int))) then (bif (decide (0≤a.I)) then (bif (decide (a.I<(b.L.length:Int))) then (bif (decide (c.L.length+(rows [[((b.L.getD a.I.toNat []).getD 0 .nil)]]).length≤4294967296)) then (some (.again [.i (w64 (a.I+1)),.l b.L,.l (c.L++(rows [[((b.L.getD a.I.toNat []).getD 0 .nil)]]))])) else none) else none) else none) else (some (.brk 4 [.l c.L])))
def aX.d6 (a:C):R:=(some (.ret [.l a.L]))
def aX.d7 (a:C):R:=(ah 4 (lim (ap3 aX.d5) [.i 0,.l a.L,.l ao]) (ap1 aX.d6))
def aX.d8 (a b c d:C):R:=(ah 0 (lim (ap6 aX.d4) [.i 0,a,b,c,d,.l ao]) (ap1 aX.d7))
def aX:List C→Option (List C):=fun xs=>aV (ap4 aX.d8 xs)
def lk:FS:=⟨1,⟨[(0,z2)],[]⟩,⟨[(0,(.ow 3000))],[(3000,.arr 9 1)]⟩,[],aX⟩
theorem sO:aB Tryz.checked.prog T0 88 lk:=pH aE [51] false (fn:=Tryz.f88) (c:=Tryz.f88.body.getD .skip) lk (.seq .leaf (.seq .leaf (.seq (.seq .leaf (.block ⟨[(3,(.ow 8))],[(8,.arr 45)]⟩ (.loop ⟨[(1,(.pt 1 0)),(3,(.ow 8)),(4,zi)],[(1,z0),(8,.arr 45)]⟩ (.seq .leaf (.seq (.block ⟨[(1,(.pt 1 0)),(3,(.ow 8)),(4,zi)],[(1,z0),(8,.arr 45)]⟩ (.seq .leaf (.seq .leaf (.seq (.block ⟨[(1,(.pt 1 0)),(3,(.ow 8)),(4,zi),(5,zi)],[(1,z0),(8,.arr 45)]⟩ (.loop ⟨[(1,(.pt 1 0)),(3,(.ow 8)),(4,zi),(5,zi)],[(1,z0),(8,.arr 45)]⟩ .leaf)) .leaf)))) .leaf))))) (.seq .leaf (.seq (.seq .leaf (.block ⟨[(6,(.ow 57))],[(57,.arr 9 1)]⟩ (.loop ⟨[(3,(.ow 8)),(6,(.ow 57)),(7,zi)],[(8,.arr 45),(57,.arr 9 1)]⟩ .leaf))) .leaf))))) [(125,some 37,oG)] (.cons zk .nil) (by kernel_rfl) (by kernel_rfl) (by kernel_rfl) (fun xs=>by kernel_rfl)
def ba.d1 (a b c d e f g h i j k l m n o p q r s t u v w x y z a0 a1 a2 a3 a4:C):R:=(bif (decide (a.I<(m.L.length:Int))) then (bif (decide (0≤a.I)) then (bif (decide (a.I<(m.L.length:Int))) then (aa (gN [((m.L.getD a.I.toNat []).getD 0 .nil),r,s,t,u,v,w]) fun a5=>(bif a5.B then (bif (decide (0≤a.I)) then (bif (decide (a.I<(m.L.length:Int))) then (some (.again [.i (w64 (a.I+1)),b,c,d,e,f,g,h,i,j,k,l,m,n,o,p,q,r,s,t,u,v,w,x,y,z,a0,.i (w64 (a1.I+((m.L.getD a.I.toNat []).getD 1 .nil).I)),a2,a3,a4])) else none) else none) else (some (.again [.i (w64 (a.I+1)),b,c,d,e,f,g,h,i,j,k,l,m,n,o,p,q,r,s,t,u,v,w,x,y,z,a0,a1,a2,a3,a4])))) else none) else none) else (some (.brk 0 [b,c,d,e,f,g,h,i,j,k,l,m,n,o,p,q,r,s,t,u,v,w,x,y,z,a0,a1,a2,a3,a4])))
def ba.d2 (a b c d e f g h i j k l m n o p q r s t u v w x y z a0 a1 a2 a3 a4 a5 a6 a7 a8 a9 b0 b1 b2 b3 b4 b5 b6:C):R:=(bif (a6.S.toList==g.S.toList) then (aa (gg [b,c,d,e,b6]) fun b7=>(bif (b7.S.toList==s.S.toList) then (some (.brk 3 [a,b,c,d,e,f,g,h,i,j,k,l,m,n,o,p,q,r,s,t,u,v,w,x,y,z,a0,a1,.i (w64 (a2.I+1)),a3,a4])) else (some (.brk 3 [a,b,c,d,e,f,g,h,i,j,k,l,m,n,o,p,q,r,s,t,u,v,w,x,y,z,a0,a1,a2,a3,a4])))) else (some (.brk 3 [a,b,c,d,e,f,g,h,i,j,k,l,m,n,o,p,q,r,s,t,u,v,w,x,y,z,a0,a1,a2,a3,a4])))
def ba.d3 (a b c d e f g h i j k l m n o p q r s t u v w x y z a0 a1 a2 a3 a4 a5 a6 a7 a8 a9 b0 b1 b2 b3 b4 b5 b6:C):R:=(bf (bif (a6.S.toList==g.S.toList) then (bif (b6.S.toList==r.S.toList) then (some (.nrm [a,b,c,d,e,f,g,h,i,j,k,l,m,n,o,p,q,r,s,t,u,v,w,x,y,z,a0,a1,a2,.i (w64 (a3.I+1)),a4,a5,a6,a7,a8,a9,b0,b1,b2,b3,b4,b5,b6])) else (some (.nrm [a,b,c,d,e,f,g,h,i,j,k,l,m,n,o,p,q,r,s,t,u,v,w,x,y,z,a0,a1,a2,a3,a4,a5,a6,a7,a8,a9,b0,b1,b2,b3,b4,b5,b6]))) else (some (.nrm [a,b,c,d,e,f,g,h,i,j,k,l,m,n,o,p,q,r,s,t,u,v,w,x,y,z,a0,a1,a2,a3,a4,a5,a6,a7,a8,a9,b0,b1,b2,b3,b4,b5,b6]))) (fun xs=>ba.d2 (xs.getD 0 .nil) (xs.getD 1 .nil) (xs.getD 2 .nil) (xs.getD 3 .nil) (xs.getD 4 .nil) (xs.getD 5 .nil) (xs.getD 6 .nil) (xs.getD 7 .nil) (xs.getD 8 .nil) (xs.getD 9 .nil) (xs.getD 10 .nil) (xs.getD 11 .nil) (xs.getD 12 .nil) (xs.getD 13 .nil) (xs.getD 14 .nil) (xs.getD 15 .nil) (xs.getD 16 .nil) (xs.getD 17 .nil) (xs.getD 18 .nil) (xs.getD 19 .nil) (xs.getD 20 .nil) (xs.getD 21 .nil) (xs.getD 22 .nil) (xs.getD 23 .nil) (xs.getD 24 .nil) (xs.getD 25 .nil) (xs.getD 26 .nil) (xs.getD 27 .nil) (xs.getD 28 .nil) (xs.getD 29 .nil) (xs.getD 30 .nil) (xs.getD 31 .nil) (xs.getD 32 .nil) (xs.getD 33 .nil) (xs.getD 34 .nil) (xs.getD 35 .nil) (xs.getD 36 .nil) (xs.getD 37 .nil) (xs.getD 38 .nil) (xs.getD 39 .nil) (xs.getD 40 .nil) (xs.getD 41 .nil) (xs.getD 42 .nil)))
def ba.d4 (a b c d e f g h i j k l m n o p q r s t u v w x y z a0 a1 a2 a3 a4:C):R:=(some (.again [.i (w64 (a.I+1)),b,c,d,e,f,g,h,i,j,k,l,m,n,o,p,q,r,s,t,u,v,w,x,y,z,a0,a1,a2,a3,a4]))
def ba.d5 (a b c d e f g h i j k l m n o p q r s t u v w x y z a0 a1 a2 a3 a4:C):R:=(bif (decide (a.I<(e.L.length:Int))) then (ah 3 (bif (decide (0≤a.I)) then (bif (decide (a.I<(e.L.length:Int))) then (bif (!((((e.L.getD a.I.toNat []).getD 0 .nil).S).toList==f.S.toList)) then (bif ((((e.L.getD a.I.toNat []).getD 11 .nil).S).toList==(bs #[]).toList) then (some (.brk 3 [a,b,c,d,e,f,g,h,i,j,k,l,m,n,o,p,q,r,s,t,u,v,w,x,y,z,a0,a1,a2,a3,a4])) else (bf (bif ((((e.L.getD a.I.toNat []).getD 11 .nil).S).toList==r.S.toList) then (some (.nrm [a,b,c,d,e,f,g,h,i,j,k,l,m,n,o,p,q,r,s,t,u,v,w,x,y,z,a0,a1,a2,a3,.i (w64 (a4.I-((e.L.getD a.I.toNat []).getD 4 .nil).I)),((e.L.getD a.I.toNat []).getD 0 .nil),((e.L.getD a.I.toNat []).getD 1 .nil),((e.L.getD a.I.toNat []).getD 2 .nil),((e.L.getD a.I.toNat []).getD 3 .nil),((e.L.getD a.I.toNat []).getD 4 .nil),((e.L.getD a.I.toNat []).getD 5 .nil),((e.L.getD a.I.toNat []).getD 6 .nil),((e.L.getD a.I.toNat []).getD 7 .nil),((e.L.getD a.I.toNat []).getD 8 .nil),((e.L.getD a.I.toNat []).getD 9 .nil),((e.L.getD a.I.toNat []).getD 10 .nil),((e.L.getD a.I.toNat []).getD 11 .nil)])) else (some (.nrm [a,b,c,d,e,f,g,h,i,j,k,l,m,n,o,p,q,r,s,t,u,v,w,x,y,z,a0,a1,a2,a3,a4,((e.L.getD a.I.toNat []).getD 0 .nil),((e.L.getD a.I.toNat []).getD 1 .nil),((e.L.getD a.I.toNat []).getD 2 .nil),((e.L.getD a.I.toNat []).getD 3 .nil),((e.L.getD a.I.toNat []).getD 4 .nil),((e.L.getD a.I.toNat []).getD 5 .nil),((e.L.getD a.I.toNat []).getD 6 .nil),((e.L.getD a.I.toNat []).getD 7 .nil),((e.L.getD a.I.toNat []).getD 8 .nil),((e.L.getD a.I.toNat []).getD 9 .nil),((e.L.getD a.I.toNat []).getD 10 .nil),((e.L.getD a.I.toNat []).getD 11 .nil)]))) (fun xs=>ba.d3 (xs.getD 0 .nil) (xs.getD 1 .nil) (xs.getD 2 .nil) (xs.getD 3 .nil) (xs.getD 4 .nil) (xs.getD 5 .nil) (xs.getD 6 .nil) (xs.getD 7 .nil) (xs.getD 8 .nil) (xs.getD 9 .nil) (xs.getD 10 .nil) (xs.getD 11 .nil) (xs.getD 12 .nil) (xs.getD 13 .nil) (xs.getD 14 .nil) (xs.getD 15 .nil) (xs.getD 16 .nil) (xs.getD 17 .nil) (xs.getD 18 .nil) (xs.getD 19 .nil) (xs.getD 20 .nil) (xs.getD 21 .nil) (xs.getD 22 .nil) (xs.getD 23 .nil) (xs.getD 24 .nil) (xs.getD 25 .nil) (xs.getD 26 .nil) (xs.getD 27 .nil) (xs.getD 28 .nil) (xs.getD 29 .nil) (xs.getD 30 .nil) (xs.getD 31 .nil) (xs.getD 32 .nil) (xs.getD 33 .nil) (xs.getD 34 .nil) (xs.getD 35 .nil) (xs.getD 36 .nil) (xs.getD 37 .nil) (xs.getD 38 .nil) (xs.getD 39 .nil) (xs.getD 40 .nil) (xs.getD 41 .nil) (xs.getD 42 .nil)))) else (some (.brk 3 [a,b,c,d,e,f,g,h,i,j,k,l,m,n,o,p,q,r,s,t,u,v,w,x,y,z,a0,a1,a2,a3,a4]))) else none) else none) (sC ba.d4)) else (some (.brk 2 [x,y,z,a0,a1,a2,a3,a4])))
def ba.d6 (a b c d e f g h:C):R:=(some (.ret [e,f,g,h]))
def ba.d7 (a b c d e f g h i j k l m n o p q r s t u v w x y z a0 a1 a2 a3:C):R:=(ah 2 (lim (sC ba.d5) [.i 0,a,b,c,d,e,f,g,h,i,j,k,l,m,n,o,p,q,r,s,t,u,v,w,x,y,z,a0,a1,a2,a3]) (ap8 ba.d6))
def ba.d8 (a b c d e f g h i j k l m n o p q r s t u v:C):R:=(ah 0 (lim (sC ba.d1) [.i 0,a,b,c,d,e,f,g,h,i,j,k,l,m,n,o,p,q,r,s,t,u,v,.i 0,.i 0,.i 0,.i 0,.i 0,.i 0,.i 0,.i (w64 (t.I-i.I))]) (xR ba.d7))
def ba:List C→Option (List C):=fun xs=>aV (uZ ba.d8 xs)
def ll:FS:=⟨3,⟨[(0,z2),(1,z3),(2,z8)],[]⟩,⟨[(0,(.ag [zi,zi,zi,zi]))],[]⟩,[],ba⟩
theorem rY:aB Tryz.checked.prog T0 73 ll:=bA aE (fn:=Tryz.f73) (c:=Tryz.f73.body.getD .skip) ll (.seq .leaf (.seq .leaf (.seq (.seq .leaf (.block ⟨[(3,(.pt 3 0)),(4,(.pt 4 0)),(5,(.pt 5 0)),(6,(.pt 6 0)),(7,(.pt 7 0))],[(3,z0),(4,z1),(5,z4),(6,z7),(7,z7)]⟩ (.loop ⟨[(3,(.pt 3 0)),(4,(.pt 4 0)),(5,(.pt 5 0)),(6,(.pt 6 0)),(7,(.pt 7 0)),(8,zi)],[(3,z0),(4,z1),(5,z4),(6,z7),(7,z7)]⟩ .leaf))) (.seq (.seq .leaf (.block ⟨[(6,(.pt 6 0)),(7,(.pt 7 0))],[(6,z7),(7,z7)]⟩ (.loop ⟨[(3,(.pt 3 0)),(4,(.pt 4 0)),(5,(.pt 5 0)),(6,(.pt 6 0)),(7,(.pt 7 0)),(9,zi)],[(3,z0),(4,z1),(5,z4),(6,z7),(7,z7)]⟩ (.seq .leaf (.seq (.block ⟨[(3,(.pt 3 0)),(4,(.pt 4 0)),(5,(.pt 5 0)),(6,(.pt 6 0)),(7,(.pt 7 0)),(9,zi)],[(3,z0),(4,z1),(5,z4),(6,z7),(7,z7)]⟩ (.seq .leaf (.seq .leaf (.seq (.join ⟨[(3,(.pt 3 0)),(4,(.pt 4 0)),(5,(.pt 5 0)),(6,(.pt 6 0)),(7,(.pt 7 0)),(9,zi),(10,(.pt 10 0))],[(3,z0),(4,z1),(5,z4),(6,z7),(7,z7),(10,z1)]⟩ .leaf) (.seq (.join ⟨[(3,(.pt 3 0)),(4,(.pt 4 0)),(5,(.pt 5 0)),(6,(.pt 6 0)),(7,(.pt 7 0)),(9,zi),(10,(.pt 10 0))],[(3,z0),(4,z1),(5,z4),(6,z7),(7,z7),(10,z1)]⟩ .leaf) .leaf))))) .leaf))))) .leaf)))) [(105,some 31,ka),(116,some 100,iv)] (.cons qN (.cons mJ .nil)) (by kernel_rfl) (by kernel_rfl) (by kernel_rfl) (fun xs=>by kernel_rfl)
def fQ.d1 (a b c d e f g h i:C):R:=(bif (a.I !=e.I) then (some (.ret [.b (decide (a.I>e.I))])) else (bif (b.I !=f.I) then (some (.ret [.b (decide (b.I<f.I))])) else (bif (c.I !=g.I) then (some (.ret [.b (decide (c.I<g.I))])) else (bif i.B then (some (.ret [.b (decide (d.I<h.I))])) else (some (.ret [.b (decide (d.I>h.I))]))))))
def fQ:List C→Option (List C):=fun xs=>aV (ap9 fQ.d1 xs)
def jF:FS:=⟨3,⟨[(0,(.ag [zi,zi,zi,zi])),(1,(.ag [zi,zi,zi,zi])),(2,zo)],[]⟩,⟨[(0,zo)],[]⟩,[],fQ⟩
theorem tX:aB Tryz.checked.prog T0 114 jF:=bA aE (fn:=Tryz.f114) (c:=Tryz.f114.body.getD .skip) jF .leaf [] .nil (by kernel_rfl) (by kernel_rfl) (by kernel_rfl) (fun xs=>by kernel_rfl)
def cw.d1 (a b c d e f g h i j k l m n o p q r s:C):R:=(bif c.B then (some (.again [b,.i (w64 (b.I+1)),d,e,f,g,h,i,j,k,l,m,n,o,p,q,r,s])) else (some (.again [a,.i (w64 (b.I+1)),d,e,f,g,h,i,j,k,l,m,n,o,p,q,r,s])))
def cw.d2 (a b c d e f g h i j k l m n o p q r:C):R:=(bif (decide (b.I<(d.L.length:Int))) then (bf (bif (decide (0≤b.I)) then (bif (decide (b.I<(d.L.length:Int))) then (aa (cE [c,d,e,f,g,h,i,j,k,l,m,n,o,p,q,r,((d.L.getD b.I.toNat []).getD 0 .nil),((d.L.getD b.I.toNat []).getD 1 .nil),((d.L.getD b.I.toNat []).getD 2 .nil),((d.L.getD b.I.toNat []).getD 3 .nil),((d.L.getD b.I.toNat []).getD 4 .nil),((d.L.getD b.I.toNat []).getD 5 .nil),.b false]) fun s=>(bif (s.I==0) then (bif (!(decide (a.I<0))) then (bif (decide (0≤b.I)) then (bif (decide (b.I<(d.L.length:Int))) then (call4 (ba [c,d,e,f,g,h,i,j,k,l,m,n,o,p,q,r,((d.L.getD b.I.toNat []).getD 0 .nil),((d.L.getD b.I.toNat []).getD 1 .nil),((d.L.getD b.I.toNat []).getD 2 .nil),((d.L.getD b.I.toNat []).getD 3 .nil),((d.L.getD b.I.toNat []).getD 4 .nil),((d.L.getD b.I.toNat []).getD 5 .nil)]) fun t u v w=>(bif (decide (0≤a.I)) then (bif (decide (a.I<(d.L.length:Int))) then (call4 (ba [c,d,e,f,g,h,i,j,k,l,m,n,o,p,q,r,((d.L.getD a.I.toNat []).getD 0 .nil),((d.L.getD a.I.toNat []).getD 1 .nil),((d.L.getD a.I.toNat []).getD 2 .nil),((d.L.getD a.I.toNat []).getD 3 .nil),((d.L.getD a.I.toNat []).getD 4 .nil),((d.L.getD a.I.toNat []).getD 5 .nil)]) fun x y z a0=>(aa (fQ [t,u,v,w,x,y,z,a0,.b c.B]) fun a1=>(some (.nrm [a,b,.b a1.B,c,d,e,f,g,h,i,j,k,l,m,n,o,p,q,r])))) else none) else none)) else none) else none) else (some (.nrm [a,b,.b true,c,d,e,f,g,h,i,j,k,l,m,n,o,p,q,r]))) else (some (.nrm [a,b,.b false,c,d,e,f,g,h,i,j,k,l,m,n,o,p,q,r])))) else none) else none) (Af cw.d1)) else (some (.brk 0 [a,c,d,e,f])))
def cw.d3 (a b c d e:C):R:=(bif (decide (a.I<0)) then (some (.ret [.s (bs #[])])) else (bif (decide (0≤a.I)) then (bif (decide (a.I<(c.L.length:Int))) then (some (.ret [((c.L.getD a.I.toNat []).getD 0 .nil)])) else none) else none))
def cw.d4 (a b c d e f g h i j k l m n o p:C):R:=(ah 0 (lim (CM cw.d2) [.i (-1),.i 0,a,b,c,d,e,f,g,h,i,j,k,l,m,n,o,p]) (ap5 cw.d3))
def cw:List C→Option (List C):=fun xs=>aV (Iv cw.d4 xs)
def mR:FS:=⟨2,⟨[(0,z2),(1,z3)],[]⟩,⟨[(0,zt)],[]⟩,[],cw⟩
theorem ym:aB Tryz.checked.prog T0 71 mR:=bA aE (fn:=Tryz.f71) (c:=Tryz.f71.body.getD .skip) mR (.seq .leaf (.seq .leaf (.seq (.seq .leaf (.block ⟨[(2,(.pt 2 0)),(5,zi)],[(2,z0)]⟩ (.loop ⟨[(2,(.pt 2 0)),(3,(.pt 3 0)),(5,zi),(6,zi)],[(2,z0),(3,z1)]⟩ (.seq .leaf (.seq (.skip (.seq (.join ⟨[(2,(.pt 2 0)),(3,(.pt 3 0)),(5,zi),(6,zi),(47,zo)],[(2,z0),(3,z1)]⟩ .leaf) .leaf)) .leaf))))) .leaf))) [(57,some 21,mo),(73,some 34,ll),(73,some 42,ll),(114,some 45,jF)] (.cons uE (.cons rY (.cons rY (.cons tX .nil)))) (by kernel_rfl) (by kernel_rfl) (by kernel_rfl) (fun xs=>by kernel_rfl)
def ek.d1 (a b c d e f g h i:C):R:=(bif (decide (a.I<(h.L.length:Int))) then (bif (decide (0≤a.I)) then (bif (decide (a.I<(h.L.length:Int))) then (aa (eu [b,c,d,e,((h.L.getD a.I.toNat []).getD 0 .nil)]) fun j=>(bif (decide (0≤j.I)) then (bif (decide (j.I<(e.L.length:Int))) then (aa (cw [b,c,d,e,((e.L.getD j.I.toNat []).getD 0 .nil),((e.L.getD j.I.toNat []).getD 1 .nil),((e.L.getD j.I.toNat []).getD 2 .nil),((e.L.getD j.I.toNat []).getD 3 .nil),((e.L.getD j.I.toNat []).getD 4 .nil),((e.L.getD j.I.toNat []).getD 5 .nil),((e.L.getD j.I.toNat []).getD 6 .nil),((e.L.getD j.I.toNat []).getD 7 .nil),((e.L.getD j.I.toNat []).getD 8 .nil),((e.L.getD j.I.toNat []).getD 9 .nil),((e.L.getD j.I.toNat []).getD 10 .nil),((e.L.getD j.I.toNat []).getD 11 .nil)]) fun k=>(bif (!(k.S.toList==(bs #[]).toList)) then (bif (decide (0≤a.I)) then (bif (decide (a.I<(h.L.length:Int))) then (some (.ret [((h.L.getD a.I.toNat []).getD 0 .nil),k,.b true,.l ao])) else none) else none) else (some (.again [.i (w64 (a.I+1)),b,c,d,e,f,g,.l h.L,.l i.L])))) else none) else none)) else none) else none) else (some (.brk 0 [f,g,.l i.L])))
def ek.d2 (a b c:C):R:=(some (.ret [.s (bs #[]),.s (bs #[]),.b false,.l ao]))
def ek.d3 (a b c d:C):R:=(aa (aX [a,b,c,d]) fun e=>(ah 0 (lim (ap9 ek.d1) [.i 0,a,b,c,d,.s (bs #[]),.s (bs #[]),.l e.L,.l ao]) (ap3 ek.d2)))
def ek:List C→Option (List C):=fun xs=>aV (ap4 ek.d3 xs)
def ln:FS:=⟨1,⟨[(0,z2)],[]⟩,⟨[(0,(.tu [(.ag [zt,zt,(.ow 3000)]),zo]))],[(3000,.arr 9 1)]⟩,[],ek⟩
theorem sB:aB Tryz.checked.prog T0 86 ln:=bA aE (fn:=Tryz.f86) (c:=Tryz.f86.body.getD .skip) ln (.seq .leaf (.seq .leaf (.seq (.seq .leaf (.block ⟨[(2,(.pt 2 0))],[(2,.var 53 [zt,zt,(.ow 1341700)]),(1341700,.arr 9 1)]⟩ (.loop ⟨[(1,(.pt 1 0)),(2,(.pt 2 0)),(4,(.ow 39864)),(5,zi)],[(1,z0),(2,.var 53 [zt,zt,(.ow 1341700)]),(39864,.arr 9 1),(1341700,.arr 9 1)]⟩ .leaf))) .leaf))) [(55,some 23,iO),(71,some 26,mR),(88,some 8,lk)] (.cons mm (.cons ym (.cons sO .nil))) (by kernel_rfl) (by kernel_rfl) (by kernel_rfl) (fun xs=>by kernel_rfl)
def bZ.d1 (a b c d e f g h i j k l m:C):R:=(bif a.B then (aa (eu [d,.l j.L,.l k.L,.l l.L,e]) fun n=>(bif (decide (0≤n.I)) then (bif (decide (n.I<(l.L.length:Int))) then (bif (decide (c.L.length+(rows [[e,f,.l m.L]]).length≤4294967296)) then (call4 (ek [d,.l j.L,.l k.L,.l (l.L.set n.I.toNat (aK (l.L.getD n.I.toNat []) 11 [f]))]) fun o p q r=>(some (.again [.b q.B,b,.l (c.L++(rows [[e,f,.l m.L]])),d,o,p,.l g.L,.l h.L,.l i.L,.l j.L,.l k.L,.l (l.L.set n.I.toNat (aK (l.L.getD n.I.toNat []) 11 [f])),.l r.L]))) else none) else none) else none)) else (some (.brk 0 [b,.l c.L,d,.l g.L,.l h.L,.l i.L,.l j.L,.l k.L,.l l.L])))
def bZ.d2 (a b c d e f g h i:C):R:=(some (.ret [c,.l g.L,.l h.L,.l i.L,.l b.L]))
def bZ.d3 (a b c d:C):R:=(aa (ax [a,b,c,d]) fun e=>(bif (!e.B) then (some (.ret [.b false,.l ao,.l ao,.l ao,.l ao])) else (call4 (bV [a,b,c,d]) fun f g h i=>(call4 (ek [f,.l g.L,.l h.L,.l i.L]) fun j k l m=>(ah 0 (lim (oU bZ.d1) [.b l.B,.b false,.l ao,f,j,k,.l ao,.l ao,.l ao,.l g.L,.l h.L,.l i.L,.l m.L]) (ap9 bZ.d2))))))
def bZ:List C→Option (List C):=fun xs=>aV (ap4 bZ.d3 xs)
def kK:FS:=⟨1,⟨[(0,z2)],[]⟩,⟨[(0,(.tu [z11,(.ow 3003)]))],[(3000,.arr 37 1),(3001,.arr 60 1),(3002,.arr 45 1),(3003,.arr 53 1)]⟩,[],bZ⟩
theorem vh:aB Tryz.checked.prog T0 32 kK:=pH aE [39] false (fn:=Tryz.f32) (c:=Tryz.f32.body.getD .skip) kK (.seq .leaf (.seq .leaf (.seq .leaf (.seq .leaf (.seq (.seq .leaf (.block ⟨[(2,(.pt 2 0)),(4,(.ow 8)),(5,(.pt 5 0))],[(2,.var 27 [zo,(.ow 1338900),(.ow 1338901),(.ow 1338902)]),(8,.arr 53 1),(5,.var 27 [zo,(.ow 68536),(.ow 68537),(.ow 68538)]),(1338900,.arr 37 1),(1338901,.arr 60 1),(1338902,.arr 45 1),(68536,.arr 37 1),(68537,.arr 60 1),(68538,.arr 45 1)]⟩ (.loop ⟨[(2,(.pt 2 0)),(4,(.ow 8)),(5,(.pt 5 0)),(6,(.pt 6 0)),(7,zo)],[(2,.var 27 [zo,(.ow 1338900),(.ow 1338901),(.ow 1338902)]),(8,.arr 53 1),(5,.var 27 [zo,(.ow 68536),(.ow 68537),(.ow 68538)]),(6,.var 53 [zt,zt,(.ow 80824)]),(1338900,.arr 37 1),(1338901,.arr 60 1),(1338902,.arr 45 1),(68536,.arr 37 1),(68537,.arr 60 1),(68538,.arr 45 1),(80824,.arr 9 1)]⟩ .leaf))) .leaf))))) [(15,some 10,eV),(55,some 32,iO),(85,some 15,jq),(86,some 18,ln),(86,some 24,ln)] (.cons gy (.cons mm (.cons nN (.cons sB (.cons sB .nil))))) (by kernel_rfl) (by kernel_rfl) (by kernel_rfl) (fun xs=>by kernel_rfl)
def ei.d1 (a b c:C):R:=(bif (decide (c.I<(a.L.length:Int))) then (bif (decide (0≤c.I)) then (bif (decide (c.I<(a.L.length:Int))) then (bif (decide (0≤c.I)) then (bif (decide (c.I<(b.L.length:Int))) then (bif (!((((a.L.getD c.I.toNat []).getD 0 .nil).S).toList==(((b.L.getD c.I.toNat []).getD 0 .nil).S).toList)) then (some (.ret [.b false])) else (some (.again [a,b,.i (w64 (c.I+1))]))) else none) else none) else none) else none) else (some (.brk 0 [])))
def ei.d2:R:=(some (.ret [.b true]))
def ei.d3 (a b:C):R:=(bif ((a.L.length:Int) !=(b.L.length:Int)) then (some (.ret [.b false])) else (ah 0 (lim (ap3 ei.d1) [a,b,.i 0]) (fun xs=>ei.d2)))
def ei:List C→Option (List C):=fun xs=>aV (ap2 ei.d3 xs)
def lh:FS:=⟨2,⟨[(0,(zl 9)),(1,(zl 9))],[]⟩,⟨[(0,zo)],[]⟩,[],ei⟩
theorem sJ:aB Tryz.checked.prog T0 13 lh:=bA aE (fn:=Tryz.f13) (c:=Tryz.f13.body.getD .skip) lh (.seq .leaf (.seq .leaf (.seq (.seq .leaf (.block ⟨[],[]⟩ (.loop ⟨[(0,(zl 9)),(1,(zl 9)),(5,zi)],[]⟩ .leaf))) .leaf))) [] .nil (by kernel_rfl) (by kernel_rfl) (by kernel_rfl) (fun xs=>by kernel_rfl)
def jz.d1 (a b c d e f g h i j k l:C):R:=(bif (a.S.toList==g.S.toList) then (bif (b.S.toList==h.S.toList) then (bif (d.I==j.I) then (bif (e.I==k.I) then (bif (f.B==l.B) then (aa (ei [c,i]) fun m=>(some (.ret [.b m.B]))) else (some (.ret [.b false]))) else (some (.ret [.b false]))) else (some (.ret [.b false]))) else (some (.ret [.b false]))) else (some (.ret [.b false])))
def jz:List C→Option (List C):=fun xs=>aV (js jz.d1 xs)
def nS:FS:=⟨2,⟨[(0,z8),(1,z8)],[]⟩,⟨[(0,zo)],[]⟩,[],jz⟩
theorem zG:aB Tryz.checked.prog T0 82 nS:=bA aE (fn:=Tryz.f82) (c:=Tryz.f82.body.getD .skip) nS .leaf [(13,some 43,lh)] (.cons sJ .nil) (by kernel_rfl) (by kernel_rfl) (by kernel_rfl) (fun xs=>by kernel_rfl)
def eX.d1 (a b c d e f g h i j k l m n o p q r s t u v w x y:C):R:=(bif (decide (a.I<(i.L.length:Int))) then (bif (decide (0≤a.I)) then (bif (decide (a.I<(i.L.length:Int))) then (bif (decide (0≤a.I)) then (bif (decide (a.I<(u.L.length:Int))) then (bif (!(((((i.L.getD a.I.toNat []).getD 0 .nil).S).toList==(((u.L.getD a.I.toNat []).getD 0 .nil).S).toList)&&((((i.L.getD a.I.toNat []).getD 1 .nil).I==((u.L.getD a.I.toNat []).getD 1 .nil).I)&&true))) then (some (.ret [.b false])) else (some (.again [.i (w64 (a.I+1)),b,c,d,e,f,g,h,i,j,k,l,m,n,o,p,q,r,s,t,u,v,w,x,y]))) else none) else none) else none) else none) else (some (.brk 0 [])))
def eX.d2:R:=(some (.ret [.b true]))
def eX.d3 (a b c d e f g h i j k l m n o p q r s t u v w x:C):R:=(bif (!(!(a.S.toList==m.S.toList))) then (bif (!(!(b.S.toList==n.S.toList))) then (bif (!(c.I !=o.I)) then (bif (!(d.I !=p.I)) then (bif (!(e.I !=q.I)) then (bif (!(f.I !=r.I)) then (bif (!(!(g.S.toList==s.S.toList))) then (bif (!(i.I !=u.I)) then (bif (!(!(j.S.toList==v.S.toList))) then (bif (!(!(k.S.toList==w.S.toList))) then (bif (!(!(l.S.toList==x.S.toList))) then (bif ((h.L.length:Int) !=(t.L.length:Int)) then (some (.ret [.b false])) else (ah 0 (lim (Gf eX.d1) [.i 0,a,b,c,d,e,f,g,h,i,j,k,l,m,n,o,p,q,r,s,t,u,v,w,x]) (fun xs=>eX.d2))) else (some (.ret [.b false]))) else (some (.ret [.b false]))) else (some (.ret [.b false]))) else (some (.ret [.b false]))) else (some (.ret [.b false]))) else (some (.ret [.b false]))) else (some (.ret [.b false]))) else (some (.ret [.b false]))) else (some (.ret [.b false]))) else (some (.ret [.b false]))) else (some (.ret [.b false])))
def eX:List C→Option (List C):=fun xs=>aV (xT eX.d3 xs)
def mi:FS:=⟨2,⟨[(0,z3),(1,z3)],[]⟩,⟨[(0,zo)],[]⟩,[],eX⟩
theorem uJ:aB Tryz.checked.prog T0 35 mi:=bA aE (fn:=Tryz.f35) (c:=Tryz.f35.body.getD .skip) mi (.seq .leaf (.seq .leaf (.seq (.seq .leaf (.block ⟨[],[]⟩ (.loop ⟨[(2,(.pt 2 0)),(3,(.pt 3 0)),(5,zi)],[(2,z1),(3,z1)]⟩ .leaf))) .leaf))) [] .nil (by kernel_rfl) (by kernel_rfl) (by kernel_rfl) (fun xs=>by kernel_rfl)
end
end Go.Ev
namespace Go.Ev
open Go.Proofs
noncomputable section
def bz.d1 (a b c d e f g h i:C):R:=(bif (decide (a.I<(c.L.length:Int))) then (bif (decide (0≤a.I)) then (bif (decide (a.I<(c.L.length:Int))) then (bif (decide (0≤a.I)) then (bif (decide (a.I<(g.L.length:Int))) then (aa (jz [((c.L.getD a.I.toNat []).getD 0 .nil),((c.L.getD a.I.toNat []).getD 1 .nil),((c.L.getD a.I.toNat []).getD 2 .nil),((c.L.getD a.I.toNat []).getD 3 .nil),((c.L.getD a.I.toNat []).getD 4 .nil),((c.L.getD a.I.toNat []).getD 5 .nil),((g.L.getD a.I.toNat []).getD 0 .nil),((g.L.getD a.I.toNat []).getD 1 .nil),((g.L.getD a.I.toNat []).getD 2 .nil),((g.L.getD a.I.toNat []).getD 3 .nil),((g.L.getD a.I.toNat []).getD 4 .nil),((g.L.getD a.I.toNat []).getD 5 .nil)]) fun j=>(bif (!j.B) then (some (.ret [.b false])) else (some (.again [.i (w64 (a.I+1)),b,c,d,e,f,g,h,i])))) else none) else none) else none) else none) else (some (.brk 0 [b,c,d,e,f,g,h,i])))
def bz.d2 (a b c d e f g h i:C):R:=(bif (decide (a.I<(d.L.length:Int))) then (bif (decide (0≤a.I)) then (bif (decide (a.I<(d.L.length:Int))) then (bif (decide (0≤a.I)) then (bif (decide (a.I<(h.L.length:Int))) then (bif (!(((((d.L.getD a.I.toNat []).getD 0 .nil).S).toList==(((h.L.getD a.I.toNat []).getD 0 .nil).S).toList)&&((((d.L.getD a.I.toNat []).getD 1 .nil).I==((h.L.getD a.I.toNat []).getD 1 .nil).I)&&true))) then (some (.ret [.b false])) else (some (.again [.i (w64 (a.I+1)),b,c,d,e,f,g,h,i]))) else none) else none) else none) else none) else (some (.brk 2 [b,c,d,e,f,g,h,i])))
def bz.d3 (a b c d e f g h i:C):R:=(bif (decide (a.I<(e.L.length:Int))) then (bif (decide (0≤a.I)) then (bif (decide (a.I<(e.L.length:Int))) then (bif (decide (0≤a.I)) then (bif (decide (a.I<(i.L.length:Int))) then (aa (eX [((e.L.getD a.I.toNat []).getD 0 .nil),((e.L.getD a.I.toNat []).getD 1 .nil),((e.L.getD a.I.toNat []).getD 2 .nil),((e.L.getD a.I.toNat []).getD 3 .nil),((e.L.getD a.I.toNat []).getD 4 .nil),((e.L.getD a.I.toNat []).getD 5 .nil),((e.L.getD a.I.toNat []).getD 6 .nil),((e.L.getD a.I.toNat []).getD 7 .nil),((e.L.getD a.I.toNat []).getD 8 .nil),((e.L.getD a.I.toNat []).getD 9 .nil),((e.L.getD a.I.toNat []).getD 10 .nil),((e.L.getD a.I.toNat []).getD 11 .nil),((i.L.getD a.I.toNat []).getD 0 .nil),((i.L.getD a.I.toNat []).getD 1 .nil),((i.L.getD a.I.toNat []).getD 2 .nil),((i.L.getD a.I.toNat []).getD 3 .nil),((i.L.getD a.I.toNat []).getD 4 .nil),((i.L.getD a.I.toNat []).getD 5 .nil),((i.L.getD a.I.toNat []).getD 6 .nil),((i.L.getD a.I.toNat []).getD 7 .nil),((i.L.getD a.I.toNat []).getD 8 .nil),((i.L.getD a.I.toNat []).getD 9 .nil),((i.L.getD a.I.toNat []).getD 10 .nil),((i.L.getD a.I.toNat []).getD 11 .nil)]) fun j=>(bif (!j.B) then (some (.ret [.b false])) else (some (.again [.i (w64 (a.I+1)),b,c,d,e,f,g,h,i])))) else none) else none) else none) else none) else (some (.brk 4 [])))
def bz.d4:R:=(some (.ret [.b true]))
def bz.d5 (a b c d e f g h:C):R:=(ah 4 (lim (ap9 bz.d3) [.i 0,a,b,c,d,e,f,g,h]) (fun xs=>bz.d4))
def bz.d6 (a b c d e f g h:C):R:=(ah 2 (lim (ap9 bz.d2) [.i 0,a,b,c,d,e,f,g,h]) (ap8 bz.d5))
def bz.d7 (a b c d e f g h:C):R:=(bif (!(!(a.B==e.B))) then (bif (!((b.L.length:Int) !=(f.L.length:Int))) then (bif (!((c.L.length:Int) !=(g.L.length:Int))) then (bif ((d.L.length:Int) !=(h.L.length:Int)) then (some (.ret [.b false])) else (ah 0 (lim (ap9 bz.d1) [.i 0,a,b,c,d,e,f,g,h]) (ap8 bz.d6))) else (some (.ret [.b false]))) else (some (.ret [.b false]))) else (some (.ret [.b false])))
def bz:List C→Option (List C):=fun xs=>aV (ap8 bz.d7 xs)
def oz:FS:=⟨2,⟨[(0,z2),(1,z2)],[]⟩,⟨[(0,zo)],[]⟩,[],bz⟩
theorem Ad:aB Tryz.checked.prog T0 29 oz:=bA aE (fn:=Tryz.f29) (c:=Tryz.f29.body.getD .skip) oz (.seq .leaf (.seq .leaf (.seq (.seq .leaf (.block ⟨[(2,(.pt 2 0)),(3,(.pt 3 0))],[(2,z0),(3,z0)]⟩ (.loop ⟨[(2,(.pt 2 0)),(3,(.pt 3 0)),(5,zi)],[(2,z0),(3,z0)]⟩ .leaf))) (.seq (.seq .leaf (.block ⟨[(2,(.pt 2 0)),(3,(.pt 3 0))],[(2,z0),(3,z0)]⟩ (.loop ⟨[(2,(.pt 2 0)),(3,(.pt 3 0)),(6,zi)],[(2,z0),(3,z0)]⟩ .leaf))) (.seq (.seq .leaf (.block ⟨[],[]⟩ (.loop ⟨[(2,(.pt 2 0)),(3,(.pt 3 0)),(7,zi)],[(2,z0),(3,z0)]⟩ .leaf))) .leaf))))) [(35,some 94,mi),(82,some 57,nS)] (.cons uJ (.cons zG .nil)) (by kernel_rfl) (by kernel_rfl) (by kernel_rfl) (fun xs=>by kernel_rfl)
def nH.d1 (a b c d e f:C):R:=(bif (a.S.toList==d.S.toList) then (bif (b.S.toList==e.S.toList) then (aa (ei [c,f]) fun g=>(some (.ret [.b g.B]))) else (some (.ret [.b false]))) else (some (.ret [.b false])))
def nH:List C→Option (List C):=fun xs=>aV (ap6 nH.d1 xs)
def pY:FS:=⟨2,⟨[(0,(.ag [zt,zt,(zl 9)])),(1,(.ag [zt,zt,(zl 9)]))],[]⟩,⟨[(0,zo)],[]⟩,[],nH⟩
theorem AV:aB Tryz.checked.prog T0 87 pY:=bA aE (fn:=Tryz.f87) (c:=Tryz.f87.body.getD .skip) pY .leaf [(13,some 22,lh)] (.cons sJ .nil) (by kernel_rfl) (by kernel_rfl) (by kernel_rfl) (fun xs=>by kernel_rfl)
def ez.d1 (a b c:C):R:=(bif (decide (c.I<(a.L.length:Int))) then (bif (decide (0≤c.I)) then (bif (decide (c.I<(a.L.length:Int))) then (bif (decide (0≤c.I)) then (bif (decide (c.I<(b.L.length:Int))) then (aa (nH [((a.L.getD c.I.toNat []).getD 0 .nil),((a.L.getD c.I.toNat []).getD 1 .nil),((a.L.getD c.I.toNat []).getD 2 .nil),((b.L.getD c.I.toNat []).getD 0 .nil),((b.L.getD c.I.toNat []).getD 1 .nil),((b.L.getD c.I.toNat []).getD 2 .nil)]) fun d=>(bif (!d.B) then (some (.ret [.b false])) else (some (.again [a,b,.i (w64 (c.I+1))])))) else none) else none) else none) else none) else (some (.brk 0 [])))
def ez.d2:R:=(some (.ret [.b true]))
def ez.d3 (a b:C):R:=(bif ((a.L.length:Int) !=(b.L.length:Int)) then (some (.ret [.b false])) else (ah 0 (lim (ap3 ez.d1) [a,b,.i 0]) (fun xs=>ez.d2)))
def ez:List C→Option (List C):=fun xs=>aV (ap2 ez.d3 xs)
def oH:FS:=⟨2,⟨[(0,(zl 53)),(1,(zl 53))],[]⟩,⟨[(0,zo)],[]⟩,[],ez⟩
theorem zQ:aB Tryz.checked.prog T0 33 oH:=bA aE (fn:=Tryz.f33) (c:=Tryz.f33.body.getD .skip) oH (.seq .leaf (.seq .leaf (.seq (.seq .leaf (.block ⟨[],[]⟩ (.loop ⟨[(0,(zl 53)),(1,(zl 53)),(5,zi)],[]⟩ .leaf))) .leaf))) [(87,some 25,pY)] (.cons AV .nil) (by kernel_rfl) (by kernel_rfl) (by kernel_rfl) (fun xs=>by kernel_rfl)
def fI.d1 (a b c d:C):R:=(aa (ax [a,b,c,d]) fun e=>(bif (!e.B) then (some (.ret [.l ao])) else (aa (aX [a,b,c,d]) fun f=>(some (.ret [.l f.L])))))
def fI:List C→Option (List C):=fun xs=>aV (ap4 fI.d1 xs)
def iH:FS:=⟨1,⟨[(0,z2)],[]⟩,⟨[(0,(.ow 3000))],[(3000,.arr 9 1)]⟩,[],fI⟩
theorem oP:aB Tryz.checked.prog T0 34 iH:=bA aE (fn:=Tryz.f34) (c:=Tryz.f34.body.getD .skip) iH .leaf [(15,some 4,eV),(88,some 8,lk)] (.cons gy (.cons sO .nil)) (by kernel_rfl) (by kernel_rfl) (by kernel_rfl) (fun xs=>by kernel_rfl)
def gO.d1 (a b c d e f:C):R:=(aa (aq [a,b,c,d]) fun g=>(bif (!g.B) then (some (.ret [.i 9])) else (aa (iU [a,b,c,d,e]) fun h=>(aa (eT [a,b,c,d,f]) fun i=>(bif (!(decide (h.I<0))) then (bif (decide (i.I<0)) then (some (.ret [.i 9])) else (bif (decide (0≤h.I)) then (bif (decide (h.I<(d.L.length:Int))) then (bif (decide (0≤i.I)) then (bif (decide (i.I<(b.L.length:Int))) then (aa (bH [a,b,c,d,((d.L.getD h.I.toNat []).getD 0 .nil),((d.L.getD h.I.toNat []).getD 1 .nil),((d.L.getD h.I.toNat []).getD 2 .nil),((d.L.getD h.I.toNat []).getD 3 .nil),((d.L.getD h.I.toNat []).getD 4 .nil),((d.L.getD h.I.toNat []).getD 5 .nil),((d.L.getD h.I.toNat []).getD 6 .nil),((d.L.getD h.I.toNat []).getD 7 .nil),((d.L.getD h.I.toNat []).getD 8 .nil),((d.L.getD h.I.toNat []).getD 9 .nil),((d.L.getD h.I.toNat []).getD 10 .nil),((d.L.getD h.I.toNat []).getD 11 .nil),((b.L.getD i.I.toNat []).getD 0 .nil),((b.L.getD i.I.toNat []).getD 1 .nil),((b.L.getD i.I.toNat []).getD 2 .nil),((b.L.getD i.I.toNat []).getD 3 .nil),((b.L.getD i.I.toNat []).getD 4 .nil),((b.L.getD i.I.toNat []).getD 5 .nil),.b true]) fun j=>(some (.ret [j]))) else none) else none) else none) else none)) else (some (.ret [.i 9])))))))
def gO:List C→Option (List C):=fun xs=>aV (ap6 gO.d1 xs)
def lz:FS:=⟨3,⟨[(0,z2),(1,zt),(2,zt)],[]⟩,⟨[(0,zi)],[]⟩,[],gO⟩
theorem wK:aB Tryz.checked.prog T0 10 lz:=bA aE (fn:=Tryz.f10) (c:=Tryz.f10.body.getD .skip) lz .leaf [(17,some 10,fq),(52,some 14,k7),(53,some 17,fS),(54,some 35,lC)] (.cons iI (.cons sS (.cons iw (.cons qX .nil)))) (by kernel_rfl) (by kernel_rfl) (by kernel_rfl) (fun xs=>by kernel_rfl)
def cq.d1 (a b c d e f g h:C):R:=(bif (decide (c.I<b.I)) then (bif (decide (0≤c.I)) then (bif (decide (c.I<(a.L.length:Int))) then (bif (!((((a.L.getD c.I.toNat []).getD 11 .nil).S).toList==(bs #[]).toList)) then (aa (eT [d,e,f,g,((a.L.getD c.I.toNat []).getD 11 .nil)]) fun i=>(bif (decide (0≤i.I)) then (bif (decide (i.I<(e.L.length:Int))) then (aa (bH [d,e,f,g,((a.L.getD c.I.toNat []).getD 0 .nil),((a.L.getD c.I.toNat []).getD 1 .nil),((a.L.getD c.I.toNat []).getD 2 .nil),((a.L.getD c.I.toNat []).getD 3 .nil),((a.L.getD c.I.toNat []).getD 4 .nil),((a.L.getD c.I.toNat []).getD 5 .nil),((a.L.getD c.I.toNat []).getD 6 .nil),((a.L.getD c.I.toNat []).getD 7 .nil),((a.L.getD c.I.toNat []).getD 8 .nil),((a.L.getD c.I.toNat []).getD 9 .nil),((a.L.getD c.I.toNat []).getD 10 .nil),((a.L.getD c.I.toNat []).getD 11 .nil),((e.L.getD i.I.toNat []).getD 0 .nil),((e.L.getD i.I.toNat []).getD 1 .nil),((e.L.getD i.I.toNat []).getD 2 .nil),((e.L.getD i.I.toNat []).getD 3 .nil),((e.L.getD i.I.toNat []).getD 4 .nil),((e.L.getD i.I.toNat []).getD 5 .nil),.b false]) fun j=>(bif (j.I !=0) then (bif (decide (h.L.length+(rows [[((a.L.getD c.I.toNat []).getD 0 .nil)]]).length≤4294967296)) then (some (.again [a,b,.i (w64 (c.I+1)),d,e,f,g,.l (h.L++(rows [[((a.L.getD c.I.toNat []).getD 0 .nil)]]))])) else none) else (some (.again [a,b,.i (w64 (c.I+1)),d,e,f,g,.l h.L])))) else none) else none)) else (some (.again [a,b,.i (w64 (c.I+1)),d,e,f,g,.l h.L]))) else none) else none) else (some (.brk 0 [.l h.L])))
def cq.d2 (a:C):R:=(some (.ret [.l a.L]))
def cq.d3 (a b c d:C):R:=(aa (aq [a,b,c,d]) fun e=>(bif (!e.B) then (some (.ret [.l ao])) else (ah 0 (lim (ap8 cq.d1) [d,.i (d.L.length:Int),.i 0,a,b,c,d,.l ao]) (ap1 cq.d2))))
def cq:List C→Option (List C):=fun xs=>aV (ap4 cq.d3 xs)
def iG:FS:=⟨1,⟨[(0,z2)],[]⟩,⟨[(0,(.ow 3000))],[(3000,.arr 9 1)]⟩,[],cq⟩
theorem oQ:aB Tryz.checked.prog T0 12 iG:=bA aE (fn:=Tryz.f12) (c:=Tryz.f12.body.getD .skip) iG (.seq .leaf (.seq .leaf (.seq .leaf (.seq (.seq .leaf (.block ⟨[(3,(.ow 1389400))],[(1389400,.arr 9 1)]⟩ (.loop ⟨[(1,(.pt 1 0)),(3,(.ow 1389400)),(10,(zl 45)),(11,zi),(12,zi)],[(1,z0),(1389400,.arr 9 1)]⟩ .leaf))) .leaf)))) [(17,some 7,fq),(53,some 27,fS),(54,some 30,lC)] (.cons iI (.cons iw (.cons qX .nil))) (by kernel_rfl) (by kernel_rfl) (by kernel_rfl) (fun xs=>by kernel_rfl)
def ed.d1 (a b c d e f g h i j k l m n o p q r:C):R:=(bif (decide (b.I<(f.L.length:Int))) then (bif (decide (0≤b.I)) then (bif (decide (b.I<(f.L.length:Int))) then (bif ((((f.L.getD b.I.toNat []).getD 0 .nil).S).toList==a.S.toList) then (bif (decide (0≤b.I)) then (bif (decide (b.I<(f.L.length:Int))) then (some (.ret [((f.L.getD b.I.toNat []).getD 0 .nil),((f.L.getD b.I.toNat []).getD 1 .nil),((f.L.getD b.I.toNat []).getD 2 .nil),((f.L.getD b.I.toNat []).getD 3 .nil),((f.L.getD b.I.toNat []).getD 4 .nil),((f.L.getD b.I.toNat []).getD 5 .nil),((f.L.getD b.I.toNat []).getD 6 .nil),((f.L.getD b.I.toNat []).getD 7 .nil),((f.L.getD b.I.toNat []).getD 8 .nil),((f.L.getD b.I.toNat []).getD 9 .nil),((f.L.getD b.I.toNat []).getD 10 .nil),((f.L.getD b.I.toNat []).getD 11 .nil),.b true])) else none) else none) else (some (.again [a,.i (w64 (b.I+1)),c,d,e,f,g,h,i,j,k,l,m,n,o,p,q,.l r.L]))) else none) else none) else (some (.brk 0 [g,h,i,j,k,l,m,n,o,p,q,.l r.L])))
def ed.d2 (a b c d e f g h i j k l:C):R:=(some (.ret [.s (bs #[]),.s (bs #[]),.i 0,.i 0,.i 0,.i 0,.s (bs #[]),.l ao,.i 0,.s (bs #[]),.s (bs #[]),.s (bs #[]),.b false]))
def ed.d3 (a b c d e:C):R:=(ah 0 (lim (CM ed.d1) [e,.i 0,a,b,c,d,.s (bs #[]),.s (bs #[]),.i 0,.i 0,.i 0,.i 0,.s (bs #[]),.i 0,.s (bs #[]),.s (bs #[]),.s (bs #[]),.l ao]) (js ed.d2))
def ed:List C→Option (List C):=fun xs=>aV (ap5 ed.d3 xs)
def qa:FS:=⟨2,⟨[(0,z2),(1,zt)],[]⟩,⟨[(0,(.tu [z3,zo]))],[]⟩,[],ed⟩
theorem Bx:aB Tryz.checked.prog T0 22 qa:=bA aE (fn:=Tryz.f22) (c:=Tryz.f22.body.getD .skip) qa (.seq .leaf (.seq (.seq .leaf (.block ⟨[(4,(.pt 4 0))],[(4,.var 45 [zt,zt,zi,zi,zi,zi,zt,(.ow 1392000),zi,zt,zt,zt]),(1392000,.arr 109 1)]⟩ (.loop ⟨[(1,zt),(2,(.pt 2 0)),(4,(.pt 4 0)),(6,zi)],[(2,z0),(4,.var 45 [zt,zt,zi,zi,zi,zi,zt,(.ow 1392000),zi,zt,zt,zt]),(1392000,.arr 109 1)]⟩ .leaf))) .leaf)) [] .nil (by kernel_rfl) (by kernel_rfl) (by kernel_rfl) (fun xs=>by kernel_rfl)
def av.d1 (a b c d e f g h i j k l m n o p q r s t u v:C):R:=(bif (decide (b.I<(h.L.length:Int))) then (bif (decide (0≤a.I)) then (bif (decide (a.I<(j.L.length:Int))) then (bif ((((j.L.getD a.I.toNat []).getD 11 .nil).S).toList==(bs #[]).toList) then (bif (decide (0≤b.I)) then (bif (decide (b.I<(h.L.length:Int))) then (aa (gO [g,h,i,j,k,((h.L.getD b.I.toNat []).getD 0 .nil)]) fun w=>(bif (w.I==0) then (some (.ret [.b false])) else (some (.again [a,.i (w64 (b.I+1)),c,d,e,f,g,h,i,j,k,l,m,n,o,p,q,r,s,t,u,v])))) else none) else none) else (some (.brk 2 [a,c,d,e,f,g,h,i,j]))) else none) else none) else (some (.brk 2 [a,c,d,e,f,g,h,i,j])))
def av.d2 (a b c d e f g h i:C):R:=(some (.again [.i (w64 (a.I+1)),b,c,d,e,f,g,h,i]))
def av.d3 (a b c d e f g h i j k l m n o p q r s t u:C):R:=(ah 2 (lim (uZ av.d1) [a,.i 0,b,c,d,e,f,g,h,i,j,k,l,m,n,o,p,q,r,s,t,u]) (ap9 av.d2))
def av.d4 (a b c d e f g h i:C):R:=(bif (decide (a.I<(e.L.length:Int))) then (bif (decide (0≤a.I)) then (bif (decide (a.I<(e.L.length:Int))) then (bf (bif (!((((e.L.getD a.I.toNat []).getD 11 .nil).S).toList==(bs #[]).toList)) then (bif (decide (0≤a.I)) then (bif (decide (a.I<(i.L.length:Int))) then (aa (eX [((e.L.getD a.I.toNat []).getD 0 .nil),((e.L.getD a.I.toNat []).getD 1 .nil),((e.L.getD a.I.toNat []).getD 2 .nil),((e.L.getD a.I.toNat []).getD 3 .nil),((e.L.getD a.I.toNat []).getD 4 .nil),((e.L.getD a.I.toNat []).getD 5 .nil),((e.L.getD a.I.toNat []).getD 6 .nil),((e.L.getD a.I.toNat []).getD 7 .nil),((e.L.getD a.I.toNat []).getD 8 .nil),((e.L.getD a.I.toNat []).getD 9 .nil),((e.L.getD a.I.toNat []).getD 10 .nil),((e.L.getD a.I.toNat []).getD 11 .nil),((i.L.getD a.I.toNat []).getD 0 .nil),((i.L.getD a.I.toNat []).getD 1 .nil),((i.L.getD a.I.toNat []).getD 2 .nil),((i.L.getD a.I.toNat []).getD 3 .nil),((i.L.getD a.I.toNat []).getD 4 .nil),((i.L.getD a.I.toNat []).getD 5 .nil),((i.L.getD a.I.toNat []).getD 6 .nil),((i.L.getD a.I.toNat []).getD 7 .nil),((i.L.getD a.I.toNat []).getD 8 .nil),((i.L.getD a.I.toNat []).getD 9 .nil),((i.L.getD a.I.toNat []).getD 10 .nil),((i.L.getD a.I.toNat []).getD 11 .nil)]) fun j=>(bif (!j.B) then (some (.ret [.b false])) else (some (.nrm [a,b,c,d,e,f,g,h,i,((e.L.getD a.I.toNat []).getD 0 .nil),((e.L.getD a.I.toNat []).getD 1 .nil),((e.L.getD a.I.toNat []).getD 2 .nil),((e.L.getD a.I.toNat []).getD 3 .nil),((e.L.getD a.I.toNat []).getD 4 .nil),((e.L.getD a.I.toNat []).getD 5 .nil),((e.L.getD a.I.toNat []).getD 6 .nil),((e.L.getD a.I.toNat []).getD 7 .nil),((e.L.getD a.I.toNat []).getD 8 .nil),((e.L.getD a.I.toNat []).getD 9 .nil),((e.L.getD a.I.toNat []).getD 10 .nil),((e.L.getD a.I.toNat []).getD 11 .nil)])))) else none) else none) else (some (.nrm [a,b,c,d,e,f,g,h,i,((e.L.getD a.I.toNat []).getD 0 .nil),((e.L.getD a.I.toNat []).getD 1 .nil),((e.L.getD a.I.toNat []).getD 2 .nil),((e.L.getD a.I.toNat []).getD 3 .nil),((e.L.getD a.I.toNat []).getD 4 .nil),((e.L.getD a.I.toNat []).getD 5 .nil),((e.L.getD a.I.toNat []).getD 6 .nil),((e.L.getD a.I.toNat []).getD 7 .nil),((e.L.getD a.I.toNat []).getD 8 .nil),((e.L.getD a.I.toNat []).getD 9 .nil),((e.L.getD a.I.toNat []).getD 10 .nil),((e.L.getD a.I.toNat []).getD 11 .nil)]))) (Jf av.d3)) else none) else none) else (some (.brk 0 [b,c,d,e,f,g,h,i])))
def av.d5 (a b c d e f:C):R:=(bif (decide (a.I<(f.L.length:Int))) then (bif (decide (0≤a.I)) then (bif (decide (a.I<(f.L.length:Int))) then (call13 (ed [b,c,d,e,((f.L.getD a.I.toNat []).getD 0 .nil)]) fun g h i j k l m n o p q r s=>(bif (!(p.S.toList==h.S.toList)) then (some (.ret [.b false])) else (some (.again [.i (w64 (a.I+1)),b,c,d,e,.l f.L])))) else none) else none) else (some (.brk 4 [])))
def av.d6:R:=(some (.ret [.b true]))
def av.d7 (a b c d e f g h:C):R:=(aa (cq [a,b,c,d]) fun i=>(bif (decide ((i.L.length:Int)>0)) then (some (.ret [.b true])) else (aa (cq [e,f,g,h]) fun j=>(ah 4 (lim (ap6 av.d5) [.i 0,e,f,g,h,.l j.L]) (fun xs=>av.d6)))))
def av.d8 (a:C):R:=(bif (decide ((a.L.length:Int)>1048576)) then (some (.ret [.b true])) else (call4 (eC [a]) fun b c d e=>(call5 (gq [b,c,d,e]) fun f g h i j=>(call5 (bZ [b,c,d,e]) fun k l m n o=>(aa (bz [f,.l g.L,.l h.L,.l i.L,k,.l l.L,.l m.L,.l n.L]) fun p=>(bif (!(!p.B)) then (aa (ez [.l j.L,.l o.L]) fun q=>(bif (!q.B) then (some (.ret [.b false])) else (aa (ax [b,c,d,e]) fun r=>(bif (!r.B) then (some (.ret [.b ((j.L.length:Int)==0)])) else (aa (aq [f,.l g.L,.l h.L,.l i.L]) fun s=>(bif (!(!s.B)) then (aa (fI [b,c,d,e]) fun t=>(aa (fI [f,.l g.L,.l h.L,.l i.L]) fun u=>(bif ((w64 ((t.L.length:Int)-(u.L.length:Int))) !=(j.L.length:Int)) then (some (.ret [.b false])) else (ah 0 (lim (ap9 av.d4) [.i 0,b,c,d,e,f,.l g.L,.l h.L,.l i.L]) (ap8 av.d7))))) else (some (.ret [.b false])))))))) else (some (.ret [.b false]))))))))
def av:List C→Option (List C):=fun xs=>aV (ap1 av.d8 xs)
def mw:FS:=⟨1,⟨[(0,(zl 5))],[]⟩,⟨[(0,zo)],[]⟩,[],av⟩
theorem so:aB Tryz.checked.prog T0 6 mw:=bA aE (fn:=Tryz.f6) (c:=Tryz.f6.body.getD .skip) mw (.seq .leaf (.seq .leaf (.seq .leaf (.seq .leaf (.seq .leaf (.seq .leaf (.seq .leaf (.seq (.seq (.frz [97208,97209,97210] .leaf) .leaf) (.seq (.seq .leaf (.block ⟨[(3,(.pt 3 0)),(4,(.pt 4 0))],[(3,z0),(4,z0)]⟩ (.loop ⟨[(3,(.pt 3 0)),(4,(.pt 4 0)),(8,zi)],[(3,z0),(4,z0)]⟩ (.seq .leaf (.seq (.skip (.seq .leaf (.seq (.join ⟨[(3,(.pt 3 0)),(4,(.pt 4 0)),(8,zi),(9,(.pt 9 0))],[(3,z0),(4,z0),(9,z1)]⟩ .leaf) (.seq .leaf (.block ⟨[(3,(.pt 3 0)),(4,(.pt 4 0)),(8,zi)],[(3,z0),(4,z0)]⟩ (.loop ⟨[(3,(.pt 3 0)),(4,(.pt 4 0)),(8,zi),(9,(.pt 9 0)),(10,zi)],[(3,z0),(4,z0),(9,z1)]⟩ .leaf)))))) .leaf))))) (.seq .leaf (.seq .leaf (.seq (.seq .leaf (.block ⟨[],[]⟩ (.loop ⟨[(4,(.pt 4 0)),(11,(.ow 490424)),(12,zi)],[(4,z0),(490424,.arr 9 1)]⟩ .leaf))) .leaf)))))))))))) [(10,some 111,lz),(12,some 114,iG),(12,some 118,iG),(15,some 41,eV),(17,some 47,fq),(22,some 131,qa),(29,some 32,oz),(30,some 19,ig),(31,some 22,kJ),(32,some 27,kK),(33,some 37,oH),(34,some 51,iH),(34,some 54,iH),(35,some 83,mi)] (.cons wK (.cons oQ (.cons oQ (.cons gy (.cons iI (.cons Bx (.cons Ad (.cons qF (.cons vf (.cons vh (.cons zQ (.cons oP (.cons oP (.cons uJ .nil)))))))))))))) (by kernel_rfl) (by kernel_rfl) (by kernel_rfl) (fun xs=>by kernel_rfl)
end
end Go.Ev
set_option maxRecDepth 8000
namespace Go.Ev
abbrev Str:=ByteArray
structure Lk where
 sel:Str
 w:Int
structure Bt where
 name:Str
 zone:Str
 marks:List Str
 room:Int
 hold:Int
 shut:Bool
structure Sv where
 name:Str
 spare:Int
structure Cp where
 name:Str
 svc:Str
 rank:Int
 born:Int
 room:Int
 hold:Int
 sel:Str
 likes:List Lk
 apart:Int
 near:Str
 fixed:Str
 at_:Str
structure Fl where
 pack:Bool
 bts:List Bt
 svs:List Sv
 cps:List Cp
def sE (s:Str):List C:=[.s s]
def Lk.e (x:Lk):List C:=[.s x.sel,.i x.w]
def Bt.e (b:Bt):List C:=[.s b.name,.s b.zone,.l (b.marks.map sE),.i b.room,.i b.hold,.b b.shut]
def Sv.e (s:Sv):List C:=[.s s.name,.i s.spare]
def Cp.e (c:Cp):List C:=[.s c.name,.s c.svc,.i c.rank,.i c.born,.i c.room,.i c.hold,.s c.sel,.l (c.likes.map Lk.e),.i c.apart,.s c.near,.s c.fixed,.s c.at_]
def Fl.e (f:Fl):List C:=[.b f.pack,.l (f.bts.map Bt.e),.l (f.svs.map Sv.e),.l (f.cps.map Cp.e)]
def Bt.Sz (K:Nat) (b:Bt):Prop:=b.name.size≤K∧b.zone.size≤K∧b.marks.length≤K∧∀m,m∈b.marks→m.size≤K
def Sv.Sz (K:Nat) (s:Sv):Prop:=s.name.size≤K
def Cp.Sz (K:Nat) (c:Cp):Prop:=c.name.size≤K∧c.svc.size≤K∧c.sel.size≤K∧c.near.size≤K∧c.fixed.size≤K∧c.at_.size≤K∧c.likes.length≤K∧∀x,x∈c.likes→x.sel.size≤K
def Fl.Sz (K:Nat) (f:Fl):Prop:=(f.bts.length≤K∧∀b,b∈f.bts→b.Sz K)∧(f.svs.length≤K∧∀s,s∈f.svs→s.Sz K)∧f.cps.length≤K∧∀c,c∈f.cps→c.Sz K
def B0 (K:Nat) (l:List Str):Prop:=l.length≤K∧∀s,s∈l→s.size≤K
theorem getD_map' {α:Type} (e:α→List C) {l:List α} {i:Nat} (h:i<l.length):(l.map e).getD i []=e l[i]:=BT e h []
theorem w1 {i n:Nat} (h:i<n) (hn:n<4611686018427387904):w64 ((i:Int)+1)=((i+1:Nat):Int):=by
 rw[aP (by omega) (by omega)];rfl
end Go.Ev
namespace Go.Ev
abbrev big:Nat:=4611686018427387904
end Go.Ev
namespace Go.Ev
def Bt.o (b:Bt):List C:=[.s b.name,.s b.zone,.i b.room,.i b.hold,.b b.shut,.l (b.marks.map sE)]
def Cp.o (c:Cp):List C:=[.s c.name,.s c.svc,.i c.rank,.i c.born,.i c.room,.i c.hold,.s c.sel,.i c.apart,.s c.near,.s c.fixed,.s c.at_,.l (c.likes.map Lk.e)]
end Go.Ev
namespace Go.Ev
def within (a b c:Int):Bool:=decide (b≤a)&&decide (a≤c)
theorem fp (a b c:Int):gk [.i a,.i b,.i c]=some [.b (within a b c)]:=by
 simp only[gk,gk.d1,apL,jC,jD,C.I_i,within]
 cases h:decide (a≥b)<;>simp at h<;>simp[h]<;>omega
theorem ml (a b c:Int):fi [.i a,.i b,.i c]=some [.b (within a b c)]:=by
 simp only[fi,fi.d1,apL,jC,jD,C.I_i,within]
 cases h:decide (a≥b)<;>simp at h<;>simp[h]<;>omega
def Dd (n:Int):Bool:=(decide (n≥97)&&decide (n≤122))||(decide (n≥48)&&decide (n≤57))||n==45||n==95
def dy (x:UInt8):Bool:=Dd (x.toNat:Int)
theorem iy (n:Int):gV [.i n]=some [.b (Dd n)]:=by
 simp only[gV,gV.d1,apL,jC,C.I_i,Dd]
 cases decide (n≥97)<;>cases decide (n≤122)<;>cases decide (n≥48)<;>cases decide (n≤57)<;>cases n==45<;>simp
theorem oC (n:Int):qq [.i n]=some [.b (Dd n)]:=iy n
def aU (s:Str):Bool:=within s.size 1 20&&s.data.toList.all dy
theorem cZ (s:Str):s.size=s.data.toList.length:=Array.length_toList.symm
theorem dZ {s:Str} {i:Nat} (h:i<s.data.toList.length):s.data.getD i 0=s.data.toList[i]:=by
 have:i<s.data.size:=by simpa using h
 simp only[Array.getD,dif_pos this,Array.getInternal_eq_getElem,Array.getElem_toList]
theorem th {α:Type} (p:α→Bool) (b:Nat) (ys:List C) (K:List C→R):∀(l:List α) (n:Nat),ah b (some (yR (fun _ s (_:Unit)=>bif p s then .inl () else .inr (.ret [.b false])) (fun _=>.brk b ys) l n ())) K=bif l.all p then K ys else some (.ret [.b false])
 |[],n=>by simp[yR]
 |x::r,n=>by
  simp only[yR,List.all_cons]
  cases p x with
  |true=>simp only[jR,Bool.true_and];exact th p b ys K r (n+1)
  |false=>simp
theorem cy (s:Str) (hl:s.size≤1048576):bc [.s s]=some [.b (aU s)]:=by
 have hsz:=cZ s
 have h:=xJ (l:=s.data.toList) (S:=fun i (_:Unit)=>[.s s,.i (i:Nat)]) (body:=ap2 bc.d1)
  (fun _ _=>True) (fun i b _=>bif dy b then .inl () else .inr (.ret [.b false])) (fun _=>.brk 0 [])
  (fun i _ hi _=>by
   have hi':i<s.size:=by omega
   cases hb:dy s.data.toList[i]<;>simp only[dy] at hb
   ·exact ⟨by simp only[apL,jC,jD,bc.d1,C.I_i,C.S_s,jY,dZ hi,iy,hb,aa];simp[hi'],trivial⟩
   ·exact ⟨by simp only[apL,jC,jD,bc.d1,C.I_i,C.S_s,jY,dZ hi,iy,hb,aa,w1 hi' (show s.size<big by simp only[big];omega)];simp[hi'],trivial⟩)
  (fun _ _=>⟨by rw[←hsz];simp[bc.d1],trivial⟩) _ 0 () rfl trivial
 simp only[Int.ofNat_zero,List.drop_zero] at h
 simp only[bc,bc.d3,apL,jC,C.S_s,fp,aa,jI,C.B_b,aU]
 cases hw:within s.size 1 20 with
 |false=>simp
 |true=>
  simp only[jZ,jS]
  erw[h,th]
  cases (s.data.toList.all dy)<;>simp[bc.d2]
theorem fL (s:Str) (hl:s.size≤1048576):dP [.s s]=some [.b (aU s)]:=by
 have hsz:=cZ s
 have h:=xJ (l:=s.data.toList) (S:=fun i (_:Unit)=>[.s s,.i (s.size:Nat),.i (i:Nat)]) (body:=ap3 dP.d1)
  (fun _ _=>True) (fun i b _=>bif dy b then .inl () else .inr (.ret [.b false])) (fun _=>.brk 0 [])
  (fun i _ hi _=>by
   have hi':i<s.size:=by omega
   cases hb:dy s.data.toList[i]<;>simp only[dy] at hb
   ·exact ⟨by simp only[apL,jC,jD,dP.d1,C.I_i,C.S_s,jY,dZ hi,oC,hb,aa];simp[hi'],trivial⟩
   ·exact ⟨by simp only[apL,jC,jD,dP.d1,C.I_i,C.S_s,jY,dZ hi,oC,hb,aa,w1 hi' (show s.size<big by simp only[big];omega)];simp[hi'],trivial⟩)
  (fun _ _=>⟨by rw[←hsz];simp[dP.d1],trivial⟩) _ 0 () rfl trivial
 simp only[Int.ofNat_zero,List.drop_zero] at h
 simp only[dP,dP.d3,apL,jC,C.S_s,aU,within]
 by_cases q1:(s.size:Int)<1
 ·have:¬(1:Int)≤s.size:=by omega
  simp[q1,this]
 by_cases q2:(s.size:Int)>20
 ·have:¬(s.size:Int)≤20:=by omega
  simp only[q1,q2,this];simp
 ·have e1:(1:Int)≤s.size:=by omega
  have e2:(s.size:Int)≤20:=by omega
  simp only[q1,q2,e1,e2,decide_true,decide_false,ja,jR,jS,Bool.true_and]
  erw[h,th]
  cases (s.data.toList.all dy)<;>simp[dP.d2]
end Go.Ev
namespace Go.Ev
def mkS (l:List UInt8):Str:=⟨l.toArray⟩
theorem gw (l:List UInt8):(mkS l).data.toList=l:=rfl
theorem ni (l:List UInt8):(mkS l).size=l.length:=rfl
theorem I5 (s:Str):mkS s.data.toList=s:=rfl
theorem lb (s:Str) (i j:Nat):s.extract i j=mkS ((s.data.toList.take j).drop i):=by
 have:(s.extract i j).data=((s.data.toList.take j).drop i).toArray:=by
  rw[ByteArray.data_extract]
  apply Array.toList_inj.1
  simp only[Array.toList_extract,List.extract_eq_take_drop]
  rw[List.drop_take]
 cases h:s.extract i j with
 |mk d=>rw[h] at this;simp only at this;subst this;rfl
def sEq (a b:Str):Bool:=a.toList==b.toList
theorem eH (s:Str):s.toList=s.data.toList:=ByteArray.toList_eq s
theorem cx (a b:Str):sEq a b=true↔a=b:=by
 unfold sEq
 rw[eH,eH,beq_iff_eq]
 constructor
 ·intro h
  cases a;cases b
  simp only at h
  exact congrArg _ (Array.toList_inj.1 h)
 ·rintro rfl;rfl
theorem I4 (a b:List UInt8):sEq (mkS a) (mkS b)=(a==b):=by
 unfold sEq;rw[eH,eH,gw,gw]
theorem pQ {α:Type} (p:α→Bool):∀l:List α,l.take (l.takeWhile p).length=l.takeWhile p
 |[]=>rfl
 |x::r=>by
  rw[List.takeWhile_cons]
  cases p x with
  |true=>simp[pQ p r]
  |false=>simp
theorem kg {α:Type} (p:α→Bool):∀l:List α,l.drop (l.takeWhile p).length=l.dropWhile p
 |[]=>rfl
 |x::r=>by
  rw[List.takeWhile_cons,List.dropWhile_cons]
  cases p x with
  |true=>simp[kg p r]
  |false=>simp
theorem tS {α:Type} (l:List α) (i k:Nat):(l.take (i+k)).drop i=(l.drop i).take k:=by rw[List.drop_take];congr 1;omega
theorem ql {α:Type} (p:α→Bool) (l:List α):(l.takeWhile p).length≤l.length:=(List.takeWhile_prefix p).length_le
theorem drop_cons {α:Type} {l r:List α} {i:Nat} {c:α} (h:l.drop i=c::r):∃hi:i<l.length,l[i]=c∧l.drop (i+1)=r:=by
 have hi:i<l.length:=by
  rcases Nat.lt_or_ge i l.length with h'|h'
  ·exact h'
  ·rw[List.drop_eq_nil_of_le h'] at h;simp at h
 rw[List.drop_eq_getElem_cons hi] at h
 simp only[List.cons.injEq] at h
 exact ⟨hi,h.1,h.2⟩
def di:List UInt8→List (List UInt8)
 |[]=>[]
 |c::r=>if c=32 then di r else if dy c then (c::r.takeWhile dy)::di (r.dropWhile dy) else [c]::di r
termination_by l=>l.length
decreasing_by
 ·simp
 ·have:=(List.dropWhile_suffix (l:=r) dy).length_le;simp;omega
 ·simp
def sym (c:UInt8):Bool:=c==124||c==38||c==33||c==40||c==41||c==61
def gH (c:UInt8):Bool:=c==32||dy c||sym c
theorem bn (c x:UInt8) (m:Int) (h:m=(x.toNat:Int)):(((c.toNat:Nat):Int)==m)=(c==x):=by
 subst h
 rw[Bool.eq_iff_iff,beq_iff_eq,beq_iff_eq]
 constructor
 ·intro h
  exact UInt8.toNat_inj.1 (by exact_mod_cast h)
 ·rintro rfl;rfl
theorem Fg (s:Str) (hl:s.size≤1048576) (i:Nat) (o:C):∀(k n:Nat),k=s.data.toList.length-n→n≤s.data.toList.length→
  lim (ap4 aC.d1) [.s s,.i i,.i n,.l o.L]=some (.brk 2 [.s s,.i i,.i (n+((s.data.toList.drop n).takeWhile dy).length:Nat),.l o.L])
 |0,n,hk,hn=>by
  have e:n=s.size:=by rw[cZ];omega
  have e2:s.data.toList.drop n=[]:=List.drop_eq_nil_of_le (by omega)
  rw[e2]
  refine aQ ?_
  simp[aC.d1,e]
 |k+1,n,hk,hn=>by
  have hi:n<s.data.toList.length:=by omega
  have hi':n<s.size:=by rw[cZ];omega
  have e2:=List.drop_eq_getElem_cons hi
  rw[e2,List.takeWhile_cons]
  cases hb:dy s.data.toList[n] with
  |false=>
   refine aQ ?_
   simp only[dy] at hb
   simp only[apL,jC,jD,aC.d1,C.I_i,C.S_s,jY,dZ hi,iy,hb,aa]
   simp[hi']
  |true=>
   have h:ap4 aC.d1 [.s s,.i i,.i n,.l o.L]=some (.again [.s s,.i i,.i (n+1:Nat),.l o.L]):=by
    simp only[dy] at hb
    simp only[apL,jC,jD,aC.d1,C.I_i,C.S_s,jY,dZ hi,iy,hb,aa,w1 hi' (show s.size<big by simp only[big];omega)]
    simp[hi']
   rw[aG h,Fg s hl i o k (n+1) (by omega) (by omega)]
   have:n+1+(List.takeWhile dy (s.data.toList.drop (n+1))).length=n+(s.data.toList[n]::List.takeWhile dy (s.data.toList.drop (n+1))).length:=by
    simp only[List.length_cons];omega
   simp only[if_true,this]
def tk (t:List UInt8):List C:=[.s (mkS t)]
theorem Hr (s:Str) (hl:s.size≤1048576):∀(k i:Nat) (out:List (List C)),s.data.toList.length-i≤k→i≤s.data.toList.length→out.length≤i→
  (((s.data.toList.drop i).all gH=true∧lim (ap3 aC.d5) [.s s,.i i,.l out]=some (.brk 0 [.l (out++(di (s.data.toList.drop i)).map tk)]))∨
   ((s.data.toList.drop i).all gH=false∧∃o,lim (ap3 aC.d5) [.s s,.i i,.l out]=some (.ret [.b false,.l o])))
 |k,i,out,hk,hi,ho=>by
  cases hd:s.data.toList.drop i with
  |nil=>
   have:s.data.toList.length≤i:=by simpa using hd
   have e:i=s.size:=by rw[cZ];omega
   left
   refine ⟨rfl,aQ ?_⟩
   simp[aC.d5,e,di]
  |cons c r=>
   obtain ⟨hi',hc,hr⟩:=drop_cons hd
   have his:i<s.size:=by rw[cZ];exact hi'
   obtain ⟨k,rfl⟩:∃k',k=k'+1:=⟨k-1,by omega⟩
   have hw:=w1 his (show s.size<big by simp only[big];omega)
   have e32:=bn c 32 32 rfl
   by_cases h32:c=32
   ·subst h32
    have h:ap3 aC.d5 [.s s,.i i,.l out]=some (.again [.s s,.i (i+1:Nat),.l out]):=by
     simp only[apL,jC,jD,aC.d5,C.I_i,C.S_s,C.L_l,jY,dZ hi',hc,hw]
     simp[his,aC.d4]
    have ih:=Hr s hl k (i+1) out (by omega) (by omega) (by omega)
    rw[aG h]
    rw[hr] at ih
    simpa [gH,di] using ih
   ·have hrun:=Fg s hl i (.l out) _ i rfl hi
    rw[hd] at hrun
    simp only[C.L_l] at hrun
    have hne:(((c.toNat:Nat):Int)==32)=false:=by
     rw[e32,beq_eq_false_iff_ne];exact h32
    cases hlt:dy c with
    |true=>
     have hrl:=ql dy r
     have hrlen:r.length=s.data.toList.length-(i+1):=by rw[←hr];simp
     have h:ap3 aC.d5 [.s s,.i i,.l out]=some (.again [.s s,.i (i+1+(r.takeWhile dy).length:Nat),.l (out++[tk (c::r.takeWhile dy)])]):=by
      have hext:s.extract i (i+1+(r.takeWhile dy).length)=mkS (c::r.takeWhile dy):=by
       rw[lb,Nat.add_assoc,tS,hd,Nat.add_comm 1,List.take_succ_cons,pQ]
      have e1:(((i+1+(r.takeWhile dy).length:Nat):Int)==(i:Int))=false:=by
       rw[beq_eq_false_iff_ne];omega
      have e2:(i:Int)≤((i+1+(r.takeWhile dy).length:Nat):Int):=by omega
      have e3:((i+1+(r.takeWhile dy).length:Nat):Int)≤(s.size:Int):=by rw[cZ];omega
      have e4:out.length+1≤4294967296:=by omega
      have e0:i+(List.takeWhile dy (c::r)).length=i+1+(r.takeWhile dy).length:=by
       rw[List.takeWhile_cons,hlt];simp;omega
      rw[e0] at hrun
      simp only[apL,jC,jD,aC.d5,C.I_i,C.S_s,C.L_l,jY,dZ hi',hc,hne,hrun,aA]
      simp only[aC.d3,C.I_i,C.S_s,C.L_l,e1,jY,hext]
      simp only[e2,e3,e4,his,decide_true,jR,jS,jX,rows,List.length_cons,List.length_nil,aA,aC.d4,C.L_l,tk]
      simp[his,e4,aC.d4]
     have ih:=Hr s hl k (i+1+(r.takeWhile dy).length) (out++[tk (c::r.takeWhile dy)]) (by omega) (by omega) (by simp;omega)
     rw[aG h]
     have hdr:s.data.toList.drop (i+1+(r.takeWhile dy).length)=r.dropWhile dy:=by
      rw[←List.drop_drop,hr,kg]
     rw[hdr] at ih
     have hall:(c::r).all gH=(r.dropWhile dy).all gH:=by
      have e1:∀r:List UInt8,r.all gH=(r.dropWhile dy).all gH:=by
       intro r
       induction r with
       |nil=>rfl
       |cons x r ih=>
        rw[List.dropWhile_cons]
        cases hx:dy x with
        |true=>simp[gH,hx,←ih]
        |false=>simp
      have:gH c=true:=by simp[gH,hlt]
      rw[List.all_cons,this,Bool.true_and];exact e1 r
     rw[hall]
     have hlex:di (c::r)=(c::r.takeWhile dy)::di (r.dropWhile dy):=by
      rw[di,if_neg h32,if_pos hlt]
     rw[hlex]
     simpa using ih
    |false=>
     have e0:i+(List.takeWhile dy (c::r)).length=i:=by
      rw[List.takeWhile_cons,hlt];simp
     rw[e0] at hrun
     have s1:=bn c 124 124 rfl
     have s2:=bn c 38 38 rfl
     have s3:=bn c 33 33 rfl
     have s4:=bn c 40 40 rfl
     have s5:=bn c 41 41 rfl
     have s6:=bn c 61 61 rfl
     have hsym:aC.d3 (.s s) (.i i) (.i i) (.l out)=aC.d2 (.s s) (.i i) (.i i) (.b (!sym c)) (.l out):=by
      simp only[aC.d3,C.I_i,C.S_s,C.L_l,jY,dZ hi',hc,bne,s1,s2,s3,s4,s5,s6,sym]
      cases (c==124)<;>cases (c==38)<;>cases (c==33)<;>cases (c==40)<;>cases (c==41)<;>cases (c==61)<;>simp[his]
     have hd2:aC.d2 (.s s) (.i i) (.i i) (.b (!sym c)) (.l out)=if sym c=true then some (.brk 1 [.s s,.i (i+1:Nat),.l (out++[tk [c]])]) else some (.ret [.b false,.l out]):=by
      have hext:s.extract i (i+1)=mkS [c]:=by
       rw[lb,tS,hd];rfl
      have e2:(i:Int)≤((i+1:Nat):Int):=by omega
      have e3:((i+1:Nat):Int)≤(s.size:Int):=by rw[cZ];omega
      have e4:out.length+1≤4294967296:=by omega
      cases hs:sym c with
      |false=>simp[aC.d2]
      |true=>
       simp only[aC.d2,C.I_i,C.S_s,C.L_l,C.B_b,hw,jY,hext,e2,e3,decide_true,jR,jS,jX,rows,List.length_cons,List.length_nil,jZ,if_true,tk]
       simp[e4]
     have h0:ap3 aC.d5 [.s s,.i i,.l out]=ah 1 (if sym c=true then some (.brk 1 [.s s,.i (i+1:Nat),.l (out++[tk [c]])]) else some (.ret [.b false,.l out])) (ap3 aC.d4):=by
      rw[←hd2,←hsym]
      simp only[apL,jC,jD,aC.d5,C.I_i,C.S_s,C.L_l,jY,dZ hi',hc,hne,hrun,aA]
      simp[his]
     cases hs:sym c with
     |false=>
      right
      rw[hs] at h0
      refine ⟨by simp[gH,hlt,hs,h32],out,mj (by rw[h0];simp)⟩
     |true=>
      rw[hs] at h0
      have h:ap3 aC.d5 [.s s,.i i,.l out]=some (.again [.s s,.i (i+1:Nat),.l (out++[tk [c]])]):=by rw[h0];simp[aC.d4]
      rw[aG h]
      have ih:=Hr s hl k (i+1) (out++[tk [c]]) (by omega) (by omega) (by simp;omega)
      rw[hr] at ih
      have hlex:di (c::r)=[c]::di r:=by rw[di,if_neg h32,if_neg (by rw[hlt];simp)]
      have hall:(c::r).all gH=r.all gH:=by simp[gH,hs]
      rw[hlex,hall]
      simpa using ih
theorem yp (s:Str) (hl:s.size≤1048576):
  (s.data.toList.all gH=true∧aC [.s s]=some [.b true,.l ((di s.data.toList).map tk)])∨(s.data.toList.all gH=false∧∃o,aC [.s s]=some [.b false,.l o]):=by
 have h:=Hr s hl _ 0 [] (Nat.le_refl _) (by omega) (by simp)
 simp only[List.drop_zero,jB,Int.ofNat_zero] at h
 simp only[aC,aC.d7,apL,jC,ao]
 rcases h with ⟨h1,h2⟩|⟨h1,o,h2⟩
 ·exact .inl ⟨h1,by rw[h2];simp[aC.d6]⟩
 ·exact .inr ⟨h1,o,by rw[h2];simp⟩
end Go.Ev
namespace Go.Ev
abbrev Tok:=List UInt8
inductive Tr where
 |lf (k:Nat) (n v:Tok)
 |un (t:Tr)
 |bn (k:Nat) (a b:Tr)
def node (k:Nat) (n v:Tok) (m:Nat):List C:=[.i (k:Nat),.s (mkS n),.s (mkS v),.i (m:Nat)]
def Tr.flat:Tr→List (List C)
 |.lf k n v=>[node k n v 0]
 |.un t=>t.flat++[node 3 [] [] 1]
 |.bn k a b=>a.flat++b.flat++[node k [] [] 2]
def opL (f:List Tok→Option (Tr×List Tok)) (op:Tok) (kd:Nat):Nat→Tr→List Tok→Option (Tr×List Tok)
 |0,t,r=>some (t,r)
 |m+1,t,r=>match r with
  |[]=>some (t,[])
  |x::r'=>if x=op then match f r' with
    |none=>none
    |some (t',r'')=>opL f op kd m (.bn kd t t') r''
   else some (t,x::r')
def prs:Nat→Nat→List Tok→Option (Tr×List Tok)
 |0,_,_=>none
 |k+1,c,l=>match c with
  |0=>match prs k 1 l with
   |none=>none
   |some (t,r)=>opL (prs k 1) [124] 5 r.length t r
  |1=>match prs k 2 l with
   |none=>none
   |some (t,r)=>opL (prs k 2) [38] 4 r.length t r
  |_=>match l with
   |[]=>none
   |x::r=>if x=[33] then match prs k 2 r with
     |none=>none
     |some (t,r')=>some (.un t,r')
    else if x=[40] then match prs k 0 r with
     |some (t,y::r')=>if y=[41] then some (t,r') else none
     |_=>none
    else if aU (mkS x)=true then match r with
     |y::r'=>if y=[61] then match r' with
       |v::r''=>if aU (mkS v)=true then some (.lf 2 x v,r'') else none
       |[]=>none
      else some (.lf 1 x [],r)
     |[]=>some (.lf 1 x [],[])
    else none
theorem eW:bs #[]=mkS []:=rfl
theorem zx (k n:Int) (x y:List (List C)) (h:x.length+y.length≤1048576):
  bD [.i k,.i n,.l [[.l x],[.l y]]]=some [.l [[.l x],[.l y]],.l (x++y++[[.i k,.s (mkS []),.s (mkS []),.i n]])]:=by
 have b1:x.length≤4294967296:=by omega
 have b2:x.length+y.length≤4294967296:=by omega
 have b3:x.length+y.length+1≤4294967296:=by omega
 have b4:x.length+(y.length+1)≤4294967296:=by omega
 have w0:w64 1=1:=aP (by omega) (by omega)
 have w1:w64 2=2:=aP (by omega) (by omega)
 have h0:ap5 bD.d1 [.i k,.i n,.i 0,.l [[.l x],[.l y]],.l []]=some (.again [.i k,.i n,.i 1,.l [[.l x],[.l y]],.l x]):=by
  simp[bD.d1,b1,w0]
 have h1:ap5 bD.d1 [.i k,.i n,.i 1,.l [[.l x],[.l y]],.l x]=some (.again [.i k,.i n,.i 2,.l [[.l x],[.l y]],.l (x++y)]):=by
  have e:(1:Int)<2:=by omega
  simp[bD.d1,b2,w1,e]
 have h2:ap5 bD.d1 [.i k,.i n,.i 2,.l [[.l x],[.l y]],.l (x++y)]=some (.brk 0 [.i k,.i n,.l [[.l x],[.l y]],.l (x++y)]):=by
  simp[bD.d1]
 simp only[bD,bD.d3,apL,jC,jD,C.L_l,ao]
 rw[aG h0,aG h1,aQ h2,aA]
 simp[bD.d2,b3,b4,eW]
theorem Dl (k n:Int) (x:List (List C)) (h:x.length≤1048576):
  bD [.i k,.i n,.l [[.l x]]]=some [.l [[.l x]],.l (x++[[.i k,.s (mkS []),.s (mkS []),.i n]])]:=by
 have b1:x.length≤4294967296:=by omega
 have b3:x.length+1≤4294967296:=by omega
 have w0:w64 1=1:=aP (by omega) (by omega)
 have h0:ap5 bD.d1 [.i k,.i n,.i 0,.l [[.l x]],.l []]=some (.again [.i k,.i n,.i 1,.l [[.l x]],.l x]):=by
  simp[bD.d1,b1,w0]
 have h2:ap5 bD.d1 [.i k,.i n,.i 1,.l [[.l x]],.l x]=some (.brk 0 [.i k,.i n,.l [[.l x]],.l x]):=by
  simp[bD.d1]
 simp only[bD,bD.d3,apL,jC,jD,C.L_l,ao]
 rw[aG h0,aQ h2,aA]
 simp[bD.d2,b3,eW]
section
variable {T:List Tok} (hl:T.length≤1048576)
include hl
theorem jw (op:Tok) (a:Nat) (bad:Bool) (ha:a≤T.length):bK [.s (mkS op),.l (T.map tk),.i a,.b bad]=
  match T.drop a with
  |[]=>some [.b false,.l (T.map tk),.i a,.b bad]
  |x::_=>if x=op then some [.b true,.l (T.map tk),.i (a+1:Nat),.b bad] else some [.b false,.l (T.map tk),.i a,.b bad]:=by
 simp only[bK,bK.d1,gC,gC.d1,apL,jC,jD,C.uR,C.P_p,C.I_i,C.L_l,jW,jY,jR]
 cases hd:T.drop a with
 |nil=>
  have:T.length≤a:=by simpa using hd
  have e:a=T.length:=by omega
  subst e
  simp[aa]
 |cons x r=>
  obtain ⟨hi,hx,_⟩:=drop_cons hd
  have hw:=w1 hi (show T.length<big by simp only[big];omega)
  rw[getD_map' tk hi,hx]
  have hq:((mkS x).toList==(mkS op).toList)=(x==op):=I4 x op
  simp only[tk,jC,C.S_s,hq,hw]
  by_cases he:x=op
  ·subst he;simp[hi,aa]
  ·have hb:(x==op)=false:=by rw[beq_eq_false_iff_ne];exact he
   simp[hi,aa,hb,he]
theorem uf (hs:∀t,t∈T→t.length≤1048576) (a:Nat) (bad:Bool) (ha:a≤T.length):eo [.l (T.map tk),.i a,.b bad]=
  match T.drop a with
  |[]=>some [.s (mkS []),.l (T.map tk),.i a,.b true]
  |x::_=>if aU (mkS x)=true then some [.s (mkS x),.l (T.map tk),.i (a+1:Nat),.b bad] else some [.s (mkS []),.l (T.map tk),.i a,.b true]:=by
 simp only[eo,eo.d1,apL,jC,jD,C.I_i,C.L_l,jW,jY]
 cases hd:T.drop a with
 |nil=>
  have:T.length≤a:=by simpa using hd
  have e:a=T.length:=by omega
  subst e
  simp[eW]
 |cons x r=>
  obtain ⟨hi,hx,_⟩:=drop_cons hd
  have hw:=w1 hi (show T.length<big by simp only[big];omega)
  have hw2:w64 (((a+1:Nat):Int)-1)=a:=by rw[aP (by omega) (by omega)];omega
  rw[getD_map' tk hi,hx]
  have hxs:(mkS x).size≤1048576:=by rw[ni];exact hs x (by rw[←hx];exact List.getElem_mem hi)
  have hge:¬T.length≤a:=by omega
  simp only[tk,jC,cy _ hxs,aa,jI,C.B_b,hw,hw2,jY,getD_map' tk hi,hx]
  cases hn:aU (mkS x)<;>simp[hi,hge,eW]
end
def Res (T:List Tok) (a:Nat) (p:Option (Tr×List Tok)) (nodes:List (List C)) (a':Nat) (bad:Bool):Prop:=
 a≤a'∧a'≤T.length∧nodes.length≤2*(a'-a)+1∧match p with
  |some (t,r)=>bad=false∧nodes=t.flat∧T.drop a'=r∧a<a'
  |none=>bad=true
def SP (T:List Tok) (G:List C→Option (List C)) (f:List Tok→Option (Tr×List Tok)) (a:Nat):Prop:=
 ∃nodes a' bad,G [.l (T.map tk),.i a,.b false]=some [.l nodes,.l (T.map tk),.i (a':Nat),.b bad]∧Res T a (f (T.drop a)) nodes a' bad
end Go.Ev
namespace Go.Ev
section
variable {T:List Tok} (hl:T.length≤1048576/4) (hs:∀t,t∈T→t.length≤1048576)
include hl
theorem FW (G:List C→Option (List C)) (f:List Tok→Option (Tr×List Tok)) (op:Tok) (kd:Nat) (body:C→C→C→C→R) (lo:Nat)
  (hb:∀a b c d,body a b c d=(bif (!d.B) then (call4 (bK [.s (mkS op),b,c,d]) fun e f g h=>(bif e.B then (call4 (G [f,g,h]) fun i j k l=>(call2 (bD [.i (kd:Nat),.i 2,.l (rows [[a],[i]])]) fun m n=>(some (.again [.l n.L,j,k,l])))) else (some (.brk 0 [a,f,g,h])))) else (some (.brk 0 [a,b,c,d]))))
  (hG:∀a,lo≤a→a≤T.length→SP T G f a):
  ∀(m a:Nat) (t:Tr),T.length-a≤m→lo≤a+1→a≤T.length→t.flat.length≤2*a+1→
   ∃nodes a' bad,lim (ap4 body) [.l t.flat,.l (T.map tk),.i a,.b false]=some (.brk 0 [.l nodes,.l (T.map tk),.i (a':Nat),.b bad])∧
    a≤a'∧a'≤T.length∧nodes.length≤2*(a'-a)+t.flat.length∧match opL f op kd m t (T.drop a) with
     |some (u,r)=>bad=false∧nodes=u.flat∧T.drop a'=r
     |none=>bad=true
 |0,a,t,hm,hlo,ha,ht=>by
  have hd:T.drop a=[]:=List.drop_eq_nil_of_le (by omega)
  refine ⟨t.flat,a,false,aQ ?_,Nat.le_refl _,ha,by omega,?_⟩
  ·simp only[apL,jC,jD,hb,C.B_b,ja,jR]
   rw[jw (by omega) op a false ha,hd]
   simp[call4]
  ·simp[opL]
 |m+1,a,t,hm,hlo,ha,ht=>by
  have hstep:ap4 body [.l t.flat,.l (T.map tk),.i a,.b false]=(call4 (bK [.s (mkS op),.l (T.map tk),.i a,.b false]) fun e f g h=>(bif e.B then (call4 (G [f,g,h]) fun i j k l=>(call2 (bD [.i (kd:Nat),.i 2,.l (rows [[.l t.flat],[i]])]) fun m n=>(some (.again [.l n.L,j,k,l])))) else (some (.brk 0 [.l t.flat,f,g,h])))):=by
   simp only[apL,jC,jD,hb,C.B_b,ja,jR]
  rw[jw (by omega) op a false ha] at hstep
  cases hd:T.drop a with
  |nil=>
   rw[hd] at hstep
   refine ⟨t.flat,a,false,aQ ?_,Nat.le_refl _,ha,by omega,?_⟩
   ·rw[hstep];simp[call4]
   ·simp[opL,hd]
  |cons x r=>
   rw[hd] at hstep
   obtain ⟨hi,hx,hr⟩:=drop_cons hd
   by_cases he:x=op
   ·simp only[if_pos he,call4,jI,jC,jD,C.B_b,jR] at hstep
    obtain ⟨nodes,a',bad,hg,h1,h2,h3,h4⟩:=hG (a+1) (by omega) (by omega)
    rw[hr] at h4
    rw[hg] at hstep
    have hsum:t.flat.length+nodes.length≤1048576:=by omega
    simp only[jI,jC,jD,rows,zx (kd:Nat) 2 t.flat nodes hsum,call2,C.L_l] at hstep
    have hnd:t.flat++nodes++[[C.i (kd:Nat),.s (mkS []),.s (mkS []),.i 2]]=t.flat++nodes++[node kd [] [] 2]:=rfl
    rw[hnd] at hstep
    cases hf:f r with
    |none=>
     rw[hf] at h4
     simp only at h4
     subst h4
     have hend:ap4 body [.l (t.flat++nodes++[node kd [] [] 2]),.l (T.map tk),.i (a':Nat),.b true]=some (.brk 0 [.l (t.flat++nodes++[node kd [] [] 2]),.l (T.map tk),.i (a':Nat),.b true]):=by
      simp[hb]
     refine ⟨_,a',true,by rw[aG hstep];exact aQ hend,by omega,h2,by simp;omega,?_⟩
     simp[opL,hd,he,hf]
    |some p=>
     obtain ⟨u,r'⟩:=p
     rw[hf] at h4
     obtain ⟨rfl,rfl,h5,h6⟩:=h4
     have e:t.flat++u.flat++[node kd [] [] 2]=(Tr.bn kd t u).flat:=rfl
     rw[e] at hstep
     have hlen:(Tr.bn kd t u).flat.length=t.flat.length+u.flat.length+1:=by simp[Tr.flat];omega
     obtain ⟨nodes2,a2,bad2,q1,q2,q3,q4,q5⟩:=FW G f op kd body lo hb hG m a' (.bn kd t u) (by omega) (by omega) h2 (by omega)
     refine ⟨nodes2,a2,bad2,by rw[aG hstep];exact q1,by omega,q3,by omega,?_⟩
     simp only[opL,hd,if_pos he,hf]
     rw[h5] at q5
     exact q5
   ·simp only[if_neg he,call4,jI,jC,jD,C.B_b,jS] at hstep
    refine ⟨t.flat,a,false,aQ hstep,Nat.le_refl _,ha,by omega,?_⟩
    simp[opL,hd,he]
end
end Go.Ev
namespace Go.Ev
section
variable {T:List Tok} (hl:T.length≤1048576/4) (hs:∀t,t∈T→t.length≤1048576)
include hl hs
theorem H8 (G:List C→Option (List C)) (f:List Tok→Option (Tr×List Tok)) (op:Tok) (kd:Nat) (body:C→C→C→C→R) (d2:C→C→C→C→R) (a:Nat) (ha:a≤T.length)
  (hb:∀a b c d,body a b c d=(bif (!d.B) then (call4 (bK [.s (mkS op),b,c,d]) fun e f g h=>(bif e.B then (call4 (G [f,g,h]) fun i j k l=>(call2 (bD [.i (kd:Nat),.i 2,.l (rows [[a],[i]])]) fun m n=>(some (.again [.l n.L,j,k,l])))) else (some (.brk 0 [a,f,g,h])))) else (some (.brk 0 [a,b,c,d]))))
  (h2:∀a b c d,d2 a b c d=some (.ret [a,b,c,d])) (hG:∀b,a≤b→b≤T.length→SP T G f b):
  ∃nodes a' bad,aV (call4 (G [.l (T.map tk),.i a,.b false]) fun d e f g=>(ah 0 (lim (ap4 body) [d,e,f,g]) (ap4 d2)))=some [.l nodes,.l (T.map tk),.i (a':Nat),.b bad]∧
   Res T a (match f (T.drop a) with
   |none=>none
   |some (t,r)=>opL f op kd r.length t r) nodes a' bad:=by
 obtain ⟨nodes,a',bad,hg,q1,q2,q3,q4⟩:=hG a (Nat.le_refl _) ha
 rw[hg]
 simp only[call4,jI,jC,jD]
 cases hf:f (T.drop a) with
 |none=>
  rw[hf] at q4
  simp only at q4
  subst q4
  refine ⟨nodes,a',true,?_,q1,q2,q3,rfl⟩
  rw[aQ (ys:=[.l nodes,.l (T.map tk),.i (a':Nat),.b true]) (i:=0) (by simp[hb])]
  simp[h2]
 |some p=>
  obtain ⟨t,r⟩:=p
  rw[hf] at q4
  obtain ⟨rfl,rfl,q5,q6⟩:=q4
  have hrl:r.length=T.length-a':=by rw[←q5];simp
  obtain ⟨n2,a2,b2,p1,p2,p3,p4,p5⟩:=FW hl G f op kd body a hb (fun b h1 h2=>hG b h1 h2) r.length a' t (by omega) (by omega) q2 (by omega)
  rw[p1]
  rw[q5] at p5
  have hres:Res T a (opL f op kd r.length t r) n2 a2 b2:=by
   refine ⟨by omega,p3,by omega,?_⟩
   cases ho:opL f op kd r.length t r with
   |none=>rw[ho] at p5;exact p5
   |some z=>
    obtain ⟨u,z⟩:=z
    rw[ho] at p5
    exact ⟨p5.1,p5.2.1,p5.2.2,by omega⟩
  exact ⟨n2,a2,b2,by simp[h2],hres⟩
theorem Il:∀(j c k a:Nat),c≤2→a≤T.length→3*(T.length-a)+(3-c)≤j→j≤k→SP T (aj.g k c) (prs j c) a
 |0,c,k,a,hc,ha,hj,hk=>by omega
 |j+1,c,k,a,hc,ha,hj,hk=>by
  obtain ⟨k,rfl⟩:∃k',k=k'+1:=⟨k-1,by omega⟩
  have ih:=Il j
  rcases (show c=0∨c=1∨c=2 by omega) with rfl|rfl|rfl
  ·obtain ⟨nodes,a',bad,h1,h2⟩:=H8 hl hs (aj.g k 1) (prs j 1) [124] 5 (aj.d1 (aj.g k 0) (aj.g k 1) (aj.g k 2)) (aj.d2 (aj.g k 0) (aj.g k 1) (aj.g k 2)) a ha
    (fun _ _ _ _=>rfl) (fun _ _ _ _=>rfl) (fun b h1 h2=>ih 1 k b (by omega) h2 (by omega) (by omega))
   exact ⟨nodes,a',bad,h1,h2⟩
  ·obtain ⟨nodes,a',bad,h1,h2⟩:=H8 hl hs (aj.g k 2) (prs j 2) [38] 4 (cQ.d1 (aj.g k 0) (aj.g k 1) (aj.g k 2)) (cQ.d2 (aj.g k 0) (aj.g k 1) (aj.g k 2)) a ha
    (fun _ _ _ _=>rfl) (fun _ _ _ _=>rfl) (fun b h1 h2=>ih 2 k b (by omega) h2 (by omega) (by omega))
   exact ⟨nodes,a',bad,h1,h2⟩
  ·have hT:T.length≤1048576:=by omega
   have hstep:aj.g (k+1) 2 [.l (T.map tk),.i a,.b false]=aV (eJ.d1 (aj.g k 0) (aj.g k 1) (aj.g k 2) (.l (T.map tk)) (.i a) (.b false)):=rfl
   unfold SP
   rw[hstep]
   have e33:bs #[33]=mkS [33]:=rfl
   have e40:bs #[40]=mkS [40]:=rfl
   have e41:bs #[41]=mkS [41]:=rfl
   have e61:bs #[61]=mkS [61]:=rfl
   simp only[eJ.d1,C.B_b,jS,e33,e40,e41,e61,jw hT [33] a false ha]
   cases hd:T.drop a with
   |nil=>
    simp only[call4,jI,jC,jD,C.B_b,jS,jw hT [40] a false ha,uf hT hs a false ha,hd]
    simp only[jZ,jS,rows,eW,jV]
    exact ⟨_,a,true,rfl,Nat.le_refl _,ha,by simp,by simp[prs]⟩
   |cons x r=>
    obtain ⟨hi,hx,hr⟩:=drop_cons hd
    have hsx:=hs x (by rw[←hx];exact List.getElem_mem hi)
    by_cases x33:x=[33]
    ·obtain ⟨nodes,a',bad,hg,q1,q2,q3,q4⟩:=ih 2 k (a+1) (by omega) (by omega) (by omega) (by omega)
     rw[hr] at q4
     simp only[if_pos x33,call4,jI,jC,jD,C.B_b,jR,hg,rows,call2]
     rw[show (3:Int)=((3:Nat):Int) from rfl,Dl _ _ nodes (by omega)]
     simp only[jI,jC,jD,C.L_l,jV]
     have hnd:nodes++[[C.i ((3:Nat):Int),.s (mkS []),.s (mkS []),.i 1]]=nodes++[node 3 [] [] 1]:=rfl
     rw[hnd]
     refine ⟨_,a',bad,rfl,by omega,q2,by simp;omega,?_⟩
     simp only[prs,x33,if_true]
     cases hf:prs j 2 r with
     |none=>rw[hf] at q4;exact q4
     |some p=>
      rw[hf] at q4
      obtain ⟨rfl,rfl,q5,q6⟩:=q4
      exact ⟨rfl,rfl,q5,by omega⟩
    simp only[if_neg x33,call4,jI,jC,jD,C.B_b,jS,jw hT [40] a false ha,hd]
    by_cases x40:x=[40]
    ·obtain ⟨nodes,a',bad,hg,q1,q2,q3,q4⟩:=ih 0 k (a+1) (by omega) (by omega) (by omega) (by omega)
     rw[hr] at q4
     simp only[if_pos x40,jI,jC,jD,C.B_b,jR,hg,jw hT [41] a' bad q2]
     have hp:prs (j+1) 2 (x::r)=match prs j 0 r with
       |some (t,y::r')=>if y=[41] then some (t,r') else none
       |_=>none:=by
      simp only[prs,if_neg x33,if_pos x40]<;>rcases prs j 0 r with _|⟨t,_|⟨y,r'⟩⟩<;>rfl
     rw[hp]
     cases hd2:T.drop a' with
     |nil=>
      simp only[jI,jC,jD,C.B_b,ja,jR,jV]
      refine ⟨_,a',true,rfl,by omega,q2,by omega,?_⟩
      cases hf:prs j 0 r with
      |none=>rfl
      |some p=>
       rw[hf] at q4
       obtain ⟨_,_,q5,_⟩:=q4
       obtain ⟨t,r'⟩:=p
       simp only at q5
       rw[hd2] at q5
       subst q5
       rfl
     |cons y r'=>
      obtain ⟨hi2,hx2,hr2⟩:=drop_cons hd2
      by_cases y41:y=[41]
      ·simp only[if_pos y41,jI,jC,jD,C.B_b,jZ,jS,jV]
       refine ⟨_,a'+1,bad,rfl,by omega,by omega,by omega,?_⟩
       cases hf:prs j 0 r with
       |none=>rw[hf] at q4;exact q4
       |some p=>
        rw[hf] at q4
        obtain ⟨q5,q6,q7,_⟩:=q4
        obtain ⟨t,z⟩:=p
        simp only at q7 q6
        rw[hd2] at q7
        subst q7
        simp only[if_pos y41]
        exact ⟨q5,q6,hr2,by omega⟩
      ·simp only[if_neg y41,jI,jC,jD,C.B_b,ja,jR,jV]
       refine ⟨_,a',true,rfl,by omega,q2,by omega,?_⟩
       cases hf:prs j 0 r with
       |none=>rfl
       |some p=>
        rw[hf] at q4
        obtain ⟨_,_,q7,_⟩:=q4
        obtain ⟨t,z⟩:=p
        simp only at q7
        rw[hd2] at q7
        subst q7
        simp only[if_neg y41]
    simp only[if_neg x40,jI,jC,jD,C.B_b,jS,uf hT hs a false ha,hd]
    cases hn:aU (mkS x) with
    |false=>
     simp only[Bool.false_eq_true,if_false,jI,jC,jD,C.B_b,jZ,jS,rows,jV]
     refine ⟨_,a,true,rfl,Nat.le_refl _,ha,by simp,?_⟩
     simp[prs,x33,x40,hn]
    |true=>
     simp only[if_true,jI,jC,jD,C.B_b,ja,jR,jw hT [61] (a+1) false (by omega),hr]
     cases r with
     |nil=>
      simp only[jI,jC,jD,C.B_b,jS,rows,eW,jV]
      refine ⟨_,a+1,false,rfl,by omega,by omega,by simp,?_⟩
      simp only[prs,if_neg x33,if_neg x40,hn,if_true]
      exact ⟨by simp,rfl,hr,by omega⟩
     |cons y r'=>
      obtain ⟨hi2,hx2,hr2⟩:=drop_cons hr
      by_cases y61:y=[61]
      ·simp only[if_pos y61,jI,jC,jD,C.B_b,jR,uf hT hs (a+1+1) false (by omega),hr2]
       cases r' with
       |nil=>
        simp only[jI,jC,jD,rows,jV]
        refine ⟨_,a+1+1,true,rfl,by omega,by omega,by simp,?_⟩
        simp[prs,x33,x40,hn,y61]
       |cons v r''=>
        obtain ⟨hi3,hx3,hr3⟩:=drop_cons hr2
        cases hv:aU (mkS v) with
        |false=>
         simp only[hv,Bool.false_eq_true,if_false,jI,jC,jD,rows,jV]
         refine ⟨_,a+1+1,true,rfl,by omega,by omega,by simp,?_⟩
         simp[prs,x33,x40,hn,y61,hv]
        |true=>
         simp only[hv,if_true,jI,jC,jD,rows,jV]
         refine ⟨_,a+1+1+1,false,rfl,by omega,by omega,by simp,?_⟩
         simp only[prs,if_neg x33,if_neg x40,hn,if_true,y61,hv]
         exact ⟨by simp,rfl,hr3,by omega⟩
      ·simp only[if_neg y61,jI,jC,jD,C.B_b,jS,rows,eW,jV]
       refine ⟨_,a+1,false,rfl,by omega,by omega,by simp,?_⟩
       simp only[prs,if_neg x33,if_neg x40,hn,if_true,if_neg y61]
       exact ⟨by simp,rfl,hr,by omega⟩
end
end Go.Ev
namespace Go.Ev
def sp (c:UInt8):Bool:=c==32
theorem sk:∀l:List UInt8,di (l.dropWhile sp)=di l
 |[]=>rfl
 |c::r=>by
  rw[List.dropWhile_cons]
  by_cases h:c=32
  ·subst h
   have:sp 32=true:=rfl
   rw[if_pos this,sk r]
   rw[di.eq_2,if_pos rfl]
  ·have:sp c=false:=by simp[sp,h]
   rw[this];simp
theorem xn {l r:List UInt8} {c:UInt8} (h:l.dropWhile sp=c::r):c≠32:=by
 have:=List.head?_dropWhile_not sp l
 rw[h] at this
 simp[sp] at this
 exact this
section
variable {s:Str} (hl:s.size≤1048576)
include hl
theorem A9:∀(k i:Nat) (ok:Bool),s.data.toList.length-i≤k→i≤s.data.toList.length→
  lim (ap3 bC.d1) [.s s,.i i,.b ok]=some (.brk 0 [.s s,.i (i+((s.data.toList.drop i).takeWhile sp).length:Nat),.b ok])
 |k,i,ok,hk,hi=>by
  cases hd:s.data.toList.drop i with
  |nil=>
   have:s.data.toList.length≤i:=by simpa using hd
   have e:i=s.size:=by rw[cZ];omega
   refine aQ ?_
   simp[bC.d1,e]
  |cons c r=>
   obtain ⟨hi',hc,hr⟩:=drop_cons hd
   have his:i<s.size:=by rw[cZ];exact hi'
   obtain ⟨k,rfl⟩:∃k',k=k'+1:=⟨k-1,by omega⟩
   have hw:=w1 his (show s.size<big by simp only[big];omega)
   have e32:=bn c 32 32 rfl
   rw[List.takeWhile_cons]
   cases hs:sp c with
   |true=>
    have h:ap3 bC.d1 [.s s,.i i,.b ok]=some (.again [.s s,.i (i+1:Nat),.b ok]):=by
     simp only[sp] at hs
     simp only[apL,jC,jD,bC.d1,C.I_i,C.S_s,jY,dZ hi',hc,e32,hs,hw]
     simp[his]
    rw[aG h,A9 k (i+1) ok (by omega) (by omega),hr]
    simp only[if_true,List.length_cons]
    rw[show i+1+(List.takeWhile sp r).length=i+((List.takeWhile sp r).length+1) by omega]
   |false=>
    refine aQ ?_
    simp only[sp] at hs
    simp only[apL,jC,jD,bC.d1,C.I_i,C.S_s,jY,dZ hi',hc,e32,hs]
    simp[his]
def gp (s:Str) (i:Nat):Nat:=i+((s.data.toList.drop i).takeWhile sp).length
omit hl in
theorem Ah (i:Nat):s.data.toList.drop (gp s i)=(s.data.toList.drop i).dropWhile sp:=by
 rw[gp,←List.drop_drop,kg]
omit hl in
theorem H0 {i:Nat} (hi:i≤s.data.toList.length):gp s i≤s.data.toList.length:=by
 have:=ql sp (s.data.toList.drop i)
 rw[List.length_drop] at this
 unfold gp;omega
theorem Gb (i:Nat) (ok:Bool) (hi:i≤s.data.toList.length):bC [.s s,.i i,.b ok]=some [.s s,.i (gp s i:Nat),.b ok]:=by
 simp only[bC,bC.d3,apL,jC,jD,A9 hl _ i ok (Nat.le_refl _) hi]
 simp[bC.d2,gp]
theorem tG (c:UInt8) (hc:dy c=false) (hc2:c≠32) (i:Nat) (ok:Bool) (hi:i≤s.data.toList.length):∃i',i'≤s.data.toList.length∧∃b,bl [.i (c.toNat:Nat),.s s,.i i,.b ok]=some [.b b,.s s,.i (i':Nat),.b ok]∧
  match di (s.data.toList.drop i) with
  |[]=>b=false∧di (s.data.toList.drop i')=[]
  |x::r=>if x=[c] then b=true∧di (s.data.toList.drop i')=r else b=false∧di (s.data.toList.drop i')=x::r:=by
 have hg:=Ah (s:=s) i
 have hle:=H0 hi
 have hlex:=sk (s.data.toList.drop i)
 simp only[bl,bl.d1,apL,jC,jD,Gb hl i ok hi,call3,jI,C.I_i,C.S_s,jY]
 rw[←hlex]
 cases hd:(s.data.toList.drop i).dropWhile sp with
 |nil=>
  rw[hd] at hg
  have:s.data.toList.length≤gp s i:=by simpa using hg
  have e:gp s i=s.size:=by rw[cZ];omega
  refine ⟨gp s i,hle,false,by simp[e],?_⟩
  rw[hg]
  simp[di]
 |cons x r=>
  rw[hd] at hg
  obtain ⟨hi',hx,hr⟩:=drop_cons hg
  have his:gp s i<s.size:=by rw[cZ];exact hi'
  have hw:=w1 his (show s.size<big by simp only[big];omega)
  have hne:=xn hd
  simp only[dZ hi',hx,bn x c _ rfl,hw]
  by_cases he:x=c
  ·subst he
   refine ⟨gp s i+1,by omega,true,by simp[his],?_⟩
   rw[di.eq_2,if_neg hne,if_neg (by rw[hc];simp),hr]
   simp
  ·have hb:(x==c)=false:=by rw[beq_eq_false_iff_ne];exact he
   refine ⟨gp s i,hle,false,by simp[his,hb],?_⟩
   rw[hg]
   have hneq:∀y r',di (x::r)=y::r'→y≠[c]:=by
    intro y r' h1 h2
    subst h2
    rw[di.eq_2,if_neg hne] at h1
    split at h1
    ·simp at h1;exact he h1.1.1
    ·simp at h1;exact he h1.1
   have hnn:di (x::r)≠[]:=by
    rw[di.eq_2,if_neg hne];split<;>simp
   cases hq:di (x::r) with
   |nil=>exact absurd hq hnn
   |cons y r'=>
    simp only
    rw[if_neg (hneq y r' hq)]
    exact ⟨trivial,trivial⟩
theorem HV (o:Nat) (ok:Bool):∀(k i:Nat),s.data.toList.length-i≤k→i≤s.data.toList.length→
  lim (ap4 bj.d1) [.i o,.s s,.i i,.b ok]=some (.brk 0 [.i o,.s s,.i (i+((s.data.toList.drop i).takeWhile dy).length:Nat),.b ok])
 |k,i,hk,hi=>by
  cases hd:s.data.toList.drop i with
  |nil=>
   have:s.data.toList.length≤i:=by simpa using hd
   have e:i=s.size:=by rw[cZ];omega
   refine aQ ?_
   simp[bj.d1,e]
  |cons c r=>
   obtain ⟨hi',hc,hr⟩:=drop_cons hd
   have his:i<s.size:=by rw[cZ];exact hi'
   obtain ⟨k,rfl⟩:∃k',k=k'+1:=⟨k-1,by omega⟩
   have hw:=w1 his (show s.size<big by simp only[big];omega)
   rw[List.takeWhile_cons]
   cases hs:dy c with
   |true=>
    have h:ap4 bj.d1 [.i o,.s s,.i i,.b ok]=some (.again [.i o,.s s,.i (i+1:Nat),.b ok]):=by
     simp only[dy] at hs
     simp only[apL,jC,jD,bj.d1,C.I_i,C.S_s,jY,dZ hi',hc,oC,hs,hw,aa]
     simp[his]
    rw[aG h,HV o ok k (i+1) (by omega) (by omega),hr]
    simp only[if_true,List.length_cons]
    rw[show i+1+(List.takeWhile dy r).length=i+((List.takeWhile dy r).length+1) by omega]
   |false=>
    refine aQ ?_
    simp only[dy] at hs
    simp only[apL,jC,jD,bj.d1,C.I_i,C.S_s,jY,dZ hi',hc,oC,hs,aa]
    simp[his]
theorem Cc (i:Nat) (ok:Bool) (hi:i≤s.data.toList.length):∃i',i'≤s.data.toList.length∧∃z b,bj [.s s,.i i,.b ok]=some [.s z,.s s,.i (i':Nat),.b b]∧
  match di (s.data.toList.drop i) with
  |[]=>b=false
  |x::r=>if aU (mkS x)=true then b=ok∧z=mkS x∧di (s.data.toList.drop i')=r else b=false:=by
 have hg:=Ah (s:=s) i
 have hle:=H0 hi
 have hlex:=sk (s.data.toList.drop i)
 have hrun:=HV hl (gp s i) ok _ (gp s i) (Nat.le_refl _) hle
 rw[hg] at hrun
 have hlen:=ql dy ((s.data.toList.drop i).dropWhile sp)
 rw[←hg,List.length_drop] at hlen
 rw[hg] at hlen
 have hext:s.extract (gp s i) (gp s i+(((s.data.toList.drop i).dropWhile sp).takeWhile dy).length)=mkS (((s.data.toList.drop i).dropWhile sp).takeWhile dy):=by
  rw[lb,tS,hg,pQ]
 have hsz:(mkS (((s.data.toList.drop i).dropWhile sp).takeWhile dy)).size≤1048576:=by
  rw[ni];rw[cZ] at hl;omega
 have hres:bj [.s s,.i i,.b ok]=some [.s (mkS (((s.data.toList.drop i).dropWhile sp).takeWhile dy)),.s s,.i (gp s i+(((s.data.toList.drop i).dropWhile sp).takeWhile dy).length:Nat),.b (aU (mkS (((s.data.toList.drop i).dropWhile sp).takeWhile dy))&&ok)]:=by
  have e1:gp s i+(((s.data.toList.drop i).dropWhile sp).takeWhile dy).length≤s.size:=by rw[cZ];omega
  have e2:(gp s i:Int)≤((gp s i+(((s.data.toList.drop i).dropWhile sp).takeWhile dy).length:Nat):Int):=by omega
  have e3:((gp s i+(((s.data.toList.drop i).dropWhile sp).takeWhile dy).length:Nat):Int)≤(s.size:Int):=by omega
  simp only[bj,bj.d3,apL,jC,jD,Gb hl i ok hi,call3,jI,hrun,aA]
  simp only[bj.d2,C.I_i,C.S_s,jY,hext,jX,e2,e3,decide_true,jR,fL _ hsz,aa,jI,jC,C.B_b]
  cases aU (mkS (((s.data.toList.drop i).dropWhile sp).takeWhile dy))<;>rfl
 refine ⟨_,by omega,_,_,hres,?_⟩
 rw[←hlex,←List.drop_drop,hg,kg]
 have hnil:aU (mkS [])=false:=rfl
 cases hd:(s.data.toList.drop i).dropWhile sp with
 |nil=>simp[di,hnil]
 |cons x r=>
  have hne:=xn hd
  rw[di.eq_2,if_neg hne]
  cases hs:dy x with
  |true=>
   rw[if_pos rfl,List.takeWhile_cons,hs,List.dropWhile_cons,hs]
   simp only[if_true]
   cases aU (mkS (x::List.takeWhile dy r))<;>simp
  |false=>
   rw[if_neg (by simp),List.takeWhile_cons,hs]
   have h1:aU (mkS [x])=false:=by simp[aU,gw,hs]
   simp[h1,hnil]
end
end Go.Ev
