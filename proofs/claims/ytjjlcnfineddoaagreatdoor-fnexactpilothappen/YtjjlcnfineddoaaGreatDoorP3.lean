/- Proved here: the law FnExactPilotHappenCard of the given program answers true at every input, and leaves the input as it was; no condition. This text: lemmas on the way (an evaluator of the program's code, sound once for all; the functions it prints; plain proofs on these). -/
import Derived.Test.YtjjlcnfineddoaaGreatDoorP2
set_option linter.all false
set_option autoImplicit false
set_option maxRecDepth 100000
namespace Go.Ev
open Go.Proofs
noncomputable section
def aY.d1 (a b c:C):R:=(bif b.B then (some (.ret [.b false])) else (some (.again [.i (w64 (a.I+1)),c])))
def aY.d2 (a b c d e f g:C):R:=(cJ (bif b.B then (aa (aX [e]) fun h=>(bif (!(!h.B)) then (bif (!b.B) then (bif (!(!(e.S.toList==(bs #[]).toList))) then (bif (d.I==2) then (aa (aX [f]) fun i=>(bif (!(!i.B)) then (bif (d.I !=2) then (some (.nrm [a,.b (!(f.S.toList==(bs #[]).toList)),c])) else (some (.nrm [a,.b false,c]))) else (some (.nrm [a,.b true,c])))) else (bif (d.I !=2) then (some (.nrm [a,.b (!(f.S.toList==(bs #[]).toList)),c])) else (some (.nrm [a,.b false,c])))) else (some (.nrm [a,.b true,c]))) else (bif (d.I==2) then (aa (aX [f]) fun j=>(bif (!(!j.B)) then (bif (d.I !=2) then (some (.nrm [a,.b (!(f.S.toList==(bs #[]).toList)),c])) else (some (.nrm [a,.b false,c]))) else (some (.nrm [a,.b true,c])))) else (bif (d.I !=2) then (some (.nrm [a,.b (!(f.S.toList==(bs #[]).toList)),c])) else (some (.nrm [a,.b false,c]))))) else (some (.nrm [a,.b true,c])))) else (bif (!b.B) then (bif (!(!(e.S.toList==(bs #[]).toList))) then (bif (d.I==2) then (aa (aX [f]) fun k=>(bif (!(!k.B)) then (bif (d.I !=2) then (some (.nrm [a,.b (!(f.S.toList==(bs #[]).toList)),c])) else (some (.nrm [a,.b false,c]))) else (some (.nrm [a,.b true,c])))) else (bif (d.I !=2) then (some (.nrm [a,.b (!(f.S.toList==(bs #[]).toList)),c])) else (some (.nrm [a,.b false,c])))) else (some (.nrm [a,.b true,c]))) else (bif (d.I==2) then (aa (aX [f]) fun l=>(bif (!(!l.B)) then (bif (d.I !=2) then (some (.nrm [a,.b (!(f.S.toList==(bs #[]).toList)),c])) else (some (.nrm [a,.b false,c]))) else (some (.nrm [a,.b true,c])))) else (bif (d.I !=2) then (some (.nrm [a,.b (!(f.S.toList==(bs #[]).toList)),c])) else (some (.nrm [a,.b false,c])))))) (apn 3 aY.d1))
def aY.d3 (a b c d e f:C):R:=(cJ (bif (!(c.I==1)) then (some (.nrm [a,.b (c.I==2),b,c,d,e,f])) else (some (.nrm [a,.b true,b,c,d,e,f]))) (apn 7 aY.d2))
def aY.d4 (a b:C):R:=(bif (decide (a.I<(b.L.length:Int))) then (bif (decide (0≤a.I)) then (bif (decide (a.I<(b.L.length:Int))) then (cJ (aa (gD [((b.L.getD a.I.toNat []).getD 0 .nil),.i 0,.i 5]) fun c=>(bif (!(!c.B)) then (bif (decide (0≤((b.L.getD a.I.toNat []).getD 0 .nil).I)) then (bif (decide (((b.L.getD a.I.toNat []).getD 0 .nil).I<((rows [[.i 0],[.i 0],[.i 0],[.i 1],[.i 2],[.i 2]]).length:Int))) then (bif (!(((b.L.getD a.I.toNat []).getD 3 .nil).I !=(((rows [[.i 0],[.i 0],[.i 0],[.i 1],[.i 2],[.i 2]]).getD (((b.L.getD a.I.toNat []).getD 0 .nil).I).toNat []).getD 0 .nil).I)) then (bif (((b.L.getD a.I.toNat []).getD 0 .nil).I==0) then (bif (decide ((b.L.length:Int)>1)) then (some (.ret [.b false])) else (some (.nrm [a,b,((b.L.getD a.I.toNat []).getD 0 .nil),((b.L.getD a.I.toNat []).getD 1 .nil),((b.L.getD a.I.toNat []).getD 2 .nil),((b.L.getD a.I.toNat []).getD 3 .nil)]))) else (some (.nrm [a,b,((b.L.getD a.I.toNat []).getD 0 .nil),((b.L.getD a.I.toNat []).getD 1 .nil),((b.L.getD a.I.toNat []).getD 2 .nil),((b.L.getD a.I.toNat []).getD 3 .nil)]))) else (some (.ret [.b false]))) else none) else none) else (some (.ret [.b false])))) (apn 6 aY.d3)) else none) else none) else (some (.brk 0 [])))
def aY.d5:R:=(some (.ret [.b true]))
def aY.d6 (a:C):R:=(bif (decide ((a.L.length:Int)>400)) then (some (.ret [.b false])) else (call2 (eh [a]) fun b c=>(bif (!b.B) then (some (.ret [.b false])) else (aq 0 (lim (apn 2 aY.d4) [.i 0,a]) (fun xs=>aY.d5)))))
def aY:List C→Option (List C):=fun xs=>ba (apn 1 aY.d6 xs)
def qz:FS:=⟨1,⟨[(0,(.ag [(zl 190)]))],[]⟩,⟨[(0,zo)],[]⟩,[],aY⟩
theorem Bk:aG Tryz.checked.prog T0 160 qz:=bw aE (fn:=Tryz.f160) (c:=Tryz.f160.body.getD .skip) qz (.seq .leaf (.seq .leaf (.seq .leaf (.seq .leaf (.seq (.seq .leaf (.block ⟨[],[]⟩ (.loop ⟨[(1,(.pt 1 0)),(5,zi)],[(1,.var 155 [(zl 190)])]⟩ (.seq .leaf (.seq (.skip (.seq .leaf (.seq (.join ⟨[(1,(.pt 1 0)),(5,zi),(6,(.pt 6 0))],[(1,.var 155 [(zl 190)]),(6,.var 190 [zi,zt,zt,zi])]⟩ .leaf) (.seq (.join ⟨[(1,(.pt 1 0)),(5,zi),(6,(.pt 6 0)),(7,zo)],[(1,.var 155 [(zl 190)]),(6,.var 190 [zi,zt,zt,zi])]⟩ .leaf) (.seq (.join ⟨[(1,(.pt 1 0)),(5,zi),(100,zo)],[(1,.var 155 [(zl 190)])]⟩ .leaf) .leaf))))) .leaf))))) .leaf))))) [(39,some 33,eO),(84,some 68,cx),(84,some 87,cx),(143,some 14,nD)] (.cons fq (.cons cN (.cons cN (.cons vP .nil)))) (by kernel_rfl) (by kernel_rfl) (by kernel_rfl) (fun xs=>by kernel_rfl)
def bC.d1 (G0:List C→Option (List C)) (a b c d:C):R:=(bif (decide (0≤b.I)) then (bif (decide (b.I<(a.L.length:Int))) then (bif (decide (d.I<((((a.L.getD b.I.toNat []).getD 0 .nil).L).length:Int))) then (bif (decide (0≤b.I)) then (bif (decide (b.I<(a.L.length:Int))) then (bif (decide (0≤d.I)) then (bif (decide (d.I<((((a.L.getD b.I.toNat []).getD 0 .nil).L).length:Int))) then (aa (G0 [a,(((((a.L.getD b.I.toNat []).getD 0 .nil).L).getD d.I.toNat []).getD 0 .nil)]) fun e=>(bif (decide ((w64 (e.I+1))>c.I)) then (some (.again [a,b,.i (w64 (e.I+1)),.i (w64 (d.I+1))])) else (some (.again [a,b,c,.i (w64 (d.I+1))])))) else none) else none) else none) else none) else (some (.brk 0 [c]))) else none) else none)
def bC.d2 (G0:List C→Option (List C)) (a:C):R:=(some (.ret [a]))
def bC.d3 (G0:List C→Option (List C)) (a b:C):R:=(aq 0 (lim (apn 4 (bC.d1 G0)) [a,b,.i 0,.i 0]) (apn 1 (bC.d2 G0)))
def bC.step (G0:List C→Option (List C)):List C→Option (List C):=fun xs=>ba (apn 2 (bC.d3 G0) xs)
def hP (G:List C→Option (List C)):FS:=⟨2,⟨[(0,(.d (.sl 67))),(1,(.d (.int .i64)))],[]⟩,⟨[(0,(.d (.int .i64)))],[]⟩,[],G⟩
theorem A7 {G0:List C→Option (List C)} (h0:aG Tryz.checked.prog T0 161 (hP G0)):aG Tryz.checked.prog T0 161 (hP (bC.step G0)):=bw aE (fn:=Tryz.f161) (c:=Tryz.f161.body.getD .skip) (hP (bC.step G0)) (.seq .leaf (.seq .leaf (.seq (.seq .leaf (.block ⟨[(5,(.d (.int .i64)))],[]⟩ (.loop ⟨[(0,(.d (.sl 67))),(1,(.d (.int .i64))),(5,(.d (.int .i64))),(6,(.d (.int .i64)))],[]⟩ .leaf))) .leaf))) [(161,some 25,(hP G0))] (.cons h0 .nil) (by kernel_rfl) (by kernel_rfl) (by kernel_rfl) (fun xs=>by kernel_rfl)
def bC.g:Nat→Nat→List C→Option (List C)
 |0,_=>fun _=>none
 |k+1,0=>bC.step (bC.g k 0)
 |_,_=>fun _=>none
theorem tj:∀k:Nat,aG Tryz.checked.prog T0 161 (hP (bC.g k 0))
 |0=>pZ (fn:=Tryz.f161) (c:=Tryz.f161.body.getD .skip) (2) (⟨[(0,(.d (.sl 67))),(1,(.d (.int .i64)))],[]⟩) (⟨[(0,(.d (.int .i64)))],[]⟩) [] (by kernel_rfl) (by kernel_rfl) (by kernel_rfl)
 |k+1=>A7 (tj k)
def bC:List C→Option (List C):=bC.g p8 0
theorem AN:aG Tryz.checked.prog T0 161 (hP bC):=tj p8
def kI.d1 (a:C):R:=(aa (aY [a]) fun b=>(bif (!b.B) then (some (.ret [.b false])) else (call2 (eh [a]) fun c d=>(aa (bC [.l d.L,.i (w64 ((a.L.length:Int)-1))]) fun e=>(some (.ret [.b (decide (e.I≤20))]))))))
def kI:List C→Option (List C):=fun xs=>ba (apn 1 kI.d1 xs)
def o9:FS:=⟨1,⟨[(0,(.ag [(zl 190)]))],[]⟩,⟨[(0,zo)],[]⟩,[],kI⟩
theorem zT:aG Tryz.checked.prog T0 142 o9:=bw aE (fn:=Tryz.f142) (c:=Tryz.f142.body.getD .skip) o9 .leaf [(143,some 10,nD),(160,some 6,qz),(161,some 18,(hP bC))] (.cons vP (.cons Bk (.cons AN .nil))) (by kernel_rfl) (by kernel_rfl) (by kernel_rfl) (fun xs=>by kernel_rfl)
def gE.d1 (a:C):R:=(bif (decide ((a.S.size:Int)>200)) then (some (.ret [.l aB,.i 1])) else (call2 (aC [a]) fun b c=>(bif (!b.B) then (some (.ret [.l aB,.i 2])) else (bif ((c.L.length:Int)==0) then (some (.ret [.l (rows [[.i 0,.s (bs #[]),.s (bs #[]),.i 0]]),.i 0])) else (call4 (af [.l c.L,.i 0,.b false]) fun d e f g=>(bif (!g.B) then (bif (decide (f.I<(c.L.length:Int))) then (some (.ret [.l aB,.i 2])) else (aa (kI [d]) fun h=>(bif (!h.B) then (some (.ret [.l aB,.i 3])) else (some (.ret [d,.i 0]))))) else (some (.ret [.l aB,.i 2]))))))))
def gE:List C→Option (List C):=fun xs=>ba (apn 1 gE.d1 xs)
def lI:FS:=⟨1,⟨[(0,zt)],[]⟩,⟨[(0,(.tu [(.ag [(zl 190)]),zi]))],[]⟩,[],gE⟩
theorem vZ:aG Tryz.checked.prog T0 137 lI:=bw aE (fn:=Tryz.f137) (c:=Tryz.f137.body.getD .skip) lI (.seq .leaf (.seq .leaf (.seq .leaf (.seq .leaf (.seq (.seq .leaf (.cond (.seq .leaf (.frz [24] .leaf)) .leaf)) (.seq .leaf (.seq (.frz [64440] .leaf) .leaf))))))) [(142,some 47,o9),(157,some 14,nJ),(158,some 30,(dC af))] (.cons zT (.cons yo (.cons u9 .nil))) (by kernel_rfl) (by kernel_rfl) (by kernel_rfl) (fun xs=>by kernel_rfl)
def fG.d1 (a:C):R:=(call2 (gE [a]) fun b c=>(some (.ret [.b (c.I==0)])))
def fG:List C→Option (List C):=fun xs=>ba (apn 1 fG.d1 xs)
def jk:FS:=⟨1,⟨[(0,zt)],[]⟩,⟨[(0,zo)],[]⟩,[],fG⟩
theorem pH:aG Tryz.checked.prog T0 120 jk:=bw aE (fn:=Tryz.f120) (c:=Tryz.f120.body.getD .skip) jk .leaf [(137,some 7,lI)] (.cons vZ .nil) (by kernel_rfl) (by kernel_rfl) (by kernel_rfl) (fun xs=>by kernel_rfl)
def ca.d1 (a b c d e f g h i j k l m:C):R:=(bif (decide (a.I<(i.L.length:Int))) then (bif (decide (0≤a.I)) then (bif (decide (a.I<(i.L.length:Int))) then (aa (fG [((i.L.getD a.I.toNat []).getD 0 .nil)]) fun n=>(bif (!(!n.B)) then (bif (decide (0≤a.I)) then (bif (decide (a.I<(i.L.length:Int))) then (aa (gD [((i.L.getD a.I.toNat []).getD 1 .nil),.i (-9),.i 9]) fun o=>(bif (!o.B) then (some (.ret [.b false])) else (some (.again [.i (w64 (a.I+1)),b,c,d,e,f,g,h,i,j,k,l,m])))) else none) else none) else (some (.ret [.b false])))) else none) else none) else (some (.brk 0 [])))
def ca.d2:R:=(some (.ret [.b true]))
def ca.d3 (a b c d e f g h i j k l m:C):R:=(bif a.B then (some (.ret [.b false])) else (aq 0 (lim (apn 13 ca.d1) [.i 0,b,c,d,e,f,g,h,i,j,k,l,m]) (fun xs=>ca.d2)))
def ca.d4 (a b c d e f g h i j k l:C):R:=(aa (aX [a]) fun m=>(bif (!(!m.B)) then (aa (aX [b]) fun n=>(bif (!(!n.B)) then (aa (gD [c,.i 0,.i 100]) fun o=>(bif (!(!o.B)) then (aa (gD [d,.i 0,.i 1000000]) fun p=>(bif (!(!p.B)) then (aa (gD [e,.i 0,.i 1000]) fun q=>(bif (!(!q.B)) then (aa (gD [f,.i 0,.i 1000]) fun r=>(bif (!r.B) then (some (.ret [.b false])) else (cJ (aa (fG [g]) fun s=>(bif (!(!s.B)) then (bif (!(decide ((h.L.length:Int)>5))) then (aa (gD [i,.i 0,.i 2]) fun t=>(bif (!(!t.B)) then (bif (!(j.S.toList==(bs #[]).toList)) then (aa (aX [j]) fun u=>(bif (!(!u.B)) then (bif (!(k.S.toList==(bs #[]).toList)) then (aa (aX [k]) fun v=>(some (.nrm [.b (!v.B),a,b,c,d,e,f,g,h,i,j,k,l]))) else (some (.nrm [.b false,a,b,c,d,e,f,g,h,i,j,k,l]))) else (some (.nrm [.b true,a,b,c,d,e,f,g,h,i,j,k,l])))) else (bif (!(k.S.toList==(bs #[]).toList)) then (aa (aX [k]) fun w=>(some (.nrm [.b (!w.B),a,b,c,d,e,f,g,h,i,j,k,l]))) else (some (.nrm [.b false,a,b,c,d,e,f,g,h,i,j,k,l])))) else (some (.nrm [.b true,a,b,c,d,e,f,g,h,i,j,k,l])))) else (some (.nrm [.b true,a,b,c,d,e,f,g,h,i,j,k,l]))) else (some (.nrm [.b true,a,b,c,d,e,f,g,h,i,j,k,l])))) (apn 13 ca.d3)))) else (some (.ret [.b false])))) else (some (.ret [.b false])))) else (some (.ret [.b false])))) else (some (.ret [.b false])))) else (some (.ret [.b false]))))
def ca:List C→Option (List C):=fun xs=>ba (apn 12 ca.d4 xs)
def nK:FS:=⟨1,⟨[(0,z4)],[]⟩,⟨[(0,zo)],[]⟩,[],ca⟩
theorem yE:aG Tryz.checked.prog T0 85 nK:=bw aE (fn:=Tryz.f85) (c:=Tryz.f85.body.getD .skip) nK (.seq .leaf (.seq .leaf (.seq (.seq (.join ⟨[(1,(.pt 1 0)),(75,zo)],[(1,z8)]⟩ .leaf) .leaf) (.seq (.seq .leaf (.block ⟨[],[]⟩ (.loop ⟨[(1,(.pt 1 0)),(3,zi)],[(1,z8)]⟩ .leaf))) .leaf)))) [(39,some 17,eO),(39,some 23,eO),(39,some 29,eO),(39,some 35,eO),(39,some 51,eO),(39,some 98,eO),(84,some 6,cx),(84,some 11,cx),(84,some 61,cx),(84,some 72,cx),(120,some 40,jk),(120,some 89,jk)] (.cons fq (.cons fq (.cons fq (.cons fq (.cons fq (.cons fq (.cons cN (.cons cN (.cons cN (.cons cN (.cons pH (.cons pH .nil)))))))))))) (by kernel_rfl) (by kernel_rfl) (by kernel_rfl) (fun xs=>by kernel_rfl)
def cS.d1 (a b c d e f:C):R:=(bif (decide (b.I<(e.L.length:Int))) then (bif (decide (0≤b.I)) then (bif (decide (b.I<(e.L.length:Int))) then (bif ((((e.L.getD b.I.toNat []).getD 0 .nil).S).toList==a.S.toList) then (some (.ret [b])) else (some (.again [a,.i (w64 (b.I+1)),c,d,e,f]))) else none) else none) else (some (.brk 0 [])))
def cS.d2:R:=(some (.ret [.i (-1)]))
def cS.d3 (a b c d e:C):R:=(aq 0 (lim (apn 6 cS.d1) [e,.i 0,a,b,c,d]) (fun xs=>cS.d2))
def cS:List C→Option (List C):=fun xs=>ba (apn 5 cS.d3 xs)
def mz:FS:=⟨2,⟨[(0,z2),(1,zt)],[]⟩,⟨[(0,zi)],[]⟩,[],cS⟩
theorem wT:aG Tryz.checked.prog T0 86 mz:=bw aE (fn:=Tryz.f86) (c:=Tryz.f86.body.getD .skip) mz (.seq .leaf (.seq (.seq .leaf (.block ⟨[],[]⟩ (.loop ⟨[(1,zt),(2,(.pt 2 0)),(5,zi)],[(2,z0)]⟩ .leaf))) .leaf)) [] .nil (by kernel_rfl) (by kernel_rfl) (by kernel_rfl) (fun xs=>by kernel_rfl)
def dA.d1 (a b c d e f:C):R:=(bif (decide (b.I<(d.L.length:Int))) then (bif (decide (0≤b.I)) then (bif (decide (b.I<(d.L.length:Int))) then (bif ((((d.L.getD b.I.toNat []).getD 0 .nil).S).toList==a.S.toList) then (some (.ret [b])) else (some (.again [a,.i (w64 (b.I+1)),c,d,e,f]))) else none) else none) else (some (.brk 0 [])))
def dA.d2:R:=(some (.ret [.i (-1)]))
def dA.d3 (a b c d e:C):R:=(aq 0 (lim (apn 6 dA.d1) [e,.i 0,a,b,c,d]) (fun xs=>dA.d2))
def dA:List C→Option (List C):=fun xs=>ba (apn 5 dA.d3 xs)
def iC:FS:=⟨2,⟨[(0,z2),(1,zt)],[]⟩,⟨[(0,zi)],[]⟩,[],dA⟩
theorem lS:aG Tryz.checked.prog T0 87 iC:=bw aE (fn:=Tryz.f87) (c:=Tryz.f87.body.getD .skip) iC (.seq .leaf (.seq (.seq .leaf (.block ⟨[],[]⟩ (.loop ⟨[(1,zt),(2,(.pt 2 0)),(5,zi)],[(2,z0)]⟩ .leaf))) .leaf)) [] .nil (by kernel_rfl) (by kernel_rfl) (by kernel_rfl) (fun xs=>by kernel_rfl)
def bJ.d1 (a b c d e f g h i:C):R:=(bif e.B then (bif (decide (0≤d.I)) then (bif (decide (d.I<(i.L.length:Int))) then (bif (decide (0≤d.I)) then (bif (decide (d.I<(i.L.length:Int))) then (some (.again [a,.i (w64 (b.I+((i.L.getD d.I.toNat []).getD 4 .nil).I)),.i (w64 (c.I+((i.L.getD d.I.toNat []).getD 5 .nil).I)),.i (w64 (d.I+1)),f,g,h,i])) else none) else none) else none) else none) else (some (.again [a,b,c,.i (w64 (d.I+1)),f,g,h,i])))
def bJ.d2 (a b c d e f g h:C):R:=(bif (decide (d.I<(h.L.length:Int))) then (cJ (bif (!(a.S.toList==(bs #[]).toList)) then (bif (decide (0≤d.I)) then (bif (decide (d.I<(h.L.length:Int))) then (some (.nrm [a,b,c,d,.b ((((h.L.getD d.I.toNat []).getD 11 .nil).S).toList==a.S.toList),e,f,g,h])) else none) else none) else (some (.nrm [a,b,c,d,.b false,e,f,g,h]))) (apn 9 bJ.d1)) else (some (.brk 0 [b,c])))
def bJ.d3 (a b:C):R:=(some (.ret [a,b]))
def bJ.d4 (a b c d e:C):R:=(aa (dA [a,b,c,d,e]) fun f=>(bif (decide (f.I<0)) then (some (.ret [.i 0,.i 0])) else (aq 0 (lim (apn 8 bJ.d2) [e,.i 0,.i 0,.i 0,a,b,c,d]) (apn 2 bJ.d3))))
def bJ:List C→Option (List C):=fun xs=>ba (apn 5 bJ.d4 xs)
def mJ:FS:=⟨2,⟨[(0,z2),(1,zt)],[]⟩,⟨[(0,(.tu [zi,zi]))],[]⟩,[],bJ⟩
theorem xD:aG Tryz.checked.prog T0 88 mJ:=bw aE (fn:=Tryz.f88) (c:=Tryz.f88.body.getD .skip) mJ (.seq .leaf (.seq .leaf (.seq .leaf (.seq .leaf (.seq (.seq .leaf (.block ⟨[(6,zi),(7,zi)],[]⟩ (.loop ⟨[(1,zt),(2,(.pt 2 0)),(6,zi),(7,zi),(8,zi)],[(2,z0)]⟩ (.seq .leaf (.seq (.skip (.seq (.join ⟨[(1,zt),(2,(.pt 2 0)),(6,zi),(7,zi),(8,zi),(31,zo)],[(2,z0)]⟩ .leaf) .leaf)) .leaf))))) .leaf))))) [(87,some 11,iC)] (.cons lS .nil) (by kernel_rfl) (by kernel_rfl) (by kernel_rfl) (fun xs=>by kernel_rfl)
def dQ.d1 (a b:C):R:=(bif (decide (b.I<(a.S.size:Int))) then (bif (decide (0≤b.I)) then (bif (decide (b.I<(a.S.size:Int))) then (bif (((a.S.data.getD b.I.toNat 0).toNat:Int)==61) then (bif (decide (0≤b.I)) then (bif (decide (b.I≤(a.S.size:Int))) then (bif (decide (0≤(w64 (b.I+1)))) then (bif (decide ((w64 (b.I+1))≤(a.S.size:Int))) then (bif (decide ((a.S.size:Int)≤(a.S.size:Int))) then (bif (decide (0≤b.I)) then (bif (decide (b.I≤(a.S.size:Int))) then (aa (aX [.s (a.S.extract 0 b.I.toNat)]) fun c=>(bif c.B then (bif (decide (0≤(w64 (b.I+1)))) then (bif (decide ((w64 (b.I+1))≤(a.S.size:Int))) then (bif (decide ((a.S.size:Int)≤(a.S.size:Int))) then (aa (aX [.s (a.S.extract (w64 (b.I+1)).toNat (a.S.size:Int).toNat)]) fun d=>(some (.ret [.s (a.S.extract 0 b.I.toNat),.s (a.S.extract (w64 (b.I+1)).toNat (a.S.size:Int).toNat),.b d.B]))) else none) else none) else none) else (some (.ret [.s (a.S.extract 0 b.I.toNat),.s (a.S.extract (w64 (b.I+1)).toNat (a.S.size:Int).toNat),.b false])))) else none) else none) else none) else none) else none) else none) else none) else (some (.again [a,.i (w64 (b.I+1))]))) else none) else none) else (some (.brk 0 [a])))
def dQ.d2 (a:C):R:=(aa (aX [a]) fun b=>(some (.ret [a,.s (bs #[]),.b b.B])))
def dQ.d3 (a:C):R:=(aq 0 (lim (apn 2 dQ.d1) [a,.i 0]) (apn 1 dQ.d2))
def dQ:List C→Option (List C):=fun xs=>ba (apn 1 dQ.d3 xs)
def nx:FS:=⟨1,⟨[(0,zt)],[]⟩,⟨[(0,(.tu [zt,zt,zo]))],[]⟩,[],dQ⟩
theorem vT:aG Tryz.checked.prog T0 138 nx:=bw aE (fn:=Tryz.f138) (c:=Tryz.f138.body.getD .skip) nx (.seq .leaf (.seq (.seq .leaf (.block ⟨[(0,zt)],[]⟩ (.loop ⟨[(0,zt),(5,zi)],[]⟩ .leaf))) .leaf)) [(84,some 26,cx),(84,some 32,cx),(84,some 36,cx)] (.cons cN (.cons cN (.cons cN .nil))) (by kernel_rfl) (by kernel_rfl) (by kernel_rfl) (fun xs=>by kernel_rfl)
def aZ.d1 (a b c d:C):R:=(bif (decide (d.I<b.I)) then (bif (decide (0≤d.I)) then (bif (decide (d.I<(a.L.length:Int))) then (call3 (dQ [((a.L.getD d.I.toNat []).getD 0 .nil)]) fun e f g=>(bif (e.S.toList==c.S.toList) then (some (.ret [.b false])) else (some (.again [a,b,c,.i (w64 (d.I+1))])))) else none) else none) else (some (.brk 2 [a,b,c])))
def aZ.d2 (a b c:C):R:=(some (.again [a,c,.i (w64 (b.I+1))]))
def aZ.d3 (a b c:C):R:=(aq 2 (lim (apn 4 aZ.d1) [a,b,c,.i 0]) (apn 3 aZ.d2))
def aZ.d4 (a b c:C):R:=(bif (decide (c.I<(a.L.length:Int))) then (bif (decide (0≤c.I)) then (bif (decide (c.I<(a.L.length:Int))) then (call3 (dQ [((a.L.getD c.I.toNat []).getD 0 .nil)]) fun d e f=>(cJ (bif (!(!f.B)) then (bif (decide (c.I>0)) then (bif (decide (0≤(w64 (c.I-1)))) then (bif (decide ((w64 (c.I-1))<(a.L.length:Int))) then (bif (decide (0≤c.I)) then (bif (decide (c.I<(a.L.length:Int))) then (bif (!(!(Op.bytesLess (((a.L.getD (w64 (c.I-1)).toNat []).getD 0 .nil).S).toList (((a.L.getD c.I.toNat []).getD 0 .nil).S).toList))) then (bif (d.S.toList==b.S.toList) then (some (.ret [.b false])) else (some (.nrm [a,c,d]))) else (some (.ret [.b false]))) else none) else none) else none) else none) else (some (.nrm [a,c,d]))) else (some (.ret [.b false]))) (apn 3 aZ.d3))) else none) else none) else (some (.brk 0 [])))
def aZ.d5:R:=(some (.ret [.b true]))
def aZ.d6 (a:C):R:=(bif (decide ((a.L.length:Int)>10)) then (some (.ret [.b false])) else (aq 0 (lim (apn 3 aZ.d4) [a,.s (bs #[]),.i 0]) (fun xs=>aZ.d5)))
def aZ:List C→Option (List C):=fun xs=>ba (apn 1 aZ.d6 xs)
def mN:FS:=⟨1,⟨[(0,(zl 9))],[]⟩,⟨[(0,zo)],[]⟩,[],aZ⟩
theorem xR:aG Tryz.checked.prog T0 121 mN:=bw aE (fn:=Tryz.f121) (c:=Tryz.f121.body.getD .skip) mN (.seq .leaf (.seq .leaf (.seq .leaf (.seq (.seq .leaf (.block ⟨[],[]⟩ (.loop ⟨[(0,(zl 9)),(3,zt),(4,zi)],[]⟩ (.seq .leaf (.seq (.skip (.seq .leaf (.seq (.join ⟨[(0,(zl 9)),(4,zi),(5,zt)],[]⟩ .leaf) (.seq (.seq .leaf (.block ⟨[(0,(zl 9)),(4,zi),(5,zt)],[]⟩ (.loop ⟨[(0,(zl 9)),(4,zi),(5,zt),(8,zi)],[]⟩ .leaf))) .leaf)))) .leaf))))) .leaf)))) [(138,some 26,nx),(138,some 63,nx)] (.cons vT (.cons vT .nil)) (by kernel_rfl) (by kernel_rfl) (by kernel_rfl) (fun xs=>by kernel_rfl)
def iu.d1 (a b c d e f:C):R:=(aa (aX [a]) fun g=>(bif g.B then (aa (aX [b]) fun h=>(bif h.B then (aa (aZ [c]) fun i=>(bif i.B then (aa (gD [d,.i 0,.i 1000]) fun j=>(bif j.B then (aa (gD [e,.i 0,.i 1000]) fun k=>(some (.ret [.b k.B]))) else (some (.ret [.b false])))) else (some (.ret [.b false])))) else (some (.ret [.b false])))) else (some (.ret [.b false]))))
def iu:List C→Option (List C):=fun xs=>ba (apn 6 iu.d1 xs)
def mm:FS:=⟨1,⟨[(0,z6)],[]⟩,⟨[(0,zo)],[]⟩,[],iu⟩
theorem yn:aG Tryz.checked.prog T0 89 mm:=bw aE (fn:=Tryz.f89) (c:=Tryz.f89.body.getD .skip) mm .leaf [(39,some 19,eO),(39,some 24,eO),(84,some 5,cx),(84,some 9,cx),(121,some 14,mN)] (.cons fq (.cons fq (.cons cN (.cons cN (.cons xR .nil))))) (by kernel_rfl) (by kernel_rfl) (by kernel_rfl) (fun xs=>by kernel_rfl)
def ek.d1 (a b c d e f g:C):R:=(bif (decide (c.I<(g.L.length:Int))) then (bif (decide (0≤c.I)) then (bif (decide (c.I<(g.L.length:Int))) then (bif ((((g.L.getD c.I.toNat []).getD 11 .nil).S).toList==a.S.toList) then (some (.again [a,.i (w64 (b.I+1)),.i (w64 (c.I+1)),d,e,f,g])) else (some (.again [a,b,.i (w64 (c.I+1)),d,e,f,g]))) else none) else none) else (some (.brk 0 [b])))
def ek.d2 (a:C):R:=(some (.ret [a]))
def ek.d3 (a b c d e:C):R:=(aq 0 (lim (apn 7 ek.d1) [e,.i 0,.i 0,a,b,c,d]) (apn 1 ek.d2))
def ek:List C→Option (List C):=fun xs=>ba (apn 5 ek.d3 xs)
def pj:FS:=⟨2,⟨[(0,z2),(1,zt)],[]⟩,⟨[(0,zi)],[]⟩,[],ek⟩
theorem zZ:aG Tryz.checked.prog T0 90 pj:=bw aE (fn:=Tryz.f90) (c:=Tryz.f90.body.getD .skip) pj (.seq .leaf (.seq .leaf (.seq (.seq .leaf (.block ⟨[(5,zi)],[]⟩ (.loop ⟨[(1,zt),(2,(.pt 2 0)),(5,zi),(6,zi)],[(2,z0)]⟩ .leaf))) .leaf))) [] .nil (by kernel_rfl) (by kernel_rfl) (by kernel_rfl) (fun xs=>by kernel_rfl)
def az.d1 (a b c d e:C):R:=(bif (decide (a.I<(d.L.length:Int))) then (bif (decide (0≤a.I)) then (bif (decide (a.I<(d.L.length:Int))) then (aa (aX [((d.L.getD a.I.toNat []).getD 0 .nil)]) fun f=>(bif (!(!f.B)) then (bif (decide (a.I>0)) then (bif (decide (0≤(w64 (a.I-1)))) then (bif (decide ((w64 (a.I-1))<(d.L.length:Int))) then (bif (!(!(Op.bytesLess (((d.L.getD (w64 (a.I-1)).toNat []).getD 0 .nil).S).toList (((d.L.getD a.I.toNat []).getD 0 .nil).S).toList))) then (aa (gD [((d.L.getD a.I.toNat []).getD 1 .nil),.i 0,.i 60]) fun g=>(bif (!g.B) then (some (.ret [.b false])) else (some (.again [.i (w64 (a.I+1)),b,c,d,e])))) else (some (.ret [.b false]))) else none) else none) else (aa (gD [((d.L.getD a.I.toNat []).getD 1 .nil),.i 0,.i 60]) fun h=>(bif (!h.B) then (some (.ret [.b false])) else (some (.again [.i (w64 (a.I+1)),b,c,d,e]))))) else (some (.ret [.b false])))) else none) else none) else (some (.brk 0 [b,c,d,e])))
def az.d2 (a b c d e f:C):R:=(bif b.B then (some (.ret [.b false])) else (some (.again [.i (w64 (a.I+1)),c,d,e,f])))
def az.d3 (a b c d e:C):R:=(bif (decide (a.I<(e.L.length:Int))) then (bif (decide (0≤a.I)) then (bif (decide (a.I<(e.L.length:Int))) then (cJ (aa (ca [((e.L.getD a.I.toNat []).getD 0 .nil),((e.L.getD a.I.toNat []).getD 1 .nil),((e.L.getD a.I.toNat []).getD 2 .nil),((e.L.getD a.I.toNat []).getD 3 .nil),((e.L.getD a.I.toNat []).getD 4 .nil),((e.L.getD a.I.toNat []).getD 5 .nil),((e.L.getD a.I.toNat []).getD 6 .nil),((e.L.getD a.I.toNat []).getD 7 .nil),((e.L.getD a.I.toNat []).getD 8 .nil),((e.L.getD a.I.toNat []).getD 9 .nil),((e.L.getD a.I.toNat []).getD 10 .nil),((e.L.getD a.I.toNat []).getD 11 .nil)]) fun f=>(bif (!(!f.B)) then (bif (decide (a.I>0)) then (bif (decide (0≤(w64 (a.I-1)))) then (bif (decide ((w64 (a.I-1))<(e.L.length:Int))) then (bif (!(!(Op.bytesLess (((e.L.getD (w64 (a.I-1)).toNat []).getD 0 .nil).S).toList (((e.L.getD a.I.toNat []).getD 0 .nil).S).toList))) then (aa (cS [b,c,d,e,((e.L.getD a.I.toNat []).getD 1 .nil)]) fun g=>(bif (!(decide (g.I<0))) then (bif (!((((e.L.getD a.I.toNat []).getD 11 .nil).S).toList==(bs #[]).toList)) then (aa (dA [b,c,d,e,((e.L.getD a.I.toNat []).getD 11 .nil)]) fun h=>(some (.nrm [a,.b (decide (h.I<0)),b,c,d,e]))) else (some (.nrm [a,.b false,b,c,d,e]))) else (some (.nrm [a,.b true,b,c,d,e])))) else (some (.nrm [a,.b true,b,c,d,e]))) else none) else none) else (aa (cS [b,c,d,e,((e.L.getD a.I.toNat []).getD 1 .nil)]) fun i=>(bif (!(decide (i.I<0))) then (bif (!((((e.L.getD a.I.toNat []).getD 11 .nil).S).toList==(bs #[]).toList)) then (aa (dA [b,c,d,e,((e.L.getD a.I.toNat []).getD 11 .nil)]) fun j=>(some (.nrm [a,.b (decide (j.I<0)),b,c,d,e]))) else (some (.nrm [a,.b false,b,c,d,e]))) else (some (.nrm [a,.b true,b,c,d,e]))))) else (some (.nrm [a,.b true,b,c,d,e])))) (apn 6 az.d2)) else none) else none) else (some (.brk 2 [b,c,d,e])))
def az.d4 (a b c d e:C):R:=(bif (decide (a.I<(c.L.length:Int))) then (bif (decide (0≤a.I)) then (bif (decide (a.I<(c.L.length:Int))) then (call2 (bJ [b,c,d,e,((c.L.getD a.I.toNat []).getD 0 .nil)]) fun f g=>(aa (iu [((c.L.getD a.I.toNat []).getD 0 .nil),((c.L.getD a.I.toNat []).getD 1 .nil),((c.L.getD a.I.toNat []).getD 2 .nil),((c.L.getD a.I.toNat []).getD 3 .nil),((c.L.getD a.I.toNat []).getD 4 .nil),((c.L.getD a.I.toNat []).getD 5 .nil)]) fun h=>(bif (!(!h.B)) then (bif (decide (a.I>0)) then (bif (decide (0≤(w64 (a.I-1)))) then (bif (decide ((w64 (a.I-1))<(c.L.length:Int))) then (bif (!(!(Op.bytesLess (((c.L.getD (w64 (a.I-1)).toNat []).getD 0 .nil).S).toList (((c.L.getD a.I.toNat []).getD 0 .nil).S).toList))) then (bif (!(decide (f.I>((c.L.getD a.I.toNat []).getD 3 .nil).I))) then (bif (!(decide (g.I>((c.L.getD a.I.toNat []).getD 4 .nil).I))) then (aa (ek [b,c,d,e,((c.L.getD a.I.toNat []).getD 0 .nil)]) fun i=>(bif (decide (i.I>10)) then (some (.ret [.b false])) else (some (.again [.i (w64 (a.I+1)),b,c,d,e])))) else (some (.ret [.b false]))) else (some (.ret [.b false]))) else (some (.ret [.b false]))) else none) else none) else (bif (!(decide (f.I>((c.L.getD a.I.toNat []).getD 3 .nil).I))) then (bif (!(decide (g.I>((c.L.getD a.I.toNat []).getD 4 .nil).I))) then (aa (ek [b,c,d,e,((c.L.getD a.I.toNat []).getD 0 .nil)]) fun j=>(bif (decide (j.I>10)) then (some (.ret [.b false])) else (some (.again [.i (w64 (a.I+1)),b,c,d,e])))) else (some (.ret [.b false]))) else (some (.ret [.b false])))) else (some (.ret [.b false]))))) else none) else none) else (some (.brk 4 [])))
def az.d5:R:=(some (.ret [.b true]))
def az.d6 (a b c d:C):R:=(aq 4 (lim (apn 5 az.d4) [.i 0,a,b,c,d]) (fun xs=>az.d5))
def az.d7 (a b c d:C):R:=(aq 2 (lim (apn 5 az.d3) [.i 0,a,b,c,d]) (apn 4 az.d6))
def az.d8 (a b c d:C):R:=(bif (!(decide ((b.L.length:Int)>12))) then (bif (!(decide ((c.L.length:Int)>30))) then (bif (decide ((d.L.length:Int)>60)) then (some (.ret [.b false])) else (aq 0 (lim (apn 5 az.d1) [.i 0,a,b,c,d]) (apn 4 az.d7))) else (some (.ret [.b false]))) else (some (.ret [.b false])))
def az:List C→Option (List C):=fun xs=>ba (apn 4 az.d8 xs)
def jn:FS:=⟨1,⟨[(0,z2)],[]⟩,⟨[(0,zo)],[]⟩,[],az⟩
theorem pE:aG Tryz.checked.prog T0 37 jn:=bw aE (fn:=Tryz.f37) (c:=Tryz.f37.body.getD .skip) jn (.seq .leaf (.seq .leaf (.seq (.seq .leaf (.block ⟨[(1,(.pt 1 0))],[(1,z0)]⟩ (.loop ⟨[(1,(.pt 1 0)),(3,zi)],[(1,z0)]⟩ .leaf))) (.seq (.seq .leaf (.block ⟨[(1,(.pt 1 0))],[(1,z0)]⟩ (.loop ⟨[(1,(.pt 1 0)),(5,zi)],[(1,z0)]⟩ (.seq .leaf (.seq (.skip (.seq .leaf (.seq (.join ⟨[(1,(.pt 1 0)),(5,zi),(114,zo)],[(1,z0)]⟩ .leaf) .leaf))) .leaf))))) (.seq (.seq .leaf (.block ⟨[],[]⟩ (.loop ⟨[(1,(.pt 1 0)),(7,zi)],[(1,z0)]⟩ .leaf))) .leaf))))) [(39,some 62,eO),(84,some 41,cx),(85,some 78,nK),(86,some 100,mz),(87,some 111,iC),(88,some 131,mJ),(89,some 135,mm),(90,some 169,pj)] (.cons fq (.cons cN (.cons yE (.cons wT (.cons lS (.cons xD (.cons yn (.cons zZ .nil)))))))) (by kernel_rfl) (by kernel_rfl) (by kernel_rfl) (fun xs=>by kernel_rfl)
def gu.d1 (a b c d e f:C):R:=(bif (decide (aB.length+c.L.length≤4294967296)) then (some (.ret [a,b,d,e,f,.l (aB++c.L)])) else none)
def gu:List C→Option (List C):=fun xs=>ba (apn 6 gu.d1 xs)
def km:FS:=⟨1,⟨[(0,z6)],[]⟩,⟨[(0,(.ag [zt,zt,(.ow 3000),zi,zi,zo]))],[(3000,.arr 9 1)]⟩,[],gu⟩
theorem qH:aG Tryz.checked.prog T0 92 km:=bw aE (fn:=Tryz.f92) (c:=Tryz.f92.body.getD .skip) km .leaf [] .nil (by kernel_rfl) (by kernel_rfl) (by kernel_rfl) (fun xs=>by kernel_rfl)
def ir.d1 (a b c d e f g h i j k l:C):R:=(bif (decide (aB.length+h.L.length≤4294967296)) then (some (.ret [a,b,c,d,e,f,g,i,j,k,l,.l (aB++h.L)])) else none)
def ir:List C→Option (List C):=fun xs=>ba (apn 12 ir.d1 xs)
def kY:FS:=⟨1,⟨[(0,z4)],[]⟩,⟨[(0,(.ag [zt,zt,zi,zi,zi,zi,zt,(.ow 3000),zi,zt,zt,zt]))],[(3000,.arr 122 1)]⟩,[],ir⟩
theorem rP:aG Tryz.checked.prog T0 93 kY:=bw aE (fn:=Tryz.f93) (c:=Tryz.f93.body.getD .skip) kY .leaf [] .nil (by kernel_rfl) (by kernel_rfl) (by kernel_rfl) (fun xs=>by kernel_rfl)
def cB.d1 (a b c d e f g h i j k l m:C):R:=(bif (decide (a.I<(c.L.length:Int))) then (bif (decide (0≤a.I)) then (bif (decide (a.I<(c.L.length:Int))) then (call6 (gu [((c.L.getD a.I.toNat []).getD 0 .nil),((c.L.getD a.I.toNat []).getD 1 .nil),((c.L.getD a.I.toNat []).getD 2 .nil),((c.L.getD a.I.toNat []).getD 3 .nil),((c.L.getD a.I.toNat []).getD 4 .nil),((c.L.getD a.I.toNat []).getD 5 .nil)]) fun n o p q r s=>(bif (decide (k.L.length+(rows [[n,o,.l s.L,p,q,r]]).length≤4294967296)) then (some (.again [.i (w64 (a.I+1)),b,c,d,e,f,g,.l h.L,.l i.L,.l j.L,.l (k.L++(rows [[n,o,.l s.L,p,q,r]])),.l l.L,.l m.L])) else none)) else none) else none) else (some (.brk 0 [b,c,d,e,f,g,.l h.L,.l i.L,.l j.L,.l k.L,.l l.L,.l m.L])))
def cB.d2 (a b c d e f g h i j k l m:C):R:=(bif (decide (a.I<(e.L.length:Int))) then (bif (decide (0≤a.I)) then (bif (decide (a.I<(e.L.length:Int))) then (call12 (ir [((e.L.getD a.I.toNat []).getD 0 .nil),((e.L.getD a.I.toNat []).getD 1 .nil),((e.L.getD a.I.toNat []).getD 2 .nil),((e.L.getD a.I.toNat []).getD 3 .nil),((e.L.getD a.I.toNat []).getD 4 .nil),((e.L.getD a.I.toNat []).getD 5 .nil),((e.L.getD a.I.toNat []).getD 6 .nil),((e.L.getD a.I.toNat []).getD 7 .nil),((e.L.getD a.I.toNat []).getD 8 .nil),((e.L.getD a.I.toNat []).getD 9 .nil),((e.L.getD a.I.toNat []).getD 10 .nil),((e.L.getD a.I.toNat []).getD 11 .nil)]) fun n o p q r s t u v w x y=>(bif (decide (m.L.length+(rows [[n,o,p,q,r,s,t,.l y.L,u,v,w,x]]).length≤4294967296)) then (some (.again [.i (w64 (a.I+1)),b,c,d,e,f,g,.l h.L,.l i.L,.l j.L,.l k.L,.l l.L,.l (m.L++(rows [[n,o,p,q,r,s,t,.l y.L,u,v,w,x]]))])) else none)) else none) else none) else (some (.brk 2 [f,g,.l h.L,.l i.L,.l j.L,.l k.L,.l l.L,.l m.L])))
def cB.d3 (a b c d e f g h:C):R:=(some (.ret [b,.l f.L,.l g.L,.l h.L]))
def cB.d4 (a b c d e f g h i j k l:C):R:=(aq 2 (lim (apn 13 cB.d2) [.i 0,a,b,c,d,e,f,.l g.L,.l h.L,.l i.L,.l j.L,.l k.L,.l l.L]) (apn 8 cB.d3))
def cB.d5 (a b c d:C):R:=(bif (decide (aB.length+c.L.length≤4294967296)) then (aq 0 (lim (apn 13 cB.d1) [.i 0,a,b,c,d,.b false,.b a.B,.l aB,.l aB,.l aB,.l aB,.l (aB++c.L),.l aB]) (apn 12 cB.d4)) else none)
def cB:List C→Option (List C):=fun xs=>ba (apn 4 cB.d5 xs)
def oZ:FS:=⟨1,⟨[(0,z2)],[]⟩,⟨[(0,z7)],[(3000,.arr 30 1),(3001,.arr 86 1),(3002,.arr 33 1)]⟩,[],cB⟩
theorem Az:aG Tryz.checked.prog T0 91 oZ:=y3 aE [28,46] false (fn:=Tryz.f91) (c:=Tryz.f91.body.getD .skip) oZ (.seq .leaf (.seq .leaf (.seq (.seq .leaf (.block ⟨[(1,(.pt 1 0)),(2,(.pt 2 0)),(3,(.pt 3 0))],[(1,z0),(2,z9),(3,.var 27 [zo,(.ow 1169303),(.ow 8),(.ow 1169304)]),(1169300,.arr 30 1),(1169301,.arr 86 1),(1169302,.arr 33 1),(1169303,.arr 30 1),(8,.arr 86 1),(1169304,.arr 33 1)]⟩ (.loop ⟨[(1,(.pt 1 0)),(2,(.pt 2 0)),(3,(.pt 3 0)),(4,zi)],[(1,z0),(2,z9),(3,.var 27 [zo,(.ow 1169303),(.ow 8),(.ow 1169304)]),(1169300,.arr 30 1),(1169301,.arr 86 1),(1169302,.arr 33 1),(1169303,.arr 30 1),(8,.arr 86 1),(1169304,.arr 33 1)]⟩ .leaf))) (.seq (.seq .leaf (.block ⟨[(2,(.pt 2 0)),(3,(.pt 3 0))],[(2,z9),(3,.var 27 [zo,(.ow 1169303),(.ow 8),(.ow 1169304)]),(1169300,.arr 30 1),(1169301,.arr 86 1),(1169302,.arr 33 1),(1169303,.arr 30 1),(8,.arr 86 1),(1169304,.arr 33 1)]⟩ (.loop ⟨[(1,(.pt 1 0)),(2,(.pt 2 0)),(3,(.pt 3 0)),(5,zi)],[(1,z0),(2,z9),(3,.var 27 [zo,(.ow 1169303),(.ow 8),(.ow 1169304)]),(1169300,.arr 30 1),(1169301,.arr 86 1),(1169302,.arr 33 1),(1169303,.arr 30 1),(8,.arr 86 1),(1169304,.arr 33 1)]⟩ .leaf))) .leaf)))) [(92,some 27,km),(93,some 45,kY)] (.cons qH (.cons rP .nil)) (by kernel_rfl) (by kernel_rfl) (by kernel_rfl) (fun xs=>by kernel_rfl)
def eR.d1 (a b c d e f:C):R:=(bif (decide (b.I<(f.L.length:Int))) then (bif (decide (0≤b.I)) then (bif (decide (b.I<(f.L.length:Int))) then (bif ((((f.L.getD b.I.toNat []).getD 0 .nil).S).toList==a.S.toList) then (some (.ret [b])) else (some (.again [a,.i (w64 (b.I+1)),c,d,e,f]))) else none) else none) else (some (.brk 0 [])))
def eR.d2:R:=(some (.ret [.i (-1)]))
def eR.d3 (a b c d e:C):R:=(aq 0 (lim (apn 6 eR.d1) [e,.i 0,a,b,c,d]) (fun xs=>eR.d2))
def eR:List C→Option (List C):=fun xs=>ba (apn 5 eR.d3 xs)
def na:FS:=⟨2,⟨[(0,z2),(1,zt)],[]⟩,⟨[(0,zi)],[]⟩,[],eR⟩
theorem vR:aG Tryz.checked.prog T0 94 na:=bw aE (fn:=Tryz.f94) (c:=Tryz.f94.body.getD .skip) na (.seq .leaf (.seq (.seq .leaf (.block ⟨[],[]⟩ (.loop ⟨[(1,zt),(2,(.pt 2 0)),(5,zi)],[(2,z0)]⟩ .leaf))) .leaf)) [] .nil (by kernel_rfl) (by kernel_rfl) (by kernel_rfl) (fun xs=>by kernel_rfl)
end
end Go.Ev
namespace Go.Ev
open Go.Proofs
noncomputable section
def au.d1 (a b c d e f g h i j k l m n o p q r s t u v w x y z a0 a1 a2 a3:C):R:=(bif (decide (a.I<(a1.L.length:Int))) then (bif (decide (0≤a.I)) then (bif (decide (a.I<(a1.L.length:Int))) then (bif (Op.bytesLess (((a1.L.getD a.I.toNat []).getD 0 .nil).S).toList c.S.toList) then (some (.again [.i (w64 (a.I+1)),b,c,d,e,f,g,h,i,j,k,l,m,n,o,p,q,r,s,t,u,v,w,x,.l y.L,.l z.L,.l a0.L,.l a1.L,.l a2.L,.l a3.L])) else (some (.brk 1 [a,b,c,d,e,f,g,h,i,j,k,l,m,n,o,p,q,r,s,t,u,v,w,x,.l y.L,.l z.L,.l a0.L,.l a1.L,.l a2.L,.l a3.L]))) else none) else none) else (some (.brk 1 [a,b,c,d,e,f,g,h,i,j,k,l,m,n,o,p,q,r,s,t,u,v,w,x,.l y.L,.l z.L,.l a0.L,.l a1.L,.l a2.L,.l a3.L])))
def au.d2 (a b c d e f g h i j k l m n o p q r s t u v w x y z a0 a1 a2 a3 a4:C):R:=(bif (decide (0≤a.I)) then (bif (decide (a.I≤(z.L.length:Int))) then (bif (decide (aB.length+((z.L.take a.I.toNat).drop 0).length≤4294967296)) then (call6 (gu [d,e,f,g,h,i]) fun a5 a6 a7 a8 a9 b0=>(bif (decide ((aB++((z.L.take a.I.toNat).drop 0)).length+(rows [[a5,a6,.l b0.L,a7,a8,a9]]).length≤4294967296)) then (bif (decide (((aB++((z.L.take a.I.toNat).drop 0))++(rows [[a5,a6,.l b0.L,a7,a8,a9]])).length+b.L.length≤4294967296)) then (some (.ret [y,.b true,.l (((aB++((z.L.take a.I.toNat).drop 0))++(rows [[a5,a6,.l b0.L,a7,a8,a9]]))++b.L),.l a3.L,.l a4.L])) else none) else none)) else none) else none) else none)
def au.d3 (a b c d e f g h i j k l m n o p q r s t u v w x y z a0 a1 a2 a3:C):R:=(bif (decide (0≤a.I)) then (bif (decide (a.I≤(a1.L.length:Int))) then (bif (decide ((a1.L.length:Int)≤(a1.L.length:Int))) then (cJ (bif (decide ((((a1.L.take (a1.L.length:Int).toNat).drop a.I.toNat).length:Int)>0)) then (bif (decide (0<(((a1.L.take (a1.L.length:Int).toNat).drop a.I.toNat).length:Int))) then (bif ((((((a1.L.take (a1.L.length:Int).toNat).drop a.I.toNat).getD 0 []).getD 0 .nil).S).toList==c.S.toList) then (bif (decide (1≤(((a1.L.take (a1.L.length:Int).toNat).drop a.I.toNat).length:Int))) then (bif (decide ((((a1.L.take (a1.L.length:Int).toNat).drop a.I.toNat).length:Int)≤(((a1.L.take (a1.L.length:Int).toNat).drop a.I.toNat).length:Int))) then (some (.nrm [a,.l ((((a1.L.take (a1.L.length:Int).toNat).drop a.I.toNat).take (((a1.L.take (a1.L.length:Int).toNat).drop a.I.toNat).length:Int).toNat).drop 1),b,c,d,e,f,g,h,i,j,k,l,m,n,o,p,q,r,s,t,u,v,w,x,.l a1.L,.l y.L,.l z.L,.l a0.L,.l a2.L,.l a3.L])) else none) else none) else (some (.nrm [a,.l ((a1.L.take (a1.L.length:Int).toNat).drop a.I.toNat),b,c,d,e,f,g,h,i,j,k,l,m,n,o,p,q,r,s,t,u,v,w,x,.l a1.L,.l y.L,.l z.L,.l a0.L,.l a2.L,.l a3.L]))) else none) else (some (.nrm [a,.l ((a1.L.take (a1.L.length:Int).toNat).drop a.I.toNat),b,c,d,e,f,g,h,i,j,k,l,m,n,o,p,q,r,s,t,u,v,w,x,.l a1.L,.l y.L,.l z.L,.l a0.L,.l a2.L,.l a3.L]))) (apn 31 au.d2)) else none) else none) else none)
def au.d4 (a b c d e f g h i j k l m n o p q r s t u v w x y z a0 a1 a2 a3:C):R:=(bif (decide (a.I<(a3.L.length:Int))) then (bif (decide (0≤a.I)) then (bif (decide (a.I<(a3.L.length:Int))) then (bif ((((a3.L.getD a.I.toNat []).getD 11 .nil).S).toList==u.S.toList) then (bif (decide (0≤a.I)) then (bif (decide (a.I<(a3.L.length:Int))) then (some (.again [.i (w64 (a.I+1)),b,c,d,e,f,g,h,i,j,k,l,m,n,o,p,q,r,s,t,u,v,w,x,.l y.L,.l z.L,.l a0.L,.l a1.L,.l a2.L,.l (a3.L.set a.I.toNat (ar (a3.L.getD a.I.toNat []) 11 [.s (bs #[])]))])) else none) else none) else (some (.again [.i (w64 (a.I+1)),b,c,d,e,f,g,h,i,j,k,l,m,n,o,p,q,r,s,t,u,v,w,x,.l y.L,.l z.L,.l a0.L,.l a1.L,.l a2.L,.l a3.L]))) else none) else none) else (some (.brk 3 [w,x,.l y.L,.l z.L,.l a0.L,.l a1.L,.l a2.L,.l a3.L])))
def au.d5 (a b c d e f g h:C):R:=(some (.ret [b,.b true,.l f.L,.l g.L,.l h.L]))
def au.d6 (a b c d e f g h i j k l m n o p q r s t u v w x y z a0 a1 a2 a3:C):R:=(bif (decide (a.I<(a3.L.length:Int))) then (bif (decide (0≤a.I)) then (bif (decide (a.I<(a3.L.length:Int))) then (bif (Op.bytesLess (((a3.L.getD a.I.toNat []).getD 0 .nil).S).toList i.S.toList) then (some (.again [.i (w64 (a.I+1)),b,c,d,e,f,g,h,i,j,k,l,m,n,o,p,q,r,s,t,u,v,w,x,.l y.L,.l z.L,.l a0.L,.l a1.L,.l a2.L,.l a3.L])) else (some (.brk 5 [a,b,c,d,e,f,g,h,i,j,k,l,m,n,o,p,q,r,s,t,u,v,w,x,.l y.L,.l z.L,.l a0.L,.l a1.L,.l a2.L,.l a3.L]))) else none) else none) else (some (.brk 5 [a,b,c,d,e,f,g,h,i,j,k,l,m,n,o,p,q,r,s,t,u,v,w,x,.l y.L,.l z.L,.l a0.L,.l a1.L,.l a2.L,.l a3.L])))
def au.d7 (a b c d e f g h i j k l m n o p q r s t u v w x y z a0 a1 a2 a3 a4:C):R:=(bif (decide (0≤a.I)) then (bif (decide (a.I≤(z.L.length:Int))) then (bif (decide (aB.length+((z.L.take a.I.toNat).drop 0).length≤4294967296)) then (call12 (ir [j,k,l,m,n,o,p,q,r,s,t,u]) fun a5 a6 a7 a8 a9 b0 b1 b2 b3 b4 b5 b6=>(bif (decide ((aB++((z.L.take a.I.toNat).drop 0)).length+(rows [[a5,a6,a7,a8,a9,b0,b1,.l b6.L,b2,b3,b4,b5]]).length≤4294967296)) then (bif (decide (((aB++((z.L.take a.I.toNat).drop 0))++(rows [[a5,a6,a7,a8,a9,b0,b1,.l b6.L,b2,b3,b4,b5]])).length+b.L.length≤4294967296)) then (some (.ret [y,.b true,.l a3.L,.l a4.L,.l (((aB++((z.L.take a.I.toNat).drop 0))++(rows [[a5,a6,a7,a8,a9,b0,b1,.l b6.L,b2,b3,b4,b5]]))++b.L)])) else none) else none)) else none) else none) else none)
def au.d8 (a b c d e f g h i j k l m n o p q r s t u v w x y z a0 a1 a2 a3:C):R:=(bif (decide (0≤a.I)) then (bif (decide (a.I≤(a3.L.length:Int))) then (bif (decide ((a3.L.length:Int)≤(a3.L.length:Int))) then (cJ (bif (decide ((((a3.L.take (a3.L.length:Int).toNat).drop a.I.toNat).length:Int)>0)) then (bif (decide (0<(((a3.L.take (a3.L.length:Int).toNat).drop a.I.toNat).length:Int))) then (bif ((((((a3.L.take (a3.L.length:Int).toNat).drop a.I.toNat).getD 0 []).getD 0 .nil).S).toList==i.S.toList) then (bif (decide (1≤(((a3.L.take (a3.L.length:Int).toNat).drop a.I.toNat).length:Int))) then (bif (decide ((((a3.L.take (a3.L.length:Int).toNat).drop a.I.toNat).length:Int)≤(((a3.L.take (a3.L.length:Int).toNat).drop a.I.toNat).length:Int))) then (some (.nrm [a,.l ((((a3.L.take (a3.L.length:Int).toNat).drop a.I.toNat).take (((a3.L.take (a3.L.length:Int).toNat).drop a.I.toNat).length:Int).toNat).drop 1),b,c,d,e,f,g,h,i,j,k,l,m,n,o,p,q,r,s,t,u,v,w,x,.l a3.L,.l y.L,.l z.L,.l a0.L,.l a1.L,.l a2.L])) else none) else none) else (some (.nrm [a,.l ((a3.L.take (a3.L.length:Int).toNat).drop a.I.toNat),b,c,d,e,f,g,h,i,j,k,l,m,n,o,p,q,r,s,t,u,v,w,x,.l a3.L,.l y.L,.l z.L,.l a0.L,.l a1.L,.l a2.L]))) else none) else (some (.nrm [a,.l ((a3.L.take (a3.L.length:Int).toNat).drop a.I.toNat),b,c,d,e,f,g,h,i,j,k,l,m,n,o,p,q,r,s,t,u,v,w,x,.l a3.L,.l y.L,.l z.L,.l a0.L,.l a1.L,.l a2.L]))) (apn 31 au.d7)) else none) else none) else none)
def au.d9 (a b c d e f g h i j k l m n o p q r s t u v w x y:C):R:=(call4 (cB [a,b,c,d]) fun z a0 a1 a2=>(bif (e.I==1) then (aq 1 (lim (apn 30 au.d1) [.i 0,e,f,g,h,i,j,k,l,m,n,o,p,q,r,s,t,u,v,w,x,y,.b false,z,.l aB,.l aB,.l aB,.l a0.L,.l a1.L,.l a2.L]) (apn 30 au.d3)) else (bif (e.I==2) then (aa (dA [z,.l a0.L,.l a1.L,.l a2.L,x]) fun a3=>(bif (decide (a3.I<0)) then (some (.ret [z,.b false,.l a0.L,.l a1.L,.l a2.L])) else (bif (decide (0≤a3.I)) then (bif (decide (a3.I≤(a0.L.length:Int))) then (bif (decide (aB.length+((a0.L.take a3.I.toNat).drop 0).length≤4294967296)) then (bif (decide (0≤(w64 (a3.I+1)))) then (bif (decide ((w64 (a3.I+1))≤(a0.L.length:Int))) then (bif (decide ((a0.L.length:Int)≤(a0.L.length:Int))) then (bif (decide ((aB++((a0.L.take a3.I.toNat).drop 0)).length+((a0.L.take (a0.L.length:Int).toNat).drop (w64 (a3.I+1)).toNat).length≤4294967296)) then (aq 3 (lim (apn 30 au.d4) [.i 0,e,f,g,h,i,j,k,l,m,n,o,p,q,r,s,t,u,v,w,x,y,.b false,z,.l aB,.l aB,.l aB,.l ((aB++((a0.L.take a3.I.toNat).drop 0))++((a0.L.take (a0.L.length:Int).toNat).drop (w64 (a3.I+1)).toNat)),.l a1.L,.l a2.L]) (apn 8 au.d5)) else none) else none) else none) else none) else none) else none) else none))) else (bif (e.I==3) then (aq 5 (lim (apn 30 au.d6) [.i 0,e,f,g,h,i,j,k,l,m,n,o,p,q,r,s,t,u,v,w,x,y,.b false,z,.l aB,.l aB,.l aB,.l a0.L,.l a1.L,.l a2.L]) (apn 30 au.d8)) else (bif (e.I==4) then (aa (eR [z,.l a0.L,.l a1.L,.l a2.L,x]) fun a4=>(bif (decide (a4.I<0)) then (some (.ret [z,.b false,.l a0.L,.l a1.L,.l a2.L])) else (bif (decide (0≤a4.I)) then (bif (decide (a4.I≤(a2.L.length:Int))) then (bif (decide (aB.length+((a2.L.take a4.I.toNat).drop 0).length≤4294967296)) then (bif (decide (0≤(w64 (a4.I+1)))) then (bif (decide ((w64 (a4.I+1))≤(a2.L.length:Int))) then (bif (decide ((a2.L.length:Int)≤(a2.L.length:Int))) then (bif (decide ((aB++((a2.L.take a4.I.toNat).drop 0)).length+((a2.L.take (a2.L.length:Int).toNat).drop (w64 (a4.I+1)).toNat).length≤4294967296)) then (some (.ret [z,.b true,.l a0.L,.l a1.L,.l ((aB++((a2.L.take a4.I.toNat).drop 0))++((a2.L.take (a2.L.length:Int).toNat).drop (w64 (a4.I+1)).toNat))])) else none) else none) else none) else none) else none) else none) else none))) else (bif (e.I==5) then (aa (eR [z,.l a0.L,.l a1.L,.l a2.L,x]) fun a5=>(bif (!(decide (a5.I<0))) then (bif (!(y.S.toList==(bs #[]).toList)) then (aa (dA [z,.l a0.L,.l a1.L,.l a2.L,y]) fun a6=>(bif (decide (a6.I<0)) then (some (.ret [z,.b false,.l a0.L,.l a1.L,.l a2.L])) else (bif (decide (0≤a5.I)) then (bif (decide (a5.I<(a2.L.length:Int))) then (some (.ret [z,.b true,.l a0.L,.l a1.L,.l (a2.L.set a5.I.toNat (ar (a2.L.getD a5.I.toNat []) 11 [y]))])) else none) else none))) else (bif (decide (0≤a5.I)) then (bif (decide (a5.I<(a2.L.length:Int))) then (some (.ret [z,.b true,.l a0.L,.l a1.L,.l (a2.L.set a5.I.toNat (ar (a2.L.getD a5.I.toNat []) 11 [y]))])) else none) else none)) else (some (.ret [z,.b false,.l a0.L,.l a1.L,.l a2.L])))) else (some (.ret [z,.b true,.l a0.L,.l a1.L,.l a2.L]))))))))
def au:List C→Option (List C):=fun xs=>ba (apn 25 au.d9 xs)
def pb:FS:=⟨2,⟨[(0,z2),(1,z3)],[]⟩,⟨[(0,(.tu [z7,zo]))],[(3000,.arr 30),(3001,.arr 86 1),(3002,.arr 33)]⟩,[],au⟩
theorem Al:aG Tryz.checked.prog T0 38 pb:=y3 aE [68,165] false (fn:=Tryz.f38) (c:=Tryz.f38.body.getD .skip) pb (.seq .leaf (.seq .leaf (.seq (.seq .leaf (.skip (.seq .leaf (.cond (.seq .leaf (.seq (.block ⟨[(3,(.pt 3 0)),(4,(.pt 4 0)),(6,(.pt 6 0)),(7,zi)],[(3,z1),(4,.var 27 [zo,(.ow 1157700),(.ow 1157701),(.ow 1157702)]),(6,.var 27 [zo,(.ow 72632),(.ow 72633),(.ow 72634)]),(1157700,.arr 30 1),(1157701,.arr 86 1),(1157702,.arr 33 1),(72632,.arr 30 1),(72633,.arr 86 1),(72634,.arr 33 1)]⟩ (.loop ⟨[(3,(.pt 3 0)),(4,(.pt 4 0)),(6,(.pt 6 0)),(7,zi)],[(3,z1),(4,.var 27 [zo,(.ow 1157700),(.ow 1157701),(.ow 1157702)]),(6,.var 27 [zo,(.ow 72632),(.ow 72633),(.ow 72634)]),(1157700,.arr 30 1),(1157701,.arr 86 1),(1157702,.arr 33 1),(72632,.arr 30 1),(72633,.arr 86 1),(72634,.arr 33 1)]⟩ .leaf)) (.seq .leaf (.seq (.join ⟨[(3,(.pt 3 0)),(4,(.pt 4 0)),(6,(.pt 6 0)),(7,zi),(8,(zl 30))],[(3,z1),(4,.var 27 [zo,(.ow 1157700),(.ow 1157701),(.ow 1157702)]),(6,.var 27 [zo,(zl 30),(.ow 72633),(.ow 72634)]),(1157700,.arr 30 1),(1157701,.arr 86 1),(1157702,.arr 33 1),(72633,.arr 86 1),(72634,.arr 33 1)]⟩ (.frz [72632] .leaf)) .leaf)))) (.seq .leaf (.cond (.seq .leaf (.seq .leaf (.seq .leaf (.seq .leaf (.block ⟨[(4,(.pt 4 0)),(6,(.pt 6 0))],[(4,.var 27 [zo,(.ow 1161300),(.ow 1161301),(.ow 1161302)]),(6,.var 27 [zo,(.ow 82),(.ow 72633),(.ow 72634)]),(1161300,.arr 30 1),(1161301,.arr 86 1),(1161302,.arr 33 1),(82,.arr 30),(72633,.arr 86 1),(72634,.arr 33 1)]⟩ (.loop ⟨[(3,(.pt 3 0)),(4,(.pt 4 0)),(6,(.pt 6 0)),(10,zi)],[(3,z1),(4,.var 27 [zo,(.ow 1161300),(.ow 1161301),(.ow 1161302)]),(6,.var 27 [zo,(.ow 82),(.ow 72633),(.ow 72634)]),(1161300,.arr 30 1),(1161301,.arr 86 1),(1161302,.arr 33 1),(82,.arr 30),(72633,.arr 86 1),(72634,.arr 33 1)]⟩ .leaf)))))) (.seq .leaf (.cond (.seq .leaf (.seq (.block ⟨[(3,(.pt 3 0)),(4,(.pt 4 0)),(6,(.pt 6 0)),(11,zi)],[(3,z1),(4,.var 27 [zo,(.ow 1163500),(.ow 1163501),(.ow 1163502)]),(6,.var 27 [zo,(.ow 72632),(.ow 72633),(.ow 72634)]),(1163500,.arr 30 1),(1163501,.arr 86 1),(1163502,.arr 33 1),(72632,.arr 30 1),(72633,.arr 86 1),(72634,.arr 33 1)]⟩ (.loop ⟨[(3,(.pt 3 0)),(4,(.pt 4 0)),(6,(.pt 6 0)),(11,zi)],[(3,z1),(4,.var 27 [zo,(.ow 1163500),(.ow 1163501),(.ow 1163502)]),(6,.var 27 [zo,(.ow 72632),(.ow 72633),(.ow 72634)]),(1163500,.arr 30 1),(1163501,.arr 86 1),(1163502,.arr 33 1),(72632,.arr 30 1),(72633,.arr 86 1),(72634,.arr 33 1)]⟩ .leaf)) (.seq .leaf (.seq (.join ⟨[(3,(.pt 3 0)),(4,(.pt 4 0)),(6,(.pt 6 0)),(11,zi),(12,(zl 33))],[(3,z1),(4,.var 27 [zo,(.ow 1163500),(.ow 1163501),(.ow 1163502)]),(6,.var 27 [zo,(.ow 72632),(.ow 72633),(zl 33)]),(1163500,.arr 30 1),(1163501,.arr 86 1),(1163502,.arr 33 1),(72632,.arr 30 1),(72633,.arr 86 1)]⟩ (.frz [72634] .leaf)) .leaf)))) .leaf)))))))) .leaf))) [(87,some 78,iC),(87,some 208,iC),(91,some 16,oZ),(92,some 67,km),(93,some 164,kY),(94,some 175,na),(94,some 197,na)] (.cons lS (.cons lS (.cons Az (.cons qH (.cons rP (.cons vR (.cons vR .nil))))))) (by kernel_rfl) (by kernel_rfl) (by kernel_rfl) (fun xs=>by kernel_rfl)
def cR.d1 (a b c d e f g h i j k l m n o p q r s t u v w x y z a0 a1 a2 a3:C):R:=(bif (!a.B) then (some (.ret [.b false,.i 3,.l aB,.l aB,.l aB])) else (aa (gD [b,.i 1,.i 5]) fun a4=>(bif (!a4.B) then (some (.ret [.b false,.i 4,.l aB,.l aB,.l aB])) else (some (.ret [x,.i 0,.l a1.L,.l a2.L,.l a3.L])))))
def cR.d2 (a b c d e f g h i j k l m n o p q r s t u v w x y:C):R:=(aa (az [a,b,c,d]) fun z=>(bif (!z.B) then (some (.ret [.b false,.i 1,.l aB,.l aB,.l aB])) else (call5 (au [a,b,c,d,e,f,g,h,i,j,k,l,m,n,o,p,q,r,s,t,u,v,w,x,y]) fun a0 a1 a2 a3 a4=>(cJ (bif a1.B then (aa (az [a0,.l a2.L,.l a3.L,.l a4.L]) fun a5=>(bif (!a5.B) then (some (.ret [.b false,.i 2,.l aB,.l aB,.l aB])) else (some (.nrm [.b a1.B,e,f,g,h,i,j,k,l,m,n,o,p,q,r,s,t,u,v,w,x,y,.b false,a0,.l aB,.l aB,.l aB,.l a2.L,.l a3.L,.l a4.L])))) else (some (.nrm [.b a1.B,e,f,g,h,i,j,k,l,m,n,o,p,q,r,s,t,u,v,w,x,y,.b false,a0,.l aB,.l aB,.l aB,.l a2.L,.l a3.L,.l a4.L]))) (apn 30 cR.d1)))))
def cR:List C→Option (List C):=fun xs=>ba (apn 25 cR.d2 xs)
def ky:FS:=⟨2,⟨[(0,z2),(1,z3)],[]⟩,⟨[(0,(.tu [z7,zi]))],[(3000,.arr 30),(3001,.arr 86 1),(3002,.arr 33)]⟩,[],cR⟩
theorem uV:aG Tryz.checked.prog T0 7 ky:=bw aE (fn:=Tryz.f7) (c:=Tryz.f7.body.getD .skip) ky (.seq .leaf (.seq .leaf (.seq .leaf (.seq (.join ⟨[(3,(.pt 3 0)),(4,(.pt 4 0)),(6,(.pt 6 0)),(7,zo)],[(3,z1),(4,.var 27 [zo,(.ow 1076400),(.ow 1076401),(.ow 1076402)]),(6,.var 27 [zo,(.ow 68536),(.ow 68537),(.ow 68538)]),(1076400,.arr 30 1),(1076401,.arr 86 1),(1076402,.arr 33 1),(68536,.arr 30),(68537,.arr 86 1),(68538,.arr 33)]⟩ .leaf) .leaf)))) [(37,some 9,jn),(37,some 21,jn),(38,some 15,pb),(39,some 30,eO)] (.cons pE (.cons pE (.cons Al (.cons fq .nil)))) (by kernel_rfl) (by kernel_rfl) (by kernel_rfl) (fun xs=>by kernel_rfl)
def eF:FS:=⟨1,⟨[(0,(.ag [zo,(zl 48),(zl 124),(zl 51)]))],[]⟩,⟨[(0,z7)],[(3000,.arr 30 1),(3001,.arr 86 1),(3002,.arr 33 1)]⟩,[],dw⟩
theorem il:aG Tryz.checked.prog T0 12 eF:=bw aE (fn:=Tryz.f12) (c:=Tryz.f12.body.getD .skip) eF .leaf [(47,some 9,gA),(48,some 13,fy),(49,some 17,gV)] (.cons mI (.cons lC (.cons ni .nil))) (by kernel_rfl) (by kernel_rfl) (by kernel_rfl) (fun xs=>by kernel_rfl)
def dJ.d1 (a b c d e f g h i j k l m n o p q r s t u:C):R:=(call6 (ec [b,c,d,e,f,g]) fun v w x y z a0=>(call12 (eD [h,i,j,k,l,m,n,o,p,q,r,s]) fun a1 a2 a3 a4 a5 a6 a7 a8 a9 b0 b1 b2=>(some (.ret [a,v,w,x,y,z,a1,a2,a3,a4,a5,a6,a7,a8,a9,b0,b1,t,u,.l a0.L,.l b2.L]))))
def dJ:List C→Option (List C):=fun xs=>ba (apn 21 dJ.d1 xs)
def eK:FS:=⟨1,⟨[(0,z5)],[]⟩,⟨[(0,(.ag [zi,zt,zt,(.ow 3000),zi,zi,zo,zt,zt,zi,zi,zi,zi,zt,(.ow 3001),zi,zt,zt,zt,zt,zt]))],[(3000,.arr 9 1),(3001,.arr 122 1)]⟩,[],dJ⟩
theorem ik:aG Tryz.checked.prog T0 13 eK:=bw aE (fn:=Tryz.f13) (c:=Tryz.f13.body.getD .skip) eK .leaf [(50,some 9,fA),(51,some 13,fZ)] (.cons jU (.cons kx .nil)) (by kernel_rfl) (by kernel_rfl) (by kernel_rfl) (fun xs=>by kernel_rfl)
def qN.d1 (a:C):R:=(bif (decide (a.I≥97)) then (bif (!(decide (a.I≤122))) then (bif (decide (a.I≥48)) then (bif (!(decide (a.I≤57))) then (bif (!(a.I==45)) then (some (.ret [.b (a.I==95)])) else (some (.ret [.b true]))) else (some (.ret [.b true]))) else (bif (!(a.I==45)) then (some (.ret [.b (a.I==95)])) else (some (.ret [.b true])))) else (some (.ret [.b true]))) else (bif (decide (a.I≥48)) then (bif (!(decide (a.I≤57))) then (bif (!(a.I==45)) then (some (.ret [.b (a.I==95)])) else (some (.ret [.b true]))) else (some (.ret [.b true]))) else (bif (!(a.I==45)) then (some (.ret [.b (a.I==95)])) else (some (.ret [.b true])))))
def qN:List C→Option (List C):=fun xs=>ba (apn 1 qN.d1 xs)
def o7:FS:=⟨1,⟨[(0,(.d (.int .u8)))],[]⟩,⟨[(0,zo)],[]⟩,[],qN⟩
theorem ye:aG Tryz.checked.prog T0 115 o7:=bw aE (fn:=Tryz.f115) (c:=Tryz.f115.body.getD .skip) o7 .leaf [] .nil (by kernel_rfl) (by kernel_rfl) (by kernel_rfl) (fun xs=>by kernel_rfl)
def dP.d1 (a b c:C):R:=(bif (decide (c.I<b.I)) then (bif (decide (0≤c.I)) then (bif (decide (c.I<(a.S.size:Int))) then (aa (qN [.i ((a.S.data.getD c.I.toNat 0).toNat:Int)]) fun d=>(bif (!d.B) then (some (.ret [.b false])) else (some (.again [a,b,.i (w64 (c.I+1))])))) else none) else none) else (some (.brk 0 [])))
def dP.d2:R:=(some (.ret [.b true]))
def dP.d3 (a:C):R:=(bif (!(decide ((a.S.size:Int)<1))) then (bif (decide ((a.S.size:Int)>20)) then (some (.ret [.b false])) else (aq 0 (lim (apn 3 dP.d1) [a,.i (a.S.size:Int),.i 0]) (fun xs=>dP.d2))) else (some (.ret [.b false])))
def dP:List C→Option (List C):=fun xs=>ba (apn 1 dP.d3 xs)
def fg:FS:=⟨1,⟨[(0,zt)],[]⟩,⟨[(0,zo)],[]⟩,[],dP⟩
theorem gG:aG Tryz.checked.prog T0 74 fg:=bw aE (fn:=Tryz.f74) (c:=Tryz.f74.body.getD .skip) fg (.seq .leaf (.seq .leaf (.seq (.seq .leaf (.block ⟨[],[]⟩ (.loop ⟨[(0,zt),(13,zi),(14,zi)],[]⟩ .leaf))) .leaf))) [(115,some 20,o7)] (.cons ye .nil) (by kernel_rfl) (by kernel_rfl) (by kernel_rfl) (fun xs=>by kernel_rfl)
def fi.d1 (a b c:C):R:=(bif (decide (a.I≥b.I)) then (some (.ret [.b (decide (a.I≤c.I))])) else (some (.ret [.b false])))
def fi:List C→Option (List C):=fun xs=>ba (apn 3 fi.d1 xs)
def eH:FS:=⟨3,⟨[(0,zi),(1,zi),(2,zi)],[]⟩,⟨[(0,zo)],[]⟩,[],fi⟩
theorem fw:aG Tryz.checked.prog T0 75 eH:=bw aE (fn:=Tryz.f75) (c:=Tryz.f75.body.getD .skip) eH .leaf [] .nil (by kernel_rfl) (by kernel_rfl) (by kernel_rfl) (fun xs=>by kernel_rfl)
def ew:List C→Option (List C):=ibF
def fl:FS:=⟨2,⟨[(0,.d .str),(1,.d (.int .u8))],[]⟩,⟨[(0,.d (.int .i64))],[]⟩,[],ew⟩
theorem jN:aG Tryz.checked.prog T0 172 fl:=Ho
def aQ.d1 (a b c d:C):R:=(bif d.B then (some (.ret [.i 0])) else (bif (c.I==1) then (bif (decide (0<(b.S.size:Int))) then (aa (ew [a,.i ((b.S.data.getD 0 0).toNat:Int)]) fun e=>(some (.ret [e]))) else none) else (bif (decide (c.I≥(a.S.size:Int))) then (some (.ret [.i (-1)])) else none)))
def aQ.d2 (a b:C):R:=(cJ (bif (!((b.S.size:Int)==0)) then (some (.nrm [a,b,.i (b.S.size:Int),.b (b.S.toList==a.S.toList)])) else (some (.nrm [a,b,.i (b.S.size:Int),.b true]))) (apn 4 aQ.d1))
def aQ:List C→Option (List C):=fun xs=>ba (apn 2 aQ.d2 xs)
def eG:FS:=⟨2,⟨[(0,zt),(1,zt)],[]⟩,⟨[(0,zi)],[]⟩,[],aQ⟩
theorem ll:aG Tryz.checked.prog T0 164 eG:=bw aE (fn:=Tryz.f164) (c:=Tryz.f164.body.getD .skip) eG (.seq .leaf (.seq .leaf (.seq (.skip (.seq (.join ⟨[(0,zt),(1,zt),(5,zi),(16,zo)],[]⟩ .leaf) .leaf)) .leaf))) [(172,some 30,fl)] (.cons jN .nil) (by kernel_rfl) (by kernel_rfl) (by kernel_rfl) (fun xs=>by kernel_rfl)
def cP.d1 (a b:C):R:=(aa (aQ [a,b]) fun c=>(bif (decide (c.I≥0)) then (bif (decide (0≤c.I)) then (bif (decide (c.I≤(a.S.size:Int))) then (bif (decide (0≤(w64 (c.I+(b.S.size:Int))))) then (bif (decide ((w64 (c.I+(b.S.size:Int)))≤(a.S.size:Int))) then (bif (decide ((a.S.size:Int)≤(a.S.size:Int))) then (some (.ret [.s (a.S.extract 0 c.I.toNat),.s (a.S.extract (w64 (c.I+(b.S.size:Int))).toNat (a.S.size:Int).toNat),.b true])) else none) else none) else none) else none) else none) else (some (.ret [a,.s (bs #[]),.b false]))))
def cP:List C→Option (List C):=fun xs=>ba (apn 2 cP.d1 xs)
def eX:FS:=⟨2,⟨[(0,zt),(1,zt)],[]⟩,⟨[(0,(.tu [zt,zt,zo]))],[]⟩,[],cP⟩
theorem lV:aG Tryz.checked.prog T0 147 eX:=bw aE (fn:=Tryz.f147) (c:=Tryz.f147.body.getD .skip) eX .leaf [(164,some 10,eG)] (.cons ll .nil) (by kernel_rfl) (by kernel_rfl) (by kernel_rfl) (fun xs=>by kernel_rfl)
def jF.d1 (a b:C):R:=(call3 (cP [a,b]) fun c d e=>(some (.ret [c,d,.b e.B])))
def jF:List C→Option (List C):=fun xs=>ba (apn 2 jF.d1 xs)
def mA:FS:=⟨2,⟨[(0,zt),(1,zt)],[]⟩,⟨[(0,(.tu [zt,zt,zo]))],[]⟩,[],jF⟩
theorem yi:aG Tryz.checked.prog T0 130 mA:=bw aE (fn:=Tryz.f130) (c:=Tryz.f130.body.getD .skip) mA .leaf [(147,some 9,eX)] (.cons lV .nil) (by kernel_rfl) (by kernel_rfl) (by kernel_rfl) (fun xs=>by kernel_rfl)
def ph.d1 (a:C):R:=(call3 (jF [a,.s (bs #[61])]) fun b c d=>(aa (dP [b]) fun e=>(bif e.B then (bif (!(!d.B)) then (aa (dP [c]) fun f=>(some (.ret [b,c,.b f.B]))) else (some (.ret [b,c,.b true]))) else (some (.ret [b,c,.b false])))))
def ph:List C→Option (List C):=fun xs=>ba (apn 1 ph.d1 xs)
def sr:FS:=⟨1,⟨[(0,zt)],[]⟩,⟨[(0,(.tu [zt,zt,zo]))],[]⟩,[],ph⟩
theorem BR:aG Tryz.checked.prog T0 114 sr:=bw aE (fn:=Tryz.f114) (c:=Tryz.f114.body.getD .skip) sr .leaf [(74,some 17,fg),(74,some 23,fg),(130,some 10,mA)] (.cons gG (.cons gG (.cons yi .nil))) (by kernel_rfl) (by kernel_rfl) (by kernel_rfl) (fun xs=>by kernel_rfl)
def dF.d1 (a b c d e f g h i j:C):R:=(bif (decide (c.I<b.I)) then (bif (decide (0≤c.I)) then (bif (decide (c.I<(a.L.length:Int))) then (call3 (ph [((a.L.getD c.I.toNat []).getD 0 .nil)]) fun k l m=>(bif (!(!m.B)) then (bif (!((lT (.b false) k.S j.L).B)) then (bif (decide (c.I>0)) then (bif (decide (0≤(w64 (c.I-1)))) then (bif (decide ((w64 (c.I-1))<(f.L.length:Int))) then (bif ((Op.bytesLess (((a.L.getD c.I.toNat []).getD 0 .nil).S).toList (((f.L.getD (w64 (c.I-1)).toNat []).getD 0 .nil).S).toList)||((((a.L.getD c.I.toNat []).getD 0 .nil).S).toList==(((f.L.getD (w64 (c.I-1)).toNat []).getD 0 .nil).S).toList)) then (some (.ret [.b false])) else (some (.again [a,b,.i (w64 (c.I+1)),d,e,f,g,h,i,.l (mX k.S (.b true) j.L)]))) else none) else none) else (some (.again [a,b,.i (w64 (c.I+1)),d,e,f,g,h,i,.l (mX k.S (.b true) j.L)]))) else (some (.ret [.b false]))) else (some (.ret [.b false])))) else none) else none) else (some (.brk 0 [])))
def dF.d2:R:=(some (.ret [.b true]))
def dF.d3 (a b c d e f:C):R:=(aa (dP [a]) fun g=>(bif (!(!g.B)) then (aa (dP [b]) fun h=>(bif (!(!h.B)) then (bif (!(decide ((c.L.length:Int)>10))) then (aa (fi [d,.i 0,.i 1000]) fun i=>(bif (!(!i.B)) then (aa (fi [e,.i 0,.i 1000]) fun j=>(bif (!j.B) then (some (.ret [.b false])) else (aq 0 (lim (apn 10 dF.d1) [c,.i (c.L.length:Int),.i 0,a,b,c,d,e,f,.l aB]) (fun xs=>dF.d2)))) else (some (.ret [.b false])))) else (some (.ret [.b false]))) else (some (.ret [.b false])))) else (some (.ret [.b false]))))
def dF:List C→Option (List C):=fun xs=>ba (apn 6 dF.d3 xs)
def nG:FS:=⟨1,⟨[(0,z6)],[]⟩,⟨[(0,zo)],[]⟩,[],dF⟩
theorem yz:aG Tryz.checked.prog T0 73 nG:=bw aE (fn:=Tryz.f73) (c:=Tryz.f73.body.getD .skip) nG (.seq .leaf (.seq .leaf (.seq .leaf (.seq (.seq .leaf (.block ⟨[],[]⟩ (.loop ⟨[(1,(.pt 1 0)),(3,(.mp 37)),(39,(zl 9)),(40,zi),(41,zi)],[(1,.var 30 [zt,zt,(zl 9),zi,zi,zo]),(37,.mp 4)]⟩ .leaf))) .leaf)))) [(74,some 11,fg),(74,some 16,fg),(75,some 28,eH),(75,some 34,eH),(114,some 48,sr)] (.cons gG (.cons gG (.cons fw (.cons fw (.cons BR .nil))))) (by kernel_rfl) (by kernel_rfl) (by kernel_rfl) (fun xs=>by kernel_rfl)
def aK.d1 (a b:C):R:=(bif (decide ((a.S.size:Int)>0)) then (bif (decide (0≤(w64 ((a.S.size:Int)-1)))) then (bif (decide ((w64 ((a.S.size:Int)-1))<(a.S.size:Int))) then (bif (((a.S.data.getD (w64 ((a.S.size:Int)-1)).toNat 0).toNat:Int)==b.I) then (bif (decide (0≤(w64 ((a.S.size:Int)-1)))) then (bif (decide ((w64 ((a.S.size:Int)-1))≤(a.S.size:Int))) then (some (.again [.s (a.S.extract 0 (w64 ((a.S.size:Int)-1)).toNat),b])) else none) else none) else (some (.brk 0 [a]))) else none) else none) else (some (.brk 0 [a])))
def aK.d2 (a:C):R:=(some (.ret [a]))
def aK.d3 (a b:C):R:=(aq 0 (lim (apn 2 aK.d1) [a,b]) (apn 1 aK.d2))
def aK:List C→Option (List C):=fun xs=>ba (apn 2 aK.d3 xs)
def fN:FS:=⟨2,⟨[(0,zt),(1,(.d (.int .u8)))],[]⟩,⟨[(0,zt)],[]⟩,[],aK⟩
theorem nL:aG Tryz.checked.prog T0 149 fN:=bw aE (fn:=Tryz.f149) (c:=Tryz.f149.body.getD .skip) fN (.seq .leaf (.seq (.block ⟨[(0,zt)],[]⟩ (.loop ⟨[(0,zt),(1,(.d (.int .u8)))],[]⟩ .leaf)) .leaf)) [] .nil (by kernel_rfl) (by kernel_rfl) (by kernel_rfl) (fun xs=>by kernel_rfl)
def aM.d1 (a b:C):R:=(bif (decide ((a.S.size:Int)>0)) then (bif (decide (0<(a.S.size:Int))) then (bif (((a.S.data.getD 0 0).toNat:Int)==b.I) then (bif (decide (1≤(a.S.size:Int))) then (bif (decide ((a.S.size:Int)≤(a.S.size:Int))) then (some (.again [.s (a.S.extract 1 (a.S.size:Int).toNat),b])) else none) else none) else (some (.brk 0 [a]))) else none) else (some (.brk 0 [a])))
def aM.d2 (a:C):R:=(some (.ret [a]))
def aM.d3 (a b:C):R:=(aq 0 (lim (apn 2 aM.d1) [a,b]) (apn 1 aM.d2))
def aM:List C→Option (List C):=fun xs=>ba (apn 2 aM.d3 xs)
def gf:FS:=⟨2,⟨[(0,zt),(1,(.d (.int .u8)))],[]⟩,⟨[(0,zt)],[]⟩,[],aM⟩
theorem oh:aG Tryz.checked.prog T0 148 gf:=bw aE (fn:=Tryz.f148) (c:=Tryz.f148.body.getD .skip) gf (.seq .leaf (.seq (.block ⟨[(0,zt)],[]⟩ (.loop ⟨[(0,zt),(1,(.d (.int .u8)))],[]⟩ .leaf)) .leaf)) [] .nil (by kernel_rfl) (by kernel_rfl) (by kernel_rfl) (fun xs=>by kernel_rfl)
def fx.d1 (a:C):R:=none
def fx:List C→Option (List C):=fun xs=>ba (apn 1 fx.d1 xs)
def fW:FS:=⟨1,⟨[(0,zt)],[]⟩,⟨[],[]⟩,[],fx⟩
theorem oe:aG Tryz.checked.prog T0 150 fW:=bw aE (fn:=Tryz.f150) (c:=Tryz.f150.body.getD .skip) fW .leaf [] .nil (by kernel_rfl) (by kernel_rfl) (by kernel_rfl) (fun xs=>by kernel_rfl)
def eT.d1 (a b:C):R:=(jG (fx [b]) fun _=>none)
def eT.d2 (a b:C):R:=(bif (!(a.S.toList==(bs #[]).toList)) then (bif (b.S.toList==(bs #[]).toList) then (some (.ret [a])) else (cJ (bif ((b.S.size:Int)==1) then (bif (decide (0<(b.S.size:Int))) then (bif (decide (((b.S.data.getD 0 0).toNat:Int)<128)) then (bif (decide (0<(b.S.size:Int))) then (aa (aK [a,.i ((b.S.data.getD 0 0).toNat:Int)]) fun c=>(bif (decide (0<(b.S.size:Int))) then (aa (aM [c,.i ((b.S.data.getD 0 0).toNat:Int)]) fun d=>(some (.ret [d]))) else none)) else none) else (some (.nrm [a,b]))) else none) else (some (.nrm [a,b]))) (apn 2 eT.d1))) else (some (.ret [a])))
def eT:List C→Option (List C):=fun xs=>ba (apn 2 eT.d2 xs)
def lF:FS:=⟨2,⟨[(0,zt),(1,zt)],[]⟩,⟨[(0,zt)],[]⟩,[],eT⟩
theorem we:aG Tryz.checked.prog T0 131 lF:=bw aE (fn:=Tryz.f131) (c:=Tryz.f131.body.getD .skip) lF (.seq .leaf (.seq .leaf (.seq (.join ⟨[(0,zt),(1,zt)],[]⟩ .leaf) .leaf))) [(148,some 28,gf),(149,some 25,fN),(150,some 31,fW)] (.cons oh (.cons nL (.cons oe .nil))) (by kernel_rfl) (by kernel_rfl) (by kernel_rfl) (fun xs=>by kernel_rfl)
def bI.d1 (a b c:C):R:=(bif (decide (b.I<(a.S.size:Int))) then (bif (decide (0≤b.I)) then (bif (decide (b.I<(a.S.size:Int))) then (bif (((a.S.data.getD b.I.toNat 0).toNat:Int)==32) then (some (.again [a,.i (w64 (b.I+1)),c])) else (some (.brk 0 [a,b,c]))) else none) else none) else (some (.brk 0 [a,b,c])))
def bI.d2 (a b c:C):R:=(some (.ret [a,b,c]))
def bI.d3 (a b c:C):R:=(aq 0 (lim (apn 3 bI.d1) [a,b,c]) (apn 3 bI.d2))
def bI:List C→Option (List C):=fun xs=>ba (apn 3 bI.d3 xs)
def fV:FS:=⟨1,⟨[(0,(.pt 2000 0))],[(2000,.var 163 [zt,zi,zo])]⟩,⟨[(0,(.tu []))],[(2000,.var 163 [zt,zi,zo])]⟩,[2000],bI⟩
theorem kB:aG Tryz.checked.prog T0 133 fV:=bw aE (fn:=Tryz.f133) (c:=Tryz.f133.body.getD .skip) fV (.block ⟨[],[(2000,.var 163 [zt,zi,zo])]⟩ (.loop ⟨[(0,(.pt 2000 0))],[(2000,.var 163 [zt,zi,zo])]⟩ .leaf)) [] .nil (by kernel_rfl) (by kernel_rfl) (by kernel_rfl) (fun xs=>by kernel_rfl)
def bm.d1 (a b c d:C):R:=(call3 (bI [b,c,d]) fun e f g=>(bif (decide (f.I<(e.S.size:Int))) then (bif (decide (0≤f.I)) then (bif (decide (f.I<(e.S.size:Int))) then (bif (((e.S.data.getD f.I.toNat 0).toNat:Int)==a.I) then (some (.ret [.b true,e,.i (w64 (f.I+1)),g])) else (some (.ret [.b false,e,f,g]))) else none) else none) else (some (.ret [.b false,e,f,g]))))
def bm:List C→Option (List C):=fun xs=>ba (apn 4 bm.d1 xs)
def dI:FS:=⟨2,⟨[(0,(.pt 2000 0)),(1,(.d (.int .u8)))],[(2000,.var 163 [zt,zi,zo])]⟩,⟨[(0,zo)],[(2000,.var 163 [zt,zi,zo])]⟩,[2000],bm⟩
theorem eM:aG Tryz.checked.prog T0 156 dI:=bw aE (fn:=Tryz.f156) (c:=Tryz.f156.body.getD .skip) dI .leaf [(133,some 6,fV)] (.cons kB .nil) (by kernel_rfl) (by kernel_rfl) (by kernel_rfl) (fun xs=>by kernel_rfl)
def bq.d1 (a b c d:C):R:=(bif (decide (c.I<(b.S.size:Int))) then (bif (decide (0≤c.I)) then (bif (decide (c.I<(b.S.size:Int))) then (aa (qN [.i ((b.S.data.getD c.I.toNat 0).toNat:Int)]) fun e=>(bif e.B then (some (.again [a,b,.i (w64 (c.I+1)),d])) else (some (.brk 0 [a,b,c,d])))) else none) else none) else (some (.brk 0 [a,b,c,d])))
def bq.d2 (a b c d:C):R:=(bif (decide (0≤a.I)) then (bif (decide (a.I≤c.I)) then (bif (decide (c.I≤(b.S.size:Int))) then (aa (dP [.s (b.S.extract a.I.toNat c.I.toNat)]) fun e=>(bif (!e.B) then (bif (decide (0≤a.I)) then (bif (decide (a.I≤c.I)) then (bif (decide (c.I≤(b.S.size:Int))) then (some (.ret [.s (b.S.extract a.I.toNat c.I.toNat),b,c,.b false])) else none) else none) else none) else (bif (decide (0≤a.I)) then (bif (decide (a.I≤c.I)) then (bif (decide (c.I≤(b.S.size:Int))) then (some (.ret [.s (b.S.extract a.I.toNat c.I.toNat),b,c,d])) else none) else none) else none))) else none) else none) else none)
def bq.d3 (a b c:C):R:=(call3 (bI [a,b,c]) fun d e f=>(aq 0 (lim (apn 4 bq.d1) [e,d,e,f]) (apn 4 bq.d2)))
def bq:List C→Option (List C):=fun xs=>ba (apn 3 bq.d3 xs)
def hJ:FS:=⟨1,⟨[(0,(.pt 2000 0))],[(2000,.var 163 [zt,zi,zo])]⟩,⟨[(0,zt)],[(2000,.var 163 [zt,zi,zo])]⟩,[2000],bq⟩
theorem nq:aG Tryz.checked.prog T0 179 hJ:=bw aE (fn:=Tryz.f179) (c:=Tryz.f179.body.getD .skip) hJ (.seq .leaf (.seq .leaf (.seq .leaf (.seq (.block ⟨[(0,(.pt 2000 0)),(3,zi)],[(2000,.var 163 [zt,zi,zo])]⟩ (.loop ⟨[(0,(.pt 2000 0)),(3,zi)],[(2000,.var 163 [zt,zi,zo])]⟩ .leaf)) .leaf)))) [(74,some 49,fg),(115,some 30,o7),(133,some 5,fV)] (.cons gG (.cons ye (.cons kB .nil))) (by kernel_rfl) (by kernel_rfl) (by kernel_rfl) (fun xs=>by kernel_rfl)
def ak.d1 (G0 G1 G2:List C→Option (List C)) (a b c d:C):R:=(bif d.B then (call4 (bm [.i 124,b,c,d]) fun e f g h=>(bif e.B then (call4 (G1 [f,g,h]) fun i j k l=>(some (.again [.p [.i 5,.s (bs #[]),.s (bs #[]),.l (rows [[a],[i]])],j,k,l]))) else (some (.brk 0 [a,f,g,h])))) else (some (.brk 0 [a,b,c,d])))
def ak.d2 (G0 G1 G2:List C→Option (List C)) (a b c d:C):R:=(some (.ret [a,b,c,d]))
def ak.d3 (G0 G1 G2:List C→Option (List C)) (a b c:C):R:=(call4 (G1 [a,b,c]) fun d e f g=>(aq 0 (lim (apn 4 (ak.d1 G0 G1 G2)) [d,e,f,g]) (apn 4 (ak.d2 G0 G1 G2))))
def ak.step (G0 G1 G2:List C→Option (List C)):List C→Option (List C):=fun xs=>ba (apn 3 (ak.d3 G0 G1 G2) xs)
def dN (G:List C→Option (List C)):FS:=⟨1,⟨[(0,(.pt 2000 0))],[(2000,.var 163 [(.d .str),(.d (.int .i64)),(.d .bool)])]⟩,⟨[(0,(.d (.pt 160)))],[(2000,.var 163 [(.d .str),(.d (.int .i64)),(.d .bool)])]⟩,[2000],G⟩
def dx.d1 (G0 G1 G2:List C→Option (List C)) (a b c d:C):R:=(bif d.B then (call4 (bm [.i 38,b,c,d]) fun e f g h=>(bif e.B then (call4 (G2 [f,g,h]) fun i j k l=>(some (.again [.p [.i 4,.s (bs #[]),.s (bs #[]),.l (rows [[a],[i]])],j,k,l]))) else (some (.brk 0 [a,f,g,h])))) else (some (.brk 0 [a,b,c,d])))
def dx.d2 (G0 G1 G2:List C→Option (List C)) (a b c d:C):R:=(some (.ret [a,b,c,d]))
def dx.d3 (G0 G1 G2:List C→Option (List C)) (a b c:C):R:=(call4 (G2 [a,b,c]) fun d e f g=>(aq 0 (lim (apn 4 (dx.d1 G0 G1 G2)) [d,e,f,g]) (apn 4 (dx.d2 G0 G1 G2))))
def dx.step (G0 G1 G2:List C→Option (List C)):List C→Option (List C):=fun xs=>ba (apn 3 (dx.d3 G0 G1 G2) xs)
def dW (G:List C→Option (List C)):FS:=⟨1,⟨[(0,(.pt 2000 0))],[(2000,.var 163 [(.d .str),(.d (.int .i64)),(.d .bool)])]⟩,⟨[(0,(.d (.pt 160)))],[(2000,.var 163 [(.d .str),(.d (.int .i64)),(.d .bool)])]⟩,[2000],G⟩
def eZ.d1 (G0 G1 G2:List C→Option (List C)) (a b c:C):R:=(bif (!c.B) then (some (.ret [.p [.i 0,.s (bs #[]),.s (bs #[]),.l aB],a,b,c])) else (call4 (bm [.i 33,a,b,c]) fun d e f g=>(bif d.B then (call4 (G2 [e,f,g]) fun h i j k=>(some (.ret [.p [.i 3,.s (bs #[]),.s (bs #[]),.l (rows [[h]])],i,j,k]))) else (call4 (bm [.i 40,e,f,g]) fun l m n o=>(bif l.B then (call4 (G0 [m,n,o]) fun p q r s=>(bif s.B then (call4 (bm [.i 41,q,r,s]) fun t u v w=>(some (.ret [p,u,v,.b t.B]))) else (some (.ret [p,q,r,.b false])))) else (call4 (bq [m,n,o]) fun x y z a0=>(bif a0.B then (call4 (bm [.i 61,y,z,a0]) fun a1 a2 a3 a4=>(bif a1.B then (call4 (bq [a2,a3,a4]) fun a5 a6 a7 a8=>(some (.ret [.p [.i 2,x,a5,.l aB],a6,a7,a8]))) else (some (.ret [.p [.i 1,x,.s (bs #[]),.l aB],a2,a3,a4])))) else (some (.ret [.p [.i 1,x,.s (bs #[]),.l aB],y,z,a0])))))))))
def eZ.step (G0 G1 G2:List C→Option (List C)):List C→Option (List C):=fun xs=>ba (apn 3 (eZ.d1 G0 G1 G2) xs)
def dD (G:List C→Option (List C)):FS:=⟨1,⟨[(0,(.pt 2000 0))],[(2000,.var 163 [(.d .str),(.d (.int .i64)),(.d .bool)])]⟩,⟨[(0,(.d (.pt 160)))],[(2000,.var 163 [(.d .str),(.d (.int .i64)),(.d .bool)])]⟩,[2000],G⟩
theorem wh {G0 G1 G2:List C→Option (List C)} (h0:aG Tryz.checked.prog T0 132 (dN G0)) (h1:aG Tryz.checked.prog T0 155 (dW G1)) (h2:aG Tryz.checked.prog T0 169 (dD G2)):aG Tryz.checked.prog T0 132 (dN (ak.step G0 G1 G2)):=bw aE (fn:=Tryz.f132) (c:=Tryz.f132.body.getD .skip) (dN (ak.step G0 G1 G2)) (.seq .leaf (.seq .leaf (.seq (.block ⟨[(3,(.d (.pt 160)))],[(2000,.var 163 [(.d .str),(.d (.int .i64)),(.d .bool)])]⟩ (.loop ⟨[(0,(.pt 2000 0)),(3,(.d (.pt 160)))],[(2000,.var 163 [(.d .str),(.d (.int .i64)),(.d .bool)])]⟩ .leaf)) .leaf))) [(155,some 5,(dW G1)),(155,some 16,(dW G1)),(156,some 12,dI)] (.cons h1 (.cons h1 (.cons eM .nil))) (by kernel_rfl) (by kernel_rfl) (by kernel_rfl) (fun xs=>by kernel_rfl)
theorem uQ {G0 G1 G2:List C→Option (List C)} (h0:aG Tryz.checked.prog T0 132 (dN G0)) (h1:aG Tryz.checked.prog T0 155 (dW G1)) (h2:aG Tryz.checked.prog T0 169 (dD G2)):aG Tryz.checked.prog T0 155 (dW (dx.step G0 G1 G2)):=bw aE (fn:=Tryz.f155) (c:=Tryz.f155.body.getD .skip) (dW (dx.step G0 G1 G2)) (.seq .leaf (.seq .leaf (.seq (.block ⟨[(3,(.d (.pt 160)))],[(2000,.var 163 [(.d .str),(.d (.int .i64)),(.d .bool)])]⟩ (.loop ⟨[(0,(.pt 2000 0)),(3,(.d (.pt 160)))],[(2000,.var 163 [(.d .str),(.d (.int .i64)),(.d .bool)])]⟩ .leaf)) .leaf))) [(156,some 12,dI),(169,some 5,(dD G2)),(169,some 16,(dD G2))] (.cons eM (.cons h2 (.cons h2 .nil))) (by kernel_rfl) (by kernel_rfl) (by kernel_rfl) (fun xs=>by kernel_rfl)
theorem u0 {G0 G1 G2:List C→Option (List C)} (h0:aG Tryz.checked.prog T0 132 (dN G0)) (h1:aG Tryz.checked.prog T0 155 (dW G1)) (h2:aG Tryz.checked.prog T0 169 (dD G2)):aG Tryz.checked.prog T0 169 (dD (eZ.step G0 G1 G2)):=bw aE (fn:=Tryz.f169) (c:=Tryz.f169.body.getD .skip) (dD (eZ.step G0 G1 G2)) (.seq .leaf (.seq (.skip (.seq .leaf (.cond (.seq .leaf (.frz [12] .leaf)) (.seq .leaf (.cond (.seq .leaf (.frz [18,20] .leaf)) .leaf))))) (.seq .leaf (.seq .leaf (.seq .leaf (.frz [41] .leaf)))))) [(132,some 25,(dN G0)),(156,some 15,dI),(156,some 23,dI),(156,some 33,dI),(156,some 48,dI),(169,some 17,(dD G2)),(179,some 39,hJ),(179,some 53,hJ)] (.cons h0 (.cons eM (.cons eM (.cons eM (.cons eM (.cons h2 (.cons nq (.cons nq .nil)))))))) (by kernel_rfl) (by kernel_rfl) (by kernel_rfl) (fun xs=>by kernel_rfl)
def ak.g:Nat→Nat→List C→Option (List C)
 |0,_=>fun _=>none
 |k+1,0=>ak.step (ak.g k 0) (ak.g k 1) (ak.g k 2)
 |k+1,1=>dx.step (ak.g k 0) (ak.g k 1) (ak.g k 2)
 |k+1,2=>eZ.step (ak.g k 0) (ak.g k 1) (ak.g k 2)
 |_,_=>fun _=>none
theorem cO:∀k:Nat,aG Tryz.checked.prog T0 132 (dN (ak.g k 0))∧aG Tryz.checked.prog T0 155 (dW (ak.g k 1))∧aG Tryz.checked.prog T0 169 (dD (ak.g k 2))
 |0=>⟨pZ (fn:=Tryz.f132) (c:=Tryz.f132.body.getD .skip) (1) (⟨[(0,(.pt 2000 0))],[(2000,.var 163 [(.d .str),(.d (.int .i64)),(.d .bool)])]⟩) (⟨[(0,(.d (.pt 160)))],[(2000,.var 163 [(.d .str),(.d (.int .i64)),(.d .bool)])]⟩) [2000] (by kernel_rfl) (by kernel_rfl) (by kernel_rfl),pZ (fn:=Tryz.f155) (c:=Tryz.f155.body.getD .skip) (1) (⟨[(0,(.pt 2000 0))],[(2000,.var 163 [(.d .str),(.d (.int .i64)),(.d .bool)])]⟩) (⟨[(0,(.d (.pt 160)))],[(2000,.var 163 [(.d .str),(.d (.int .i64)),(.d .bool)])]⟩) [2000] (by kernel_rfl) (by kernel_rfl) (by kernel_rfl),pZ (fn:=Tryz.f169) (c:=Tryz.f169.body.getD .skip) (1) (⟨[(0,(.pt 2000 0))],[(2000,.var 163 [(.d .str),(.d (.int .i64)),(.d .bool)])]⟩) (⟨[(0,(.d (.pt 160)))],[(2000,.var 163 [(.d .str),(.d (.int .i64)),(.d .bool)])]⟩) [2000] (by kernel_rfl) (by kernel_rfl) (by kernel_rfl)⟩
 |k+1=>⟨wh (cO k).1 (cO k).2.1 (cO k).2.2,uQ (cO k).1 (cO k).2.1 (cO k).2.2,u0 (cO k).1 (cO k).2.1 (cO k).2.2⟩
def ak:List C→Option (List C):=ak.g p8 0
theorem wc:aG Tryz.checked.prog T0 132 (dN ak):=(cO p8).1
def dx:List C→Option (List C):=ak.g p8 1
def eZ:List C→Option (List C):=ak.g p8 2
def ao.d1 (G0:List C→Option (List C)) (a b c d:C):R:=(bif (decide (d.I<c.I)) then (bif (decide (0≤d.I)) then (bif (decide (d.I<(b.L.length:Int))) then (aa (G0 [((b.L.getD d.I.toNat []).getD 0 .nil)]) fun e=>(some (.again [.i (if (w64 (e.I+1))>a.I then (w64 (e.I+1)) else a.I),b,c,.i (w64 (d.I+1))]))) else none) else none) else (some (.brk 0 [a])))
def ao.d2 (G0:List C→Option (List C)) (a:C):R:=(some (.ret [a]))
def ao.d3 (G0:List C→Option (List C)) (a:C):R:=(bif a.isP then (aq 0 (lim (apn 4 (ao.d1 G0)) [.i 0,(a.P.getD 3 .nil),.i (((a.P.getD 3 .nil).L).length:Int),.i 0]) (apn 1 (ao.d2 G0))) else none)
def ao.step (G0:List C→Option (List C)):List C→Option (List C):=fun xs=>ba (apn 1 (ao.d3 G0) xs)
def eP (G:List C→Option (List C)):FS:=⟨1,⟨[(0,(.d (.pt 160)))],[]⟩,⟨[(0,(.d (.int .i64)))],[]⟩,[],G⟩
theorem v7 {G0:List C→Option (List C)} (h0:aG Tryz.checked.prog T0 134 (eP G0)):aG Tryz.checked.prog T0 134 (eP (ao.step G0)):=bw aE (fn:=Tryz.f134) (c:=Tryz.f134.body.getD .skip) (eP (ao.step G0)) (.seq .leaf (.seq .leaf (.seq (.seq .leaf (.block ⟨[(3,(.d (.int .i64)))],[]⟩ (.loop ⟨[(3,(.d (.int .i64))),(9,(.d (.sl 141))),(10,(.d (.int .i64))),(11,(.d (.int .i64)))],[]⟩ .leaf))) .leaf))) [(134,some 17,(eP G0))] (.cons h0 .nil) (by kernel_rfl) (by kernel_rfl) (by kernel_rfl) (fun xs=>by kernel_rfl)
def ao.g:Nat→Nat→List C→Option (List C)
 |0,_=>fun _=>none
 |k+1,0=>ao.step (ao.g k 0)
 |_,_=>fun _=>none
theorem nY:∀k:Nat,aG Tryz.checked.prog T0 134 (eP (ao.g k 0))
 |0=>pZ (fn:=Tryz.f134) (c:=Tryz.f134.body.getD .skip) (1) (⟨[(0,(.d (.pt 160)))],[]⟩) (⟨[(0,(.d (.int .i64)))],[]⟩) [] (by kernel_rfl) (by kernel_rfl) (by kernel_rfl)
 |k+1=>v7 (nY k)
def ao:List C→Option (List C):=ao.g p8 0
theorem wg:aG Tryz.checked.prog T0 134 (eP ao):=nY p8
def lA.d1 (a:C):R:=(bif (decide ((a.S.size:Int)>200)) then (some (.ret [.nil,.i 1])) else (aa (eT [a,.s (bs #[32])]) fun b=>(bif (b.S.toList==(bs #[]).toList) then (some (.ret [.p [.i 0,.s (bs #[]),.s (bs #[]),.l aB],.i 0])) else (call4 (ak [a,.i 0,.b true]) fun c d e f=>(call3 (bI [d,e,f]) fun g h i=>(bif (!(!i.B)) then (bif (decide (h.I<(a.S.size:Int))) then (some (.ret [.nil,.i 2])) else (aa (ao [c]) fun j=>(bif (decide (j.I>20)) then (some (.ret [.nil,.i 3])) else (some (.ret [c,.i 0]))))) else (some (.ret [.nil,.i 2]))))))))
def lA:List C→Option (List C):=fun xs=>ba (apn 1 lA.d1 xs)
def nA:FS:=⟨1,⟨[(0,zt)],[]⟩,⟨[(0,(.tu [(.d (.pt 160)),zi]))],[]⟩,[],lA⟩
theorem vS:aG Tryz.checked.prog T0 116 nA:=bw aE (fn:=Tryz.f116) (c:=Tryz.f116.body.getD .skip) nA (.seq .leaf (.seq .leaf (.seq (.seq .leaf (.cond (.seq .leaf (.frz [13] .leaf)) .leaf)) .leaf))) [(131,some 10,lF),(132,some 18,(dN ak)),(133,some 20,fV),(134,some 36,(eP ao))] (.cons we (.cons wc (.cons kB (.cons wg .nil)))) (by kernel_rfl) (by kernel_rfl) (by kernel_rfl) (fun xs=>by kernel_rfl)
end
end Go.Ev
namespace Go.Ev
open Go.Proofs
noncomputable section
def cQ.d1 (a b c:C):R:=(bif (decide (c.I<b.I)) then (bif (decide (0≤c.I)) then (bif (decide (c.I<(a.L.length:Int))) then (call2 (lA [((a.L.getD c.I.toNat []).getD 0 .nil)]) fun d e=>(bif (!(e.I !=0)) then (aa (fi [((a.L.getD c.I.toNat []).getD 1 .nil),.i (-9),.i 9]) fun f=>(bif (!f.B) then (some (.ret [.b false])) else (some (.again [a,b,.i (w64 (c.I+1))])))) else (some (.ret [.b false])))) else none) else none) else (some (.brk 0 [])))
def cQ.d2:R:=(some (.ret [.b true]))
def cQ.d3 (a b c d e f g h i j k l m:C):R:=(bif a.B then (some (.ret [.b false])) else (call2 (lA [h]) fun n o=>(bif (o.I !=0) then (some (.ret [.b false])) else (aq 0 (lim (apn 3 cQ.d1) [i,.i (i.L.length:Int),.i 0]) (fun xs=>cQ.d2)))))
def cQ.d4 (a b c d e f g h i j k l:C):R:=(cJ (aa (dP [a]) fun m=>(bif (!(!m.B)) then (aa (fi [c,.i 0,.i 100]) fun n=>(bif (!(!n.B)) then (aa (fi [d,.i 0,.i 1000000]) fun o=>(bif (!(!o.B)) then (aa (fi [e,.i 0,.i 1000]) fun p=>(bif (!(!p.B)) then (aa (fi [f,.i 0,.i 1000]) fun q=>(bif (!(!q.B)) then (bif (!(decide ((h.L.length:Int)>5))) then (aa (fi [i,.i 0,.i 2]) fun r=>(bif (!(!r.B)) then (bif (!(j.S.toList==(bs #[]).toList)) then (aa (dP [j]) fun s=>(bif (!(!s.B)) then (bif (!(k.S.toList==(bs #[]).toList)) then (aa (dP [k]) fun t=>(some (.nrm [.b (!t.B),a,b,c,d,e,f,g,h,i,j,k,l]))) else (some (.nrm [.b false,a,b,c,d,e,f,g,h,i,j,k,l]))) else (some (.nrm [.b true,a,b,c,d,e,f,g,h,i,j,k,l])))) else (bif (!(k.S.toList==(bs #[]).toList)) then (aa (dP [k]) fun u=>(some (.nrm [.b (!u.B),a,b,c,d,e,f,g,h,i,j,k,l]))) else (some (.nrm [.b false,a,b,c,d,e,f,g,h,i,j,k,l])))) else (some (.nrm [.b true,a,b,c,d,e,f,g,h,i,j,k,l])))) else (some (.nrm [.b true,a,b,c,d,e,f,g,h,i,j,k,l]))) else (some (.nrm [.b true,a,b,c,d,e,f,g,h,i,j,k,l])))) else (some (.nrm [.b true,a,b,c,d,e,f,g,h,i,j,k,l])))) else (some (.nrm [.b true,a,b,c,d,e,f,g,h,i,j,k,l])))) else (some (.nrm [.b true,a,b,c,d,e,f,g,h,i,j,k,l])))) else (some (.nrm [.b true,a,b,c,d,e,f,g,h,i,j,k,l])))) (apn 13 cQ.d3))
def cQ:List C→Option (List C):=fun xs=>ba (apn 12 cQ.d4 xs)
def oV:FS:=⟨1,⟨[(0,z4)],[]⟩,⟨[(0,zo)],[]⟩,[],cQ⟩
theorem zJ:aG Tryz.checked.prog T0 76 oV:=bw aE (fn:=Tryz.f76) (c:=Tryz.f76.body.getD .skip) oV (.seq .leaf (.seq (.seq (.join ⟨[(1,(.pt 1 0)),(70,zo)],[(1,z8)]⟩ .leaf) .leaf) (.seq .leaf (.seq (.seq .leaf (.block ⟨[],[]⟩ (.loop ⟨[(80,(zl 122)),(81,zi),(82,zi)],[]⟩ .leaf))) .leaf)))) [(74,some 11,fg),(74,some 56,fg),(74,some 67,fg),(75,some 16,eH),(75,some 22,eH),(75,some 28,eH),(75,some 34,eH),(75,some 46,eH),(75,some 97,eH),(116,some 74,nA),(116,some 89,nA)] (.cons gG (.cons gG (.cons gG (.cons fw (.cons fw (.cons fw (.cons fw (.cons fw (.cons fw (.cons vS (.cons vS .nil))))))))))) (by kernel_rfl) (by kernel_rfl) (by kernel_rfl) (fun xs=>by kernel_rfl)
def iK.d1 (a b c d e f g:C):R:=(bif g.isP then (some (.ret [.b (a.S.toList==((g.P.getD 0 .nil).S).toList)])) else none)
def iK:List C→Option (List C):=fun xs=>ba (apn 7 iK.d1 xs)
def lG:FS:=⟨2,⟨[(0,z6),(1,(.d (.pt 9)))],[]⟩,⟨[(0,zo)],[]⟩,[],iK⟩
theorem v8:aG Tryz.checked.prog T0 78 lG:=bw aE (fn:=Tryz.f78) (c:=Tryz.f78.body.getD .skip) lG .leaf [] .nil (by kernel_rfl) (by kernel_rfl) (by kernel_rfl) (fun xs=>by kernel_rfl)
def aF.d1 (a b c d:C):R:=(bif (decide (d.I<c.I)) then (bif (decide (0≤d.I)) then (bif (decide (d.I<(a.L.length:Int))) then (aa (iK [((a.L.getD d.I.toNat []).getD 0 .nil),((a.L.getD d.I.toNat []).getD 1 .nil),((a.L.getD d.I.toNat []).getD 2 .nil),((a.L.getD d.I.toNat []).getD 3 .nil),((a.L.getD d.I.toNat []).getD 4 .nil),((a.L.getD d.I.toNat []).getD 5 .nil),b]) fun e=>(bif e.B then (some (.ret [d])) else (some (.again [a,b,c,.i (w64 (d.I+1))])))) else none) else none) else (some (.brk 0 [])))
def aF.d2:R:=(some (.ret [.i (-1)]))
def aF.d3 (a b:C):R:=(aq 0 (lim (apn 4 aF.d1) [a,b,.i (a.L.length:Int),.i 0]) (fun xs=>aF.d2))
def aF:List C→Option (List C):=fun xs=>ba (apn 2 aF.d3 xs)
def eC:FS:=⟨2,⟨[(0,(zl 30)),(1,(.fn 78 [(.d (.pt 9))]))],[]⟩,⟨[(0,zi)],[]⟩,[],aF⟩
theorem kK:aG Tryz.checked.prog T0 27 eC:=bw aE (fn:=Tryz.f27) (c:=Tryz.f27.body.getD .skip) eC (.seq .leaf (.seq (.seq .leaf (.block ⟨[],[]⟩ (.loop ⟨[(0,(zl 30)),(1,(.fn 78 [(.d (.pt 9))])),(7,zi),(8,zi)],[]⟩ .leaf))) .leaf)) [(78,some 16,lG)] (.cons v8 .nil) (by kernel_rfl) (by kernel_rfl) (by kernel_rfl) (fun xs=>by kernel_rfl)
def eQ.d1 (a b c d e:C):R:=(aa (aF [b,.p [e]]) fun f=>(some (.ret [f])))
def eQ:List C→Option (List C):=fun xs=>ba (apn 5 eQ.d1 xs)
def fJ:FS:=⟨2,⟨[(0,z2),(1,zt)],[]⟩,⟨[(0,zi)],[]⟩,[],eQ⟩
theorem iX:aG Tryz.checked.prog T0 26 fJ:=bw aE (fn:=Tryz.f26) (c:=Tryz.f26.body.getD .skip) fJ .leaf [(27,some 8,eC)] (.cons kK .nil) (by kernel_rfl) (by kernel_rfl) (by kernel_rfl) (fun xs=>by kernel_rfl)
def da.d1 (a b c d e f:C):R:=(bif (decide (f.I<e.I)) then (bif (decide (0≤f.I)) then (bif (decide (f.I<(d.L.length:Int))) then (bif ((((d.L.getD f.I.toNat []).getD 11 .nil).S).toList==a.S.toList) then (some (.again [a,.i (w64 (b.I+((d.L.getD f.I.toNat []).getD 4 .nil).I)),.i (w64 (c.I+((d.L.getD f.I.toNat []).getD 5 .nil).I)),d,e,.i (w64 (f.I+1))])) else (some (.again [a,b,c,d,e,.i (w64 (f.I+1))]))) else none) else none) else (some (.brk 0 [b,c])))
def da.d2 (a b:C):R:=(some (.ret [a,b]))
def da.d3 (a b c d e:C):R:=(bif (!(e.S.toList==(bs #[]).toList)) then (aa (eQ [a,b,c,d,e]) fun f=>(bif (decide (f.I<0)) then (some (.ret [.i 0,.i 0])) else (aq 0 (lim (apn 6 da.d1) [e,.i 0,.i 0,d,.i (d.L.length:Int),.i 0]) (apn 2 da.d2)))) else (some (.ret [.i 0,.i 0])))
def da:List C→Option (List C):=fun xs=>ba (apn 5 da.d3 xs)
def mH:FS:=⟨2,⟨[(0,z2),(1,zt)],[]⟩,⟨[(0,(.tu [zi,zi]))],[]⟩,[],da⟩
theorem xk:aG Tryz.checked.prog T0 77 mH:=bw aE (fn:=Tryz.f77) (c:=Tryz.f77.body.getD .skip) mH (.seq .leaf (.seq .leaf (.seq .leaf (.seq (.seq .leaf (.block ⟨[(6,zi),(7,zi)],[]⟩ (.loop ⟨[(1,zt),(6,zi),(7,zi),(19,(zl 33)),(20,zi),(21,zi)],[]⟩ .leaf))) .leaf)))) [(26,some 15,fJ)] (.cons iX .nil) (by kernel_rfl) (by kernel_rfl) (by kernel_rfl) (fun xs=>by kernel_rfl)
def ad.d1 (a b c d e f g:C):R:=(bif (decide (c.I<b.I)) then (bif (decide (0≤c.I)) then (bif (decide (c.I<(a.L.length:Int))) then (aa (dF [((a.L.getD c.I.toNat []).getD 0 .nil),((a.L.getD c.I.toNat []).getD 1 .nil),((a.L.getD c.I.toNat []).getD 2 .nil),((a.L.getD c.I.toNat []).getD 3 .nil),((a.L.getD c.I.toNat []).getD 4 .nil),((a.L.getD c.I.toNat []).getD 5 .nil)]) fun h=>(bif (!(!h.B)) then (bif (decide (c.I>0)) then (bif (decide (0≤(w64 (c.I-1)))) then (bif (decide ((w64 (c.I-1))<(e.L.length:Int))) then (bif ((Op.bytesLess (((a.L.getD c.I.toNat []).getD 0 .nil).S).toList (((e.L.getD (w64 (c.I-1)).toNat []).getD 0 .nil).S).toList)||((((a.L.getD c.I.toNat []).getD 0 .nil).S).toList==(((e.L.getD (w64 (c.I-1)).toNat []).getD 0 .nil).S).toList)) then (some (.ret [.b false])) else (some (.again [a,b,.i (w64 (c.I+1)),d,e,f,g]))) else none) else none) else (some (.again [a,b,.i (w64 (c.I+1)),d,e,f,g]))) else (some (.ret [.b false])))) else none) else none) else (some (.brk 0 [d,e,f,g])))
def ad.d2 (a b c d e f g h:C):R:=(bif (decide (c.I<b.I)) then (bif (decide (0≤c.I)) then (bif (decide (c.I<(a.L.length:Int))) then (aa (dP [((a.L.getD c.I.toNat []).getD 0 .nil)]) fun i=>(bif (!(!i.B)) then (aa (fi [((a.L.getD c.I.toNat []).getD 1 .nil),.i 0,.i 60]) fun j=>(bif (!(!j.B)) then (bif (decide (c.I>0)) then (bif (decide (0≤(w64 (c.I-1)))) then (bif (decide ((w64 (c.I-1))<(f.L.length:Int))) then (bif ((Op.bytesLess (((a.L.getD c.I.toNat []).getD 0 .nil).S).toList (((f.L.getD (w64 (c.I-1)).toNat []).getD 0 .nil).S).toList)||((((a.L.getD c.I.toNat []).getD 0 .nil).S).toList==(((f.L.getD (w64 (c.I-1)).toNat []).getD 0 .nil).S).toList)) then (some (.ret [.b false])) else (some (.again [a,b,.i (w64 (c.I+1)),d,e,f,g,.l (mX (((a.L.getD c.I.toNat []).getD 0 .nil).S) (.b true) h.L)]))) else none) else none) else (some (.again [a,b,.i (w64 (c.I+1)),d,e,f,g,.l (mX (((a.L.getD c.I.toNat []).getD 0 .nil).S) (.b true) h.L)]))) else (some (.ret [.b false])))) else (some (.ret [.b false])))) else none) else none) else (some (.brk 2 [d,e,f,g,.l h.L])))
def ad.d3 (a b c d e f g h i j k l m n o p q r s t u v:C):R:=(bif d.B then (some (.ret [.b false])) else (some (.again [a,b,.i (w64 (c.I+1)),e,f,g,h,.l i.L,.l (mX v.S (.i (w64 ((lT (.i 0) v.S j.L).I+1))) j.L)])))
def ad.d4 (a b c d e f g h i:C):R:=(bif (decide (c.I<b.I)) then (bif (decide (0≤c.I)) then (bif (decide (c.I<(a.L.length:Int))) then (cJ (aa (cQ [((a.L.getD c.I.toNat []).getD 0 .nil),((a.L.getD c.I.toNat []).getD 1 .nil),((a.L.getD c.I.toNat []).getD 2 .nil),((a.L.getD c.I.toNat []).getD 3 .nil),((a.L.getD c.I.toNat []).getD 4 .nil),((a.L.getD c.I.toNat []).getD 5 .nil),((a.L.getD c.I.toNat []).getD 6 .nil),((a.L.getD c.I.toNat []).getD 7 .nil),((a.L.getD c.I.toNat []).getD 8 .nil),((a.L.getD c.I.toNat []).getD 9 .nil),((a.L.getD c.I.toNat []).getD 10 .nil),((a.L.getD c.I.toNat []).getD 11 .nil)]) fun j=>(bif (!(!j.B)) then (bif (!(!((lT (.b false) (((a.L.getD c.I.toNat []).getD 1 .nil).S) h.L).B))) then (bif (decide (c.I>0)) then (bif (decide (0≤(w64 (c.I-1)))) then (bif (decide ((w64 (c.I-1))<(g.L.length:Int))) then (bif (!((Op.bytesLess (((a.L.getD c.I.toNat []).getD 0 .nil).S).toList (((g.L.getD (w64 (c.I-1)).toNat []).getD 0 .nil).S).toList)||((((a.L.getD c.I.toNat []).getD 0 .nil).S).toList==(((g.L.getD (w64 (c.I-1)).toNat []).getD 0 .nil).S).toList))) then (bif (!((((a.L.getD c.I.toNat []).getD 11 .nil).S).toList==(bs #[]).toList)) then (aa (eQ [d,e,f,g,((a.L.getD c.I.toNat []).getD 11 .nil)]) fun k=>(some (.nrm [a,b,c,.b (decide (k.I<0)),d,e,f,g,.l h.L,.l i.L,((a.L.getD c.I.toNat []).getD 0 .nil),((a.L.getD c.I.toNat []).getD 1 .nil),((a.L.getD c.I.toNat []).getD 2 .nil),((a.L.getD c.I.toNat []).getD 3 .nil),((a.L.getD c.I.toNat []).getD 4 .nil),((a.L.getD c.I.toNat []).getD 5 .nil),((a.L.getD c.I.toNat []).getD 6 .nil),((a.L.getD c.I.toNat []).getD 7 .nil),((a.L.getD c.I.toNat []).getD 8 .nil),((a.L.getD c.I.toNat []).getD 9 .nil),((a.L.getD c.I.toNat []).getD 10 .nil),((a.L.getD c.I.toNat []).getD 11 .nil)]))) else (some (.nrm [a,b,c,.b false,d,e,f,g,.l h.L,.l i.L,((a.L.getD c.I.toNat []).getD 0 .nil),((a.L.getD c.I.toNat []).getD 1 .nil),((a.L.getD c.I.toNat []).getD 2 .nil),((a.L.getD c.I.toNat []).getD 3 .nil),((a.L.getD c.I.toNat []).getD 4 .nil),((a.L.getD c.I.toNat []).getD 5 .nil),((a.L.getD c.I.toNat []).getD 6 .nil),((a.L.getD c.I.toNat []).getD 7 .nil),((a.L.getD c.I.toNat []).getD 8 .nil),((a.L.getD c.I.toNat []).getD 9 .nil),((a.L.getD c.I.toNat []).getD 10 .nil),((a.L.getD c.I.toNat []).getD 11 .nil)]))) else (some (.nrm [a,b,c,.b true,d,e,f,g,.l h.L,.l i.L,((a.L.getD c.I.toNat []).getD 0 .nil),((a.L.getD c.I.toNat []).getD 1 .nil),((a.L.getD c.I.toNat []).getD 2 .nil),((a.L.getD c.I.toNat []).getD 3 .nil),((a.L.getD c.I.toNat []).getD 4 .nil),((a.L.getD c.I.toNat []).getD 5 .nil),((a.L.getD c.I.toNat []).getD 6 .nil),((a.L.getD c.I.toNat []).getD 7 .nil),((a.L.getD c.I.toNat []).getD 8 .nil),((a.L.getD c.I.toNat []).getD 9 .nil),((a.L.getD c.I.toNat []).getD 10 .nil),((a.L.getD c.I.toNat []).getD 11 .nil)]))) else none) else none) else (bif (!((((a.L.getD c.I.toNat []).getD 11 .nil).S).toList==(bs #[]).toList)) then (aa (eQ [d,e,f,g,((a.L.getD c.I.toNat []).getD 11 .nil)]) fun l=>(some (.nrm [a,b,c,.b (decide (l.I<0)),d,e,f,g,.l h.L,.l i.L,((a.L.getD c.I.toNat []).getD 0 .nil),((a.L.getD c.I.toNat []).getD 1 .nil),((a.L.getD c.I.toNat []).getD 2 .nil),((a.L.getD c.I.toNat []).getD 3 .nil),((a.L.getD c.I.toNat []).getD 4 .nil),((a.L.getD c.I.toNat []).getD 5 .nil),((a.L.getD c.I.toNat []).getD 6 .nil),((a.L.getD c.I.toNat []).getD 7 .nil),((a.L.getD c.I.toNat []).getD 8 .nil),((a.L.getD c.I.toNat []).getD 9 .nil),((a.L.getD c.I.toNat []).getD 10 .nil),((a.L.getD c.I.toNat []).getD 11 .nil)]))) else (some (.nrm [a,b,c,.b false,d,e,f,g,.l h.L,.l i.L,((a.L.getD c.I.toNat []).getD 0 .nil),((a.L.getD c.I.toNat []).getD 1 .nil),((a.L.getD c.I.toNat []).getD 2 .nil),((a.L.getD c.I.toNat []).getD 3 .nil),((a.L.getD c.I.toNat []).getD 4 .nil),((a.L.getD c.I.toNat []).getD 5 .nil),((a.L.getD c.I.toNat []).getD 6 .nil),((a.L.getD c.I.toNat []).getD 7 .nil),((a.L.getD c.I.toNat []).getD 8 .nil),((a.L.getD c.I.toNat []).getD 9 .nil),((a.L.getD c.I.toNat []).getD 10 .nil),((a.L.getD c.I.toNat []).getD 11 .nil)])))) else (some (.nrm [a,b,c,.b true,d,e,f,g,.l h.L,.l i.L,((a.L.getD c.I.toNat []).getD 0 .nil),((a.L.getD c.I.toNat []).getD 1 .nil),((a.L.getD c.I.toNat []).getD 2 .nil),((a.L.getD c.I.toNat []).getD 3 .nil),((a.L.getD c.I.toNat []).getD 4 .nil),((a.L.getD c.I.toNat []).getD 5 .nil),((a.L.getD c.I.toNat []).getD 6 .nil),((a.L.getD c.I.toNat []).getD 7 .nil),((a.L.getD c.I.toNat []).getD 8 .nil),((a.L.getD c.I.toNat []).getD 9 .nil),((a.L.getD c.I.toNat []).getD 10 .nil),((a.L.getD c.I.toNat []).getD 11 .nil)]))) else (some (.nrm [a,b,c,.b true,d,e,f,g,.l h.L,.l i.L,((a.L.getD c.I.toNat []).getD 0 .nil),((a.L.getD c.I.toNat []).getD 1 .nil),((a.L.getD c.I.toNat []).getD 2 .nil),((a.L.getD c.I.toNat []).getD 3 .nil),((a.L.getD c.I.toNat []).getD 4 .nil),((a.L.getD c.I.toNat []).getD 5 .nil),((a.L.getD c.I.toNat []).getD 6 .nil),((a.L.getD c.I.toNat []).getD 7 .nil),((a.L.getD c.I.toNat []).getD 8 .nil),((a.L.getD c.I.toNat []).getD 9 .nil),((a.L.getD c.I.toNat []).getD 10 .nil),((a.L.getD c.I.toNat []).getD 11 .nil)])))) (apn 22 ad.d3)) else none) else none) else (some (.brk 4 [d,e,f,g,.l i.L])))
def ad.d5 (a b c d e f g h:C):R:=(bif (decide (c.I<b.I)) then (bif (decide (0≤c.I)) then (bif (decide (c.I<(a.L.length:Int))) then (call2 (da [d,e,f,g,((a.L.getD c.I.toNat []).getD 0 .nil)]) fun i j=>(bif (!(decide ((lT (.i 0) (((a.L.getD c.I.toNat []).getD 0 .nil).S) h.L).I>10))) then (bif (!(decide (i.I>((a.L.getD c.I.toNat []).getD 3 .nil).I))) then (bif (decide (j.I>((a.L.getD c.I.toNat []).getD 4 .nil).I)) then (some (.ret [.b false])) else (some (.again [a,b,.i (w64 (c.I+1)),d,e,f,g,.l h.L]))) else (some (.ret [.b false]))) else (some (.ret [.b false])))) else none) else none) else (some (.brk 6 [])))
def ad.d6:R:=(some (.ret [.b true]))
def ad.d7 (a b c d e:C):R:=(aq 6 (lim (apn 8 ad.d5) [b,.i (b.L.length:Int),.i 0,a,b,c,d,.l e.L]) (fun xs=>ad.d6))
def ad.d8 (a b c d e:C):R:=(aq 4 (lim (apn 9 ad.d4) [d,.i (d.L.length:Int),.i 0,a,b,c,d,.l e.L,.l aB]) (apn 5 ad.d7))
def ad.d9 (a b c d:C):R:=(aq 2 (lim (apn 8 ad.d2) [c,.i (c.L.length:Int),.i 0,a,b,c,d,.l aB]) (apn 5 ad.d8))
def ad.d10 (a b c d:C):R:=(bif (!(decide ((b.L.length:Int)>12))) then (bif (!(decide ((c.L.length:Int)>30))) then (bif (decide ((d.L.length:Int)>60)) then (some (.ret [.b false])) else (aq 0 (lim (apn 7 ad.d1) [b,.i (b.L.length:Int),.i 0,a,b,c,d]) (apn 4 ad.d9))) else (some (.ret [.b false]))) else (some (.ret [.b false])))
def ad:List C→Option (List C):=fun xs=>ba (apn 4 ad.d10 xs)
def jl:FS:=⟨1,⟨[(0,z2)],[]⟩,⟨[(0,zo)],[]⟩,[],ad⟩
theorem pJ:aG Tryz.checked.prog T0 23 jl:=bw aE (fn:=Tryz.f23) (c:=Tryz.f23.body.getD .skip) jl (.seq .leaf (.seq .leaf (.seq (.seq .leaf (.block ⟨[(1,(.pt 1 0))],[(1,z0)]⟩ (.loop ⟨[(1,(.pt 1 0)),(32,(zl 30)),(33,zi),(34,zi)],[(1,z0)]⟩ .leaf))) (.seq .leaf (.seq (.seq .leaf (.block ⟨[(1,(.pt 1 0)),(5,(.mp 59))],[(1,z0),(59,.mp 4)]⟩ (.loop ⟨[(1,(.pt 1 0)),(5,(.mp 59)),(61,(zl 86)),(62,zi),(63,zi)],[(1,z0),(59,.mp 4)]⟩ .leaf))) (.seq .leaf (.seq (.seq .leaf (.block ⟨[(1,(.pt 1 0)),(8,(.mp 98))],[(1,z0),(98,.mp 3)]⟩ (.loop ⟨[(1,(.pt 1 0)),(5,(.mp 59)),(8,(.mp 98)),(100,(zl 33)),(101,zi),(102,zi)],[(1,z0),(59,.mp 4),(98,.mp 3)]⟩ (.seq .leaf (.seq .leaf (.seq (.skip (.seq .leaf (.seq (.seq (.join ⟨[(1,(.pt 1 0)),(5,(.mp 59)),(8,(.mp 98)),(10,(.pt 10 0)),(100,(zl 33)),(101,zi),(102,zi),(144,zo)],[(1,z0),(59,.mp 4),(98,.mp 3),(10,z8)]⟩ .leaf) .leaf) .leaf))) .leaf)))))) (.seq (.seq .leaf (.block ⟨[],[]⟩ (.loop ⟨[(1,(.pt 1 0)),(8,(.mp 98)),(152,(zl 30)),(153,zi),(154,zi)],[(1,z0),(98,.mp 3)]⟩ .leaf))) .leaf)))))))) [(26,some 141,fJ),(73,some 40,nG),(74,some 70,fg),(75,some 75,eH),(76,some 108,oV),(77,some 162,mH)] (.cons iX (.cons yz (.cons gG (.cons fw (.cons zJ (.cons xk .nil)))))) (by kernel_rfl) (by kernel_rfl) (by kernel_rfl) (fun xs=>by kernel_rfl)
def fc.d1 (a b c d e f:C):R:=(bif (decide (c.L.length≤4294967296)) then (some (.ret [a,b,d,e,f,.l c.L])) else none)
def fc:List C→Option (List C):=fun xs=>ba (apn 6 fc.d1 xs)
def iw:FS:=⟨1,⟨[(0,z6)],[]⟩,⟨[(0,(.ag [zt,zt,(.ow 3000),zi,zi,zo]))],[(3000,.arr 9 1)]⟩,[],fc⟩
theorem oJ:aG Tryz.checked.prog T0 25 iw:=bw aE (fn:=Tryz.f25) (c:=Tryz.f25.body.getD .skip) iw .leaf [] .nil (by kernel_rfl) (by kernel_rfl) (by kernel_rfl) (fun xs=>by kernel_rfl)
def fC.d1 (a b c d e f g h i j k l:C):R:=(bif (decide (h.L.length≤4294967296)) then (some (.ret [a,b,c,d,e,f,g,i,j,k,l,.l h.L])) else none)
def fC:List C→Option (List C):=fun xs=>ba (apn 12 fC.d1 xs)
def jm:FS:=⟨1,⟨[(0,z4)],[]⟩,⟨[(0,(.ag [zt,zt,zi,zi,zi,zi,zt,(.ow 3000),zi,zt,zt,zt]))],[(3000,.arr 122 1)]⟩,[],fC⟩
theorem pD:aG Tryz.checked.prog T0 31 jm:=bw aE (fn:=Tryz.f31) (c:=Tryz.f31.body.getD .skip) jm .leaf [] .nil (by kernel_rfl) (by kernel_rfl) (by kernel_rfl) (fun xs=>by kernel_rfl)
def dk.d1 (a b c d e f g h i j k l m n o:C):R:=(bif (decide (c.I<b.I)) then (bif (decide (0≤c.I)) then (bif (decide (c.I<(a.L.length:Int))) then (call6 (fc [((a.L.getD c.I.toNat []).getD 0 .nil),((a.L.getD c.I.toNat []).getD 1 .nil),((a.L.getD c.I.toNat []).getD 2 .nil),((a.L.getD c.I.toNat []).getD 3 .nil),((a.L.getD c.I.toNat []).getD 4 .nil),((a.L.getD c.I.toNat []).getD 5 .nil)]) fun p q r s t u=>(bif (decide (m.L.length+(rows [[p,q,.l u.L,r,s,t]]).length≤4294967296)) then (some (.again [a,b,.i (w64 (c.I+1)),d,e,f,g,h,i,.l j.L,.l k.L,.l l.L,.l (m.L++(rows [[p,q,.l u.L,r,s,t]])),.l n.L,.l o.L])) else none)) else none) else none) else (some (.brk 0 [d,e,f,g,h,i,.l j.L,.l k.L,.l l.L,.l m.L,.l n.L,.l o.L])))
def dk.d2 (a b c d e f g h i j k:C):R:=(bif (decide (c.I<b.I)) then (bif (decide (0≤c.I)) then (bif (decide (c.I<(a.L.length:Int))) then (call12 (fC [((a.L.getD c.I.toNat []).getD 0 .nil),((a.L.getD c.I.toNat []).getD 1 .nil),((a.L.getD c.I.toNat []).getD 2 .nil),((a.L.getD c.I.toNat []).getD 3 .nil),((a.L.getD c.I.toNat []).getD 4 .nil),((a.L.getD c.I.toNat []).getD 5 .nil),((a.L.getD c.I.toNat []).getD 6 .nil),((a.L.getD c.I.toNat []).getD 7 .nil),((a.L.getD c.I.toNat []).getD 8 .nil),((a.L.getD c.I.toNat []).getD 9 .nil),((a.L.getD c.I.toNat []).getD 10 .nil),((a.L.getD c.I.toNat []).getD 11 .nil)]) fun l m n o p q r s t u v w=>(bif (decide (k.L.length+(rows [[l,m,n,o,p,q,r,.l w.L,s,t,u,v]]).length≤4294967296)) then (some (.again [a,b,.i (w64 (c.I+1)),d,e,.l f.L,.l g.L,.l h.L,.l i.L,.l j.L,.l (k.L++(rows [[l,m,n,o,p,q,r,.l w.L,s,t,u,v]]))])) else none)) else none) else none) else (some (.brk 2 [d,e,.l f.L,.l g.L,.l h.L,.l i.L,.l j.L,.l k.L])))
def dk.d3 (a b c d e f g h:C):R:=(some (.ret [b,.l f.L,.l g.L,.l h.L]))
def dk.d4 (a b c d e f g h i j k l:C):R:=(aq 2 (lim (apn 11 dk.d2) [d,.i (d.L.length:Int),.i 0,e,f,.l g.L,.l h.L,.l i.L,.l j.L,.l k.L,.l l.L]) (apn 8 dk.d3))
def dk.d5 (a b c d:C):R:=(bif (decide (c.L.length≤4294967296)) then (aq 0 (lim (apn 15 dk.d1) [b,.i (b.L.length:Int),.i 0,a,b,c,d,.b false,.b a.B,.l aB,.l aB,.l aB,.l aB,.l c.L,.l aB]) (apn 12 dk.d4)) else none)
def dk:List C→Option (List C):=fun xs=>ba (apn 4 dk.d5 xs)
def qi:FS:=⟨1,⟨[(0,z2)],[]⟩,⟨[(0,z7)],[(3000,.arr 30 1),(3001,.arr 86 1),(3002,.arr 33 1)]⟩,[],dk⟩
theorem Bi:aG Tryz.checked.prog T0 24 qi:=y3 aE [25,40] false (fn:=Tryz.f24) (c:=Tryz.f24.body.getD .skip) qi (.seq .leaf (.seq .leaf (.seq (.seq .leaf (.block ⟨[(1,(.pt 1 0)),(2,(.pt 2 0)),(3,(.pt 3 0))],[(1,z0),(2,z10),(3,.var 27 [zo,(.ow 1266403),(.ow 12),(.ow 1266404)]),(1266400,.arr 30 1),(1266401,.arr 86 1),(1266402,.arr 33 1),(1266403,.arr 30 1),(12,.arr 86 1),(1266404,.arr 33 1)]⟩ (.loop ⟨[(1,(.pt 1 0)),(2,(.pt 2 0)),(3,(.pt 3 0)),(15,(zl 30)),(16,zi),(17,zi)],[(1,z0),(2,z10),(3,.var 27 [zo,(.ow 1266403),(.ow 12),(.ow 1266404)]),(1266400,.arr 30 1),(1266401,.arr 86 1),(1266402,.arr 33 1),(1266403,.arr 30 1),(12,.arr 86 1),(1266404,.arr 33 1)]⟩ .leaf))) (.seq (.seq .leaf (.block ⟨[(2,(.pt 2 0)),(3,(.pt 3 0))],[(2,z10),(3,.var 27 [zo,(.ow 1266403),(.ow 12),(.ow 1266404)]),(1266400,.arr 30 1),(1266401,.arr 86 1),(1266402,.arr 33 1),(1266403,.arr 30 1),(12,.arr 86 1),(1266404,.arr 33 1)]⟩ (.loop ⟨[(2,(.pt 2 0)),(3,(.pt 3 0)),(30,(zl 33)),(31,zi),(32,zi)],[(2,z10),(3,.var 27 [zo,(.ow 1266403),(.ow 12),(.ow 1266404)]),(1266400,.arr 30 1),(1266401,.arr 86 1),(1266402,.arr 33 1),(1266403,.arr 30 1),(12,.arr 86 1),(1266404,.arr 33 1)]⟩ .leaf))) .leaf)))) [(25,some 24,iw),(31,some 39,jm)] (.cons oJ (.cons pD .nil)) (by kernel_rfl) (by kernel_rfl) (by kernel_rfl) (fun xs=>by kernel_rfl)
def ft.d1 (a b c d e f g:C):R:=(bif g.isP then (some (.ret [.b (!((Op.bytesLess a.S.toList ((g.P.getD 0 .nil).S).toList)||(a.S.toList==((g.P.getD 0 .nil).S).toList)))])) else none)
def ft:List C→Option (List C):=fun xs=>ba (apn 7 ft.d1 xs)
def jt:FS:=⟨2,⟨[(0,z6),(1,(.d (.pt 30)))],[]⟩,⟨[(0,zo)],[]⟩,[],ft⟩
theorem sg:aG Tryz.checked.prog T0 28 jt:=bw aE (fn:=Tryz.f28) (c:=Tryz.f28.body.getD .skip) jt .leaf [] .nil (by kernel_rfl) (by kernel_rfl) (by kernel_rfl) (fun xs=>by kernel_rfl)
def aw.d1 (a b c d:C):R:=(bif (decide (d.I<c.I)) then (bif (decide (0≤d.I)) then (bif (decide (d.I<(a.L.length:Int))) then (aa (ft [((a.L.getD d.I.toNat []).getD 0 .nil),((a.L.getD d.I.toNat []).getD 1 .nil),((a.L.getD d.I.toNat []).getD 2 .nil),((a.L.getD d.I.toNat []).getD 3 .nil),((a.L.getD d.I.toNat []).getD 4 .nil),((a.L.getD d.I.toNat []).getD 5 .nil),b]) fun e=>(bif e.B then (some (.ret [d])) else (some (.again [a,b,c,.i (w64 (d.I+1))])))) else none) else none) else (some (.brk 0 [])))
def aw.d2:R:=(some (.ret [.i (-1)]))
def aw.d3 (a b:C):R:=(aq 0 (lim (apn 4 aw.d1) [a,b,.i (a.L.length:Int),.i 0]) (fun xs=>aw.d2))
def aw:List C→Option (List C):=fun xs=>ba (apn 2 aw.d3 xs)
def dY:FS:=⟨2,⟨[(0,(zl 30)),(1,(.fn 28 [(.d (.pt 30))]))],[]⟩,⟨[(0,zi)],[]⟩,[],aw⟩
theorem jL:aG Tryz.checked.prog T0 27 dY:=bw aE (fn:=Tryz.f27) (c:=Tryz.f27.body.getD .skip) dY (.seq .leaf (.seq (.seq .leaf (.block ⟨[],[]⟩ (.loop ⟨[(0,(zl 30)),(1,(.fn 28 [(.d (.pt 30))])),(7,zi),(8,zi)],[]⟩ .leaf))) .leaf)) [(28,some 16,jt)] (.cons sg .nil) (by kernel_rfl) (by kernel_rfl) (by kernel_rfl) (fun xs=>by kernel_rfl)
def dM:List C→Option (List C):=vB
def gY:FS:=⟨3,xg 30,nF 30,[],dM⟩
theorem lW:aG Tryz.checked.prog T0 29 gY:=ER
def fM:List C→Option (List C):=vM
def gX:FS:=⟨3,yp 30,nF 30,[],fM⟩
theorem ma:aG Tryz.checked.prog T0 30 gX:=EW
def jK.d1 (a b c d e f g h i j k l m:C):R:=(bif m.isP then (some (.ret [.b (a.S.toList==((m.P.getD 0 .nil).S).toList)])) else none)
def jK:List C→Option (List C):=fun xs=>ba (apn 13 jK.d1 xs)
def mn:FS:=⟨2,⟨[(0,z4),(1,(.d (.pt 9)))],[]⟩,⟨[(0,zo)],[]⟩,[],jK⟩
theorem wQ:aG Tryz.checked.prog T0 81 mn:=bw aE (fn:=Tryz.f81) (c:=Tryz.f81.body.getD .skip) mn .leaf [] .nil (by kernel_rfl) (by kernel_rfl) (by kernel_rfl) (fun xs=>by kernel_rfl)
def aH.d1 (a b c d:C):R:=(bif (decide (d.I<c.I)) then (bif (decide (0≤d.I)) then (bif (decide (d.I<(a.L.length:Int))) then (aa (jK [((a.L.getD d.I.toNat []).getD 0 .nil),((a.L.getD d.I.toNat []).getD 1 .nil),((a.L.getD d.I.toNat []).getD 2 .nil),((a.L.getD d.I.toNat []).getD 3 .nil),((a.L.getD d.I.toNat []).getD 4 .nil),((a.L.getD d.I.toNat []).getD 5 .nil),((a.L.getD d.I.toNat []).getD 6 .nil),((a.L.getD d.I.toNat []).getD 7 .nil),((a.L.getD d.I.toNat []).getD 8 .nil),((a.L.getD d.I.toNat []).getD 9 .nil),((a.L.getD d.I.toNat []).getD 10 .nil),((a.L.getD d.I.toNat []).getD 11 .nil),b]) fun e=>(bif e.B then (some (.ret [d])) else (some (.again [a,b,c,.i (w64 (d.I+1))])))) else none) else none) else (some (.brk 0 [])))
def aH.d2:R:=(some (.ret [.i (-1)]))
def aH.d3 (a b:C):R:=(aq 0 (lim (apn 4 aH.d1) [a,b,.i (a.L.length:Int),.i 0]) (fun xs=>aH.d2))
def aH:List C→Option (List C):=fun xs=>ba (apn 2 aH.d3 xs)
def eE:FS:=⟨2,⟨[(0,(zl 33)),(1,(.fn 81 [(.d (.pt 9))]))],[]⟩,⟨[(0,zi)],[]⟩,[],aH⟩
theorem ly:aG Tryz.checked.prog T0 33 eE:=bw aE (fn:=Tryz.f33) (c:=Tryz.f33.body.getD .skip) eE (.seq .leaf (.seq (.seq .leaf (.block ⟨[],[]⟩ (.loop ⟨[(0,(zl 33)),(1,(.fn 81 [(.d (.pt 9))])),(7,zi),(8,zi)],[]⟩ .leaf))) .leaf)) [(81,some 16,mn)] (.cons wQ .nil) (by kernel_rfl) (by kernel_rfl) (by kernel_rfl) (fun xs=>by kernel_rfl)
def iL.d1 (a b c d e:C):R:=(aa (aH [d,.p [e]]) fun f=>(some (.ret [f])))
def iL:List C→Option (List C):=fun xs=>ba (apn 5 iL.d1 xs)
def kq:FS:=⟨2,⟨[(0,z2),(1,zt)],[]⟩,⟨[(0,zi)],[]⟩,[],iL⟩
theorem pB:aG Tryz.checked.prog T0 32 kq:=bw aE (fn:=Tryz.f32) (c:=Tryz.f32.body.getD .skip) kq .leaf [(33,some 8,eE)] (.cons ly .nil) (by kernel_rfl) (by kernel_rfl) (by kernel_rfl) (fun xs=>by kernel_rfl)
def fu.d1 (a b c d e f g h i j k l m:C):R:=(bif m.isP then (some (.ret [.b (!((Op.bytesLess a.S.toList ((m.P.getD 0 .nil).S).toList)||(a.S.toList==((m.P.getD 0 .nil).S).toList)))])) else none)
def fu:List C→Option (List C):=fun xs=>ba (apn 13 fu.d1 xs)
def jr:FS:=⟨2,⟨[(0,z4),(1,(.d (.pt 33)))],[]⟩,⟨[(0,zo)],[]⟩,[],fu⟩
theorem si:aG Tryz.checked.prog T0 34 jr:=bw aE (fn:=Tryz.f34) (c:=Tryz.f34.body.getD .skip) jr .leaf [] .nil (by kernel_rfl) (by kernel_rfl) (by kernel_rfl) (fun xs=>by kernel_rfl)
def ay.d1 (a b c d:C):R:=(bif (decide (d.I<c.I)) then (bif (decide (0≤d.I)) then (bif (decide (d.I<(a.L.length:Int))) then (aa (fu [((a.L.getD d.I.toNat []).getD 0 .nil),((a.L.getD d.I.toNat []).getD 1 .nil),((a.L.getD d.I.toNat []).getD 2 .nil),((a.L.getD d.I.toNat []).getD 3 .nil),((a.L.getD d.I.toNat []).getD 4 .nil),((a.L.getD d.I.toNat []).getD 5 .nil),((a.L.getD d.I.toNat []).getD 6 .nil),((a.L.getD d.I.toNat []).getD 7 .nil),((a.L.getD d.I.toNat []).getD 8 .nil),((a.L.getD d.I.toNat []).getD 9 .nil),((a.L.getD d.I.toNat []).getD 10 .nil),((a.L.getD d.I.toNat []).getD 11 .nil),b]) fun e=>(bif e.B then (some (.ret [d])) else (some (.again [a,b,c,.i (w64 (d.I+1))])))) else none) else none) else (some (.brk 0 [])))
def ay.d2:R:=(some (.ret [.i (-1)]))
def ay.d3 (a b:C):R:=(aq 0 (lim (apn 4 ay.d1) [a,b,.i (a.L.length:Int),.i 0]) (fun xs=>ay.d2))
def ay:List C→Option (List C):=fun xs=>ba (apn 2 ay.d3 xs)
def ei:FS:=⟨2,⟨[(0,(zl 33)),(1,(.fn 34 [(.d (.pt 33))]))],[]⟩,⟨[(0,zi)],[]⟩,[],ay⟩
theorem jT:aG Tryz.checked.prog T0 33 ei:=bw aE (fn:=Tryz.f33) (c:=Tryz.f33.body.getD .skip) ei (.seq .leaf (.seq (.seq .leaf (.block ⟨[],[]⟩ (.loop ⟨[(0,(zl 33)),(1,(.fn 34 [(.d (.pt 33))])),(7,zi),(8,zi)],[]⟩ .leaf))) .leaf)) [(34,some 16,jr)] (.cons si .nil) (by kernel_rfl) (by kernel_rfl) (by kernel_rfl) (fun xs=>by kernel_rfl)
def dU:List C→Option (List C):=vB
def ij:FS:=⟨3,xg 33,nF 33,[],dU⟩
theorem mE:aG Tryz.checked.prog T0 35 ij:=DS
def gm:List C→Option (List C):=vM
def ic:FS:=⟨3,yp 33,nF 33,[],gm⟩
theorem mo:aG Tryz.checked.prog T0 36 ic:=EH
def aj.d1 (a b c d e f g h i j k l m n o p q r s t u v w x y z a0 a1 a2 a3 a4:C):R:=(bif (decide (b.I<a.I)) then (bif (decide (0≤b.I)) then (bif (decide (b.I<(a4.L.length:Int))) then (bif ((((a4.L.getD b.I.toNat []).getD 11 .nil).S).toList==v.S.toList) then (bif (decide (0≤b.I)) then (bif (decide (b.I<(a4.L.length:Int))) then (some (.again [a,.i (w64 (b.I+1)),c,d,e,f,g,h,i,j,k,l,m,n,o,p,q,r,s,t,u,v,w,x,y,.l z.L,.l a0.L,.l a1.L,.l a2.L,.l a3.L,.l (a4.L.set b.I.toNat (ar (a4.L.getD b.I.toNat []) 11 [.s (bs #[])]))])) else none) else none) else (some (.again [a,.i (w64 (b.I+1)),c,d,e,f,g,h,i,j,k,l,m,n,o,p,q,r,s,t,u,v,w,x,y,.l z.L,.l a0.L,.l a1.L,.l a2.L,.l a3.L,.l a4.L]))) else none) else none) else (some (.brk 1 [x,y,.l z.L,.l a0.L,.l a1.L,.l a2.L,.l a3.L,.l a4.L])))
def aj.d2 (a b c d e f g h:C):R:=(aa (ad [b,.l f.L,.l g.L,.l h.L]) fun i=>(bif (!i.B) then (some (.ret [.b false,.i 2,.l aB,.l aB,.l aB])) else (some (.ret [b,.i 0,.l f.L,.l g.L,.l h.L]))))
def aj.d3 (a b c d e f g h i j k l m n o p q r s t u v w x y:C):R:=(aa (ad [a,b,c,d]) fun z=>(bif (!z.B) then (some (.ret [.b false,.i 1,.l aB,.l aB,.l aB])) else (call4 (dk [a,b,c,d]) fun a0 a1 a2 a3=>(bif (e.I==1) then (call6 (fc [f,g,h,i,j,k]) fun a4 a5 a6 a7 a8 a9=>(aa (eQ [a0,.l a1.L,.l a2.L,.l a3.L,a4]) fun b0=>(bif (decide (b0.I≥0)) then (bif (decide (0≤b0.I)) then (bif (decide (b0.I<(a1.L.length:Int))) then (aa (ad [a0,.l (a1.L.set b0.I.toNat (ar (a1.L.getD b0.I.toNat []) 0 [a4,a5,.l a9.L,a6,a7,a8])),.l a2.L,.l a3.L]) fun b1=>(bif (!b1.B) then (some (.ret [.b false,.i 2,.l aB,.l aB,.l aB])) else (some (.ret [a0,.i 0,.l (a1.L.set b0.I.toNat (ar (a1.L.getD b0.I.toNat []) 0 [a4,a5,.l a9.L,a6,a7,a8])),.l a2.L,.l a3.L])))) else none) else none) else (aa (aw [.l a1.L,.p [a4,a5,.l a9.L,a6,a7,a8]]) fun b2=>(bif (decide (b2.I<0)) then (aa (dM [.i (a1.L.length:Int),.l a1.L,.l (rows [[a4,a5,.l a9.L,a6,a7,a8]])]) fun b3=>(aa (ad [a0,.l b3.L,.l a2.L,.l a3.L]) fun b4=>(bif (!b4.B) then (some (.ret [.b false,.i 2,.l aB,.l aB,.l aB])) else (some (.ret [a0,.i 0,.l b3.L,.l a2.L,.l a3.L]))))) else (aa (dM [b2,.l a1.L,.l (rows [[a4,a5,.l a9.L,a6,a7,a8]])]) fun b5=>(aa (ad [a0,.l b5.L,.l a2.L,.l a3.L]) fun b6=>(bif (!b6.B) then (some (.ret [.b false,.i 2,.l aB,.l aB,.l aB])) else (some (.ret [a0,.i 0,.l b5.L,.l a2.L,.l a3.L])))))))))) else (bif (e.I==2) then (aa (eQ [a0,.l a1.L,.l a2.L,.l a3.L,x]) fun b7=>(bif (decide (b7.I<0)) then (some (.ret [.b false,.i 3,.l aB,.l aB,.l aB])) else (aa (fM [b7,.i (w64 (b7.I+1)),.l a1.L]) fun b8=>(aq 1 (lim (apn 31 aj.d1) [.i (a3.L.length:Int),.i 0,e,f,g,h,i,j,k,l,m,n,o,p,q,r,s,t,u,v,w,x,y,.b false,a0,.l aB,.l aB,.l aB,.l b8.L,.l a2.L,.l a3.L]) (apn 8 aj.d2))))) else (bif (e.I==3) then (call12 (fC [l,m,n,o,p,q,r,s,t,u,v,w]) fun b9 c0 c1 c2 c3 c4 c5 c6 c7 c8 c9 d0=>(aa (iL [a0,.l a1.L,.l a2.L,.l a3.L,b9]) fun d1=>(bif (decide (d1.I≥0)) then (bif (decide (0≤d1.I)) then (bif (decide (d1.I<(a3.L.length:Int))) then (aa (ad [a0,.l a1.L,.l a2.L,.l (a3.L.set d1.I.toNat (ar (a3.L.getD d1.I.toNat []) 0 [b9,c0,c1,c2,c3,c4,c5,.l d0.L,c6,c7,c8,c9]))]) fun d2=>(bif (!d2.B) then (some (.ret [.b false,.i 2,.l aB,.l aB,.l aB])) else (some (.ret [a0,.i 0,.l a1.L,.l a2.L,.l (a3.L.set d1.I.toNat (ar (a3.L.getD d1.I.toNat []) 0 [b9,c0,c1,c2,c3,c4,c5,.l d0.L,c6,c7,c8,c9]))])))) else none) else none) else (aa (ay [.l a3.L,.p [b9,c0,c1,c2,c3,c4,c5,.l d0.L,c6,c7,c8,c9]]) fun d3=>(bif (decide (d3.I<0)) then (aa (dU [.i (a3.L.length:Int),.l a3.L,.l (rows [[b9,c0,c1,c2,c3,c4,c5,.l d0.L,c6,c7,c8,c9]])]) fun d4=>(aa (ad [a0,.l a1.L,.l a2.L,.l d4.L]) fun d5=>(bif (!d5.B) then (some (.ret [.b false,.i 2,.l aB,.l aB,.l aB])) else (some (.ret [a0,.i 0,.l a1.L,.l a2.L,.l d4.L]))))) else (aa (dU [d3,.l a3.L,.l (rows [[b9,c0,c1,c2,c3,c4,c5,.l d0.L,c6,c7,c8,c9]])]) fun d6=>(aa (ad [a0,.l a1.L,.l a2.L,.l d6.L]) fun d7=>(bif (!d7.B) then (some (.ret [.b false,.i 2,.l aB,.l aB,.l aB])) else (some (.ret [a0,.i 0,.l a1.L,.l a2.L,.l d6.L])))))))))) else (bif (e.I==4) then (aa (iL [a0,.l a1.L,.l a2.L,.l a3.L,x]) fun d8=>(bif (decide (d8.I<0)) then (some (.ret [.b false,.i 3,.l aB,.l aB,.l aB])) else (aa (gm [d8,.i (w64 (d8.I+1)),.l a3.L]) fun d9=>(aa (ad [a0,.l a1.L,.l a2.L,.l d9.L]) fun e0=>(bif (!e0.B) then (some (.ret [.b false,.i 2,.l aB,.l aB,.l aB])) else (some (.ret [a0,.i 0,.l a1.L,.l a2.L,.l d9.L]))))))) else (bif (e.I==5) then (aa (iL [a0,.l a1.L,.l a2.L,.l a3.L,x]) fun e1=>(bif (!(decide (e1.I<0))) then (bif (!(y.S.toList==(bs #[]).toList)) then (aa (eQ [a0,.l a1.L,.l a2.L,.l a3.L,y]) fun e2=>(bif (decide (e2.I<0)) then (some (.ret [.b false,.i 3,.l aB,.l aB,.l aB])) else (bif (decide (0≤e1.I)) then (bif (decide (e1.I<(a3.L.length:Int))) then (aa (ad [a0,.l a1.L,.l a2.L,.l (a3.L.set e1.I.toNat (ar (a3.L.getD e1.I.toNat []) 11 [y]))]) fun e3=>(bif (!e3.B) then (some (.ret [.b false,.i 2,.l aB,.l aB,.l aB])) else (some (.ret [a0,.i 0,.l a1.L,.l a2.L,.l (a3.L.set e1.I.toNat (ar (a3.L.getD e1.I.toNat []) 11 [y]))])))) else none) else none))) else (bif (decide (0≤e1.I)) then (bif (decide (e1.I<(a3.L.length:Int))) then (aa (ad [a0,.l a1.L,.l a2.L,.l (a3.L.set e1.I.toNat (ar (a3.L.getD e1.I.toNat []) 11 [y]))]) fun e4=>(bif (!e4.B) then (some (.ret [.b false,.i 2,.l aB,.l aB,.l aB])) else (some (.ret [a0,.i 0,.l a1.L,.l a2.L,.l (a3.L.set e1.I.toNat (ar (a3.L.getD e1.I.toNat []) 11 [y]))])))) else none) else none)) else (some (.ret [.b false,.i 3,.l aB,.l aB,.l aB])))) else (some (.ret [.b false,.i 4,.l aB,.l aB,.l aB]))))))))))
def aj:List C→Option (List C):=fun xs=>ba (apn 25 aj.d3 xs)
def iA:FS:=⟨2,⟨[(0,z2),(1,z3)],[]⟩,⟨[(0,(.tu [z7,zi]))],[(3000,.arr 30 1),(3001,.arr 86 1),(3002,.arr 33 1)]⟩,[],aj⟩
theorem oK:aG Tryz.checked.prog T0 6 iA:=bw aE (fn:=Tryz.f6) (c:=Tryz.f6.body.getD .skip) iA (.seq .leaf (.seq .leaf (.seq .leaf (.seq (.seq .leaf (.skip (.seq .leaf (.cond .leaf (.seq .leaf (.cond (.seq .leaf (.seq .leaf (.seq .leaf (.seq .leaf (.block ⟨[(4,(.pt 4 0)),(6,(.pt 6 0))],[(4,.var 27 [zo,(.ow 1181600),(.ow 1181601),(.ow 1181602)]),(6,.var 27 [zo,(.ow 97208),(.ow 97209),(.ow 97210)]),(1181600,.arr 30 1),(1181601,.arr 86 1),(1181602,.arr 33 1),(97208,.arr 30 1),(97209,.arr 86 1),(97210,.arr 33 1)]⟩ (.loop ⟨[(3,(.pt 3 0)),(4,(.pt 4 0)),(6,(.pt 6 0)),(76,zi),(77,zi)],[(3,z1),(4,.var 27 [zo,(.ow 1181600),(.ow 1181601),(.ow 1181602)]),(6,.var 27 [zo,(.ow 97208),(.ow 97209),(.ow 97210)]),(1181600,.arr 30 1),(1181601,.arr 86 1),(1181602,.arr 33 1),(97208,.arr 30 1),(97209,.arr 86 1),(97210,.arr 33 1)]⟩ .leaf)))))) .leaf)))))) .leaf)))) [(23,some 18,jl),(23,some 172,jl),(24,some 22,qi),(25,some 30,iw),(26,some 34,fJ),(26,some 63,fJ),(26,some 159,fJ),(27,some 45,dY),(29,some 56,gY),(30,some 72,gX),(31,some 99,jm),(32,some 103,kq),(32,some 132,kq),(32,some 148,kq),(33,some 114,ei),(35,some 125,ij),(36,some 141,ic)] (.cons pJ (.cons pJ (.cons Bi (.cons oJ (.cons iX (.cons iX (.cons iX (.cons jL (.cons lW (.cons ma (.cons pD (.cons pB (.cons pB (.cons pB (.cons jT (.cons mE (.cons mo .nil))))))))))))))))) (by kernel_rfl) (by kernel_rfl) (by kernel_rfl) (fun xs=>by kernel_rfl)
def dp.d1 (a b c:C):R:=(bif (decide (c.I<(a.L.length:Int))) then (bif (decide (0≤c.I)) then (bif (decide (c.I<(a.L.length:Int))) then (bif (decide (0≤c.I)) then (bif (decide (c.I<(b.L.length:Int))) then (bif (!((((a.L.getD c.I.toNat []).getD 0 .nil).S).toList==(((b.L.getD c.I.toNat []).getD 0 .nil).S).toList)) then (some (.ret [.b false])) else (some (.again [a,b,.i (w64 (c.I+1))]))) else none) else none) else none) else none) else (some (.brk 0 [])))
def dp.d2:R:=(some (.ret [.b true]))
def dp.d3 (a b:C):R:=(bif ((a.L.length:Int) !=(b.L.length:Int)) then (some (.ret [.b false])) else (aq 0 (lim (apn 3 dp.d1) [a,b,.i 0]) (fun xs=>dp.d2)))
def dp:List C→Option (List C):=fun xs=>ba (apn 2 dp.d3 xs)
def mV:FS:=⟨2,⟨[(0,(zl 9)),(1,(zl 9))],[]⟩,⟨[(0,zo)],[]⟩,[],dp⟩
theorem xF:aG Tryz.checked.prog T0 103 mV:=bw aE (fn:=Tryz.f103) (c:=Tryz.f103.body.getD .skip) mV (.seq .leaf (.seq .leaf (.seq (.seq .leaf (.block ⟨[],[]⟩ (.loop ⟨[(0,(zl 9)),(1,(zl 9)),(5,zi)],[]⟩ .leaf))) .leaf))) [] .nil (by kernel_rfl) (by kernel_rfl) (by kernel_rfl) (fun xs=>by kernel_rfl)
def eL.d1 (a b c d e f g h i j k l:C):R:=(bif (!(a.S.toList==g.S.toList)) then (some (.ret [.b false])) else (bif (!(b.S.toList==h.S.toList)) then (some (.ret [.b false])) else (aa (dp [c,i]) fun m=>(bif (!m.B) then (some (.ret [.b false])) else (bif (d.I !=j.I) then (some (.ret [.b false])) else (bif (e.I !=k.I) then (some (.ret [.b false])) else (bif (!(f.B==l.B)) then (some (.ret [.b false])) else (some (.ret [.b true])))))))))
def eL:List C→Option (List C):=fun xs=>ba (apn 12 eL.d1 xs)
def gW:FS:=⟨2,⟨[(0,z6),(1,z6)],[]⟩,⟨[(0,zo)],[]⟩,[],eL⟩
theorem mY:aG Tryz.checked.prog T0 55 gW:=bw aE (fn:=Tryz.f55) (c:=Tryz.f55.body.getD .skip) gW .leaf [(103,some 19,mV)] (.cons xF .nil) (by kernel_rfl) (by kernel_rfl) (by kernel_rfl) (fun xs=>by kernel_rfl)
def bM.d1 (a b c:C):R:=(bif (decide (c.I<(a.L.length:Int))) then (bif (decide (0≤c.I)) then (bif (decide (c.I<(a.L.length:Int))) then (bif (decide (0≤c.I)) then (bif (decide (c.I<(b.L.length:Int))) then (aa (eL [((a.L.getD c.I.toNat []).getD 0 .nil),((a.L.getD c.I.toNat []).getD 1 .nil),((a.L.getD c.I.toNat []).getD 2 .nil),((a.L.getD c.I.toNat []).getD 3 .nil),((a.L.getD c.I.toNat []).getD 4 .nil),((a.L.getD c.I.toNat []).getD 5 .nil),((b.L.getD c.I.toNat []).getD 0 .nil),((b.L.getD c.I.toNat []).getD 1 .nil),((b.L.getD c.I.toNat []).getD 2 .nil),((b.L.getD c.I.toNat []).getD 3 .nil),((b.L.getD c.I.toNat []).getD 4 .nil),((b.L.getD c.I.toNat []).getD 5 .nil)]) fun d=>(bif (!d.B) then (some (.ret [.b false])) else (some (.again [a,b,.i (w64 (c.I+1))])))) else none) else none) else none) else none) else (some (.brk 0 [])))
def bM.d2:R:=(some (.ret [.b true]))
def bM.d3 (a b:C):R:=(bif ((a.L.length:Int) !=(b.L.length:Int)) then (some (.ret [.b false])) else (aq 0 (lim (apn 3 bM.d1) [a,b,.i 0]) (fun xs=>bM.d2)))
def bM:List C→Option (List C):=fun xs=>ba (apn 2 bM.d3 xs)
def ju:FS:=⟨2,⟨[(0,(zl 30)),(1,(zl 30))],[]⟩,⟨[(0,zo)],[]⟩,[],bM⟩
theorem rZ:aG Tryz.checked.prog T0 52 ju:=bw aE (fn:=Tryz.f52) (c:=Tryz.f52.body.getD .skip) ju (.seq .leaf (.seq .leaf (.seq (.seq .leaf (.block ⟨[],[]⟩ (.loop ⟨[(0,(zl 30)),(1,(zl 30)),(5,zi)],[]⟩ .leaf))) .leaf))) [(55,some 25,gW)] (.cons mY .nil) (by kernel_rfl) (by kernel_rfl) (by kernel_rfl) (fun xs=>by kernel_rfl)
def eA.d1 (a b c d:C):R:=(bif (!(a.S.toList==c.S.toList)) then (some (.ret [.b false])) else (bif (b.I !=d.I) then (some (.ret [.b false])) else (some (.ret [.b true]))))
def eA:List C→Option (List C):=fun xs=>ba (apn 4 eA.d1 xs)
def iQ:FS:=⟨2,⟨[(0,(.ag [zt,zi])),(1,(.ag [zt,zi]))],[]⟩,⟨[(0,zo)],[]⟩,[],eA⟩
theorem ry:aG Tryz.checked.prog T0 102 iQ:=bw aE (fn:=Tryz.f102) (c:=Tryz.f102.body.getD .skip) iQ .leaf [] .nil (by kernel_rfl) (by kernel_rfl) (by kernel_rfl) (fun xs=>by kernel_rfl)
def bg.d1 (a b c:C):R:=(bif (decide (c.I<(a.L.length:Int))) then (bif (decide (0≤c.I)) then (bif (decide (c.I<(a.L.length:Int))) then (bif (decide (0≤c.I)) then (bif (decide (c.I<(b.L.length:Int))) then (aa (eA [((a.L.getD c.I.toNat []).getD 0 .nil),((a.L.getD c.I.toNat []).getD 1 .nil),((b.L.getD c.I.toNat []).getD 0 .nil),((b.L.getD c.I.toNat []).getD 1 .nil)]) fun d=>(bif (!d.B) then (some (.ret [.b false])) else (some (.again [a,b,.i (w64 (c.I+1))])))) else none) else none) else none) else none) else (some (.brk 0 [])))
def bg.d2:R:=(some (.ret [.b true]))
def bg.d3 (a b:C):R:=(bif ((a.L.length:Int) !=(b.L.length:Int)) then (some (.ret [.b false])) else (aq 0 (lim (apn 3 bg.d1) [a,b,.i 0]) (fun xs=>bg.d2)))
def bg:List C→Option (List C):=fun xs=>ba (apn 2 bg.d3 xs)
def ie:FS:=⟨2,⟨[(0,(zl 86)),(1,(zl 86))],[]⟩,⟨[(0,zo)],[]⟩,[],bg⟩
theorem qJ:aG Tryz.checked.prog T0 53 ie:=bw aE (fn:=Tryz.f53) (c:=Tryz.f53.body.getD .skip) ie (.seq .leaf (.seq .leaf (.seq (.seq .leaf (.block ⟨[],[]⟩ (.loop ⟨[(0,(zl 86)),(1,(zl 86)),(5,zi)],[]⟩ .leaf))) .leaf))) [(102,some 25,iQ)] (.cons ry .nil) (by kernel_rfl) (by kernel_rfl) (by kernel_rfl) (fun xs=>by kernel_rfl)
def fK.d1 (a b c d:C):R:=(bif (!(a.S.toList==c.S.toList)) then (some (.ret [.b false])) else (bif (b.I !=d.I) then (some (.ret [.b false])) else (some (.ret [.b true]))))
def fK:List C→Option (List C):=fun xs=>ba (apn 4 fK.d1 xs)
def kL:FS:=⟨2,⟨[(0,(.ag [zt,zi])),(1,(.ag [zt,zi]))],[]⟩,⟨[(0,zo)],[]⟩,[],fK⟩
theorem u5:aG Tryz.checked.prog T0 124 kL:=bw aE (fn:=Tryz.f124) (c:=Tryz.f124.body.getD .skip) kL .leaf [] .nil (by kernel_rfl) (by kernel_rfl) (by kernel_rfl) (fun xs=>by kernel_rfl)
def bX.d1 (a b c:C):R:=(bif (decide (c.I<(a.L.length:Int))) then (bif (decide (0≤c.I)) then (bif (decide (c.I<(a.L.length:Int))) then (bif (decide (0≤c.I)) then (bif (decide (c.I<(b.L.length:Int))) then (aa (fK [((a.L.getD c.I.toNat []).getD 0 .nil),((a.L.getD c.I.toNat []).getD 1 .nil),((b.L.getD c.I.toNat []).getD 0 .nil),((b.L.getD c.I.toNat []).getD 1 .nil)]) fun d=>(bif (!d.B) then (some (.ret [.b false])) else (some (.again [a,b,.i (w64 (c.I+1))])))) else none) else none) else none) else none) else (some (.brk 0 [])))
def bX.d2:R:=(some (.ret [.b true]))
def bX.d3 (a b:C):R:=(bif ((a.L.length:Int) !=(b.L.length:Int)) then (some (.ret [.b false])) else (aq 0 (lim (apn 3 bX.d1) [a,b,.i 0]) (fun xs=>bX.d2)))
def bX:List C→Option (List C):=fun xs=>ba (apn 2 bX.d3 xs)
def kj:FS:=⟨2,⟨[(0,(zl 122)),(1,(zl 122))],[]⟩,⟨[(0,zo)],[]⟩,[],bX⟩
theorem ta:aG Tryz.checked.prog T0 104 kj:=bw aE (fn:=Tryz.f104) (c:=Tryz.f104.body.getD .skip) kj (.seq .leaf (.seq .leaf (.seq (.seq .leaf (.block ⟨[],[]⟩ (.loop ⟨[(0,(zl 122)),(1,(zl 122)),(5,zi)],[]⟩ .leaf))) .leaf))) [(124,some 25,kL)] (.cons u5 .nil) (by kernel_rfl) (by kernel_rfl) (by kernel_rfl) (fun xs=>by kernel_rfl)
def eY.d1 (a b c d e f g h i j k l m n o p q r s t u v w x:C):R:=(bif (!(a.S.toList==m.S.toList)) then (some (.ret [.b false])) else (bif (!(b.S.toList==n.S.toList)) then (some (.ret [.b false])) else (bif (c.I !=o.I) then (some (.ret [.b false])) else (bif (d.I !=p.I) then (some (.ret [.b false])) else (bif (e.I !=q.I) then (some (.ret [.b false])) else (bif (f.I !=r.I) then (some (.ret [.b false])) else (bif (!(g.S.toList==s.S.toList)) then (some (.ret [.b false])) else (aa (bX [h,t]) fun y=>(bif (!y.B) then (some (.ret [.b false])) else (bif (i.I !=u.I) then (some (.ret [.b false])) else (bif (!(j.S.toList==v.S.toList)) then (some (.ret [.b false])) else (bif (!(k.S.toList==w.S.toList)) then (some (.ret [.b false])) else (bif (!(l.S.toList==x.S.toList)) then (some (.ret [.b false])) else (some (.ret [.b true])))))))))))))))
def eY:List C→Option (List C):=fun xs=>ba (apn 24 eY.d1 xs)
def iI:FS:=⟨2,⟨[(0,z4),(1,z4)],[]⟩,⟨[(0,zo)],[]⟩,[],eY⟩
theorem oD:aG Tryz.checked.prog T0 56 iI:=bw aE (fn:=Tryz.f56) (c:=Tryz.f56.body.getD .skip) iI .leaf [(104,some 44,kj)] (.cons ta .nil) (by kernel_rfl) (by kernel_rfl) (by kernel_rfl) (fun xs=>by kernel_rfl)
end
end Go.Ev
namespace Go.Ev
open Go.Proofs
noncomputable section
def bW.d1 (a b c:C):R:=(bif (decide (c.I<(a.L.length:Int))) then (bif (decide (0≤c.I)) then (bif (decide (c.I<(a.L.length:Int))) then (bif (decide (0≤c.I)) then (bif (decide (c.I<(b.L.length:Int))) then (aa (eY [((a.L.getD c.I.toNat []).getD 0 .nil),((a.L.getD c.I.toNat []).getD 1 .nil),((a.L.getD c.I.toNat []).getD 2 .nil),((a.L.getD c.I.toNat []).getD 3 .nil),((a.L.getD c.I.toNat []).getD 4 .nil),((a.L.getD c.I.toNat []).getD 5 .nil),((a.L.getD c.I.toNat []).getD 6 .nil),((a.L.getD c.I.toNat []).getD 7 .nil),((a.L.getD c.I.toNat []).getD 8 .nil),((a.L.getD c.I.toNat []).getD 9 .nil),((a.L.getD c.I.toNat []).getD 10 .nil),((a.L.getD c.I.toNat []).getD 11 .nil),((b.L.getD c.I.toNat []).getD 0 .nil),((b.L.getD c.I.toNat []).getD 1 .nil),((b.L.getD c.I.toNat []).getD 2 .nil),((b.L.getD c.I.toNat []).getD 3 .nil),((b.L.getD c.I.toNat []).getD 4 .nil),((b.L.getD c.I.toNat []).getD 5 .nil),((b.L.getD c.I.toNat []).getD 6 .nil),((b.L.getD c.I.toNat []).getD 7 .nil),((b.L.getD c.I.toNat []).getD 8 .nil),((b.L.getD c.I.toNat []).getD 9 .nil),((b.L.getD c.I.toNat []).getD 10 .nil),((b.L.getD c.I.toNat []).getD 11 .nil)]) fun d=>(bif (!d.B) then (some (.ret [.b false])) else (some (.again [a,b,.i (w64 (c.I+1))])))) else none) else none) else none) else none) else (some (.brk 0 [])))
def bW.d2:R:=(some (.ret [.b true]))
def bW.d3 (a b:C):R:=(bif ((a.L.length:Int) !=(b.L.length:Int)) then (some (.ret [.b false])) else (aq 0 (lim (apn 3 bW.d1) [a,b,.i 0]) (fun xs=>bW.d2)))
def bW:List C→Option (List C):=fun xs=>ba (apn 2 bW.d3 xs)
def kg:FS:=⟨2,⟨[(0,(zl 33)),(1,(zl 33))],[]⟩,⟨[(0,zo)],[]⟩,[],bW⟩
theorem sK:aG Tryz.checked.prog T0 54 kg:=bw aE (fn:=Tryz.f54) (c:=Tryz.f54.body.getD .skip) kg (.seq .leaf (.seq .leaf (.seq (.seq .leaf (.block ⟨[],[]⟩ (.loop ⟨[(0,(zl 33)),(1,(zl 33)),(5,zi)],[]⟩ .leaf))) .leaf))) [(56,some 25,iI)] (.cons oD .nil) (by kernel_rfl) (by kernel_rfl) (by kernel_rfl) (fun xs=>by kernel_rfl)
def dL.d1 (a b c d e f g h:C):R:=(bif (!(a.B==e.B)) then (some (.ret [.b false])) else (aa (bM [b,f]) fun i=>(bif (!i.B) then (some (.ret [.b false])) else (aa (bg [c,g]) fun j=>(bif (!j.B) then (some (.ret [.b false])) else (aa (bW [d,h]) fun k=>(bif (!k.B) then (some (.ret [.b false])) else (some (.ret [.b true])))))))))
def dL:List C→Option (List C):=fun xs=>ba (apn 8 dL.d1 xs)
def eN:FS:=⟨2,⟨[(0,z2),(1,z2)],[]⟩,⟨[(0,zo)],[]⟩,[],dL⟩
theorem gS:aG Tryz.checked.prog T0 14 eN:=bw aE (fn:=Tryz.f14) (c:=Tryz.f14.body.getD .skip) eN .leaf [(52,some 14,ju),(53,some 20,ie),(54,some 26,kg)] (.cons rZ (.cons qJ (.cons sK .nil))) (by kernel_rfl) (by kernel_rfl) (by kernel_rfl) (fun xs=>by kernel_rfl)
def fU.d1 (a b c d e f g h i j k l m n o p q r s t u v w x y z a0 a1 a2 a3 a4 a5 a6 a7 a8 a9 b0 b1 b2 b3 b4 b5:C):R:=(bif (a.I !=v.I) then (some (.ret [.b false])) else (aa (eL [b,c,d,e,f,g,w,x,y,z,a0,a1]) fun b6=>(bif (!b6.B) then (some (.ret [.b false])) else (aa (eY [h,i,j,k,l,m,n,o,p,q,r,s,a2,a3,a4,a5,a6,a7,a8,a9,b0,b1,b2,b3]) fun b7=>(bif (!b7.B) then (some (.ret [.b false])) else (bif (!(t.S.toList==b4.S.toList)) then (some (.ret [.b false])) else (bif (!(u.S.toList==b5.S.toList)) then (some (.ret [.b false])) else (some (.ret [.b true])))))))))
def fU:List C→Option (List C):=fun xs=>ba (fU.d1 (xs.getD 0 .nil) (xs.getD 1 .nil) (xs.getD 2 .nil) (xs.getD 3 .nil) (xs.getD 4 .nil) (xs.getD 5 .nil) (xs.getD 6 .nil) (xs.getD 7 .nil) (xs.getD 8 .nil) (xs.getD 9 .nil) (xs.getD 10 .nil) (xs.getD 11 .nil) (xs.getD 12 .nil) (xs.getD 13 .nil) (xs.getD 14 .nil) (xs.getD 15 .nil) (xs.getD 16 .nil) (xs.getD 17 .nil) (xs.getD 18 .nil) (xs.getD 19 .nil) (xs.getD 20 .nil) (xs.getD 21 .nil) (xs.getD 22 .nil) (xs.getD 23 .nil) (xs.getD 24 .nil) (xs.getD 25 .nil) (xs.getD 26 .nil) (xs.getD 27 .nil) (xs.getD 28 .nil) (xs.getD 29 .nil) (xs.getD 30 .nil) (xs.getD 31 .nil) (xs.getD 32 .nil) (xs.getD 33 .nil) (xs.getD 34 .nil) (xs.getD 35 .nil) (xs.getD 36 .nil) (xs.getD 37 .nil) (xs.getD 38 .nil) (xs.getD 39 .nil) (xs.getD 40 .nil) (xs.getD 41 .nil))
def kb:FS:=⟨2,⟨[(0,z3),(1,z3)],[]⟩,⟨[(0,zo)],[]⟩,[],fU⟩
theorem sV:aG Tryz.checked.prog T0 15 kb:=bw aE (fn:=Tryz.f15) (c:=Tryz.f15.body.getD .skip) kb .leaf [(55,some 14,gW),(56,some 20,iI)] (.cons mY (.cons oD .nil)) (by kernel_rfl) (by kernel_rfl) (by kernel_rfl) (fun xs=>by kernel_rfl)
def aI.d1 (a b:C):R:=(bif (decide (a.I>0)) then (bif (decide ((zC (rows [[.i (IntKind.wrap .u8 (w64 (48+(a.I.tmod 10))))]])).size+b.S.size≤4294967296)) then (some (.again [.i (w64 (a.I.tdiv 10)),.s ((zC (rows [[.i (IntKind.wrap .u8 (w64 (48+(a.I.tmod 10))))]]))++b.S)])) else none) else (some (.brk 0 [b])))
def aI.d2 (a:C):R:=(bif (decide ((bs #[109]).size+a.S.size≤4294967296)) then (some (.ret [.s ((bs #[109])++a.S)])) else none)
def aI.d3 (a:C):R:=(bif (decide (a.I≤0)) then (some (.ret [.s (bs #[109,48])])) else (aq 0 (lim (apn 2 aI.d1) [a,.s (bs #[])]) (apn 1 aI.d2)))
def aI:List C→Option (List C):=fun xs=>ba (apn 1 aI.d3 xs)
def aU:FS:=⟨1,⟨[(0,zi)],[]⟩,⟨[(0,zt)],[]⟩,[],aI⟩
theorem bd:aG Tryz.checked.prog T0 105 aU:=bw aE (fn:=Tryz.f105) (c:=Tryz.f105.body.getD .skip) aU (.seq .leaf (.seq .leaf (.seq .leaf (.seq (.block ⟨[(3,zt)],[]⟩ (.loop ⟨[(0,zi),(3,zt)],[]⟩ .leaf)) .leaf)))) [] .nil (by kernel_rfl) (by kernel_rfl) (by kernel_rfl) (fun xs=>by kernel_rfl)
def cg.d1 (a b c:C):R:=(bif (decide (b.I<(c.L.length:Int))) then (aa (aI [a]) fun d=>(bif (decide (0≤b.I)) then (bif (decide (b.I<(c.L.length:Int))) then (some (.again [.i (w64 (a.I+1)),.i (w64 (b.I+1)),.l (c.L.set b.I.toNat (ar (c.L.getD b.I.toNat []) 0 [d]))])) else none) else none)) else (some (.brk 0 [a,.l c.L])))
def cg.d2 (a b:C):R:=(some (.ret [a,.l b.L]))
def cg.d3 (a b:C):R:=(aq 0 (lim (apn 3 cg.d1) [a,.i 0,.l b.L]) (apn 2 cg.d2))
def cg:List C→Option (List C):=fun xs=>ba (apn 2 cg.d3 xs)
def iD:FS:=⟨2,⟨[(0,(.ow 2000)),(1,zi)],[(2000,.arr 9 2)]⟩,⟨[(0,zi)],[(2000,.arr 9 2)]⟩,[2000],cg⟩
theorem om:aG Tryz.checked.prog T0 106 iD:=bw aE (fn:=Tryz.f106) (c:=Tryz.f106.body.getD .skip) iD (.seq .leaf (.seq (.seq .leaf (.block ⟨[(1,zi)],[(2000,.arr 9 2)]⟩ (.loop ⟨[(0,(.ow 2000)),(1,zi),(5,zi)],[(2000,.arr 9 2)]⟩ .leaf))) .leaf)) [(105,some 15,aU)] (.cons bd .nil) (by kernel_rfl) (by kernel_rfl) (by kernel_rfl) (fun xs=>by kernel_rfl)
def aJ.d1 (a b c:C):R:=(some (.again [.i (w64 (a.I+1)),.i (w64 (b.I+1)),.l c.L]))
def aJ.d2 (a b c:C):R:=(bif (decide (0≤b.I)) then (bif (decide (b.I<(c.L.length:Int))) then (bif (decide (0≤b.I)) then (bif (decide (b.I<((c.L.set b.I.toNat (ar (c.L.getD b.I.toNat []) 3 [a])).length:Int))) then (cJ (bif (decide (0≤b.I)) then (bif (decide (b.I<(((c.L.set b.I.toNat (ar (c.L.getD b.I.toNat []) 3 [a])).set b.I.toNat (ar ((c.L.set b.I.toNat (ar (c.L.getD b.I.toNat []) 3 [a])).getD b.I.toNat []) 4 [.i (w64 (a.I+1))])).length:Int))) then (some (.nrm [.i (w64 ((w64 (a.I+1))+1)),b,.l (((c.L.set b.I.toNat (ar (c.L.getD b.I.toNat []) 3 [a])).set b.I.toNat (ar ((c.L.set b.I.toNat (ar (c.L.getD b.I.toNat []) 3 [a])).getD b.I.toNat []) 4 [.i (w64 (a.I+1))])).set b.I.toNat (ar (((c.L.set b.I.toNat (ar (c.L.getD b.I.toNat []) 3 [a])).set b.I.toNat (ar ((c.L.set b.I.toNat (ar (c.L.getD b.I.toNat []) 3 [a])).getD b.I.toNat []) 4 [.i (w64 (a.I+1))])).getD b.I.toNat []) 5 [.b (((w64 ((w64 (a.I+1))+1)).tmod 3)==0)]))])) else none) else none) (apn 3 aJ.d1)) else none) else none) else none) else none)
def aJ.d3 (a b c:C):R:=(bif (decide (b.I<(c.L.length:Int))) then (aa (aI [a]) fun d=>(bif (decide (0≤b.I)) then (bif (decide (b.I<(c.L.length:Int))) then (aa (aI [.i (w64 (a.I+1))]) fun e=>(bif (decide (0≤b.I)) then (bif (decide (b.I<((c.L.set b.I.toNat (ar (c.L.getD b.I.toNat []) 0 [d])).length:Int))) then (cJ (bif (decide (0≤b.I)) then (bif (decide (b.I<(((c.L.set b.I.toNat (ar (c.L.getD b.I.toNat []) 0 [d])).set b.I.toNat (ar ((c.L.set b.I.toNat (ar (c.L.getD b.I.toNat []) 0 [d])).getD b.I.toNat []) 1 [e])).length:Int))) then (call2 (cg [.i (w64 ((w64 (a.I+1))+1)),((((c.L.set b.I.toNat (ar (c.L.getD b.I.toNat []) 0 [d])).set b.I.toNat (ar ((c.L.set b.I.toNat (ar (c.L.getD b.I.toNat []) 0 [d])).getD b.I.toNat []) 1 [e])).getD b.I.toNat []).getD 2 .nil)]) fun f g=>(some (.nrm [f,b,.l (((c.L.set b.I.toNat (ar (c.L.getD b.I.toNat []) 0 [d])).set b.I.toNat (ar ((c.L.set b.I.toNat (ar (c.L.getD b.I.toNat []) 0 [d])).getD b.I.toNat []) 1 [e])).set b.I.toNat (ar (((c.L.set b.I.toNat (ar (c.L.getD b.I.toNat []) 0 [d])).set b.I.toNat (ar ((c.L.set b.I.toNat (ar (c.L.getD b.I.toNat []) 0 [d])).getD b.I.toNat []) 1 [e])).getD b.I.toNat []) 2 [.l g.L]))]))) else none) else none) (apn 3 aJ.d2)) else none) else none)) else none) else none)) else (some (.brk 0 [a,.l c.L])))
def aJ.d4 (a b:C):R:=(some (.ret [a,.l b.L]))
def aJ.d5 (a b:C):R:=(aq 0 (lim (apn 3 aJ.d3) [a,.i 0,.l b.L]) (apn 2 aJ.d4))
def aJ:List C→Option (List C):=fun xs=>ba (apn 2 aJ.d5 xs)
def iv:FS:=⟨2,⟨[(0,(.ow 2000)),(1,zi)],[(2000,.arr 30 2)]⟩,⟨[(0,zi)],[(2000,.arr 30 2)]⟩,[2000],aJ⟩
theorem qv:aG Tryz.checked.prog T0 57 iv:=bw aE (fn:=Tryz.f57) (c:=Tryz.f57.body.getD .skip) iv (.seq .leaf (.seq (.seq .leaf (.block ⟨[(1,zi)],[(2000,.arr 30 2)]⟩ (.loop ⟨[(0,(.ow 2000)),(1,zi),(5,zi)],[(2000,.arr 30 2)]⟩ (.seq .leaf (.seq (.skip (.seq .leaf (.seq .leaf (.seq .leaf (.seq .leaf (.seq (.join ⟨[(0,(.ow 2000)),(1,zi),(5,zi)],[(2000,.arr 30 2)]⟩ .leaf) (.seq .leaf (.seq .leaf (.seq .leaf (.seq .leaf (.seq (.join ⟨[(0,(.ow 2000)),(1,zi),(5,zi)],[(2000,.arr 30 2)]⟩ .leaf) .leaf))))))))))) .leaf))))) .leaf)) [(105,some 15,aU),(105,some 23,aU),(106,some 34,iD)] (.cons bd (.cons bd (.cons om .nil))) (by kernel_rfl) (by kernel_rfl) (by kernel_rfl) (fun xs=>by kernel_rfl)
def aW.d1 (a b c:C):R:=(bif (decide (b.I<(c.L.length:Int))) then (aa (aI [a]) fun d=>(bif (decide (0≤b.I)) then (bif (decide (b.I<(c.L.length:Int))) then (bif (decide (0≤b.I)) then (bif (decide (b.I<((c.L.set b.I.toNat (ar (c.L.getD b.I.toNat []) 0 [d])).length:Int))) then (some (.again [.i (w64 ((w64 (a.I+1))+1)),.i (w64 (b.I+1)),.l ((c.L.set b.I.toNat (ar (c.L.getD b.I.toNat []) 0 [d])).set b.I.toNat (ar ((c.L.set b.I.toNat (ar (c.L.getD b.I.toNat []) 0 [d])).getD b.I.toNat []) 1 [.i (w64 (a.I+1))]))])) else none) else none) else none) else none)) else (some (.brk 0 [a,.l c.L])))
def aW.d2 (a b:C):R:=(some (.ret [a,.l b.L]))
def aW.d3 (a b:C):R:=(aq 0 (lim (apn 3 aW.d1) [a,.i 0,.l b.L]) (apn 2 aW.d2))
def aW:List C→Option (List C):=fun xs=>ba (apn 2 aW.d3 xs)
def gF:FS:=⟨2,⟨[(0,(.ow 2000)),(1,zi)],[(2000,.arr 86 2)]⟩,⟨[(0,zi)],[(2000,.arr 86 2)]⟩,[2000],aW⟩
theorem pz:aG Tryz.checked.prog T0 58 gF:=bw aE (fn:=Tryz.f58) (c:=Tryz.f58.body.getD .skip) gF (.seq .leaf (.seq (.seq .leaf (.block ⟨[(1,zi)],[(2000,.arr 86 2)]⟩ (.loop ⟨[(0,(.ow 2000)),(1,zi),(5,zi)],[(2000,.arr 86 2)]⟩ .leaf))) .leaf)) [(105,some 15,aU)] (.cons bd .nil) (by kernel_rfl) (by kernel_rfl) (by kernel_rfl) (fun xs=>by kernel_rfl)
def bu.d1 (a b c:C):R:=(bif (decide (b.I<(c.L.length:Int))) then (aa (aI [a]) fun d=>(bif (decide (0≤b.I)) then (bif (decide (b.I<(c.L.length:Int))) then (bif (decide (0≤b.I)) then (bif (decide (b.I<((c.L.set b.I.toNat (ar (c.L.getD b.I.toNat []) 0 [d])).length:Int))) then (some (.again [.i (w64 ((w64 (a.I+1))+1)),.i (w64 (b.I+1)),.l ((c.L.set b.I.toNat (ar (c.L.getD b.I.toNat []) 0 [d])).set b.I.toNat (ar ((c.L.set b.I.toNat (ar (c.L.getD b.I.toNat []) 0 [d])).getD b.I.toNat []) 1 [.i (w64 (a.I+1))]))])) else none) else none) else none) else none)) else (some (.brk 0 [a,.l c.L])))
def bu.d2 (a b:C):R:=(some (.ret [a,.l b.L]))
def bu.d3 (a b:C):R:=(aq 0 (lim (apn 3 bu.d1) [a,.i 0,.l b.L]) (apn 2 bu.d2))
def bu:List C→Option (List C):=fun xs=>ba (apn 2 bu.d3 xs)
def fS:FS:=⟨2,⟨[(0,(.ow 2000)),(1,zi)],[(2000,.arr 122 2)]⟩,⟨[(0,zi)],[(2000,.arr 122 2)]⟩,[2000],bu⟩
theorem lO:aG Tryz.checked.prog T0 107 fS:=bw aE (fn:=Tryz.f107) (c:=Tryz.f107.body.getD .skip) fS (.seq .leaf (.seq (.seq .leaf (.block ⟨[(1,zi)],[(2000,.arr 122 2)]⟩ (.loop ⟨[(0,(.ow 2000)),(1,zi),(5,zi)],[(2000,.arr 122 2)]⟩ .leaf))) .leaf)) [(105,some 15,aU)] (.cons bd .nil) (by kernel_rfl) (by kernel_rfl) (by kernel_rfl) (fun xs=>by kernel_rfl)
def aD.d1 (a b c:C):R:=(some (.again [.i (w64 (a.I+1)),.i (w64 (b.I+1)),.l c.L]))
def aD.d2 (a b c:C):R:=(aa (aI [.i (w64 (a.I+1))]) fun d=>(bif (decide (0≤b.I)) then (bif (decide (b.I<(c.L.length:Int))) then (aa (aI [.i (w64 ((w64 (a.I+1))+1))]) fun e=>(bif (decide (0≤b.I)) then (bif (decide (b.I<((c.L.set b.I.toNat (ar (c.L.getD b.I.toNat []) 9 [d])).length:Int))) then (cJ (aa (aI [.i (w64 ((w64 ((w64 (a.I+1))+1))+1))]) fun f=>(bif (decide (0≤b.I)) then (bif (decide (b.I<(((c.L.set b.I.toNat (ar (c.L.getD b.I.toNat []) 9 [d])).set b.I.toNat (ar ((c.L.set b.I.toNat (ar (c.L.getD b.I.toNat []) 9 [d])).getD b.I.toNat []) 10 [e])).length:Int))) then (some (.nrm [.i (w64 ((w64 ((w64 (a.I+1))+1))+1)),b,.l (((c.L.set b.I.toNat (ar (c.L.getD b.I.toNat []) 9 [d])).set b.I.toNat (ar ((c.L.set b.I.toNat (ar (c.L.getD b.I.toNat []) 9 [d])).getD b.I.toNat []) 10 [e])).set b.I.toNat (ar (((c.L.set b.I.toNat (ar (c.L.getD b.I.toNat []) 9 [d])).set b.I.toNat (ar ((c.L.set b.I.toNat (ar (c.L.getD b.I.toNat []) 9 [d])).getD b.I.toNat []) 10 [e])).getD b.I.toNat []) 11 [f]))])) else none) else none)) (apn 3 aD.d1)) else none) else none)) else none) else none))
def aD.d3 (a b c:C):R:=(aa (aI [.i (w64 (a.I+1))]) fun d=>(bif (decide (0≤b.I)) then (bif (decide (b.I<(c.L.length:Int))) then (bif (decide (0≤b.I)) then (bif (decide (b.I<((c.L.set b.I.toNat (ar (c.L.getD b.I.toNat []) 6 [d])).length:Int))) then (call2 (bu [.i (w64 ((w64 (a.I+1))+1)),(((c.L.set b.I.toNat (ar (c.L.getD b.I.toNat []) 6 [d])).getD b.I.toNat []).getD 7 .nil)]) fun e f=>(cJ (bif (decide (0≤b.I)) then (bif (decide (b.I<(((c.L.set b.I.toNat (ar (c.L.getD b.I.toNat []) 6 [d])).set b.I.toNat (ar ((c.L.set b.I.toNat (ar (c.L.getD b.I.toNat []) 6 [d])).getD b.I.toNat []) 7 [.l f.L])).length:Int))) then (some (.nrm [e,b,.l (((c.L.set b.I.toNat (ar (c.L.getD b.I.toNat []) 6 [d])).set b.I.toNat (ar ((c.L.set b.I.toNat (ar (c.L.getD b.I.toNat []) 6 [d])).getD b.I.toNat []) 7 [.l f.L])).set b.I.toNat (ar (((c.L.set b.I.toNat (ar (c.L.getD b.I.toNat []) 6 [d])).set b.I.toNat (ar ((c.L.set b.I.toNat (ar (c.L.getD b.I.toNat []) 6 [d])).getD b.I.toNat []) 7 [.l f.L])).getD b.I.toNat []) 8 [e]))])) else none) else none) (apn 3 aD.d2))) else none) else none) else none) else none))
def aD.d4 (a b c:C):R:=(bif (decide (0≤b.I)) then (bif (decide (b.I<(c.L.length:Int))) then (bif (decide (0≤b.I)) then (bif (decide (b.I<((c.L.set b.I.toNat (ar (c.L.getD b.I.toNat []) 3 [.i (w64 (a.I+1))])).length:Int))) then (cJ (bif (decide (0≤b.I)) then (bif (decide (b.I<(((c.L.set b.I.toNat (ar (c.L.getD b.I.toNat []) 3 [.i (w64 (a.I+1))])).set b.I.toNat (ar ((c.L.set b.I.toNat (ar (c.L.getD b.I.toNat []) 3 [.i (w64 (a.I+1))])).getD b.I.toNat []) 4 [.i (w64 ((w64 (a.I+1))+1))])).length:Int))) then (some (.nrm [.i (w64 ((w64 ((w64 (a.I+1))+1))+1)),b,.l (((c.L.set b.I.toNat (ar (c.L.getD b.I.toNat []) 3 [.i (w64 (a.I+1))])).set b.I.toNat (ar ((c.L.set b.I.toNat (ar (c.L.getD b.I.toNat []) 3 [.i (w64 (a.I+1))])).getD b.I.toNat []) 4 [.i (w64 ((w64 (a.I+1))+1))])).set b.I.toNat (ar (((c.L.set b.I.toNat (ar (c.L.getD b.I.toNat []) 3 [.i (w64 (a.I+1))])).set b.I.toNat (ar ((c.L.set b.I.toNat (ar (c.L.getD b.I.toNat []) 3 [.i (w64 (a.I+1))])).getD b.I.toNat []) 4 [.i (w64 ((w64 (a.I+1))+1))])).getD b.I.toNat []) 5 [.i (w64 ((w64 ((w64 (a.I+1))+1))+1))]))])) else none) else none) (apn 3 aD.d3)) else none) else none) else none) else none)
def aD.d5 (a b c:C):R:=(bif (decide (b.I<(c.L.length:Int))) then (aa (aI [a]) fun d=>(bif (decide (0≤b.I)) then (bif (decide (b.I<(c.L.length:Int))) then (aa (aI [.i (w64 (a.I+1))]) fun e=>(bif (decide (0≤b.I)) then (bif (decide (b.I<((c.L.set b.I.toNat (ar (c.L.getD b.I.toNat []) 0 [d])).length:Int))) then (cJ (bif (decide (0≤b.I)) then (bif (decide (b.I<(((c.L.set b.I.toNat (ar (c.L.getD b.I.toNat []) 0 [d])).set b.I.toNat (ar ((c.L.set b.I.toNat (ar (c.L.getD b.I.toNat []) 0 [d])).getD b.I.toNat []) 1 [e])).length:Int))) then (some (.nrm [.i (w64 ((w64 (a.I+1))+1)),b,.l (((c.L.set b.I.toNat (ar (c.L.getD b.I.toNat []) 0 [d])).set b.I.toNat (ar ((c.L.set b.I.toNat (ar (c.L.getD b.I.toNat []) 0 [d])).getD b.I.toNat []) 1 [e])).set b.I.toNat (ar (((c.L.set b.I.toNat (ar (c.L.getD b.I.toNat []) 0 [d])).set b.I.toNat (ar ((c.L.set b.I.toNat (ar (c.L.getD b.I.toNat []) 0 [d])).getD b.I.toNat []) 1 [e])).getD b.I.toNat []) 2 [.i (w64 ((w64 (a.I+1))+1))]))])) else none) else none) (apn 3 aD.d4)) else none) else none)) else none) else none)) else (some (.brk 0 [a,.l c.L])))
def aD.d6 (a b:C):R:=(some (.ret [a,.l b.L]))
def aD.d7 (a b:C):R:=(aq 0 (lim (apn 3 aD.d5) [a,.i 0,.l b.L]) (apn 2 aD.d6))
def aD:List C→Option (List C):=fun xs=>ba (apn 2 aD.d7 xs)
def iR:FS:=⟨2,⟨[(0,(.ow 2000)),(1,zi)],[(2000,.arr 33 2)]⟩,⟨[(0,zi)],[(2000,.arr 33 2)]⟩,[2000],aD⟩
theorem rr:aG Tryz.checked.prog T0 59 iR:=bw aE (fn:=Tryz.f59) (c:=Tryz.f59.body.getD .skip) iR (.seq .leaf (.seq (.seq .leaf (.block ⟨[(1,zi)],[(2000,.arr 33 2)]⟩ (.loop ⟨[(0,(.ow 2000)),(1,zi),(5,zi)],[(2000,.arr 33 2)]⟩ (.seq .leaf (.seq (.skip (.seq .leaf (.seq .leaf (.seq .leaf (.seq .leaf (.seq (.join ⟨[(0,(.ow 2000)),(1,zi),(5,zi)],[(2000,.arr 33 2)]⟩ .leaf) (.seq .leaf (.seq .leaf (.seq .leaf (.seq .leaf (.seq .leaf (.seq (.join ⟨[(0,(.ow 2000)),(1,zi),(5,zi)],[(2000,.arr 33 2)]⟩ .leaf) (.seq .leaf (.seq .leaf (.seq .leaf (.seq .leaf (.seq (.join ⟨[(0,(.ow 2000)),(1,zi),(5,zi)],[(2000,.arr 33 2)]⟩ .leaf) (.seq .leaf (.seq .leaf (.seq .leaf (.seq .leaf (.seq .leaf (.seq (.join ⟨[(0,(.ow 2000)),(1,zi),(5,zi)],[(2000,.arr 33 2)]⟩ .leaf) .leaf))))))))))))))))))))))) .leaf))))) .leaf)) [(105,some 15,aU),(105,some 23,aU),(105,some 59,aU),(105,some 81,aU),(105,some 89,aU),(105,some 97,aU),(107,some 70,fS)] (.cons bd (.cons bd (.cons bd (.cons bd (.cons bd (.cons bd (.cons lO .nil))))))) (by kernel_rfl) (by kernel_rfl) (by kernel_rfl) (fun xs=>by kernel_rfl)
def dS.d1 (a b c d e:C):R:=(call2 (aJ [b,.l c.L]) fun f g=>(call2 (aW [f,.l d.L]) fun h i=>(call2 (aD [h,.l e.L]) fun j k=>(some (.ret [j,.l g.L,.l i.L,.l k.L])))))
def dS:List C→Option (List C):=fun xs=>ba (apn 5 dS.d1 xs)
def fR:FS:=⟨2,⟨[(0,(.ag [zo,(.ow 2000),(.ow 2001),(.ow 2002)])),(1,zi)],[(2000,.arr 30 2),(2001,.arr 86 2),(2002,.arr 33 2)]⟩,⟨[(0,zi)],[(2000,.arr 30 2),(2001,.arr 86 2),(2002,.arr 33 2)]⟩,[2000,2001,2002],dS⟩
theorem lP:aG Tryz.checked.prog T0 16 fR:=bw aE (fn:=Tryz.f16) (c:=Tryz.f16.body.getD .skip) fR .leaf [(57,some 8,iv),(58,some 12,gF),(59,some 16,iR)] (.cons qv (.cons pz (.cons rr .nil))) (by kernel_rfl) (by kernel_rfl) (by kernel_rfl) (fun xs=>by kernel_rfl)
def fe.d1 (a b c d e f g:C):R:=(call2 (cg [f,.l g.L]) fun h i=>(some (.ret [h,.l i.L])))
def fe:List C→Option (List C):=fun xs=>ba (apn 7 fe.d1 xs)
def iT:FS:=⟨2,⟨[(0,(.ag [zt,zt,(.ow 2000),zi,zi,zo])),(1,zi)],[(2000,.arr 9 2)]⟩,⟨[(0,zi)],[(2000,.arr 9 2)]⟩,[2000],fe⟩
theorem rD:aG Tryz.checked.prog T0 60 iT:=bw aE (fn:=Tryz.f60) (c:=Tryz.f60.body.getD .skip) iT .leaf [(106,some 8,iD)] (.cons om .nil) (by kernel_rfl) (by kernel_rfl) (by kernel_rfl) (fun xs=>by kernel_rfl)
def fp.d1 (a b c d e f g h i j k l m:C):R:=(call2 (bu [l,.l m.L]) fun n o=>(some (.ret [n,.l o.L])))
def fp:List C→Option (List C):=fun xs=>ba (apn 13 fp.d1 xs)
def jo:FS:=⟨2,⟨[(0,(.ag [zt,zt,zi,zi,zi,zi,zt,(.ow 2000),zi,zt,zt,zt])),(1,zi)],[(2000,.arr 122 2)]⟩,⟨[(0,zi)],[(2000,.arr 122 2)]⟩,[2000],fp⟩
theorem su:aG Tryz.checked.prog T0 61 jo:=bw aE (fn:=Tryz.f61) (c:=Tryz.f61.body.getD .skip) jo .leaf [(107,some 8,fS)] (.cons lO .nil) (by kernel_rfl) (by kernel_rfl) (by kernel_rfl) (fun xs=>by kernel_rfl)
def ff.d1 (a b c d e f g h i j k l m n o p q r s t u v:C):R:=(call2 (fe [b,c,d,e,f,t,.l u.L]) fun w x=>(call2 (fp [g,h,i,j,k,l,m,n,o,p,q,w,.l v.L]) fun y z=>(some (.ret [y,.l x.L,.l z.L]))))
def ff:List C→Option (List C):=fun xs=>ba (apn 22 ff.d1 xs)
def iP:FS:=⟨2,⟨[(0,(.ag [zi,zt,zt,(.ow 2000),zi,zi,zo,zt,zt,zi,zi,zi,zi,zt,(.ow 2001),zi,zt,zt,zt,zt,zt])),(1,zi)],[(2000,.arr 9 2),(2001,.arr 122 2)]⟩,⟨[(0,zi)],[(2000,.arr 9 2),(2001,.arr 122 2)]⟩,[2000,2001],ff⟩
theorem rE:aG Tryz.checked.prog T0 17 iP:=bw aE (fn:=Tryz.f17) (c:=Tryz.f17.body.getD .skip) iP .leaf [(60,some 8,iT),(61,some 12,jo)] (.cons rD (.cons su .nil)) (by kernel_rfl) (by kernel_rfl) (by kernel_rfl) (fun xs=>by kernel_rfl)
def cu.d1 (a b c:C):R:=(bif (decide (c.I<(a.L.length:Int))) then (bif (decide (0≤c.I)) then (bif (decide (c.I<(a.L.length:Int))) then (aa (aI [b]) fun d=>(bif (!((((a.L.getD c.I.toNat []).getD 0 .nil).S).toList==d.S.toList)) then (some (.ret [.i (-1)])) else (some (.again [a,.i (w64 (b.I+1)),.i (w64 (c.I+1))])))) else none) else none) else (some (.brk 0 [b])))
def cu.d2 (a:C):R:=(some (.ret [a]))
def cu.d3 (a b:C):R:=(aq 0 (lim (apn 3 cu.d1) [a,b,.i 0]) (apn 1 cu.d2))
def cu:List C→Option (List C):=fun xs=>ba (apn 2 cu.d3 xs)
def kW:FS:=⟨2,⟨[(0,(zl 9)),(1,zi)],[]⟩,⟨[(0,zi)],[]⟩,[],cu⟩
theorem uH:aG Tryz.checked.prog T0 108 kW:=bw aE (fn:=Tryz.f108) (c:=Tryz.f108.body.getD .skip) kW (.seq .leaf (.seq (.seq .leaf (.block ⟨[(1,zi)],[]⟩ (.loop ⟨[(0,(zl 9)),(1,zi),(5,zi)],[]⟩ .leaf))) .leaf)) [(105,some 17,aU)] (.cons bd .nil) (by kernel_rfl) (by kernel_rfl) (by kernel_rfl) (fun xs=>by kernel_rfl)
def bj.d1 (a b c:C):R:=(bif (decide (c.I<(a.L.length:Int))) then (bif (decide (0≤c.I)) then (bif (decide (c.I<(a.L.length:Int))) then (aa (aI [b]) fun d=>(bif (!((((a.L.getD c.I.toNat []).getD 0 .nil).S).toList==d.S.toList)) then (some (.ret [.i (-1)])) else (bif (decide (0≤c.I)) then (bif (decide (c.I<(a.L.length:Int))) then (aa (aI [.i (w64 (b.I+1))]) fun e=>(bif (!((((a.L.getD c.I.toNat []).getD 1 .nil).S).toList==e.S.toList)) then (some (.ret [.i (-1)])) else (bif (decide (0≤c.I)) then (bif (decide (c.I<(a.L.length:Int))) then (aa (cu [((a.L.getD c.I.toNat []).getD 2 .nil),.i (w64 ((w64 (b.I+1))+1))]) fun f=>(bif (decide (f.I<0)) then (some (.ret [.i (-1)])) else (bif (decide (0≤c.I)) then (bif (decide (c.I<(a.L.length:Int))) then (bif (((a.L.getD c.I.toNat []).getD 3 .nil).I !=f.I) then (some (.ret [.i (-1)])) else (bif (decide (0≤c.I)) then (bif (decide (c.I<(a.L.length:Int))) then (bif (((a.L.getD c.I.toNat []).getD 4 .nil).I !=(w64 (f.I+1))) then (some (.ret [.i (-1)])) else (bif (decide (0≤c.I)) then (bif (decide (c.I<(a.L.length:Int))) then (bif (!(((a.L.getD c.I.toNat []).getD 5 .nil).B==(((w64 ((w64 (f.I+1))+1)).tmod 3)==0))) then (some (.ret [.i (-1)])) else (some (.again [a,.i (w64 ((w64 ((w64 (f.I+1))+1))+1)),.i (w64 (c.I+1))]))) else none) else none)) else none) else none)) else none) else none))) else none) else none))) else none) else none))) else none) else none) else (some (.brk 0 [b])))
def bj.d2 (a:C):R:=(some (.ret [a]))
def bj.d3 (a b:C):R:=(aq 0 (lim (apn 3 bj.d1) [a,b,.i 0]) (apn 1 bj.d2))
def bj:List C→Option (List C):=fun xs=>ba (apn 2 bj.d3 xs)
def hU:FS:=⟨2,⟨[(0,(zl 30)),(1,zi)],[]⟩,⟨[(0,zi)],[]⟩,[],bj⟩
theorem qj:aG Tryz.checked.prog T0 62 hU:=bw aE (fn:=Tryz.f62) (c:=Tryz.f62.body.getD .skip) hU (.seq .leaf (.seq (.seq .leaf (.block ⟨[(1,zi)],[]⟩ (.loop ⟨[(0,(zl 30)),(1,zi),(5,zi)],[]⟩ .leaf))) .leaf)) [(105,some 18,aU),(105,some 28,aU),(108,some 38,kW)] (.cons bd (.cons bd (.cons uH .nil))) (by kernel_rfl) (by kernel_rfl) (by kernel_rfl) (fun xs=>by kernel_rfl)
def aV.d1 (a b c:C):R:=(bif (decide (c.I<(a.L.length:Int))) then (bif (decide (0≤c.I)) then (bif (decide (c.I<(a.L.length:Int))) then (aa (aI [b]) fun d=>(bif (!((((a.L.getD c.I.toNat []).getD 0 .nil).S).toList==d.S.toList)) then (some (.ret [.i (-1)])) else (bif (decide (0≤c.I)) then (bif (decide (c.I<(a.L.length:Int))) then (bif (((a.L.getD c.I.toNat []).getD 1 .nil).I !=(w64 (b.I+1))) then (some (.ret [.i (-1)])) else (some (.again [a,.i (w64 ((w64 (b.I+1))+1)),.i (w64 (c.I+1))]))) else none) else none))) else none) else none) else (some (.brk 0 [b])))
def aV.d2 (a:C):R:=(some (.ret [a]))
def aV.d3 (a b:C):R:=(aq 0 (lim (apn 3 aV.d1) [a,b,.i 0]) (apn 1 aV.d2))
def aV:List C→Option (List C):=fun xs=>ba (apn 2 aV.d3 xs)
def gx:FS:=⟨2,⟨[(0,(zl 86)),(1,zi)],[]⟩,⟨[(0,zi)],[]⟩,[],aV⟩
theorem pg:aG Tryz.checked.prog T0 63 gx:=bw aE (fn:=Tryz.f63) (c:=Tryz.f63.body.getD .skip) gx (.seq .leaf (.seq (.seq .leaf (.block ⟨[(1,zi)],[]⟩ (.loop ⟨[(0,(zl 86)),(1,zi),(5,zi)],[]⟩ .leaf))) .leaf)) [(105,some 18,aU)] (.cons bd .nil) (by kernel_rfl) (by kernel_rfl) (by kernel_rfl) (fun xs=>by kernel_rfl)
def bH.d1 (a b c:C):R:=(bif (decide (c.I<(a.L.length:Int))) then (bif (decide (0≤c.I)) then (bif (decide (c.I<(a.L.length:Int))) then (aa (aI [b]) fun d=>(bif (!((((a.L.getD c.I.toNat []).getD 0 .nil).S).toList==d.S.toList)) then (some (.ret [.i (-1)])) else (bif (decide (0≤c.I)) then (bif (decide (c.I<(a.L.length:Int))) then (bif (((a.L.getD c.I.toNat []).getD 1 .nil).I !=(w64 (b.I+1))) then (some (.ret [.i (-1)])) else (some (.again [a,.i (w64 ((w64 (b.I+1))+1)),.i (w64 (c.I+1))]))) else none) else none))) else none) else none) else (some (.brk 0 [b])))
def bH.d2 (a:C):R:=(some (.ret [a]))
def bH.d3 (a b:C):R:=(aq 0 (lim (apn 3 bH.d1) [a,b,.i 0]) (apn 1 bH.d2))
def bH:List C→Option (List C):=fun xs=>ba (apn 2 bH.d3 xs)
def iW:FS:=⟨2,⟨[(0,(zl 122)),(1,zi)],[]⟩,⟨[(0,zi)],[]⟩,[],bH⟩
theorem rB:aG Tryz.checked.prog T0 109 iW:=bw aE (fn:=Tryz.f109) (c:=Tryz.f109.body.getD .skip) iW (.seq .leaf (.seq (.seq .leaf (.block ⟨[(1,zi)],[]⟩ (.loop ⟨[(0,(zl 122)),(1,zi),(5,zi)],[]⟩ .leaf))) .leaf)) [(105,some 18,aU)] (.cons bd .nil) (by kernel_rfl) (by kernel_rfl) (by kernel_rfl) (fun xs=>by kernel_rfl)
def bF.d1 (a b c:C):R:=(bif (decide (c.I<(a.L.length:Int))) then (bif (decide (0≤c.I)) then (bif (decide (c.I<(a.L.length:Int))) then (aa (aI [b]) fun d=>(bif (!((((a.L.getD c.I.toNat []).getD 0 .nil).S).toList==d.S.toList)) then (some (.ret [.i (-1)])) else (bif (decide (0≤c.I)) then (bif (decide (c.I<(a.L.length:Int))) then (aa (aI [.i (w64 (b.I+1))]) fun e=>(bif (!((((a.L.getD c.I.toNat []).getD 1 .nil).S).toList==e.S.toList)) then (some (.ret [.i (-1)])) else (bif (decide (0≤c.I)) then (bif (decide (c.I<(a.L.length:Int))) then (bif (((a.L.getD c.I.toNat []).getD 2 .nil).I !=(w64 ((w64 (b.I+1))+1))) then (some (.ret [.i (-1)])) else (bif (decide (0≤c.I)) then (bif (decide (c.I<(a.L.length:Int))) then (bif (((a.L.getD c.I.toNat []).getD 3 .nil).I !=(w64 ((w64 ((w64 (b.I+1))+1))+1))) then (some (.ret [.i (-1)])) else (bif (decide (0≤c.I)) then (bif (decide (c.I<(a.L.length:Int))) then (bif (((a.L.getD c.I.toNat []).getD 4 .nil).I !=(w64 ((w64 ((w64 ((w64 (b.I+1))+1))+1))+1))) then (some (.ret [.i (-1)])) else (bif (decide (0≤c.I)) then (bif (decide (c.I<(a.L.length:Int))) then (bif (((a.L.getD c.I.toNat []).getD 5 .nil).I !=(w64 ((w64 ((w64 ((w64 ((w64 (b.I+1))+1))+1))+1))+1))) then (some (.ret [.i (-1)])) else (bif (decide (0≤c.I)) then (bif (decide (c.I<(a.L.length:Int))) then (aa (aI [.i (w64 ((w64 ((w64 ((w64 ((w64 ((w64 (b.I+1))+1))+1))+1))+1))+1))]) fun f=>(bif (!((((a.L.getD c.I.toNat []).getD 6 .nil).S).toList==f.S.toList)) then (some (.ret [.i (-1)])) else (bif (decide (0≤c.I)) then (bif (decide (c.I<(a.L.length:Int))) then (aa (bH [((a.L.getD c.I.toNat []).getD 7 .nil),.i (w64 ((w64 ((w64 ((w64 ((w64 ((w64 ((w64 (b.I+1))+1))+1))+1))+1))+1))+1))]) fun g=>(bif (decide (g.I<0)) then (some (.ret [.i (-1)])) else (bif (decide (0≤c.I)) then (bif (decide (c.I<(a.L.length:Int))) then (bif (((a.L.getD c.I.toNat []).getD 8 .nil).I !=g.I) then (some (.ret [.i (-1)])) else (bif (decide (0≤c.I)) then (bif (decide (c.I<(a.L.length:Int))) then (aa (aI [.i (w64 (g.I+1))]) fun h=>(bif (!((((a.L.getD c.I.toNat []).getD 9 .nil).S).toList==h.S.toList)) then (some (.ret [.i (-1)])) else (bif (decide (0≤c.I)) then (bif (decide (c.I<(a.L.length:Int))) then (aa (aI [.i (w64 ((w64 (g.I+1))+1))]) fun i=>(bif (!((((a.L.getD c.I.toNat []).getD 10 .nil).S).toList==i.S.toList)) then (some (.ret [.i (-1)])) else (bif (decide (0≤c.I)) then (bif (decide (c.I<(a.L.length:Int))) then (aa (aI [.i (w64 ((w64 ((w64 (g.I+1))+1))+1))]) fun j=>(bif (!((((a.L.getD c.I.toNat []).getD 11 .nil).S).toList==j.S.toList)) then (some (.ret [.i (-1)])) else (some (.again [a,.i (w64 ((w64 ((w64 ((w64 (g.I+1))+1))+1))+1)),.i (w64 (c.I+1))])))) else none) else none))) else none) else none))) else none) else none)) else none) else none))) else none) else none))) else none) else none)) else none) else none)) else none) else none)) else none) else none)) else none) else none))) else none) else none))) else none) else none) else (some (.brk 0 [b])))
def bF.d2 (a:C):R:=(some (.ret [a]))
def bF.d3 (a b:C):R:=(aq 0 (lim (apn 3 bF.d1) [a,b,.i 0]) (apn 1 bF.d2))
def bF:List C→Option (List C):=fun xs=>ba (apn 2 bF.d3 xs)
def iV:FS:=⟨2,⟨[(0,(zl 33)),(1,zi)],[]⟩,⟨[(0,zi)],[]⟩,[],bF⟩
theorem rI:aG Tryz.checked.prog T0 64 iV:=bw aE (fn:=Tryz.f64) (c:=Tryz.f64.body.getD .skip) iV (.seq .leaf (.seq (.seq .leaf (.block ⟨[(1,zi)],[]⟩ (.loop ⟨[(0,(zl 33)),(1,zi),(5,zi)],[]⟩ .leaf))) .leaf)) [(105,some 18,aU),(105,some 28,aU),(105,some 74,aU),(105,some 102,aU),(105,some 112,aU),(105,some 122,aU),(109,some 84,iW)] (.cons bd (.cons bd (.cons bd (.cons bd (.cons bd (.cons bd (.cons rB .nil))))))) (by kernel_rfl) (by kernel_rfl) (by kernel_rfl) (fun xs=>by kernel_rfl)
def dV.d1 (a b c d e:C):R:=(aa (bj [b,e]) fun f=>(bif (decide (f.I<0)) then (some (.ret [.i (-1)])) else (aa (aV [c,f]) fun g=>(bif (decide (g.I<0)) then (some (.ret [.i (-1)])) else (aa (bF [d,g]) fun h=>(bif (decide (h.I<0)) then (some (.ret [.i (-1)])) else (some (.ret [h]))))))))
def dV:List C→Option (List C):=fun xs=>ba (apn 5 dV.d1 xs)
def fT:FS:=⟨2,⟨[(0,z2),(1,zi)],[]⟩,⟨[(0,zi)],[]⟩,[],dV⟩
theorem lM:aG Tryz.checked.prog T0 18 fT:=bw aE (fn:=Tryz.f18) (c:=Tryz.f18.body.getD .skip) fT .leaf [(62,some 8,hU),(63,some 14,gx),(64,some 20,iV)] (.cons qj (.cons pg (.cons rI .nil))) (by kernel_rfl) (by kernel_rfl) (by kernel_rfl) (fun xs=>by kernel_rfl)
def dm.d1 (a b c d e f g h i j k l m n o p q r s t u v w x y:C):R:=(aa (fj [a,b,c,d,.i 1048576]) fun z=>(bif (decide (z.I<0)) then (some (.ret [.b true])) else (aa (fh [e,f,g,h,i,j,k,l,m,n,o,p,q,r,s,t,u,v,w,x,y,z]) fun a0=>(bif (decide (a0.I<0)) then (some (.ret [.b true])) else (call4 (dw [a,b,c,d]) fun a1 a2 a3 a4=>(call21 (gj [e,f,g,h,i,j,k,l,m,n,o,p,q,r,s,t,u,v,w,x,y]) fun a5 a6 a7 a8 a9 b0 b1 b2 b3 b4 b5 b6 b7 b8 b9 c0 c1 c2 c3 c4 c5=>(call5 (cR [a1,a2,a3,a4,a5,a6,a7,a8,a9,b0,b1,b2,b3,b4,b5,b6,b7,b8,b9,c0,c1,c2,c3,c4,c5]) fun c6 c7 c8 c9 d0=>(call4 (dw [a,b,c,d]) fun d1 d2 d3 d4=>(call21 (dJ [e,f,g,h,i,j,k,l,m,n,o,p,q,r,s,t,u,v,w,x,y]) fun d5 d6 d7 d8 d9 e0 e1 e2 e3 e4 e5 e6 e7 e8 e9 f0 f1 f2 f3 f4 f5=>(call5 (aj [d1,.l d2.L,.l d3.L,.l d4.L,d5,d6,d7,.l f4.L,d8,d9,e0,e1,e2,e3,e4,e5,e6,e7,.l f5.L,e8,e9,f0,f1,f2,f3]) fun f6 f7 f8 f9 g0=>(aa (dL [f6,.l f8.L,.l f9.L,.l g0.L,c6,.l c8.L,.l c9.L,.l d0.L]) fun g1=>(bif (!(!g1.B)) then (bif (f7.I !=c7.I) then (some (.ret [.b false])) else (call4 (dw [a,b,c,d]) fun g2 g3 g4 g5=>(aa (dL [d1,.l d2.L,.l d3.L,.l d4.L,g2,.l g3.L,.l g4.L,.l g5.L]) fun g6=>(bif (!g6.B) then (some (.ret [.b false])) else (call21 (dJ [e,f,g,h,i,j,k,l,m,n,o,p,q,r,s,t,u,v,w,x,y]) fun g7 g8 g9 h0 h1 h2 h3 h4 h5 h6 h7 h8 h9 i0 i1 i2 i3 i4 i5 i6 i7=>(aa (fU [d5,d6,d7,.l f4.L,d8,d9,e0,e1,e2,e3,e4,e5,e6,e7,.l f5.L,e8,e9,f0,f1,f2,f3,g7,g8,g9,.l i6.L,h0,h1,h2,h3,h4,h5,h6,h7,h8,h9,.l i7.L,i0,i1,i2,i3,i4,i5]) fun i8=>(bif (!i8.B) then (some (.ret [.b false])) else (call4 (dS [d1,.i 1,.l d2.L,.l d3.L,.l d4.L]) fun i9 j0 j1 j2=>(call3 (ff [d5,d6,d7,d8,d9,e0,e1,e2,e3,e4,e5,e6,e7,e8,e9,f0,f1,f2,f3,i9,.l f4.L,.l f5.L]) fun j3 j4 j5=>(bif (!(decide (j3.I<0))) then (aa (dL [f6,.l f8.L,.l f9.L,.l g0.L,c6,.l c8.L,.l c9.L,.l d0.L]) fun j6=>(bif (!(!j6.B)) then (bif (f7.I !=c7.I) then (some (.ret [.b false])) else (call4 (dS [f6,.i 1,.l f8.L,.l f9.L,.l g0.L]) fun j7 j8 j9 k0=>(aa (dV [f6,.l j8.L,.l j9.L,.l k0.L,.i 1]) fun k1=>(bif (decide (k1.I<0)) then (some (.ret [.b false])) else (bif (k1.I !=j7.I) then (some (.ret [.b false])) else (call4 (dw [a,b,c,d]) fun k2 k3 k4 k5=>(call21 (dJ [e,f,g,h,i,j,k,l,m,n,o,p,q,r,s,t,u,v,w,x,y]) fun k6 k7 k8 k9 l0 l1 l2 l3 l4 l5 l6 l7 l8 l9 m0 m1 m2 m3 m4 m5 m6=>(call5 (aj [k2,.l k3.L,.l k4.L,.l k5.L,k6,k7,k8,.l m5.L,k9,l0,l1,l2,l3,l4,l5,l6,l7,l8,.l m6.L,l9,m0,m1,m2,m3,m4]) fun m7 m8 m9 n0 n1=>(aa (dL [m7,.l m9.L,.l n0.L,.l n1.L,c6,.l c8.L,.l c9.L,.l d0.L]) fun n2=>(bif (!(!n2.B)) then (bif (m8.I !=c7.I) then (some (.ret [.b false])) else (aa (dV [f6,.l j8.L,.l j9.L,.l k0.L,.i 1]) fun n3=>(bif (decide (n3.I<0)) then (some (.ret [.b false])) else (bif (n3.I !=j7.I) then (some (.ret [.b false])) else (some (.ret [.b true])))))) else (some (.ret [.b false])))))))))))) else (some (.ret [.b false])))) else (some (.ret [.b false])))))))))))) else (some (.ret [.b false]))))))))))))))
def dm:List C→Option (List C):=fun xs=>ba (apn 25 dm.d1 xs)
def jH:FS:=⟨2,⟨[(0,(.ag [zo,(zl 48),(zl 124),(zl 51)])),(1,z5)],[]⟩,⟨[(0,zo)],[]⟩,[],dm⟩
theorem oz:aG Tryz.checked.prog T0 4 jH:=y3 aE [] true (fn:=Tryz.f4) (c:=Tryz.f4.body.getD .skip) jH .leaf [(6,some 42,iA),(6,some 99,iA),(7,some 32,ky),(10,some 19,jQ),(11,some 24,kp),(12,some 29,jO),(12,some 36,eF),(12,some 56,eF),(12,some 96,eF),(13,some 31,ku),(13,some 38,eK),(13,some 61,eK),(13,some 98,eK),(14,some 47,eN),(14,some 57,eN),(14,some 75,eN),(14,some 104,eN),(15,some 62,kb),(16,some 66,fR),(16,some 85,fR),(17,some 69,iP),(18,some 88,fT),(18,some 113,fT)] (.cons oK (.cons oK (.cons uV (.cons tD (.cons tq (.cons tW (.cons il (.cons il (.cons il (.cons tz (.cons ik (.cons ik (.cons ik (.cons gS (.cons gS (.cons gS (.cons gS (.cons sV (.cons lP (.cons lP (.cons rE (.cons lM (.cons lM .nil))))))))))))))))))))))) (by kernel_rfl) (by kernel_rfl) (by kernel_rfl) (fun xs=>by kernel_rfl)
end
end Go.Ev
set_option maxRecDepth 8000
namespace Go.Ev
abbrev Str:=ByteArray
structure Lk where
 sel:Str
 w:Int
structure Bt where
 name:Str
 zone:Str
 marks:List Str
 room:Int
 hold:Int
 shut:Bool
structure Sv where
 name:Str
 spare:Int
structure Cp where
 name:Str
 svc:Str
 rank:Int
 born:Int
 room:Int
 hold:Int
 sel:Str
 likes:List Lk
 apart:Int
 near:Str
 fixed:Str
 at_:Str
structure Fl where
 pack:Bool
 bts:List Bt
 svs:List Sv
 cps:List Cp
def sE (s:Str):List C:=[.s s]
def Lk.e (x:Lk):List C:=[.s x.sel,.i x.w]
def Bt.e (b:Bt):List C:=[.s b.name,.s b.zone,.l (b.marks.map sE),.i b.room,.i b.hold,.b b.shut]
def Sv.e (s:Sv):List C:=[.s s.name,.i s.spare]
def Cp.e (c:Cp):List C:=[.s c.name,.s c.svc,.i c.rank,.i c.born,.i c.room,.i c.hold,.s c.sel,.l (c.likes.map Lk.e),.i c.apart,.s c.near,.s c.fixed,.s c.at_]
def Fl.e (f:Fl):List C:=[.b f.pack,.l (f.bts.map Bt.e),.l (f.svs.map Sv.e),.l (f.cps.map Cp.e)]
def Bt.Sz (K:Nat) (b:Bt):Prop:=b.name.size≤K∧b.zone.size≤K∧b.marks.length≤K∧∀m,m∈b.marks→m.size≤K
def Sv.Sz (K:Nat) (s:Sv):Prop:=s.name.size≤K
def Cp.Sz (K:Nat) (c:Cp):Prop:=c.name.size≤K∧c.svc.size≤K∧c.sel.size≤K∧c.near.size≤K∧c.fixed.size≤K∧c.at_.size≤K∧c.likes.length≤K∧∀x,x∈c.likes→x.sel.size≤K
def Fl.Sz (K:Nat) (f:Fl):Prop:=(f.bts.length≤K∧∀b,b∈f.bts→b.Sz K)∧(f.svs.length≤K∧∀s,s∈f.svs→s.Sz K)∧f.cps.length≤K∧∀c,c∈f.cps→c.Sz K
def Ao (K:Nat) (l:List Str):Prop:=l.length≤K∧∀s,s∈l→s.size≤K
def SzR (r:Option (List C)) (left:Int) (P:Prop):Prop:=r=some [.i (-1)]∨∃n:Int,0≤n∧n≤left∧P∧r=some [.i n]
theorem rp {α:Type} {l:List α} {e:α→List C} {body:List C→R} (P:α→Prop) (hl:l.length<4611686018427387904)
  (hb:∀(i:Nat) (h:i<l.length) (n:Int),0≤n→n≤1048576→body [.l (l.map e),.i n,.i i]=some (.ret [.i (-1)])∨∃m:Int,0≤m∧m≤n∧P l[i]∧body [.l (l.map e),.i n,.i i]=some (.again [.l (l.map e),.i m,.i (i+1:Nat)]))
  (he:∀n:Int,body [.l (l.map e),.i n,.i l.length]=some (.brk 0 [.i n])):
  ∀(k i:Nat) (n:Int),k+i=l.length→0≤n→n≤1048576→lim body [.l (l.map e),.i n,.i i]=some (.ret [.i (-1)])∨∃m:Int,0≤m∧m≤n∧(∀j (h:j<l.length),i≤j→P l[j])∧lim body [.l (l.map e),.i n,.i i]=some (.brk 0 [.i m])
 |0,i,n,hk,h0,h1=>by
  have:i=l.length:=by omega
  subst this
  exact .inr ⟨n,h0,Int.le_refl _,fun j h1 h2=>by omega,bB (he n)⟩
 |k+1,i,n,hk,h0,h1=>by
  have hi:i<l.length:=by omega
  rcases hb i hi n h0 h1 with h|⟨m,m0,m1,hp,h⟩
  ·exact .inl (qM h)
  ·rw[bc h]
   rcases rp P hl hb he k (i+1) m (by omega) m0 (by omega) with h|⟨q,q0,q1,hq,h⟩
   ·exact .inl h
   ·refine .inr ⟨q,q0,by omega,fun j hj hij=>?_,h⟩
    rcases Nat.lt_or_eq_of_le hij with h'|rfl
    ·exact hq j hj h'
    ·exact hp
theorem mS {α:Type} {P:α→Prop} {l:List α} (h:∀j (h:j<l.length),0≤j→P l[j]):∀x,x∈l→P x:=by
 intro x hx
 obtain ⟨i,hi,rfl⟩:=List.getElem_of_mem hx
 exact h i hi (Nat.zero_le _)
theorem rm {α:Type} {l:List α} {e:α→List C} {body:List C→R} (z:List C) (hl:l.length<4611686018427387904)
  (hb:∀(i:Nat) (h:i<l.length) (c:List (List C)),c.length=l.length→c.getD i []=z→body [.l (l.map e),.i i,.l c]=some (.again [.l (l.map e),.i (i+1:Nat),.l (c.set i (e l[i]))]))
  (he:∀c,body [.l (l.map e),.i l.length,.l c]=some (.brk 0 [.l c])):
  ∀(k i:Nat),k+i=l.length→lim body [.l (l.map e),.i i,.l ((l.take i).map e++List.replicate k z)]=some (.brk 0 [.l (l.map e)])
 |0,i,hk=>by
  have:i=l.length:=by omega
  subst this
  have:=bB (he (l.map e))
  simpa using this
 |k+1,i,hk=>by
  have hi:i<l.length:=by omega
  have hlen:((l.take i).map e).length=i:=by simp;omega
  have h:=hb i hi ((l.take i).map e++List.replicate (k+1) z) (by rw[List.length_append,hlen,List.length_replicate];omega) (by
   rw[List.getD_eq_getElem?_getD,List.getElem?_append_right (by omega),hlen];simp)
  rw[bc h]
  have:((l.take i).map e++List.replicate (k+1) z).set i (e l[i])=(l.take (i+1)).map e++List.replicate k z:=by
   rw[List.set_append_right _ _ (by omega),hlen,Nat.sub_self,List.replicate_succ,List.set_cons_zero,List.take_succ_eq_append_getElem hi,List.map_append]
   simp only[List.map_cons,List.map_nil,List.append_assoc,jA,jB]
  rw[this]
  exact rm z hl hb he k (i+1) (by omega)
theorem re {α:Type} {l:List α} {e:α→List C} {body:List C→R}
  (hb:∀(i:Nat) (h:i<l.length),body [.l (l.map e),.l (l.map e),.i i]=some (.again [.l (l.map e),.l (l.map e),.i (i+1:Nat)]))
  (he:body [.l (l.map e),.l (l.map e),.i l.length]=some (.brk 0 [])):
  ∀(k i:Nat),k+i=l.length→lim body [.l (l.map e),.l (l.map e),.i i]=some (.brk 0 [])
 |0,i,hk=>by
  have:i=l.length:=by omega
  subst this
  exact bB he
 |k+1,i,hk=>by
  rw[bc (hb i (by omega))]
  exact re hb he k (i+1) (by omega)
theorem getD_map' {α:Type} (e:α→List C) {l:List α} {i:Nat} (h:i<l.length):(l.map e).getD i []=e l[i]:=A9 e h []
theorem gP {n:Int} {m:Nat} (h0:0≤n) (h1:n≤1048576) (hm:m≤maxLen):w64 (n-m)=n-m:=by
 simp only[maxLen] at hm
 exact ed (by omega) (by omega)
theorem w1 {i n:Nat} (h:i<n) (hn:n<4611686018427387904):w64 ((i:Int)+1)=((i+1:Nat):Int):=by
 rw[ed (by omega) (by omega)];rfl
end Go.Ev
namespace Go.Ev
abbrev big:Nat:=4611686018427387904
theorem xe (ss:List Str) (n:Int) (h0:0≤n) (h1:n≤1048576) (hz:Ao maxLen ss):SzR (dh [.l (ss.map sE),.i n]) n (Ao 1048576 ss):=by
 simp only[dh,dh.d3,apL,jC,jD,C.L_l,C.I_i,jW,gP h0 h1 hz.1]
 by_cases hlt:n-(ss.length:Int)<0
 ·simp only[hlt,decide_true,jR,jV];exact .inl rfl
 ·simp only[hlt,decide_false,jS]
  rcases rp (l:=ss) (e:=sE) (body:=apn 3 dh.d1) (fun s=>s.size≤1048576) (by omega)
   (fun i hi n h0 h1=>by
    have hs:=gP h0 h1 (hz.2 _ (List.getElem_mem hi))
    simp only[apL,jC,jD,dh.d1,C.I_i,C.L_l,jW,jY,getD_map' sE hi]
    simp only[sE,jC,C.S_s,hs,w1 hi (show ss.length<big by simp only[big];omega)]
    by_cases hq:n-(ss[i].size:Int)<0
    ·left;simp[hi,hq]
    ·right;exact ⟨n-ss[i].size,by omega,by omega,by omega,by simp[hi,hq]⟩)
   (fun n=>by simp[dh.d1]) ss.length 0 (n-ss.length) (by omega) (by omega) (by omega) with h|⟨m,m0,m1,hp,h⟩
  ·rw[Int.ofNat_zero] at h;rw[h];exact .inl rfl
  ·rw[Int.ofNat_zero] at h;rw[h];exact .inr ⟨m,m0,by omega,⟨by omega,mS hp⟩,by simp[dh.d2]⟩
theorem nB (b:Bt) (n:Int) (h0:0≤n) (h1:n≤1048576) (hz:b.Sz maxLen):SzR (eI (b.e++[.i n])) n (b.Sz 1048576):=by
 simp only[eI,eI.d1,Bt.e,jA,jB,apL,jC,jD,C.S_s,C.I_i,gP h0 h1 hz.1]
 by_cases q1:n-(b.name.size:Int)<0
 ·simp only[q1,decide_true,jR,jV];exact .inl rfl
 simp only[q1,decide_false,jS,gP (n:=n-b.name.size) (by omega) (by omega) hz.2.1]
 by_cases q2:n-(b.name.size:Int)-(b.zone.size:Int)<0
 ·simp only[q2,decide_true,jR,jV];exact .inl rfl
 simp only[q2,decide_false,jS]
 rcases xe b.marks (n-b.name.size-b.zone.size) (by omega) (by omega) hz.2.2 with h|⟨m,m0,m1,hp,h⟩
 ·rw[h];exact .inl rfl
 ·rw[h]
  have:¬m<0:=by omega
  exact .inr ⟨m,m0,by omega,⟨by omega,by omega,hp⟩,by simp[aa,this]⟩
theorem rX (l:List Bt) (n:Int) (h0:0≤n) (h1:n≤1048576) (hz:l.length≤maxLen∧∀b,b∈l→b.Sz maxLen):SzR (bL [.l (l.map Bt.e),.i n]) n (l.length≤1048576∧∀b,b∈l→b.Sz 1048576):=by
 simp only[bL,bL.d3,apL,jC,jD,C.L_l,C.I_i,jW,gP h0 h1 hz.1]
 by_cases hlt:n-(l.length:Int)<0
 ·simp only[hlt,decide_true,jR,jV];exact .inl rfl
 ·simp only[hlt,decide_false,jS]
  rcases rp (l:=l) (e:=Bt.e) (body:=apn 3 bL.d1) (fun s=>s.Sz 1048576) (by omega)
   (fun i hi n h0 h1=>by
    simp only[apL,jC,jD,bL.d1,C.I_i,C.L_l,jW,jY,getD_map' Bt.e hi,w1 hi (show l.length<big by simp only[big];omega)]
    rcases nB l[i] n h0 h1 (hz.2 _ (List.getElem_mem hi)) with h|⟨m,m0,m1,hp,h⟩
    ·simp only[Bt.e,jA,jB] at h
     left;simp[hi,Bt.e,h,aa]
    ·simp only[Bt.e,jA,jB] at h
     have:¬m<0:=by omega
     right;exact ⟨m,m0,m1,hp,by simp[hi,Bt.e,h,aa,this]⟩)
   (fun n=>by simp[bL.d1]) l.length 0 (n-l.length) (by omega) (by omega) (by omega) with h|⟨m,m0,m1,hp,h⟩
  ·rw[Int.ofNat_zero] at h;rw[h];exact .inl rfl
  ·rw[Int.ofNat_zero] at h;rw[h];exact .inr ⟨m,m0,by omega,⟨by omega,mS hp⟩,by simp[bL.d2]⟩
theorem rz (x:Sv) (n:Int) (h0:0≤n) (h1:n≤1048576) (hz:x.name.size≤maxLen):SzR (eB (x.e++[.i n])) n (x.name.size≤1048576):=by
 simp only[eB,eB.d1,Sv.e,jA,jB,apL,jC,jD,C.S_s,C.I_i,gP h0 h1 hz]
 by_cases q1:n-(x.name.size:Int)<0
 ·simp only[q1,decide_true,jR,jV];exact .inl rfl
 ·simp only[q1,decide_false,jS,jV];exact .inr ⟨_,by omega,by omega,by omega,rfl⟩
theorem ql (l:List Sv) (n:Int) (h0:0≤n) (h1:n≤1048576) (hz:l.length≤maxLen∧∀x,x∈l→x.name.size≤maxLen):SzR (bh [.l (l.map Sv.e),.i n]) n (l.length≤1048576∧∀x,x∈l→x.name.size≤1048576):=by
 simp only[bh,bh.d3,apL,jC,jD,C.L_l,C.I_i,jW,gP h0 h1 hz.1]
 by_cases hlt:n-(l.length:Int)<0
 ·simp only[hlt,decide_true,jR,jV];exact .inl rfl
 ·simp only[hlt,decide_false,jS]
  rcases rp (l:=l) (e:=Sv.e) (body:=apn 3 bh.d1) (fun x=>x.name.size≤1048576) (by omega)
   (fun i hi n h0 h1=>by
    simp only[apL,jC,jD,bh.d1,C.I_i,C.L_l,jW,jY,getD_map' Sv.e hi,w1 hi (show l.length<big by simp only[big];omega)]
    rcases rz l[i] n h0 h1 (hz.2 _ (List.getElem_mem hi)) with h|⟨m,m0,m1,hp,h⟩
    ·simp only[Sv.e,jA,jB] at h
     left;simp[hi,Sv.e,h,aa]
    ·simp only[Sv.e,jA,jB] at h
     have:¬m<0:=by omega
     right;exact ⟨m,m0,m1,hp,by simp[hi,Sv.e,h,aa,this]⟩)
   (fun n=>by simp[bh.d1]) l.length 0 (n-l.length) (by omega) (by omega) (by omega) with h|⟨m,m0,m1,hp,h⟩
  ·rw[Int.ofNat_zero] at h;rw[h];exact .inl rfl
  ·rw[Int.ofNat_zero] at h;rw[h];exact .inr ⟨m,m0,by omega,⟨by omega,mS hp⟩,by simp[bh.d2]⟩
theorem u7 (x:Lk) (n:Int) (h0:0≤n) (h1:n≤1048576) (hz:x.sel.size≤maxLen):SzR (fO (x.e++[.i n])) n (x.sel.size≤1048576):=by
 simp only[fO,fO.d1,Lk.e,jA,jB,apL,jC,jD,C.S_s,C.I_i,gP h0 h1 hz]
 by_cases q1:n-(x.sel.size:Int)<0
 ·simp only[q1,decide_true,jR,jV];exact .inl rfl
 ·simp only[q1,decide_false,jS,jV];exact .inr ⟨_,by omega,by omega,by omega,rfl⟩
theorem sR (l:List Lk) (n:Int) (h0:0≤n) (h1:n≤1048576) (hz:l.length≤maxLen∧∀x,x∈l→x.sel.size≤maxLen):SzR (bU [.l (l.map Lk.e),.i n]) n (l.length≤1048576∧∀x,x∈l→x.sel.size≤1048576):=by
 simp only[bU,bU.d3,apL,jC,jD,C.L_l,C.I_i,jW,gP h0 h1 hz.1]
 by_cases hlt:n-(l.length:Int)<0
 ·simp only[hlt,decide_true,jR,jV];exact .inl rfl
 ·simp only[hlt,decide_false,jS]
  rcases rp (l:=l) (e:=Lk.e) (body:=apn 3 bU.d1) (fun x=>x.sel.size≤1048576) (by omega)
   (fun i hi n h0 h1=>by
    simp only[apL,jC,jD,bU.d1,C.I_i,C.L_l,jW,jY,getD_map' Lk.e hi,w1 hi (show l.length<big by simp only[big];omega)]
    rcases u7 l[i] n h0 h1 (hz.2 _ (List.getElem_mem hi)) with h|⟨m,m0,m1,hp,h⟩
    ·simp only[Lk.e,jA,jB] at h
     left;simp[hi,Lk.e,h,aa]
    ·simp only[Lk.e,jA,jB] at h
     have:¬m<0:=by omega
     right;exact ⟨m,m0,m1,hp,by simp[hi,Lk.e,h,aa,this]⟩)
   (fun n=>by simp[bU.d1]) l.length 0 (n-l.length) (by omega) (by omega) (by omega) with h|⟨m,m0,m1,hp,h⟩
  ·rw[Int.ofNat_zero] at h;rw[h];exact .inl rfl
  ·rw[Int.ofNat_zero] at h;rw[h];exact .inr ⟨m,m0,by omega,⟨by omega,mS hp⟩,by simp[bU.d2]⟩
theorem nS (x:Cp) (n:Int) (h0:0≤n) (h1:n≤1048576) (hz:x.Sz maxLen):SzR (fb (x.e++[.i n])) n (x.Sz 1048576):=by
 obtain ⟨z1,z2,z3,z4,z5,z6,z7⟩:=hz
 simp only[fb,fb.d1,Cp.e,jA,jB,apL,jC,jD,C.S_s,C.I_i,gP h0 h1 z1]
 by_cases q1:n-(x.name.size:Int)<0
 ·simp only[q1,decide_true,jR,jV];exact .inl rfl
 simp only[q1,decide_false,jS,gP (n:=n-x.name.size) (by omega) (by omega) z2]
 by_cases q2:n-(x.name.size:Int)-(x.svc.size:Int)<0
 ·simp only[q2,decide_true,jR,jV];exact .inl rfl
 simp only[q2,decide_false,jS,gP (n:=n-x.name.size-x.svc.size) (by omega) (by omega) z3]
 by_cases q3:n-(x.name.size:Int)-(x.svc.size:Int)-(x.sel.size:Int)<0
 ·simp only[q3,decide_true,jR,jV];exact .inl rfl
 simp only[q3,decide_false,jS]
 rcases sR x.likes (n-x.name.size-x.svc.size-x.sel.size) (by omega) (by omega) z7 with h|⟨m,m0,m1,hp,h⟩
 ·rw[h];exact .inl rfl
 rw[h]
 have hm:¬m<0:=by omega
 simp only[aa,jI,jC,C.I_i,hm,decide_false,jS,gP (n:=m) (by omega) (by omega) z4]
 by_cases q4:m-(x.near.size:Int)<0
 ·simp only[q4,decide_true,jR,jV];exact .inl rfl
 simp only[q4,decide_false,jS,gP (n:=m-x.near.size) (by omega) (by omega) z5]
 by_cases q5:m-(x.near.size:Int)-(x.fixed.size:Int)<0
 ·simp only[q5,decide_true,jR,jV];exact .inl rfl
 simp only[q5,decide_false,jS,gP (n:=m-x.near.size-x.fixed.size) (by omega) (by omega) z6]
 by_cases q6:m-(x.near.size:Int)-(x.fixed.size:Int)-(x.at_.size:Int)<0
 ·simp only[q6,decide_true,jR,jV];exact .inl rfl
 simp only[q6,decide_false,jS,jV]
 exact .inr ⟨_,by omega,by omega,⟨by omega,by omega,by omega,by omega,by omega,by omega,hp⟩,rfl⟩
theorem tH (l:List Cp) (n:Int) (h0:0≤n) (h1:n≤1048576) (hz:l.length≤maxLen∧∀x,x∈l→x.Sz maxLen):SzR (bV [.l (l.map Cp.e),.i n]) n (l.length≤1048576∧∀x,x∈l→x.Sz 1048576):=by
 simp only[bV,bV.d3,apL,jC,jD,C.L_l,C.I_i,jW,gP h0 h1 hz.1]
 by_cases hlt:n-(l.length:Int)<0
 ·simp only[hlt,decide_true,jR,jV];exact .inl rfl
 ·simp only[hlt,decide_false,jS]
  rcases rp (l:=l) (e:=Cp.e) (body:=apn 3 bV.d1) (fun x=>x.Sz 1048576) (by omega)
   (fun i hi n h0 h1=>by
    simp only[apL,jC,jD,bV.d1,C.I_i,C.L_l,jW,jY,getD_map' Cp.e hi,w1 hi (show l.length<big by simp only[big];omega)]
    rcases nS l[i] n h0 h1 (hz.2 _ (List.getElem_mem hi)) with h|⟨m,m0,m1,hp,h⟩
    ·simp only[Cp.e,jA,jB] at h
     left;simp[hi,Cp.e,h,aa]
    ·simp only[Cp.e,jA,jB] at h
     have:¬m<0:=by omega
     right;exact ⟨m,m0,m1,hp,by simp[hi,Cp.e,h,aa,this]⟩)
   (fun n=>by simp[bV.d1]) l.length 0 (n-l.length) (by omega) (by omega) (by omega) with h|⟨m,m0,m1,hp,h⟩
  ·rw[Int.ofNat_zero] at h;rw[h];exact .inl rfl
  ·rw[Int.ofNat_zero] at h;rw[h];exact .inr ⟨m,m0,by omega,⟨by omega,mS hp⟩,by simp[bV.d2]⟩
theorem tJ (f:Fl) (n:Int) (h0:0≤n) (h1:n≤1048576) (hz:f.Sz maxLen):SzR (fj (f.e++[.i n])) n (f.Sz 1048576):=by
 obtain ⟨z1,z2,z3⟩:=hz
 simp only[fj,fj.d1,Fl.e,jA,jB,apL,jC,jD]
 rcases rX f.bts n h0 h1 z1 with h|⟨m,m0,m1,hp,h⟩
 ·rw[h];exact .inl rfl
 rw[h]
 have hm:¬m<0:=by omega
 simp only[aa,jI,jC,C.I_i,hm,decide_false,jS]
 rcases ql f.svs m m0 (by omega) z2 with h|⟨m',m0',m1',hp',h⟩
 ·rw[h];exact .inl rfl
 rw[h]
 have hm:¬m'<0:=by omega
 simp only[aa,jI,jC,C.I_i,hm,decide_false,jS]
 rcases tH f.cps m' m0' (by omega) z3 with h|⟨m'',m0'',m1'',hp'',h⟩
 ·rw[h];exact .inl rfl
 rw[h]
 have hm:¬m''<0:=by omega
 simp only[aa,jI,jC,C.I_i,hm,decide_false,jS,jV]
 exact .inr ⟨m'',m0'',by omega,⟨hp,hp',hp''⟩,rfl⟩
end Go.Ev
namespace Go.Ev
theorem oo (r m:List C) (h:r.length=m.length):ar r 0 m=m:=by
 unfold ar
 rw[List.drop_eq_nil_of_le (by omega)];simp
theorem AJ {n:Nat} (h:n≤1048576):(n:Int)≤4294967296:=by omega
theorem xU (l:List Str) (hl:l.length≤1048576∧∀x,x∈l→True):dr [.l (l.map sE)]=some [.l (l.map sE)]:=by
 have h:=rm (l:=l) (e:=sE) (body:=apn 3 dr.d1) [.s (bs #[])] (by omega)
  (fun i hi c hc hz=>by
   simp only[apL,jC,jD,dr.d1,C.I_i,C.L_l,jW,jY,getD_map' sE hi,w1 hi (show l.length<big by simp only[big];omega),hz,hc]
   simp[hi,sE,hc,hz,oo])
  (fun c=>by simp[dr.d1]) l.length 0 rfl
 rw[Int.ofNat_zero] at h
 simp only[List.take_zero,List.map_nil,jB] at h
 simp only[dr,dr.d3,apL,jC,C.L_l,jW,jY,rows]
 simp[AJ hl.1,h,dr.d2]
def Bt.o (b:Bt):List C:=[.s b.name,.s b.zone,.i b.room,.i b.hold,.b b.shut,.l (b.marks.map sE)]
def Cp.o (c:Cp):List C:=[.s c.name,.s c.svc,.i c.rank,.i c.born,.i c.room,.i c.hold,.s c.sel,.i c.apart,.s c.near,.s c.fixed,.s c.at_,.l (c.likes.map Lk.e)]
theorem nj (b:Bt) (h:b.Sz 1048576):ec b.e=some b.o:=by
 simp[ec,ec.d1,Bt.e,Bt.o,xU b.marks ⟨h.2.2.1,fun _ _=>trivial⟩,aa]
theorem rJ (b:Sv) (h:True):ga b.e=some b.e:=rfl
theorem vg (b:Lk) (h:True):jb b.e=some b.e:=rfl
theorem sF (l:List Bt) (hl:l.length≤1048576∧∀x,x∈l→x.Sz 1048576):bO [.l (l.map Bt.e)]=some [.l (l.map Bt.e)]:=by
 have h:=rm (l:=l) (e:=Bt.e) (body:=apn 3 bO.d1) [.s (bs #[]),.s (bs #[]),.l [],.i 0,.i 0,.b false] (by omega)
  (fun i hi c hc hz=>by
   simp only[apL,jC,jD,bO.d1,C.I_i,C.L_l,jW,jY,getD_map' Bt.e hi,w1 hi (show l.length<big by simp only[big];omega),hz,hc]
   have hx:=nj l[i] (hl.2 _ (List.getElem_mem hi))
   simp only[Bt.e,Bt.o] at hx
   simp[hi,Bt.e,hx,hc,hz,aa,call2,call6,call12,oo])
  (fun c=>by simp[bO.d1]) l.length 0 rfl
 rw[Int.ofNat_zero] at h
 simp only[List.take_zero,List.map_nil,jB] at h
 simp only[bO,bO.d3,apL,jC,C.L_l,jW,jY,rows]
 simp[AJ hl.1,h,bO.d2]
theorem pX (l:List Sv) (hl:l.length≤1048576∧∀x,x∈l→True):bp [.l (l.map Sv.e)]=some [.l (l.map Sv.e)]:=by
 have h:=rm (l:=l) (e:=Sv.e) (body:=apn 3 bp.d1) [.s (bs #[]),.i 0] (by omega)
  (fun i hi c hc hz=>by
   simp only[apL,jC,jD,bp.d1,C.I_i,C.L_l,jW,jY,getD_map' Sv.e hi,w1 hi (show l.length<big by simp only[big];omega),hz,hc]
   have hx:=rJ l[i] trivial
   simp only[Sv.e] at hx
   simp[hi,Sv.e,hx,hc,hz,aa,call2,call6,call12,oo])
  (fun c=>by simp[bp.d1]) l.length 0 rfl
 rw[Int.ofNat_zero] at h
 simp only[List.take_zero,List.map_nil,jB] at h
 simp only[bp,bp.d3,apL,jC,C.L_l,jW,jY,rows]
 simp[AJ hl.1,h,bp.d2]
theorem tL (l:List Lk) (hl:l.length≤1048576∧∀x,x∈l→True):cd [.l (l.map Lk.e)]=some [.l (l.map Lk.e)]:=by
 have h:=rm (l:=l) (e:=Lk.e) (body:=apn 3 cd.d1) [.s (bs #[]),.i 0] (by omega)
  (fun i hi c hc hz=>by
   simp only[apL,jC,jD,cd.d1,C.I_i,C.L_l,jW,jY,getD_map' Lk.e hi,w1 hi (show l.length<big by simp only[big];omega),hz,hc]
   have hx:=vg l[i] trivial
   simp only[Lk.e] at hx
   simp[hi,Lk.e,hx,hc,hz,aa,call2,call6,call12,oo])
  (fun c=>by simp[cd.d1]) l.length 0 rfl
 rw[Int.ofNat_zero] at h
 simp only[List.take_zero,List.map_nil,jB] at h
 simp only[cd,cd.d3,apL,jC,C.L_l,jW,jY,rows]
 simp[AJ hl.1,h,cd.d2]
theorem nU (b:Cp) (h:b.Sz 1048576):eD b.e=some b.o:=by
 simp[eD,eD.d1,Cp.e,Cp.o,tL b.likes ⟨h.2.2.2.2.2.2.1,fun _ _=>trivial⟩,aa]
theorem uc (l:List Cp) (hl:l.length≤1048576∧∀x,x∈l→x.Sz 1048576):bZ [.l (l.map Cp.e)]=some [.l (l.map Cp.e)]:=by
 have h:=rm (l:=l) (e:=Cp.e) (body:=apn 3 bZ.d1) [.s (bs #[]),.s (bs #[]),.i 0,.i 0,.i 0,.i 0,.s (bs #[]),.l [],.i 0,.s (bs #[]),.s (bs #[]),.s (bs #[])] (by omega)
  (fun i hi c hc hz=>by
   simp only[apL,jC,jD,bZ.d1,C.I_i,C.L_l,jW,jY,getD_map' Cp.e hi,w1 hi (show l.length<big by simp only[big];omega),hz,hc]
   have hx:=nU l[i] (hl.2 _ (List.getElem_mem hi))
   simp only[Cp.e,Cp.o] at hx
   simp[hi,Cp.e,hx,hc,hz,aa,call2,call6,call12,oo])
  (fun c=>by simp[bZ.d1]) l.length 0 rfl
 rw[Int.ofNat_zero] at h
 simp only[List.take_zero,List.map_nil,jB] at h
 simp only[bZ,bZ.d3,apL,jC,C.L_l,jW,jY,rows]
 simp[AJ hl.1,h,bZ.d2]
theorem tV (f:Fl) (h:f.Sz 1048576):dw f.e=some f.e:=by
 have h1:=sF f.bts h.1
 have h2:=pX f.svs ⟨h.2.1.1,fun _ _=>trivial⟩
 have h3:=uc f.cps h.2.2
 simp[dw,dw.d1,Fl.e,h1,h2,h3,aa]
theorem xu (l:List Str) (hl:l.length≤1048576∧∀x,x∈l→True):dp [.l (l.map sE),.l (l.map sE)]=some [.b true]:=by
 have h:=re (l:=l) (e:=sE) (body:=apn 3 dp.d1)
  (fun i hi=>by
   simp only[apL,jC,jD,dp.d1,C.I_i,C.L_l,jW,jY,getD_map' sE hi,w1 hi (show l.length<big by simp only[big];omega)]
   simp[hi,sE])
  (by simp[dp.d1]) l.length 0 rfl
 rw[Int.ofNat_zero] at h
 simp[dp,dp.d3,h,dp.d2]
theorem ng (b:Bt) (h:b.Sz 1048576):eL (b.e++b.e)=some [.b true]:=by
 simp[eL,eL.d1,Bt.e,xu b.marks ⟨h.2.2.1,fun _ _=>trivial⟩,aa]
theorem rL (b:Sv) (h:True):eA (b.e++b.e)=some [.b true]:=by
 simp[eA,eA.d1,Sv.e]
theorem uM (b:Lk) (h:True):fK (b.e++b.e)=some [.b true]:=by
 simp[fK,fK.d1,Lk.e]
theorem r9 (l:List Bt) (hl:l.length≤1048576∧∀x,x∈l→x.Sz 1048576):bM [.l (l.map Bt.e),.l (l.map Bt.e)]=some [.b true]:=by
 have h:=re (l:=l) (e:=Bt.e) (body:=apn 3 bM.d1)
  (fun i hi=>by
   simp only[apL,jC,jD,bM.d1,C.I_i,C.L_l,jW,jY,getD_map' Bt.e hi,w1 hi (show l.length<big by simp only[big];omega)]
   have hx:=ng l[i] (hl.2 _ (List.getElem_mem hi))
   simp only[Bt.e,jA,jB] at hx
   simp[hi,Bt.e,hx,aa])
  (by simp[bM.d1]) l.length 0 rfl
 rw[Int.ofNat_zero] at h
 simp[bM,bM.d3,h,bM.d2]
theorem qd (l:List Sv) (hl:l.length≤1048576∧∀x,x∈l→True):bg [.l (l.map Sv.e),.l (l.map Sv.e)]=some [.b true]:=by
 have h:=re (l:=l) (e:=Sv.e) (body:=apn 3 bg.d1)
  (fun i hi=>by
   simp only[apL,jC,jD,bg.d1,C.I_i,C.L_l,jW,jY,getD_map' Sv.e hi,w1 hi (show l.length<big by simp only[big];omega)]
   have hx:=rL l[i] (hl.2 _ (List.getElem_mem hi))
   simp only[Sv.e,jA,jB] at hx
   simp[hi,Sv.e,hx,aa])
  (by simp[bg.d1]) l.length 0 rfl
 rw[Int.ofNat_zero] at h
 simp[bg,bg.d3,h,bg.d2]
theorem tX (l:List Lk) (hl:l.length≤1048576∧∀x,x∈l→True):bX [.l (l.map Lk.e),.l (l.map Lk.e)]=some [.b true]:=by
 have h:=re (l:=l) (e:=Lk.e) (body:=apn 3 bX.d1)
  (fun i hi=>by
   simp only[apL,jC,jD,bX.d1,C.I_i,C.L_l,jW,jY,getD_map' Lk.e hi,w1 hi (show l.length<big by simp only[big];omega)]
   have hx:=uM l[i] (hl.2 _ (List.getElem_mem hi))
   simp only[Lk.e,jA,jB] at hx
   simp[hi,Lk.e,hx,aa])
  (by simp[bX.d1]) l.length 0 rfl
 rw[Int.ofNat_zero] at h
 simp[bX,bX.d3,h,bX.d2]
theorem oH (b:Cp) (h:b.Sz 1048576):eY (b.e++b.e)=some [.b true]:=by
 simp[eY,eY.d1,Cp.e,tX b.likes ⟨h.2.2.2.2.2.2.1,fun _ _=>trivial⟩,aa]
theorem sI (l:List Cp) (hl:l.length≤1048576∧∀x,x∈l→x.Sz 1048576):bW [.l (l.map Cp.e),.l (l.map Cp.e)]=some [.b true]:=by
 have h:=re (l:=l) (e:=Cp.e) (body:=apn 3 bW.d1)
  (fun i hi=>by
   simp only[apL,jC,jD,bW.d1,C.I_i,C.L_l,jW,jY,getD_map' Cp.e hi,w1 hi (show l.length<big by simp only[big];omega)]
   have hx:=oH l[i] (hl.2 _ (List.getElem_mem hi))
   simp only[Cp.e,jA,jB] at hx
   simp[hi,Cp.e,hx,aa])
  (by simp[bW.d1]) l.length 0 rfl
 rw[Int.ofNat_zero] at h
 simp[bW,bW.d3,h,bW.d2]
theorem nh (f:Fl) (h:f.Sz 1048576):dL (f.e++f.e)=some [.b true]:=by
 have h1:=r9 f.bts h.1
 have h2:=qd f.svs ⟨h.2.1.1,fun _ _=>trivial⟩
 have h3:=sI f.cps h.2.2
 simp[dL,dL.d1,Fl.e,h1,h2,h3,aa]
end Go.Ev
namespace Go.Ev
def within (a b c:Int):Bool:=decide (b≤a)&&decide (a≤c)
theorem gq (a b c:Int):gD [.i a,.i b,.i c]=some [.b (within a b c)]:=by
 simp only[gD,gD.d1,apL,jC,jD,C.I_i,within]
 cases h:decide (a≥b)<;>simp at h<;>simp[h]<;>omega
theorem nk (a b c:Int):fi [.i a,.i b,.i c]=some [.b (within a b c)]:=by
 simp only[fi,fi.d1,apL,jC,jD,C.I_i,within]
 cases h:decide (a≥b)<;>simp at h<;>simp[h]<;>omega
def Co (n:Int):Bool:=(decide (n≥97)&&decide (n≤122))||(decide (n≥48)&&decide (n≤57))||n==45||n==95
def dy (x:UInt8):Bool:=Co (x.toNat:Int)
theorem jj (n:Int):hY [.i n]=some [.b (Co n)]:=by
 simp only[hY,hY.d1,apL,jC,C.I_i,Co]
 cases decide (n≥97)<;>cases decide (n≤122)<;>cases decide (n≥48)<;>cases decide (n≤57)<;>cases n==45<;>simp
theorem oQ (n:Int):qN [.i n]=some [.b (Co n)]:=jj n
def bf (s:Str):Bool:=within s.size 1 20&&s.data.toList.all dy
theorem cZ (s:Str):s.size=s.data.toList.length:=Array.length_toList.symm
theorem ej {s:Str} {i:Nat} (h:i<s.data.toList.length):s.data.getD i 0=s.data.toList[i]:=by
 have:i<s.data.size:=by simpa using h
 simp only[Array.getD,dif_pos this,Array.getInternal_eq_getElem,Array.getElem_toList]
theorem uT {α:Type} (p:α→Bool) (b:Nat) (ys:List C) (K:List C→R):∀(l:List α) (n:Nat),aq b (some (yT (fun _ s (_:Unit)=>bif p s then .inl () else .inr (.ret [.b false])) (fun _=>.brk b ys) l n ())) K=bif l.all p then K ys else some (.ret [.b false])
 |[],n=>by simp[yT]
 |x::r,n=>by
  simp only[yT,List.all_cons]
  cases p x with
  |true=>simp only[jR,Bool.true_and];exact uT p b ys K r (n+1)
  |false=>simp
theorem cD (s:Str) (hl:s.size≤1048576):aX [.s s]=some [.b (bf s)]:=by
 have hsz:=cZ s
 have h:=xy (l:=s.data.toList) (S:=fun i (_:Unit)=>[.s s,.i (i:Nat)]) (body:=apn 2 aX.d1)
  (fun _ _=>True) (fun i b _=>bif dy b then .inl () else .inr (.ret [.b false])) (fun _=>.brk 0 [])
  (fun i _ hi _=>by
   have hi':i<s.size:=by omega
   cases hb:dy s.data.toList[i]<;>simp only[dy] at hb
   ·exact ⟨by simp only[apL,jC,jD,aX.d1,C.I_i,C.S_s,jY,ej hi,jj,hb,aa];simp[hi'],trivial⟩
   ·exact ⟨by simp only[apL,jC,jD,aX.d1,C.I_i,C.S_s,jY,ej hi,jj,hb,aa,w1 hi' (show s.size<big by simp only[big];omega)];simp[hi'],trivial⟩)
  (fun _ _=>⟨by rw[←hsz];simp[aX.d1],trivial⟩) _ 0 () rfl trivial
 simp only[Int.ofNat_zero,List.drop_zero] at h
 simp only[aX,aX.d3,apL,jC,C.S_s,gq,aa,jI,C.B_b,bf]
 cases hw:within s.size 1 20 with
 |false=>simp
 |true=>
  simp only[jZ,jS]
  erw[h,uT]
  cases (s.data.toList.all dy)<;>simp[aX.d2]
theorem fL (s:Str) (hl:s.size≤1048576):dP [.s s]=some [.b (bf s)]:=by
 have hsz:=cZ s
 have h:=xy (l:=s.data.toList) (S:=fun i (_:Unit)=>[.s s,.i (s.size:Nat),.i (i:Nat)]) (body:=apn 3 dP.d1)
  (fun _ _=>True) (fun i b _=>bif dy b then .inl () else .inr (.ret [.b false])) (fun _=>.brk 0 [])
  (fun i _ hi _=>by
   have hi':i<s.size:=by omega
   cases hb:dy s.data.toList[i]<;>simp only[dy] at hb
   ·exact ⟨by simp only[apL,jC,jD,dP.d1,C.I_i,C.S_s,jY,ej hi,oQ,hb,aa];simp[hi'],trivial⟩
   ·exact ⟨by simp only[apL,jC,jD,dP.d1,C.I_i,C.S_s,jY,ej hi,oQ,hb,aa,w1 hi' (show s.size<big by simp only[big];omega)];simp[hi'],trivial⟩)
  (fun _ _=>⟨by rw[←hsz];simp[dP.d1],trivial⟩) _ 0 () rfl trivial
 simp only[Int.ofNat_zero,List.drop_zero] at h
 simp only[dP,dP.d3,apL,jC,C.S_s,bf,within]
 by_cases q1:(s.size:Int)<1
 ·have:¬(1:Int)≤s.size:=by omega
  simp[q1,this]
 by_cases q2:(s.size:Int)>20
 ·have:¬(s.size:Int)≤20:=by omega
  simp only[q1,q2,this];simp
 ·have e1:(1:Int)≤s.size:=by omega
  have e2:(s.size:Int)≤20:=by omega
  simp only[q1,q2,e1,e2,decide_true,decide_false,ja,jR,jS,Bool.true_and]
  erw[h,uT]
  cases (s.data.toList.all dy)<;>simp[dP.d2]
end Go.Ev
namespace Go.Ev
def mkS (l:List UInt8):Str:=⟨l.toArray⟩
theorem gH (l:List UInt8):(mkS l).data.toList=l:=rfl
theorem oM (l:List UInt8):(mkS l).size=l.length:=rfl
theorem GU (s:Str):mkS s.data.toList=s:=rfl
theorem mb (s:Str) (i j:Nat):s.extract i j=mkS ((s.data.toList.take j).drop i):=by
 have:(s.extract i j).data=((s.data.toList.take j).drop i).toArray:=by
  rw[ByteArray.data_extract]
  apply Array.toList_inj.1
  simp only[Array.toList_extract,List.extract_eq_take_drop]
  rw[List.drop_take]
 cases h:s.extract i j with
 |mk d=>rw[h] at this;simp only at this;subst this;rfl
def sEq (a b:Str):Bool:=a.toList==b.toList
theorem eV (s:Str):s.toList=s.data.toList:=ByteArray.toList_eq s
theorem gR (a b:Str):sEq a b=true↔a=b:=by
 unfold sEq
 rw[eV,eV,beq_iff_eq]
 constructor
 ·intro h
  cases a;cases b
  simp only at h
  exact congrArg _ (Array.toList_inj.1 h)
 ·rintro rfl;rfl
theorem GK (a b:List UInt8):sEq (mkS a) (mkS b)=(a==b):=by
 unfold sEq;rw[eV,eV,gH,gH]
theorem pS {α:Type} (p:α→Bool):∀l:List α,l.take (l.takeWhile p).length=l.takeWhile p
 |[]=>rfl
 |x::r=>by
  rw[List.takeWhile_cons]
  cases p x with
  |true=>simp[pS p r]
  |false=>simp
theorem lx {α:Type} (p:α→Bool):∀l:List α,l.drop (l.takeWhile p).length=l.dropWhile p
 |[]=>rfl
 |x::r=>by
  rw[List.takeWhile_cons,List.dropWhile_cons]
  cases p x with
  |true=>simp[lx p r]
  |false=>simp
theorem vh {α:Type} (l:List α) (i k:Nat):(l.take (i+k)).drop i=(l.drop i).take k:=by rw[List.drop_take];congr 1;omega
theorem qP {α:Type} (p:α→Bool) (l:List α):(l.takeWhile p).length≤l.length:=(List.takeWhile_prefix p).length_le
theorem drop_cons {α:Type} {l r:List α} {i:Nat} {c:α} (h:l.drop i=c::r):∃hi:i<l.length,l[i]=c∧l.drop (i+1)=r:=by
 have hi:i<l.length:=by
  rcases Nat.lt_or_ge i l.length with h'|h'
  ·exact h'
  ·rw[List.drop_eq_nil_of_le h'] at h;simp at h
 rw[List.drop_eq_getElem_cons hi] at h
 simp only[List.cons.injEq] at h
 exact ⟨hi,h.1,h.2⟩
def cY:List UInt8→List (List UInt8)
 |[]=>[]
 |c::r=>if c=32 then cY r else if dy c then (c::r.takeWhile dy)::cY (r.dropWhile dy) else [c]::cY r
termination_by l=>l.length
decreasing_by
 ·simp
 ·have:=(List.dropWhile_suffix (l:=r) dy).length_le;simp;omega
 ·simp
def sym (c:UInt8):Bool:=c==124||c==38||c==33||c==40||c==41||c==61
def gT (c:UInt8):Bool:=c==32||dy c||sym c
theorem bn (c x:UInt8) (m:Int) (h:m=(x.toNat:Int)):(((c.toNat:Nat):Int)==m)=(c==x):=by
 subst h
 rw[Bool.eq_iff_iff,beq_iff_eq,beq_iff_eq]
 constructor
 ·intro h
  exact UInt8.toNat_inj.1 (by exact_mod_cast h)
 ·rintro rfl;rfl
theorem El (s:Str) (hl:s.size≤1048576) (i:Nat) (o:C):∀(k n:Nat),k=s.data.toList.length-n→n≤s.data.toList.length→
  lim (apn 4 aC.d1) [.s s,.i i,.i n,.l o.L]=some (.brk 2 [.s s,.i i,.i (n+((s.data.toList.drop n).takeWhile dy).length:Nat),.l o.L])
 |0,n,hk,hn=>by
  have e:n=s.size:=by rw[cZ];omega
  have e2:s.data.toList.drop n=[]:=List.drop_eq_nil_of_le (by omega)
  rw[e2]
  refine bB ?_
  simp[aC.d1,e]
 |k+1,n,hk,hn=>by
  have hi:n<s.data.toList.length:=by omega
  have hi':n<s.size:=by rw[cZ];omega
  have e2:=List.drop_eq_getElem_cons hi
  rw[e2,List.takeWhile_cons]
  cases hb:dy s.data.toList[n] with
  |false=>
   refine bB ?_
   simp only[dy] at hb
   simp only[apL,jC,jD,aC.d1,C.I_i,C.S_s,jY,ej hi,jj,hb,aa]
   simp[hi']
  |true=>
   have h:apn 4 aC.d1 [.s s,.i i,.i n,.l o.L]=some (.again [.s s,.i i,.i (n+1:Nat),.l o.L]):=by
    simp only[dy] at hb
    simp only[apL,jC,jD,aC.d1,C.I_i,C.S_s,jY,ej hi,jj,hb,aa,w1 hi' (show s.size<big by simp only[big];omega)]
    simp[hi']
   rw[bc h,El s hl i o k (n+1) (by omega) (by omega)]
   have:n+1+(List.takeWhile dy (s.data.toList.drop (n+1))).length=n+(s.data.toList[n]::List.takeWhile dy (s.data.toList.drop (n+1))).length:=by
    simp only[List.length_cons];omega
   simp only[if_true,this]
def tk (t:List UInt8):List C:=[.s (mkS t)]
theorem F9 (s:Str) (hl:s.size≤1048576):∀(k i:Nat) (out:List (List C)),s.data.toList.length-i≤k→i≤s.data.toList.length→out.length≤i→
  (((s.data.toList.drop i).all gT=true∧lim (apn 3 aC.d5) [.s s,.i i,.l out]=some (.brk 0 [.l (out++(cY (s.data.toList.drop i)).map tk)]))∨
   ((s.data.toList.drop i).all gT=false∧∃o,lim (apn 3 aC.d5) [.s s,.i i,.l out]=some (.ret [.b false,.l o])))
 |k,i,out,hk,hi,ho=>by
  cases hd:s.data.toList.drop i with
  |nil=>
   have:s.data.toList.length≤i:=by simpa using hd
   have e:i=s.size:=by rw[cZ];omega
   left
   refine ⟨rfl,bB ?_⟩
   simp[aC.d5,e,cY]
  |cons c r=>
   obtain ⟨hi',hc,hr⟩:=drop_cons hd
   have his:i<s.size:=by rw[cZ];exact hi'
   obtain ⟨k,rfl⟩:∃k',k=k'+1:=⟨k-1,by omega⟩
   have hw:=w1 his (show s.size<big by simp only[big];omega)
   have e32:=bn c 32 32 rfl
   by_cases h32:c=32
   ·subst h32
    have h:apn 3 aC.d5 [.s s,.i i,.l out]=some (.again [.s s,.i (i+1:Nat),.l out]):=by
     simp only[apL,jC,jD,aC.d5,C.I_i,C.S_s,C.L_l,jY,ej hi',hc,hw]
     simp[his,aC.d4]
    have ih:=F9 s hl k (i+1) out (by omega) (by omega) (by omega)
    rw[bc h]
    rw[hr] at ih
    simpa [gT,cY] using ih
   ·have hrun:=El s hl i (.l out) _ i rfl hi
    rw[hd] at hrun
    simp only[C.L_l] at hrun
    have hne:(((c.toNat:Nat):Int)==32)=false:=by
     rw[e32,beq_eq_false_iff_ne];exact h32
    cases hlt:dy c with
    |true=>
     have hrl:=qP dy r
     have hrlen:r.length=s.data.toList.length-(i+1):=by rw[←hr];simp
     have h:apn 3 aC.d5 [.s s,.i i,.l out]=some (.again [.s s,.i (i+1+(r.takeWhile dy).length:Nat),.l (out++[tk (c::r.takeWhile dy)])]):=by
      have hext:s.extract i (i+1+(r.takeWhile dy).length)=mkS (c::r.takeWhile dy):=by
       rw[mb,Nat.add_assoc,vh,hd,Nat.add_comm 1,List.take_succ_cons,pS]
      have e1:(((i+1+(r.takeWhile dy).length:Nat):Int)==(i:Int))=false:=by
       rw[beq_eq_false_iff_ne];omega
      have e2:(i:Int)≤((i+1+(r.takeWhile dy).length:Nat):Int):=by omega
      have e3:((i+1+(r.takeWhile dy).length:Nat):Int)≤(s.size:Int):=by rw[cZ];omega
      have e4:out.length+1≤4294967296:=by omega
      have e0:i+(List.takeWhile dy (c::r)).length=i+1+(r.takeWhile dy).length:=by
       rw[List.takeWhile_cons,hlt];simp;omega
      rw[e0] at hrun
      simp only[apL,jC,jD,aC.d5,C.I_i,C.S_s,C.L_l,jY,ej hi',hc,hne,hrun,dB]
      simp only[aC.d3,C.I_i,C.S_s,C.L_l,e1,jY,hext]
      simp only[e2,e3,e4,his,decide_true,jR,jS,jX,rows,List.length_cons,List.length_nil,dB,aC.d4,C.L_l,tk]
      simp[his,e4,aC.d4]
     have ih:=F9 s hl k (i+1+(r.takeWhile dy).length) (out++[tk (c::r.takeWhile dy)]) (by omega) (by omega) (by simp;omega)
     rw[bc h]
     have hdr:s.data.toList.drop (i+1+(r.takeWhile dy).length)=r.dropWhile dy:=by
      rw[←List.drop_drop,hr,lx]
     rw[hdr] at ih
     have hall:(c::r).all gT=(r.dropWhile dy).all gT:=by
      have e1:∀r:List UInt8,r.all gT=(r.dropWhile dy).all gT:=by
       intro r
       induction r with
       |nil=>rfl
       |cons x r ih=>
        rw[List.dropWhile_cons]
        cases hx:dy x with
        |true=>simp[gT,hx,←ih]
        |false=>simp
      have:gT c=true:=by simp[gT,hlt]
      rw[List.all_cons,this,Bool.true_and];exact e1 r
     rw[hall]
     have hlex:cY (c::r)=(c::r.takeWhile dy)::cY (r.dropWhile dy):=by
      rw[cY,if_neg h32,if_pos hlt]
     rw[hlex]
     simpa using ih
    |false=>
     have e0:i+(List.takeWhile dy (c::r)).length=i:=by
      rw[List.takeWhile_cons,hlt];simp
     rw[e0] at hrun
     have s1:=bn c 124 124 rfl
     have s2:=bn c 38 38 rfl
     have s3:=bn c 33 33 rfl
     have s4:=bn c 40 40 rfl
     have s5:=bn c 41 41 rfl
     have s6:=bn c 61 61 rfl
     have hsym:aC.d3 (.s s) (.i i) (.i i) (.l out)=aC.d2 (.s s) (.i i) (.i i) (.b (!sym c)) (.l out):=by
      simp only[aC.d3,C.I_i,C.S_s,C.L_l,jY,ej hi',hc,bne,s1,s2,s3,s4,s5,s6,sym]
      cases (c==124)<;>cases (c==38)<;>cases (c==33)<;>cases (c==40)<;>cases (c==41)<;>cases (c==61)<;>simp[his]
     have hd2:aC.d2 (.s s) (.i i) (.i i) (.b (!sym c)) (.l out)=if sym c=true then some (.brk 1 [.s s,.i (i+1:Nat),.l (out++[tk [c]])]) else some (.ret [.b false,.l out]):=by
      have hext:s.extract i (i+1)=mkS [c]:=by
       rw[mb,vh,hd];rfl
      have e2:(i:Int)≤((i+1:Nat):Int):=by omega
      have e3:((i+1:Nat):Int)≤(s.size:Int):=by rw[cZ];omega
      have e4:out.length+1≤4294967296:=by omega
      cases hs:sym c with
      |false=>simp[aC.d2]
      |true=>
       simp only[aC.d2,C.I_i,C.S_s,C.L_l,C.B_b,hw,jY,hext,e2,e3,decide_true,jR,jS,jX,rows,List.length_cons,List.length_nil,jZ,if_true,tk]
       simp[e4]
     have h0:apn 3 aC.d5 [.s s,.i i,.l out]=aq 1 (if sym c=true then some (.brk 1 [.s s,.i (i+1:Nat),.l (out++[tk [c]])]) else some (.ret [.b false,.l out])) (apn 3 aC.d4):=by
      rw[←hd2,←hsym]
      simp only[apL,jC,jD,aC.d5,C.I_i,C.S_s,C.L_l,jY,ej hi',hc,hne,hrun,dB]
      simp[his]
     cases hs:sym c with
     |false=>
      right
      rw[hs] at h0
      refine ⟨by simp[gT,hlt,hs,h32],out,qM (by rw[h0];simp)⟩
     |true=>
      rw[hs] at h0
      have h:apn 3 aC.d5 [.s s,.i i,.l out]=some (.again [.s s,.i (i+1:Nat),.l (out++[tk [c]])]):=by rw[h0];simp[aC.d4]
      rw[bc h]
      have ih:=F9 s hl k (i+1) (out++[tk [c]]) (by omega) (by omega) (by simp;omega)
      rw[hr] at ih
      have hlex:cY (c::r)=[c]::cY r:=by rw[cY,if_neg h32,if_neg (by rw[hlt];simp)]
      have hall:(c::r).all gT=r.all gT:=by simp[gT,hs]
      rw[hlex,hall]
      simpa using ih
theorem yy (s:Str) (hl:s.size≤1048576):
  (s.data.toList.all gT=true∧aC [.s s]=some [.b true,.l ((cY s.data.toList).map tk)])∨(s.data.toList.all gT=false∧∃o,aC [.s s]=some [.b false,.l o]):=by
 have h:=F9 s hl _ 0 [] (Nat.le_refl _) (by omega) (by simp)
 simp only[List.drop_zero,jB,Int.ofNat_zero] at h
 simp only[aC,aC.d7,apL,jC,aB]
 rcases h with ⟨h1,h2⟩|⟨h1,o,h2⟩
 ·exact .inl ⟨h1,by rw[h2];simp[aC.d6]⟩
 ·exact .inr ⟨h1,o,by rw[h2];simp⟩
end Go.Ev
namespace Go.Ev
abbrev Tok:=List UInt8
inductive Tr where
 |lf (k:Nat) (n v:Tok)
 |un (t:Tr)
 |bn (k:Nat) (a b:Tr)
def node (k:Nat) (n v:Tok) (m:Nat):List C:=[.i (k:Nat),.s (mkS n),.s (mkS v),.i (m:Nat)]
def Tr.flat:Tr→List (List C)
 |.lf k n v=>[node k n v 0]
 |.un t=>t.flat++[node 3 [] [] 1]
 |.bn k a b=>a.flat++b.flat++[node k [] [] 2]
def opL (f:List Tok→Option (Tr×List Tok)) (op:Tok) (kd:Nat):Nat→Tr→List Tok→Option (Tr×List Tok)
 |0,t,r=>some (t,r)
 |m+1,t,r=>match r with
  |[]=>some (t,[])
  |x::r'=>if x=op then match f r' with
    |none=>none
    |some (t',r'')=>opL f op kd m (.bn kd t t') r''
   else some (t,x::r')
def prs:Nat→Nat→List Tok→Option (Tr×List Tok)
 |0,_,_=>none
 |k+1,c,l=>match c with
  |0=>match prs k 1 l with
   |none=>none
   |some (t,r)=>opL (prs k 1) [124] 5 r.length t r
  |1=>match prs k 2 l with
   |none=>none
   |some (t,r)=>opL (prs k 2) [38] 4 r.length t r
  |_=>match l with
   |[]=>none
   |x::r=>if x=[33] then match prs k 2 r with
     |none=>none
     |some (t,r')=>some (.un t,r')
    else if x=[40] then match prs k 0 r with
     |some (t,y::r')=>if y=[41] then some (t,r') else none
     |_=>none
    else if bf (mkS x)=true then match r with
     |y::r'=>if y=[61] then match r' with
       |v::r''=>if bf (mkS v)=true then some (.lf 2 x v,r'') else none
       |[]=>none
      else some (.lf 1 x [],r)
     |[]=>some (.lf 1 x [],[])
    else none
theorem eS:bs #[]=mkS []:=rfl
theorem Fi (k n:Int) (x y:List (List C)) (h:x.length+y.length≤1048576):
  bT [.i k,.i n,.l [[.l x],[.l y]]]=some [.l [[.l x],[.l y]],.l (x++y++[[.i k,.s (mkS []),.s (mkS []),.i n]])]:=by
 have b1:x.length≤4294967296:=by omega
 have b2:x.length+y.length≤4294967296:=by omega
 have b3:x.length+y.length+1≤4294967296:=by omega
 have b4:x.length+(y.length+1)≤4294967296:=by omega
 have w0:w64 1=1:=ed (by omega) (by omega)
 have w1:w64 2=2:=ed (by omega) (by omega)
 have h0:apn 5 bT.d1 [.i k,.i n,.i 0,.l [[.l x],[.l y]],.l []]=some (.again [.i k,.i n,.i 1,.l [[.l x],[.l y]],.l x]):=by
  simp[bT.d1,b1,w0]
 have h1:apn 5 bT.d1 [.i k,.i n,.i 1,.l [[.l x],[.l y]],.l x]=some (.again [.i k,.i n,.i 2,.l [[.l x],[.l y]],.l (x++y)]):=by
  have e:(1:Int)<2:=by omega
  simp[bT.d1,b2,w1,e]
 have h2:apn 5 bT.d1 [.i k,.i n,.i 2,.l [[.l x],[.l y]],.l (x++y)]=some (.brk 0 [.i k,.i n,.l [[.l x],[.l y]],.l (x++y)]):=by
  simp[bT.d1]
 simp only[bT,bT.d3,apL,jC,jD,C.L_l,aB]
 rw[bc h0,bc h1,bB h2,dB]
 simp[bT.d2,b3,b4,eS]
theorem FO (k n:Int) (x:List (List C)) (h:x.length≤1048576):
  bT [.i k,.i n,.l [[.l x]]]=some [.l [[.l x]],.l (x++[[.i k,.s (mkS []),.s (mkS []),.i n]])]:=by
 have b1:x.length≤4294967296:=by omega
 have b3:x.length+1≤4294967296:=by omega
 have w0:w64 1=1:=ed (by omega) (by omega)
 have h0:apn 5 bT.d1 [.i k,.i n,.i 0,.l [[.l x]],.l []]=some (.again [.i k,.i n,.i 1,.l [[.l x]],.l x]):=by
  simp[bT.d1,b1,w0]
 have h2:apn 5 bT.d1 [.i k,.i n,.i 1,.l [[.l x]],.l x]=some (.brk 0 [.i k,.i n,.l [[.l x]],.l x]):=by
  simp[bT.d1]
 simp only[bT,bT.d3,apL,jC,jD,C.L_l,aB]
 rw[bc h0,bB h2,dB]
 simp[bT.d2,b3,eS]
section
variable {T:List Tok} (hl:T.length≤1048576)
include hl
theorem kU (op:Tok) (a:Nat) (bad:Bool) (ha:a≤T.length):bN [.s (mkS op),.l (T.map tk),.i a,.b bad]=
  match T.drop a with
  |[]=>some [.b false,.l (T.map tk),.i a,.b bad]
  |x::_=>if x=op then some [.b true,.l (T.map tk),.i (a+1:Nat),.b bad] else some [.b false,.l (T.map tk),.i a,.b bad]:=by
 simp only[bN,bN.d1,gM,gM.d1,apL,jC,jD,C.vU,C.P_p,C.I_i,C.L_l,jW,jY,jR]
 cases hd:T.drop a with
 |nil=>
  have:T.length≤a:=by simpa using hd
  have e:a=T.length:=by omega
  subst e
  simp[aa]
 |cons x r=>
  obtain ⟨hi,hx,_⟩:=drop_cons hd
  have hw:=w1 hi (show T.length<big by simp only[big];omega)
  rw[getD_map' tk hi,hx]
  have hq:((mkS x).toList==(mkS op).toList)=(x==op):=GK x op
  simp only[tk,jC,C.S_s,hq,hw]
  by_cases he:x=op
  ·subst he;simp[hi,aa]
  ·have hb:(x==op)=false:=by rw[beq_eq_false_iff_ne];exact he
   simp[hi,aa,hb,he]
theorem uD (hs:∀t,t∈T→t.length≤1048576) (a:Nat) (bad:Bool) (ha:a≤T.length):ep [.l (T.map tk),.i a,.b bad]=
  match T.drop a with
  |[]=>some [.s (mkS []),.l (T.map tk),.i a,.b true]
  |x::_=>if bf (mkS x)=true then some [.s (mkS x),.l (T.map tk),.i (a+1:Nat),.b bad] else some [.s (mkS []),.l (T.map tk),.i a,.b true]:=by
 simp only[ep,ep.d1,apL,jC,jD,C.I_i,C.L_l,jW,jY]
 cases hd:T.drop a with
 |nil=>
  have:T.length≤a:=by simpa using hd
  have e:a=T.length:=by omega
  subst e
  simp[eS]
 |cons x r=>
  obtain ⟨hi,hx,_⟩:=drop_cons hd
  have hw:=w1 hi (show T.length<big by simp only[big];omega)
  have hw2:w64 (((a+1:Nat):Int)-1)=a:=by rw[ed (by omega) (by omega)];omega
  rw[getD_map' tk hi,hx]
  have hxs:(mkS x).size≤1048576:=by rw[oM];exact hs x (by rw[←hx];exact List.getElem_mem hi)
  have hge:¬T.length≤a:=by omega
  simp only[tk,jC,cD _ hxs,aa,jI,C.B_b,hw,hw2,jY,getD_map' tk hi,hx]
  cases hn:bf (mkS x)<;>simp[hi,hge,eS]
end
def Res (T:List Tok) (a:Nat) (p:Option (Tr×List Tok)) (nodes:List (List C)) (a':Nat) (bad:Bool):Prop:=
 a≤a'∧a'≤T.length∧nodes.length≤2*(a'-a)+1∧match p with
  |some (t,r)=>bad=false∧nodes=t.flat∧T.drop a'=r∧a<a'
  |none=>bad=true
def SP (T:List Tok) (G:List C→Option (List C)) (f:List Tok→Option (Tr×List Tok)) (a:Nat):Prop:=
 ∃nodes a' bad,G [.l (T.map tk),.i a,.b false]=some [.l nodes,.l (T.map tk),.i (a':Nat),.b bad]∧Res T a (f (T.drop a)) nodes a' bad
end Go.Ev
namespace Go.Ev
section
variable {T:List Tok} (hl:T.length≤1048576/4) (hs:∀t,t∈T→t.length≤1048576)
include hl
theorem Eg (G:List C→Option (List C)) (f:List Tok→Option (Tr×List Tok)) (op:Tok) (kd:Nat) (body:C→C→C→C→R) (lo:Nat)
  (hb:∀a b c d,body a b c d=(bif (!d.B) then (call4 (bN [.s (mkS op),b,c,d]) fun e f g h=>(bif e.B then (call4 (G [f,g,h]) fun i j k l=>(call2 (bT [.i (kd:Nat),.i 2,.l (rows [[a],[i]])]) fun m n=>(some (.again [.l n.L,j,k,l])))) else (some (.brk 0 [a,f,g,h])))) else (some (.brk 0 [a,b,c,d]))))
  (hG:∀a,lo≤a→a≤T.length→SP T G f a):
  ∀(m a:Nat) (t:Tr),T.length-a≤m→lo≤a+1→a≤T.length→t.flat.length≤2*a+1→
   ∃nodes a' bad,lim (apn 4 body) [.l t.flat,.l (T.map tk),.i a,.b false]=some (.brk 0 [.l nodes,.l (T.map tk),.i (a':Nat),.b bad])∧
    a≤a'∧a'≤T.length∧nodes.length≤2*(a'-a)+t.flat.length∧match opL f op kd m t (T.drop a) with
     |some (u,r)=>bad=false∧nodes=u.flat∧T.drop a'=r
     |none=>bad=true
 |0,a,t,hm,hlo,ha,ht=>by
  have hd:T.drop a=[]:=List.drop_eq_nil_of_le (by omega)
  refine ⟨t.flat,a,false,bB ?_,Nat.le_refl _,ha,by omega,?_⟩
  ·simp only[apL,jC,jD,hb,C.B_b,ja,jR]
   rw[kU (by omega) op a false ha,hd]
   simp[call4]
  ·simp[opL]
 |m+1,a,t,hm,hlo,ha,ht=>by
  have hstep:apn 4 body [.l t.flat,.l (T.map tk),.i a,.b false]=(call4 (bN [.s (mkS op),.l (T.map tk),.i a,.b false]) fun e f g h=>(bif e.B then (call4 (G [f,g,h]) fun i j k l=>(call2 (bT [.i (kd:Nat),.i 2,.l (rows [[.l t.flat],[i]])]) fun m n=>(some (.again [.l n.L,j,k,l])))) else (some (.brk 0 [.l t.flat,f,g,h])))):=by
   simp only[apL,jC,jD,hb,C.B_b,ja,jR]
  rw[kU (by omega) op a false ha] at hstep
  cases hd:T.drop a with
  |nil=>
   rw[hd] at hstep
   refine ⟨t.flat,a,false,bB ?_,Nat.le_refl _,ha,by omega,?_⟩
   ·rw[hstep];simp[call4]
   ·simp[opL,hd]
  |cons x r=>
   rw[hd] at hstep
   obtain ⟨hi,hx,hr⟩:=drop_cons hd
   by_cases he:x=op
   ·simp only[if_pos he,call4,jI,jC,jD,C.B_b,jR] at hstep
    obtain ⟨nodes,a',bad,hg,h1,h2,h3,h4⟩:=hG (a+1) (by omega) (by omega)
    rw[hr] at h4
    rw[hg] at hstep
    have hsum:t.flat.length+nodes.length≤1048576:=by omega
    simp only[jI,jC,jD,rows,Fi (kd:Nat) 2 t.flat nodes hsum,call2,C.L_l] at hstep
    have hnd:t.flat++nodes++[[C.i (kd:Nat),.s (mkS []),.s (mkS []),.i 2]]=t.flat++nodes++[node kd [] [] 2]:=rfl
    rw[hnd] at hstep
    cases hf:f r with
    |none=>
     rw[hf] at h4
     simp only at h4
     subst h4
     have hend:apn 4 body [.l (t.flat++nodes++[node kd [] [] 2]),.l (T.map tk),.i (a':Nat),.b true]=some (.brk 0 [.l (t.flat++nodes++[node kd [] [] 2]),.l (T.map tk),.i (a':Nat),.b true]):=by
      simp[hb]
     refine ⟨_,a',true,by rw[bc hstep];exact bB hend,by omega,h2,by simp;omega,?_⟩
     simp[opL,hd,he,hf]
    |some p=>
     obtain ⟨u,r'⟩:=p
     rw[hf] at h4
     obtain ⟨rfl,rfl,h5,h6⟩:=h4
     have e:t.flat++u.flat++[node kd [] [] 2]=(Tr.bn kd t u).flat:=rfl
     rw[e] at hstep
     have hlen:(Tr.bn kd t u).flat.length=t.flat.length+u.flat.length+1:=by simp[Tr.flat];omega
     obtain ⟨nodes2,a2,bad2,q1,q2,q3,q4,q5⟩:=Eg G f op kd body lo hb hG m a' (.bn kd t u) (by omega) (by omega) h2 (by omega)
     refine ⟨nodes2,a2,bad2,by rw[bc hstep];exact q1,by omega,q3,by omega,?_⟩
     simp only[opL,hd,if_pos he,hf]
     rw[h5] at q5
     exact q5
   ·simp only[if_neg he,call4,jI,jC,jD,C.B_b,jS] at hstep
    refine ⟨t.flat,a,false,bB hstep,Nat.le_refl _,ha,by omega,?_⟩
    simp[opL,hd,he]
end
end Go.Ev
namespace Go.Ev
section
variable {T:List Tok} (hl:T.length≤1048576/4) (hs:∀t,t∈T→t.length≤1048576)
include hl hs
theorem Gl (G:List C→Option (List C)) (f:List Tok→Option (Tr×List Tok)) (op:Tok) (kd:Nat) (body:C→C→C→C→R) (d2:C→C→C→C→R) (a:Nat) (ha:a≤T.length)
  (hb:∀a b c d,body a b c d=(bif (!d.B) then (call4 (bN [.s (mkS op),b,c,d]) fun e f g h=>(bif e.B then (call4 (G [f,g,h]) fun i j k l=>(call2 (bT [.i (kd:Nat),.i 2,.l (rows [[a],[i]])]) fun m n=>(some (.again [.l n.L,j,k,l])))) else (some (.brk 0 [a,f,g,h])))) else (some (.brk 0 [a,b,c,d]))))
  (h2:∀a b c d,d2 a b c d=some (.ret [a,b,c,d])) (hG:∀b,a≤b→b≤T.length→SP T G f b):
  ∃nodes a' bad,ba (call4 (G [.l (T.map tk),.i a,.b false]) fun d e f g=>(aq 0 (lim (apn 4 body) [d,e,f,g]) (apn 4 d2)))=some [.l nodes,.l (T.map tk),.i (a':Nat),.b bad]∧
   Res T a (match f (T.drop a) with
   |none=>none
   |some (t,r)=>opL f op kd r.length t r) nodes a' bad:=by
 obtain ⟨nodes,a',bad,hg,q1,q2,q3,q4⟩:=hG a (Nat.le_refl _) ha
 rw[hg]
 simp only[call4,jI,jC,jD]
 cases hf:f (T.drop a) with
 |none=>
  rw[hf] at q4
  simp only at q4
  subst q4
  refine ⟨nodes,a',true,?_,q1,q2,q3,rfl⟩
  rw[bB (ys:=[.l nodes,.l (T.map tk),.i (a':Nat),.b true]) (i:=0) (by simp[hb])]
  simp[h2]
 |some p=>
  obtain ⟨t,r⟩:=p
  rw[hf] at q4
  obtain ⟨rfl,rfl,q5,q6⟩:=q4
  have hrl:r.length=T.length-a':=by rw[←q5];simp
  obtain ⟨n2,a2,b2,p1,p2,p3,p4,p5⟩:=Eg hl G f op kd body a hb (fun b h1 h2=>hG b h1 h2) r.length a' t (by omega) (by omega) q2 (by omega)
  rw[p1]
  rw[q5] at p5
  have hres:Res T a (opL f op kd r.length t r) n2 a2 b2:=by
   refine ⟨by omega,p3,by omega,?_⟩
   cases ho:opL f op kd r.length t r with
   |none=>rw[ho] at p5;exact p5
   |some z=>
    obtain ⟨u,z⟩:=z
    rw[ho] at p5
    exact ⟨p5.1,p5.2.1,p5.2.2,by omega⟩
  exact ⟨n2,a2,b2,by simp[h2],hres⟩
theorem Gk:∀(j c k a:Nat),c≤2→a≤T.length→3*(T.length-a)+(3-c)≤j→j≤k→SP T (af.g k c) (prs j c) a
 |0,c,k,a,hc,ha,hj,hk=>by omega
 |j+1,c,k,a,hc,ha,hj,hk=>by
  obtain ⟨k,rfl⟩:∃k',k=k'+1:=⟨k-1,by omega⟩
  have ih:=Gk j
  rcases (show c=0∨c=1∨c=2 by omega) with rfl|rfl|rfl
  ·obtain ⟨nodes,a',bad,h1,h2⟩:=Gl hl hs (af.g k 1) (prs j 1) [124] 5 (af.d1 (af.g k 0) (af.g k 1) (af.g k 2)) (af.d2 (af.g k 0) (af.g k 1) (af.g k 2)) a ha
    (fun _ _ _ _=>rfl) (fun _ _ _ _=>rfl) (fun b h1 h2=>ih 1 k b (by omega) h2 (by omega) (by omega))
   exact ⟨nodes,a',bad,h1,h2⟩
  ·obtain ⟨nodes,a',bad,h1,h2⟩:=Gl hl hs (af.g k 2) (prs j 2) [38] 4 (cM.d1 (af.g k 0) (af.g k 1) (af.g k 2)) (cM.d2 (af.g k 0) (af.g k 1) (af.g k 2)) a ha
    (fun _ _ _ _=>rfl) (fun _ _ _ _=>rfl) (fun b h1 h2=>ih 2 k b (by omega) h2 (by omega) (by omega))
   exact ⟨nodes,a',bad,h1,h2⟩
  ·have hT:T.length≤1048576:=by omega
   have hstep:af.g (k+1) 2 [.l (T.map tk),.i a,.b false]=ba (eJ.d1 (af.g k 0) (af.g k 1) (af.g k 2) (.l (T.map tk)) (.i a) (.b false)):=rfl
   unfold SP
   rw[hstep]
   have e33:bs #[33]=mkS [33]:=rfl
   have e40:bs #[40]=mkS [40]:=rfl
   have e41:bs #[41]=mkS [41]:=rfl
   have e61:bs #[61]=mkS [61]:=rfl
   simp only[eJ.d1,C.B_b,jS,e33,e40,e41,e61,kU hT [33] a false ha]
   cases hd:T.drop a with
   |nil=>
    simp only[call4,jI,jC,jD,C.B_b,jS,kU hT [40] a false ha,uD hT hs a false ha,hd]
    simp only[jZ,jS,rows,eS,jV]
    exact ⟨_,a,true,rfl,Nat.le_refl _,ha,by simp,by simp[prs]⟩
   |cons x r=>
    obtain ⟨hi,hx,hr⟩:=drop_cons hd
    have hsx:=hs x (by rw[←hx];exact List.getElem_mem hi)
    by_cases x33:x=[33]
    ·obtain ⟨nodes,a',bad,hg,q1,q2,q3,q4⟩:=ih 2 k (a+1) (by omega) (by omega) (by omega) (by omega)
     rw[hr] at q4
     simp only[if_pos x33,call4,jI,jC,jD,C.B_b,jR,hg,rows,call2]
     rw[show (3:Int)=((3:Nat):Int) from rfl,FO _ _ nodes (by omega)]
     simp only[jI,jC,jD,C.L_l,jV]
     have hnd:nodes++[[C.i ((3:Nat):Int),.s (mkS []),.s (mkS []),.i 1]]=nodes++[node 3 [] [] 1]:=rfl
     rw[hnd]
     refine ⟨_,a',bad,rfl,by omega,q2,by simp;omega,?_⟩
     simp only[prs,x33,if_true]
     cases hf:prs j 2 r with
     |none=>rw[hf] at q4;exact q4
     |some p=>
      rw[hf] at q4
      obtain ⟨rfl,rfl,q5,q6⟩:=q4
      exact ⟨rfl,rfl,q5,by omega⟩
    simp only[if_neg x33,call4,jI,jC,jD,C.B_b,jS,kU hT [40] a false ha,hd]
    by_cases x40:x=[40]
    ·obtain ⟨nodes,a',bad,hg,q1,q2,q3,q4⟩:=ih 0 k (a+1) (by omega) (by omega) (by omega) (by omega)
     rw[hr] at q4
     simp only[if_pos x40,jI,jC,jD,C.B_b,jR,hg,kU hT [41] a' bad q2]
     have hp:prs (j+1) 2 (x::r)=match prs j 0 r with
       |some (t,y::r')=>if y=[41] then some (t,r') else none
       |_=>none:=by
      simp only[prs,if_neg x33,if_pos x40]<;>rcases prs j 0 r with _|⟨t,_|⟨y,r'⟩⟩<;>rfl
     rw[hp]
     cases hd2:T.drop a' with
     |nil=>
      simp only[jI,jC,jD,C.B_b,ja,jR,jV]
      refine ⟨_,a',true,rfl,by omega,q2,by omega,?_⟩
      cases hf:prs j 0 r with
      |none=>rfl
      |some p=>
       rw[hf] at q4
       obtain ⟨_,_,q5,_⟩:=q4
       obtain ⟨t,r'⟩:=p
       simp only at q5
       rw[hd2] at q5
       subst q5
       rfl
     |cons y r'=>
      obtain ⟨hi2,hx2,hr2⟩:=drop_cons hd2
      by_cases y41:y=[41]
      ·simp only[if_pos y41,jI,jC,jD,C.B_b,jZ,jS,jV]
       refine ⟨_,a'+1,bad,rfl,by omega,by omega,by omega,?_⟩
       cases hf:prs j 0 r with
       |none=>rw[hf] at q4;exact q4
       |some p=>
        rw[hf] at q4
        obtain ⟨q5,q6,q7,_⟩:=q4
        obtain ⟨t,z⟩:=p
        simp only at q7 q6
        rw[hd2] at q7
        subst q7
        simp only[if_pos y41]
        exact ⟨q5,q6,hr2,by omega⟩
      ·simp only[if_neg y41,jI,jC,jD,C.B_b,ja,jR,jV]
       refine ⟨_,a',true,rfl,by omega,q2,by omega,?_⟩
       cases hf:prs j 0 r with
       |none=>rfl
       |some p=>
        rw[hf] at q4
        obtain ⟨_,_,q7,_⟩:=q4
        obtain ⟨t,z⟩:=p
        simp only at q7
        rw[hd2] at q7
        subst q7
        simp only[if_neg y41]
    simp only[if_neg x40,jI,jC,jD,C.B_b,jS,uD hT hs a false ha,hd]
    cases hn:bf (mkS x) with
    |false=>
     simp only[Bool.false_eq_true,if_false,jI,jC,jD,C.B_b,jZ,jS,rows,jV]
     refine ⟨_,a,true,rfl,Nat.le_refl _,ha,by simp,?_⟩
     simp[prs,x33,x40,hn]
    |true=>
     simp only[if_true,jI,jC,jD,C.B_b,ja,jR,kU hT [61] (a+1) false (by omega),hr]
     cases r with
     |nil=>
      simp only[jI,jC,jD,C.B_b,jS,rows,eS,jV]
      refine ⟨_,a+1,false,rfl,by omega,by omega,by simp,?_⟩
      simp only[prs,if_neg x33,if_neg x40,hn,if_true]
      exact ⟨by simp,rfl,hr,by omega⟩
     |cons y r'=>
      obtain ⟨hi2,hx2,hr2⟩:=drop_cons hr
      by_cases y61:y=[61]
      ·simp only[if_pos y61,jI,jC,jD,C.B_b,jR,uD hT hs (a+1+1) false (by omega),hr2]
       cases r' with
       |nil=>
        simp only[jI,jC,jD,rows,jV]
        refine ⟨_,a+1+1,true,rfl,by omega,by omega,by simp,?_⟩
        simp[prs,x33,x40,hn,y61]
       |cons v r''=>
        obtain ⟨hi3,hx3,hr3⟩:=drop_cons hr2
        cases hv:bf (mkS v) with
        |false=>
         simp only[hv,Bool.false_eq_true,if_false,jI,jC,jD,rows,jV]
         refine ⟨_,a+1+1,true,rfl,by omega,by omega,by simp,?_⟩
         simp[prs,x33,x40,hn,y61,hv]
        |true=>
         simp only[hv,if_true,jI,jC,jD,rows,jV]
         refine ⟨_,a+1+1+1,false,rfl,by omega,by omega,by simp,?_⟩
         simp only[prs,if_neg x33,if_neg x40,hn,if_true,y61,hv]
         exact ⟨by simp,rfl,hr3,by omega⟩
      ·simp only[if_neg y61,jI,jC,jD,C.B_b,jS,rows,eS,jV]
       refine ⟨_,a+1,false,rfl,by omega,by omega,by simp,?_⟩
       simp only[prs,if_neg x33,if_neg x40,hn,if_true,if_neg y61]
       exact ⟨by simp,rfl,hr,by omega⟩
end
end Go.Ev
namespace Go.Ev
def sp (c:UInt8):Bool:=c==32
theorem tt:∀l:List UInt8,cY (l.dropWhile sp)=cY l
 |[]=>rfl
 |c::r=>by
  rw[List.dropWhile_cons]
  by_cases h:c=32
  ·subst h
   have:sp 32=true:=rfl
   rw[if_pos this,tt r]
   rw[cY.eq_2,if_pos rfl]
  ·have:sp c=false:=by simp[sp,h]
   rw[this];simp
theorem w9 {l r:List UInt8} {c:UInt8} (h:l.dropWhile sp=c::r):c≠32:=by
 have:=List.head?_dropWhile_not sp l
 rw[h] at this
 simp[sp] at this
 exact this
section
variable {s:Str} (hl:s.size≤1048576)
include hl
theorem Bx:∀(k i:Nat) (ok:Bool),s.data.toList.length-i≤k→i≤s.data.toList.length→
  lim (apn 3 bI.d1) [.s s,.i i,.b ok]=some (.brk 0 [.s s,.i (i+((s.data.toList.drop i).takeWhile sp).length:Nat),.b ok])
 |k,i,ok,hk,hi=>by
  cases hd:s.data.toList.drop i with
  |nil=>
   have:s.data.toList.length≤i:=by simpa using hd
   have e:i=s.size:=by rw[cZ];omega
   refine bB ?_
   simp[bI.d1,e]
  |cons c r=>
   obtain ⟨hi',hc,hr⟩:=drop_cons hd
   have his:i<s.size:=by rw[cZ];exact hi'
   obtain ⟨k,rfl⟩:∃k',k=k'+1:=⟨k-1,by omega⟩
   have hw:=w1 his (show s.size<big by simp only[big];omega)
   have e32:=bn c 32 32 rfl
   rw[List.takeWhile_cons]
   cases hs:sp c with
   |true=>
    have h:apn 3 bI.d1 [.s s,.i i,.b ok]=some (.again [.s s,.i (i+1:Nat),.b ok]):=by
     simp only[sp] at hs
     simp only[apL,jC,jD,bI.d1,C.I_i,C.S_s,jY,ej hi',hc,e32,hs,hw]
     simp[his]
    rw[bc h,Bx k (i+1) ok (by omega) (by omega),hr]
    simp only[if_true,List.length_cons]
    rw[show i+1+(List.takeWhile sp r).length=i+((List.takeWhile sp r).length+1) by omega]
   |false=>
    refine bB ?_
    simp only[sp] at hs
    simp only[apL,jC,jD,bI.d1,C.I_i,C.S_s,jY,ej hi',hc,e32,hs]
    simp[his]
def gp (s:Str) (i:Nat):Nat:=i+((s.data.toList.drop i).takeWhile sp).length
omit hl in
theorem zU (i:Nat):s.data.toList.drop (gp s i)=(s.data.toList.drop i).dropWhile sp:=by
 rw[gp,←List.drop_drop,lx]
omit hl in
theorem Gx {i:Nat} (hi:i≤s.data.toList.length):gp s i≤s.data.toList.length:=by
 have:=qP sp (s.data.toList.drop i)
 rw[List.length_drop] at this
 unfold gp;omega
theorem EL (i:Nat) (ok:Bool) (hi:i≤s.data.toList.length):bI [.s s,.i i,.b ok]=some [.s s,.i (gp s i:Nat),.b ok]:=by
 simp only[bI,bI.d3,apL,jC,jD,Bx hl _ i ok (Nat.le_refl _) hi]
 simp[bI.d2,gp]
theorem vl (c:UInt8) (hc:dy c=false) (hc2:c≠32) (i:Nat) (ok:Bool) (hi:i≤s.data.toList.length):∃i',i'≤s.data.toList.length∧∃b,bm [.i (c.toNat:Nat),.s s,.i i,.b ok]=some [.b b,.s s,.i (i':Nat),.b ok]∧
  match cY (s.data.toList.drop i) with
  |[]=>b=false∧cY (s.data.toList.drop i')=[]
  |x::r=>if x=[c] then b=true∧cY (s.data.toList.drop i')=r else b=false∧cY (s.data.toList.drop i')=x::r:=by
 have hg:=zU (s:=s) i
 have hle:=Gx hi
 have hlex:=tt (s.data.toList.drop i)
 simp only[bm,bm.d1,apL,jC,jD,EL hl i ok hi,call3,jI,C.I_i,C.S_s,jY]
 rw[←hlex]
 cases hd:(s.data.toList.drop i).dropWhile sp with
 |nil=>
  rw[hd] at hg
  have:s.data.toList.length≤gp s i:=by simpa using hg
  have e:gp s i=s.size:=by rw[cZ];omega
  refine ⟨gp s i,hle,false,by simp[e],?_⟩
  rw[hg]
  simp[cY]
 |cons x r=>
  rw[hd] at hg
  obtain ⟨hi',hx,hr⟩:=drop_cons hg
  have his:gp s i<s.size:=by rw[cZ];exact hi'
  have hw:=w1 his (show s.size<big by simp only[big];omega)
  have hne:=w9 hd
  simp only[ej hi',hx,bn x c _ rfl,hw]
  by_cases he:x=c
  ·subst he
   refine ⟨gp s i+1,by omega,true,by simp[his],?_⟩
   rw[cY.eq_2,if_neg hne,if_neg (by rw[hc];simp),hr]
   simp
  ·have hb:(x==c)=false:=by rw[beq_eq_false_iff_ne];exact he
   refine ⟨gp s i,hle,false,by simp[his,hb],?_⟩
   rw[hg]
   have hneq:∀y r',cY (x::r)=y::r'→y≠[c]:=by
    intro y r' h1 h2
    subst h2
    rw[cY.eq_2,if_neg hne] at h1
    split at h1
    ·simp at h1;exact he h1.1.1
    ·simp at h1;exact he h1.1
   have hnn:cY (x::r)≠[]:=by
    rw[cY.eq_2,if_neg hne];split<;>simp
   cases hq:cY (x::r) with
   |nil=>exact absurd hq hnn
   |cons y r'=>
    simp only
    rw[if_neg (hneq y r' hq)]
    exact ⟨trivial,trivial⟩
theorem Gj (o:Nat) (ok:Bool):∀(k i:Nat),s.data.toList.length-i≤k→i≤s.data.toList.length→
  lim (apn 4 bq.d1) [.i o,.s s,.i i,.b ok]=some (.brk 0 [.i o,.s s,.i (i+((s.data.toList.drop i).takeWhile dy).length:Nat),.b ok])
 |k,i,hk,hi=>by
  cases hd:s.data.toList.drop i with
  |nil=>
   have:s.data.toList.length≤i:=by simpa using hd
   have e:i=s.size:=by rw[cZ];omega
   refine bB ?_
   simp[bq.d1,e]
  |cons c r=>
   obtain ⟨hi',hc,hr⟩:=drop_cons hd
   have his:i<s.size:=by rw[cZ];exact hi'
   obtain ⟨k,rfl⟩:∃k',k=k'+1:=⟨k-1,by omega⟩
   have hw:=w1 his (show s.size<big by simp only[big];omega)
   rw[List.takeWhile_cons]
   cases hs:dy c with
   |true=>
    have h:apn 4 bq.d1 [.i o,.s s,.i i,.b ok]=some (.again [.i o,.s s,.i (i+1:Nat),.b ok]):=by
     simp only[dy] at hs
     simp only[apL,jC,jD,bq.d1,C.I_i,C.S_s,jY,ej hi',hc,oQ,hs,hw,aa]
     simp[his]
    rw[bc h,Gj o ok k (i+1) (by omega) (by omega),hr]
    simp only[if_true,List.length_cons]
    rw[show i+1+(List.takeWhile dy r).length=i+((List.takeWhile dy r).length+1) by omega]
   |false=>
    refine bB ?_
    simp only[dy] at hs
    simp only[apL,jC,jD,bq.d1,C.I_i,C.S_s,jY,ej hi',hc,oQ,hs,aa]
    simp[his]
theorem BZ (i:Nat) (ok:Bool) (hi:i≤s.data.toList.length):∃i',i'≤s.data.toList.length∧∃z b,bq [.s s,.i i,.b ok]=some [.s z,.s s,.i (i':Nat),.b b]∧
  match cY (s.data.toList.drop i) with
  |[]=>b=false
  |x::r=>if bf (mkS x)=true then b=ok∧z=mkS x∧cY (s.data.toList.drop i')=r else b=false:=by
 have hg:=zU (s:=s) i
 have hle:=Gx hi
 have hlex:=tt (s.data.toList.drop i)
 have hrun:=Gj hl (gp s i) ok _ (gp s i) (Nat.le_refl _) hle
 rw[hg] at hrun
 have hlen:=qP dy ((s.data.toList.drop i).dropWhile sp)
 rw[←hg,List.length_drop] at hlen
 rw[hg] at hlen
 have hext:s.extract (gp s i) (gp s i+(((s.data.toList.drop i).dropWhile sp).takeWhile dy).length)=mkS (((s.data.toList.drop i).dropWhile sp).takeWhile dy):=by
  rw[mb,vh,hg,pS]
 have hsz:(mkS (((s.data.toList.drop i).dropWhile sp).takeWhile dy)).size≤1048576:=by
  rw[oM];rw[cZ] at hl;omega
 have hres:bq [.s s,.i i,.b ok]=some [.s (mkS (((s.data.toList.drop i).dropWhile sp).takeWhile dy)),.s s,.i (gp s i+(((s.data.toList.drop i).dropWhile sp).takeWhile dy).length:Nat),.b (bf (mkS (((s.data.toList.drop i).dropWhile sp).takeWhile dy))&&ok)]:=by
  have e1:gp s i+(((s.data.toList.drop i).dropWhile sp).takeWhile dy).length≤s.size:=by rw[cZ];omega
  have e2:(gp s i:Int)≤((gp s i+(((s.data.toList.drop i).dropWhile sp).takeWhile dy).length:Nat):Int):=by omega
  have e3:((gp s i+(((s.data.toList.drop i).dropWhile sp).takeWhile dy).length:Nat):Int)≤(s.size:Int):=by omega
  simp only[bq,bq.d3,apL,jC,jD,EL hl i ok hi,call3,jI,hrun,dB]
  simp only[bq.d2,C.I_i,C.S_s,jY,hext,jX,e2,e3,decide_true,jR,fL _ hsz,aa,jI,jC,C.B_b]
  cases bf (mkS (((s.data.toList.drop i).dropWhile sp).takeWhile dy))<;>rfl
 refine ⟨_,by omega,_,_,hres,?_⟩
 rw[←hlex,←List.drop_drop,hg,lx]
 have hnil:bf (mkS [])=false:=rfl
 cases hd:(s.data.toList.drop i).dropWhile sp with
 |nil=>simp[cY,hnil]
 |cons x r=>
  have hne:=w9 hd
  rw[cY.eq_2,if_neg hne]
  cases hs:dy x with
  |true=>
   rw[if_pos rfl,List.takeWhile_cons,hs,List.dropWhile_cons,hs]
   simp only[if_true]
   cases bf (mkS (x::List.takeWhile dy r))<;>simp
  |false=>
   rw[if_neg (by simp),List.takeWhile_cons,hs]
   have h1:bf (mkS [x])=false:=by simp[bf,gH,hs]
   simp[h1,hnil]
end
end Go.Ev
namespace Go.Ev
def Tr.enc:Tr→C
 |.lf k n v=>.p [.i (k:Nat),.s (mkS n),.s (mkS v),.l []]
 |.un t=>.p [.i 3,.s (mkS []),.s (mkS []),.l [[t.enc]]]
 |.bn k a b=>.p [.i (k:Nat),.s (mkS []),.s (mkS []),.l [[a.enc],[b.enc]]]
def GH (s:Str) (n:Nat) (p:Option (Tr×List Tok)) (c:C) (i':Nat) (ok:Bool):Prop:=
 i'≤s.data.toList.length∧match p with
  |some (t,r)=>ok=true∧c=t.enc∧cY (s.data.toList.drop i')=r∧r.length<n
  |none=>ok=false
def IP (s:Str) (G:List C→Option (List C)) (f:List Tok→Option (Tr×List Tok)) (i:Nat):Prop:=
 ∃c i' ok,G [.s s,.i i,.b true]=some [c,.s s,.i (i':Nat),.b ok]∧GH s (cY (s.data.toList.drop i)).length (f (cY (s.data.toList.drop i))) c i' ok
section
variable {s:Str} (hl:s.size≤1048576)
include hl
theorem DW (G:List C→Option (List C)) (f:List Tok→Option (Tr×List Tok)) (op:UInt8) (kd:Nat) (body:C→C→C→C→R) (lo:Nat) (h1:dy op=false) (h2:op≠32)
  (hb:∀a b c d,body a b c d=(bif d.B then (call4 (bm [.i (op.toNat:Nat),b,c,d]) fun e f g h=>(bif e.B then (call4 (G [f,g,h]) fun i j k l=>(some (.again [.p [.i (kd:Nat),.s (bs #[]),.s (bs #[]),.l (rows [[a],[i]])],j,k,l]))) else (some (.brk 0 [a,f,g,h])))) else (some (.brk 0 [a,b,c,d]))))
  (hG:∀i,i≤s.data.toList.length→(cY (s.data.toList.drop i)).length≤lo→IP s G f i):
  ∀(m i:Nat) (t:Tr),(cY (s.data.toList.drop i)).length≤m→(cY (s.data.toList.drop i)).length≤lo+1→i≤s.data.toList.length→
   ∃c i' ok,lim (apn 4 body) [t.enc,.s s,.i i,.b true]=some (.brk 0 [c,.s s,.i (i':Nat),.b ok])∧i'≤s.data.toList.length∧
    match opL f [op] kd m t (cY (s.data.toList.drop i)) with
     |some (u,r)=>ok=true∧c=u.enc∧cY (s.data.toList.drop i')=r∧r.length≤(cY (s.data.toList.drop i)).length
     |none=>ok=false
 |m,i,t,hm,hlo,hi=>by
  obtain ⟨i',hi',b,ht,hm2⟩:=vl hl op h1 h2 i true hi
  have hstep:apn 4 body [t.enc,.s s,.i i,.b true]=(bif b then (call4 (G [.s s,.i (i':Nat),.b true]) fun i j k l=>(some (.again [.p [.i (kd:Nat),.s (mkS []),.s (mkS []),.l [[t.enc],[i]]],j,k,l]))) else (some (.brk 0 [t.enc,.s s,.i (i':Nat),.b true]))):=by
   simp only[apL,jC,jD,hb,C.B_b,jR,ht,call4,jI,eS,rows]
  cases hd:cY (s.data.toList.drop i) with
  |nil=>
   rw[hd] at hm2
   simp only at hm2
   obtain ⟨rfl,hm3⟩:=hm2
   refine ⟨t.enc,i',true,bB hstep,hi',?_⟩
   cases m<;>simp[opL,hm3]
  |cons x r=>
   rw[hd] at hm2 hm hlo
   simp only[List.length_cons] at hm hlo
   obtain ⟨m,rfl⟩:∃m',m=m'+1:=⟨m-1,by omega⟩
   by_cases he:x=[op]
   ·simp only[if_pos he] at hm2
    obtain ⟨rfl,hm3⟩:=hm2
    obtain ⟨c,i2,ok,hg,q1,q2⟩:=hG i' hi' (by rw[hm3];omega)
    rw[hm3] at q2
    simp only[jR,hg,call4,jI,jC,jD] at hstep
    rw[bc hstep]
    simp only[opL,if_pos he]
    cases hf:f r with
    |none=>
     rw[hf] at q2
     simp only at q2
     subst q2
     exact ⟨.p [.i (kd:Nat),.s (mkS []),.s (mkS []),.l [[t.enc],[c]]],i2,false,bB (by simp only[apL,jC,jD,hb,C.B_b,jS]),q1,rfl⟩
    |some p=>
     obtain ⟨u,r'⟩:=p
     rw[hf] at q2
     obtain ⟨rfl,rfl,q3,q4⟩:=q2
     obtain ⟨c3,i3,ok3,p1,p2,p3⟩:=DW G f op kd body lo h1 h2 hb hG m i2 (.bn kd t u) (by rw[q3];omega) (by rw[q3];omega) q1
     refine ⟨c3,i3,ok3,p1,p2,?_⟩
     rw[q3] at p3
     simp only
     cases ho:opL f [op] kd m (.bn kd t u) r' with
     |none=>rw[ho] at p3;exact p3
     |some z=>
      rw[ho] at p3
      exact ⟨p3.1,p3.2.1,p3.2.2.1,by simp only[List.length_cons];have:=p3.2.2.2;omega⟩
   ·simp only[if_neg he] at hm2
    obtain ⟨rfl,hm3⟩:=hm2
    refine ⟨t.enc,i',true,bB hstep,hi',?_⟩
    simp[opL,he,hm3]
theorem Gi (G:List C→Option (List C)) (f:List Tok→Option (Tr×List Tok)) (op:UInt8) (kd:Nat) (body:C→C→C→C→R) (d2:C→C→C→C→R) (i:Nat) (hi:i≤s.data.toList.length) (h1:dy op=false) (h2:op≠32)
  (hb:∀a b c d,body a b c d=(bif d.B then (call4 (bm [.i (op.toNat:Nat),b,c,d]) fun e f g h=>(bif e.B then (call4 (G [f,g,h]) fun i j k l=>(some (.again [.p [.i (kd:Nat),.s (bs #[]),.s (bs #[]),.l (rows [[a],[i]])],j,k,l]))) else (some (.brk 0 [a,f,g,h])))) else (some (.brk 0 [a,b,c,d]))))
  (h3:∀a b c d,d2 a b c d=some (.ret [a,b,c,d])) (hG:∀i2,i2≤s.data.toList.length→(cY (s.data.toList.drop i2)).length≤(cY (s.data.toList.drop i)).length→IP s G f i2):
  ∃c i' ok,ba (call4 (G [.s s,.i i,.b true]) fun d e f g=>(aq 0 (lim (apn 4 body) [d,e,f,g]) (apn 4 d2)))=some [c,.s s,.i (i':Nat),.b ok]∧
   GH s (cY (s.data.toList.drop i)).length (match f (cY (s.data.toList.drop i)) with
   |none=>none
   |some (t,r)=>opL f [op] kd r.length t r) c i' ok:=by
 obtain ⟨c,i',ok,hg,q1,q2⟩:=hG i hi (Nat.le_refl _)
 rw[hg]
 simp only[call4,jI,jC,jD]
 cases hf:f (cY (s.data.toList.drop i)) with
 |none=>
  rw[hf] at q2
  simp only at q2
  subst q2
  refine ⟨c,i',false,?_,q1,rfl⟩
  rw[bB (ys:=[c,.s s,.i (i':Nat),.b false]) (i:=0) (by simp[hb])]
  simp[h3]
 |some p=>
  obtain ⟨t,r⟩:=p
  rw[hf] at q2
  obtain ⟨rfl,rfl,q3,q4⟩:=q2
  obtain ⟨c2,i2,ok2,p1,p2,p3⟩:=DW hl G f op kd body (cY (s.data.toList.drop i)).length h1 h2 hb hG r.length i' t (by rw[q3];omega) (by rw[q3];omega) q1
  rw[p1]
  rw[q3] at p3
  have hres:GH s (cY (s.data.toList.drop i)).length (opL f [op] kd r.length t r) c2 i2 ok2:=by
   refine ⟨p2,?_⟩
   cases ho:opL f [op] kd r.length t r with
   |none=>rw[ho] at p3;exact p3
   |some z=>
    rw[ho] at p3
    exact ⟨p3.1,p3.2.1,p3.2.2.1,by have:=p3.2.2.2;omega⟩
  exact ⟨c2,i2,ok2,by simp[h3],hres⟩
theorem Ge:∀(j c k i:Nat),c≤2→i≤s.data.toList.length→3*(cY (s.data.toList.drop i)).length+(3-c)≤j→j≤k→IP s (ak.g k c) (prs j c) i
 |0,c,k,i,hc,hi,hj,hk=>by omega
 |j+1,c,k,i,hc,hi,hj,hk=>by
  obtain ⟨k,rfl⟩:∃k',k=k'+1:=⟨k-1,by omega⟩
  have ih:=Ge j
  rcases (show c=0∨c=1∨c=2 by omega) with rfl|rfl|rfl
  ·obtain ⟨c,i',ok,h1,h2⟩:=Gi hl (ak.g k 1) (prs j 1) 124 5 (ak.d1 (ak.g k 0) (ak.g k 1) (ak.g k 2)) (ak.d2 (ak.g k 0) (ak.g k 1) (ak.g k 2)) i hi rfl (by decide)
    (fun _ _ _ _=>rfl) (fun _ _ _ _=>rfl) (fun b h1 h2=>ih 1 k b (by omega) h1 (by omega) (by omega))
   exact ⟨c,i',ok,h1,h2⟩
  ·obtain ⟨c,i',ok,h1,h2⟩:=Gi hl (ak.g k 2) (prs j 2) 38 4 (dx.d1 (ak.g k 0) (ak.g k 1) (ak.g k 2)) (dx.d2 (ak.g k 0) (ak.g k 1) (ak.g k 2)) i hi rfl (by decide)
    (fun _ _ _ _=>rfl) (fun _ _ _ _=>rfl) (fun b h1 h2=>ih 2 k b (by omega) h1 (by omega) (by omega))
   exact ⟨c,i',ok,h1,h2⟩
  ·have hstep:ak.g (k+1) 2 [.s s,.i i,.b true]=ba (eZ.d1 (ak.g k 0) (ak.g k 1) (ak.g k 2) (.s s) (.i i) (.b true)):=rfl
   unfold IP
   rw[hstep]
   obtain ⟨i1,hi1,b1,ht1,hm1⟩:=vl hl 33 rfl (by decide) i true hi
   have ht1:bm [.i 33,.s s,.i i,.b true]=_:=ht1
   simp only[eZ.d1,C.B_b,jZ,jS,ht1,call4,jI,jC,jD]
   cases hd:cY (s.data.toList.drop i) with
   |nil=>
    rw[hd] at hm1
    simp only at hm1
    obtain ⟨rfl,hm1⟩:=hm1
    obtain ⟨i2,hi2,b2,ht2,hm2⟩:=vl hl 40 rfl (by decide) i1 true hi1
    have ht2:bm [.i 40,.s s,.i i1,.b true]=_:=ht2
    rw[hm1] at hm2
    simp only at hm2
    obtain ⟨rfl,hm2⟩:=hm2
    obtain ⟨i3,hi3,z,b3,hn3,hm3⟩:=BZ hl i2 true hi2
    rw[hm2] at hm3
    simp only at hm3
    subst hm3
    simp only[jS,ht2,hn3,jI,jC,jD,C.B_b,jV]
    exact ⟨_,_,_,rfl,hi3,by simp[prs]⟩
   |cons x r=>
    rw[hd] at hm1 hj
    simp only[List.length_cons] at hj
    by_cases x33:x=[33]
    ·simp only[if_pos x33] at hm1
     obtain ⟨rfl,hm1⟩:=hm1
     obtain ⟨c,i2,ok,hg,q1,q2⟩:=ih 2 k i1 (by omega) hi1 (by rw[hm1];omega) (by omega)
     rw[hm1] at q2
     simp only[jR,hg,jI,jC,jD,rows,eS,jV]
     refine ⟨_,_,_,rfl,q1,?_⟩
     simp only[prs,x33,if_true]
     cases hf:prs j 2 r with
     |none=>rw[hf] at q2;exact q2
     |some p=>
      rw[hf] at q2
      obtain ⟨rfl,rfl,q3,q4⟩:=q2
      exact ⟨rfl,rfl,q3,by simp only[List.length_cons];omega⟩
    simp only[if_neg x33] at hm1
    obtain ⟨rfl,hm1⟩:=hm1
    obtain ⟨i2,hi2,b2,ht2,hm2⟩:=vl hl 40 rfl (by decide) i1 true hi1
    have ht2:bm [.i 40,.s s,.i i1,.b true]=_:=ht2
    rw[hm1] at hm2
    simp only at hm2
    simp only[jS,ht2,jI,jC,jD,C.B_b]
    by_cases x40:x=[40]
    ·simp only[if_pos x40] at hm2
     obtain ⟨rfl,hm2⟩:=hm2
     obtain ⟨c,i3,ok,hg,q1,q2⟩:=ih 0 k i2 (by omega) hi2 (by rw[hm2];omega) (by omega)
     rw[hm2] at q2
     have hp:prs (j+1) 2 (x::r)=match prs j 0 r with
       |some (t,y::r')=>if y=[41] then some (t,r') else none
       |_=>none:=by
      simp only[prs,if_neg x33,if_pos x40]<;>rcases prs j 0 r with _|⟨t,_|⟨y,r'⟩⟩<;>rfl
     rw[hp]
     simp only[jR,hg,jI,jC,jD,C.B_b]
     cases hf:prs j 0 r with
     |none=>
      rw[hf] at q2
      simp only at q2
      subst q2
      simp only[jS,jV]
      exact ⟨_,_,_,rfl,q1,rfl⟩
     |some p=>
      obtain ⟨t,z⟩:=p
      rw[hf] at q2
      obtain ⟨rfl,rfl,q3,q4⟩:=q2
      obtain ⟨i4,hi4,b4,ht4,hm4⟩:=vl hl 41 rfl (by decide) i3 true q1
      have ht4:bm [.i 41,.s s,.i i3,.b true]=_:=ht4
      rw[q3] at hm4
      simp only[jR,ht4,jI,jC,jD,C.B_b,jV]
      refine ⟨_,_,_,rfl,hi4,?_⟩
      cases z with
      |nil=>exact hm4.1
      |cons y r'=>
       simp only at hm4⊢
       by_cases y41:y=[41]
       ·simp only[if_pos y41] at hm4⊢
        simp only[List.length_cons] at q4⊢
        exact ⟨hm4.1,trivial,hm4.2,by omega⟩
       ·simp only[if_neg y41] at hm4⊢
        exact hm4.1
    simp only[if_neg x40] at hm2
    obtain ⟨rfl,hm2⟩:=hm2
    obtain ⟨i3,hi3,z,b3,hn3,hm3⟩:=BZ hl i2 true hi2
    rw[hm2] at hm3
    simp only at hm3
    simp only[jS,hn3,jI,jC,jD,C.B_b]
    cases hn:bf (mkS x) with
    |false=>
     rw[hn] at hm3
     simp only[Bool.false_eq_true,if_false] at hm3
     subst hm3
     simp only[jS,jV]
     exact ⟨_,_,_,rfl,hi3,by simp[prs,x33,x40,hn]⟩
    |true=>
     rw[hn] at hm3
     simp only[if_true] at hm3
     obtain ⟨rfl,rfl,hm3⟩:=hm3
     obtain ⟨i4,hi4,b4,ht4,hm4⟩:=vl hl 61 rfl (by decide) i3 true hi3
     have ht4:bm [.i 61,.s s,.i i3,.b true]=_:=ht4
     rw[hm3] at hm4
     simp only[jR,ht4,jI,jC,jD,C.B_b]
     cases r with
     |nil=>
      simp only at hm4
      obtain ⟨rfl,hm4⟩:=hm4
      simp only[jS,rows,aB,eS,jV]
      refine ⟨_,_,_,rfl,hi4,?_⟩
      simp only[prs,if_neg x33,if_neg x40,hn,if_true]
      exact ⟨trivial,rfl,hm4,by simp⟩
     |cons y r'=>
      simp only at hm4
      by_cases y61:y=[61]
      ·simp only[if_pos y61] at hm4
       obtain ⟨rfl,hm4⟩:=hm4
       obtain ⟨i5,hi5,z5,b5,hn5,hm5⟩:=BZ hl i4 true hi4
       rw[hm4] at hm5
       simp only[jR,hn5,jI,jC,jD,rows,aB,jV]
       refine ⟨_,_,_,rfl,hi5,?_⟩
       cases r' with
       |nil=>
        simp only at hm5
        subst hm5
        simp[prs,x33,x40,hn,y61]
       |cons v r''=>
        simp only at hm5
        cases hv:bf (mkS v) with
        |false=>
         rw[hv] at hm5
         simp only[Bool.false_eq_true,if_false] at hm5
         subst hm5
         simp[prs,x33,x40,hn,y61,hv]
        |true=>
         rw[hv] at hm5
         simp only[if_true] at hm5
         obtain ⟨rfl,rfl,hm5⟩:=hm5
         simp only[prs,if_neg x33,if_neg x40,hn,if_true,y61,hv]
         exact ⟨trivial,rfl,hm5,by simp only[List.length_cons];omega⟩
      ·simp only[if_neg y61] at hm4
       obtain ⟨rfl,hm4⟩:=hm4
       simp only[jS,rows,aB,eS,jV]
       refine ⟨_,_,_,rfl,hi4,?_⟩
       simp only[prs,if_neg x33,if_neg x40,hn,if_true,if_neg y61]
       exact ⟨trivial,rfl,hm4,by simp⟩
end
end Go.Ev
namespace Go.Ev
def Tr.Wf:Tr→Prop
 |.lf k n v=>bf (mkS n)=true∧((k=1∧v=[])∨(k=2∧bf (mkS v)=true))
 |.un t=>t.Wf
 |.bn k a b=>(k=4∨k=5)∧a.Wf∧b.Wf
def Tr.sz:Tr→Nat
 |.lf _ _ _=>1
 |.un t=>t.sz+1
 |.bn _ a b=>a.sz+b.sz+1
def Tr.depth:Tr→Nat
 |.lf _ _ _=>0
 |.un t=>t.depth+1
 |.bn _ a b=>max a.depth b.depth+1
theorem Tr.zG:∀t:Tr,0<t.sz
 |.lf _ _ _=>by simp[Tr.sz]
 |.un t=>by simp[Tr.sz]
 |.bn _ a b=>by simp[Tr.sz]
theorem Tr.pY:∀t:Tr,t.depth<t.sz
 |.lf _ _ _=>by simp[Tr.sz,Tr.depth]
 |.un t=>by have:=t.pY;simp[Tr.sz,Tr.depth];exact this
 |.bn _ a b=>by have:=a.pY;have:=b.pY;simp only[Tr.sz,Tr.depth];omega
theorem Tr.fX:∀t:Tr,t.flat.length=t.sz
 |.lf _ _ _=>rfl
 |.un t=>by simp[Tr.flat,Tr.sz,t.fX]
 |.bn _ a b=>by simp[Tr.flat,Tr.sz,a.fX,b.fX];omega
def tc (x:Tok):Prop:=bf (mkS x)=true∨x=[33]∨x=[40]∨x=[41]∨x=[61]∨x=[124]∨x=[38]
def Pre (l:List Tok) (t:Tr) (r:List Tok):Prop:=∃p,l=p++r∧(∀x,x∈p→tc x)∧t.sz≤p.length∧t.Wf
theorem B0 (f:List Tok→Option (Tr×List Tok)) (op:Tok) (kd:Nat) (hop:tc op) (hk:kd=4∨kd=5) (hf:∀l t r,f l=some (t,r)→Pre l t r):∀(m:Nat) (t:Tr) (l:List Tok) (u:Tr) (r l0:List Tok),
  Pre l0 t l→opL f op kd m t l=some (u,r)→Pre l0 u r
 |0,t,l,u,r,l0,h0,h=>by
  simp only[opL,Option.some.injEq,Prod.mk.injEq] at h
  obtain ⟨rfl,rfl⟩:=h;exact h0
 |m+1,t,[],u,r,l0,h0,h=>by
  simp only[opL,Option.some.injEq,Prod.mk.injEq] at h
  obtain ⟨rfl,rfl⟩:=h;exact h0
 |m+1,t,x::l,u,r,l0,h0,h=>by
  simp only[opL] at h
  split at h
  ·rename_i hx
   split at h
   ·simp at h
   ·rename_i t' r'' hq
    refine B0 f op kd hop hk hf m _ _ u r l0 ?_ h
    obtain ⟨p,rfl,q2,q3,q4⟩:=h0
    obtain ⟨p',rfl,q2',q3',q4'⟩:=hf _ _ _ hq
    refine ⟨p++x::p',by simp,fun y hy=>?_,by simp[Tr.sz];omega,hk,q4,q4'⟩
    rcases List.mem_append.1 hy with hy|hy
    ·exact q2 y hy
    ·rcases List.mem_cons.1 hy with rfl|hy
     ·rw[hx];exact hop
     ·exact q2' y hy
  ·simp only[Option.some.injEq,Prod.mk.injEq] at h
   obtain ⟨rfl,rfl⟩:=h;exact h0
theorem pA:∀(j c:Nat) (l:List Tok) (t:Tr) (r:List Tok),prs j c l=some (t,r)→Pre l t r
 |0,c,l,t,r,h=>by simp[prs] at h
 |j+1,0,l,t,r,h=>by
  simp only[prs] at h
  split at h
  ·simp at h
  ·rename_i t' r' hq
   exact B0 (prs j 1) [124] 5 (by simp[tc]) (.inr rfl) (fun l t r=>pA j 1 l t r) _ _ _ _ _ l (pA j 1 _ _ _ hq) h
 |j+1,1,l,t,r,h=>by
  simp only[prs] at h
  split at h
  ·simp at h
  ·rename_i t' r' hq
   exact B0 (prs j 2) [38] 4 (by simp[tc]) (.inl rfl) (fun l t r=>pA j 2 l t r) _ _ _ _ _ l (pA j 2 _ _ _ hq) h
 |j+1,c+2,[],t,r,h=>by simp[prs] at h
 |j+1,c+2,x::l,t,r,h=>by
  simp only[prs] at h
  split at h
  ·rename_i hx
   split at h
   ·simp at h
   ·rename_i t' r' hq
    simp only[Option.some.injEq,Prod.mk.injEq] at h
    obtain ⟨rfl,rfl⟩:=h
    obtain ⟨p,rfl,q2,q3,q4⟩:=pA j 2 _ _ _ hq
    refine ⟨x::p,rfl,fun y hy=>?_,by simp[Tr.sz];omega,q4⟩
    rcases List.mem_cons.1 hy with rfl|hy
    ·rw[hx];simp[tc]
    ·exact q2 y hy
  ·split at h
   ·rename_i hx
    split at h
    ·rename_i t' y r' hq
     split at h
     ·rename_i hy41
      simp only[Option.some.injEq,Prod.mk.injEq] at h
      obtain ⟨rfl,rfl⟩:=h
      obtain ⟨p,hp,q2,q3,q4⟩:=pA j 0 _ _ _ hq
      refine ⟨x::(p++[y]),by rw[hp];simp,fun z hz=>?_,by simp;omega,q4⟩
      rcases List.mem_cons.1 hz with rfl|hz
      ·rw[hx];simp[tc]
      ·rcases List.mem_append.1 hz with hz|hz
       ·exact q2 z hz
       ·simp at hz;subst hz;rw[hy41];simp[tc]
     ·simp at h
    ·simp at h
   ·split at h
    ·rename_i hn
     split at h
     ·rename_i y r'
      split at h
      ·rename_i hy61
       split at h
       ·rename_i v r''
        split at h
        ·rename_i hv
         simp only[Option.some.injEq,Prod.mk.injEq] at h
         obtain ⟨rfl,rfl⟩:=h
         refine ⟨[x,y,v],rfl,fun z hz=>?_,by simp[Tr.sz],hn,.inr ⟨rfl,hv⟩⟩
         simp at hz
         rcases hz with rfl|rfl|rfl
         ·exact .inl hn
         ·rw[hy61];simp[tc]
         ·exact .inl hv
        ·simp at h
       ·simp at h
      ·simp only[Option.some.injEq,Prod.mk.injEq] at h
       obtain ⟨rfl,rfl⟩:=h
       refine ⟨[x],rfl,fun z hz=>?_,by simp[Tr.sz],hn,.inl ⟨rfl,rfl⟩⟩
       simp at hz;subst hz;exact .inl hn
     ·simp only[Option.some.injEq,Prod.mk.injEq] at h
      obtain ⟨rfl,rfl⟩:=h
      refine ⟨[x],rfl,fun z hz=>?_,by simp[Tr.sz],hn,.inl ⟨rfl,rfl⟩⟩
      simp at hz;subst hz;exact .inl hn
    ·simp at h
theorem yN:∀r:List UInt8,r.all gT=(r.dropWhile dy).all gT
 |[]=>rfl
 |x::r=>by
  rw[List.dropWhile_cons]
  cases hx:dy x with
  |true=>simp only[if_true,List.all_cons];rw[yN r];simp[gT,hx]
  |false=>simp
theorem qW:∀(n:Nat) (l:List UInt8),l.length≤n→(∀x,x∈cY l→tc x)→l.all gT=true
 |n,[],hn,h=>rfl
 |0,c::r,hn,h=>by simp at hn
 |n+1,c::r,hn,h=>by
  simp only[List.length_cons] at hn
  rw[cY.eq_2] at h
  split at h
  ·rename_i h32
   subst h32
   have:=qW n r (by omega) h
   simp[gT] at this⊢
   exact this
  ·rename_i h32
   split at h
   ·rename_i hc
    have hdl:=(List.dropWhile_suffix (l:=r) dy).length_le
    have:=qW n (r.dropWhile dy) (by omega) fun x hx=>h x (by simp[hx])
    rw[List.all_cons,yN r,this]
    simp[gT,hc]
   ·rename_i hc
    have h1:=h [c] (by simp)
    have:=qW n r (by omega) fun x hx=>h x (by simp[hx])
    rw[List.all_cons,this]
    have hn1:bf (mkS [c])=false:=by simp[bf,gH,hc]
    rcases h1 with h1|h1|h1|h1|h1|h1|h1
    ·rw[hn1] at h1;simp at h1
    all_goals (simp at h1;subst h1;rfl)
theorem sL:∀(n:Nat) (l:List UInt8),l.length≤n→(cY l).length≤l.length∧∀x,x∈cY l→x.length≤l.length
 |n,[],hn=>by simp[cY]
 |0,c::r,hn=>by simp at hn
 |n+1,c::r,hn=>by
  simp only[List.length_cons] at hn⊢
  rw[cY.eq_2]
  split
  ·obtain ⟨h1,h2⟩:=sL n r (by omega)
   exact ⟨by omega,fun x hx=>by have:=h2 x hx;omega⟩
  ·split
   ·have hdl:=(List.dropWhile_suffix (l:=r) dy).length_le
    have htl:=qP dy r
    obtain ⟨h1,h2⟩:=sL n (r.dropWhile dy) (by omega)
    refine ⟨by simp;omega,fun x hx=>?_⟩
    rcases List.mem_cons.1 hx with rfl|hx
    ·simp;omega
    ·have:=h2 x hx;omega
   ·obtain ⟨h1,h2⟩:=sL n r (by omega)
    refine ⟨by simp;omega,fun x hx=>?_⟩
    rcases List.mem_cons.1 hx with rfl|hx
    ·simp
    ·have:=h2 x hx;omega
end Go.Ev
namespace Go.Ev
theorem BL {n:Nat} (h:n<big):w64 ((n:Int)+1)=((n+1:Nat):Int):=by
 simp only[big] at h;rw[ed (by omega) (by omega)];rfl
theorem wj:∀(k:Nat) (t:Tr),t.depth<k→t.depth<big→ao.g k 0 [t.enc]=some [.i (t.depth:Nat)]
 |0,t,h,_=>by omega
 |k+1,t,h,hb=>by
  have hs:∀x,ao.g (k+1) 0 x=ao.step (ao.g k 0) x:=fun _=>rfl
  rw[hs]
  have w0:w64 1=1:=ed (by omega) (by omega)
  have w2:w64 2=2:=ed (by omega) (by omega)
  cases t with
  |lf kd n v=>
   have h0:apn 4 (ao.d1 (ao.g k 0)) [.i 0,.l [],.i 0,.i 0]=some (.brk 0 [.i 0]):=by simp[ao.d1]
   simp only[ao.step,ao.d3,apL,jC,jD,Tr.enc,C.vU,jR,C.P_p,C.L_l,List.length_nil,Int.ofNat_zero,Int.natCast_zero]
   rw[bB h0]
   simp[ao.d2,Tr.depth]
  |un t=>
   simp only[Tr.depth] at h hb
   have ih:=wj k t (by omega) (by omega)
   have h0:apn 4 (ao.d1 (ao.g k 0)) [.i 0,.l [[t.enc]],.i 1,.i 0]=some (.again [.i (t.depth+1:Nat),.l [[t.enc]],.i 1,.i 1]):=by
    have hgt:(((t.depth+1:Nat):Int))>0:=by omega
    simp[ao.d1,ih,aa,BL (show t.depth<big by omega),w0]
   have h1:apn 4 (ao.d1 (ao.g k 0)) [.i (t.depth+1:Nat),.l [[t.enc]],.i 1,.i 1]=some (.brk 0 [.i (t.depth+1:Nat)]):=by simp[ao.d1]
   simp only[ao.step,ao.d3,apL,jC,jD,Tr.enc,C.vU,jR,C.P_p,C.L_l,List.length_cons,List.length_nil]
   erw[bc h0,bB h1]
   simp[ao.d2,Tr.depth]
  |bn kd a b=>
   simp only[Tr.depth] at h hb
   have iha:=wj k a (by omega) (by omega)
   have ihb:=wj k b (by omega) (by omega)
   have h0:apn 4 (ao.d1 (ao.g k 0)) [.i 0,.l [[a.enc],[b.enc]],.i 2,.i 0]=some (.again [.i (a.depth+1:Nat),.l [[a.enc],[b.enc]],.i 2,.i 1]):=by
    simp[ao.d1,iha,aa,BL (show a.depth<big by omega),w0]
   have h1:apn 4 (ao.d1 (ao.g k 0)) [.i (a.depth+1:Nat),.l [[a.enc],[b.enc]],.i 2,.i 1]=some (.again [.i (max a.depth b.depth+1:Nat),.l [[a.enc],[b.enc]],.i 2,.i 2]):=by
    have e:(1:Int)<2:=by omega
    simp only[apL,jC,jD,ao.d1,C.I_i,C.L_l,e,decide_true,jR,List.length_cons,List.length_nil,Int.toNat_one,ihb,aa,jI,BL (show b.depth<big by omega)]
    have w2':w64 (1+1)=2:=w2
    rw[w2']
    simp
    split<;>omega
   have h2:apn 4 (ao.d1 (ao.g k 0)) [.i (max a.depth b.depth+1:Nat),.l [[a.enc],[b.enc]],.i 2,.i 2]=some (.brk 0 [.i (max a.depth b.depth+1:Nat)]):=by simp[ao.d1]
   simp only[ao.step,ao.d3,apL,jC,jD,Tr.enc,C.vU,jR,C.P_p,C.L_l,List.length_cons,List.length_nil]
   erw[bc h0,bc h1,bB h2]
   simp[ao.d2,Tr.depth]
def Tr.kids:Tr→Nat→List (List C)
 |.lf _ _ _,o=>[[.l []]]
 |.un t,o=>t.kids o++[[.l [[.i (o+t.sz-1:Nat)]]]]
 |.bn _ a b,o=>a.kids o++b.kids (o+a.sz)++[[.l [[.i (o+a.sz-1:Nat)],[.i (o+a.sz+b.sz-1:Nat)]]]]
theorem Tr.gn:∀(t:Tr) (o:Nat),(t.kids o).length=t.sz
 |.lf _ _ _,o=>rfl
 |.un t,o=>by simp[Tr.kids,Tr.sz,t.gn]
 |.bn _ a b,o=>by simp[Tr.kids,Tr.sz,a.gn,b.gn];omega
theorem wU {N:List (List C)} {o m:Nat} {kd:Nat} {n v:Tok} {out stk:List (List C)} (hN:N.length≤1048576) (ho:o<N.length) (hn:N[o]=node kd n v m) (h1:m≤stk.length) (h2:stk.length≤o) (h3:out.length≤o):
  apn 4 eh.d1 [.i o,.l N,.l out,.l stk]=some (.again [.i (o+1:Nat),.l N,.l (out++[[.l (stk.drop (stk.length-m))]]),.l (stk.take (stk.length-m)++[[.i (o:Nat)]])]):=by
 have hg:N.getD o []=node kd n v m:=by rw[List.getD_eq_getElem?_getD,List.getElem?_eq_getElem ho,hn];rfl
 have hw:w64 ((stk.length:Int)-(m:Int))=((stk.length-m:Nat):Int):=by rw[ed (by omega) (by omega)];omega
 have hw1:=w1 ho (show N.length<big by simp only[big];omega)
 have e1:¬((m:Int)<0):=by omega
 have e2:¬((m:Int)>(stk.length:Int)):=by omega
 have e3:((stk.length-m:Nat):Int)≤(stk.length:Int):=by omega
 have e4:(stk.drop (stk.length-m)).length≤4294967296:=by rw[List.length_drop];omega
 have e5:out.length+1≤4294967296:=by omega
 have e6:(stk.take (stk.length-m)).length+1≤4294967296:=by rw[List.length_take];omega
 simp only[apL,jC,jD,eh.d1,C.I_i,C.L_l,jY,hg,node,hw,hw1,List.take_length,List.drop_zero,aB,rows,jB,List.length_nil,List.length_cons,Nat.zero_add,e1,e2,e3,e4,e5,e6,decide_true,decide_false,jR,jS,ja,jX,Int.le_refl]
 simp[ho]
theorem wm {α:Type} {N l r:List α} {o:Nat} {x:α} (h:N.drop o=l++x::r):∃h:o+l.length<N.length,N[o+l.length]=x:=by
 have h2:N.drop (o+l.length)=x::r:=by rw[←List.drop_drop,h];simp
 obtain ⟨h3,h4,_⟩:=drop_cons h2
 exact ⟨h3,h4⟩
theorem Aj {N:List (List C)} (hN:N.length≤1048576):∀(t:Tr) (o:Nat) (out stk r:List (List C)),N.drop o=t.flat++r→stk.length≤o→out.length≤o→
  lim (apn 4 eh.d1) [.i o,.l N,.l out,.l stk]=lim (apn 4 eh.d1) [.i (o+t.sz:Nat),.l N,.l (out++t.kids o),.l (stk++[[.i (o+t.sz-1:Nat)]])]
 |.lf kd n v,o,out,stk,r,h,hs,ho=>by
  obtain ⟨h1,h2,_⟩:=drop_cons (show N.drop o=node kd n v 0::r from h)
  rw[bc (wU hN h1 h2 (Nat.zero_le _) hs ho)]
  simp[Tr.sz,Tr.kids]
 |.un t,o,out,stk,r,h,hs,ho=>by
  have h':N.drop o=t.flat++(node 3 [] [] 1::r):=by rw[h];simp[Tr.flat]
  rw[Aj hN t o out stk _ h' hs ho]
  obtain ⟨h1,h2⟩:=wm h'
  rw[t.fX] at h1
  have h2:N[o+t.sz]=node 3 [] [] 1:=by simp only[t.fX] at h2;exact h2
  rw[bc (wU hN h1 h2 (by simp) (by have:=t.zG;simp;omega) (by simp[t.gn];omega))]
  have e1:(stk++[[C.i (o+t.sz-1:Nat)]]).length-1=stk.length:=by simp
  rw[e1,List.drop_left',List.take_left']<;>simp[Tr.sz,Tr.kids]
  rfl
 |.bn kd a b,o,out,stk,r,h,hs,ho=>by
  have h':N.drop o=a.flat++(b.flat++(node kd [] [] 2::r)):=by rw[h];simp[Tr.flat]
  have h'':N.drop (o+a.sz)=b.flat++(node kd [] [] 2::r):=by rw[←List.drop_drop,h',←a.fX];simp
  have ha:=a.zG
  have hb:=b.zG
  rw[Aj hN a o out stk _ h' hs ho,Aj hN b (o+a.sz) _ _ _ h'' (by simp;omega) (by simp[a.gn];omega)]
  obtain ⟨h1,h2⟩:=wm h''
  rw[b.fX] at h1
  have h2:N[o+a.sz+b.sz]=node kd [] [] 2:=by simp only[b.fX] at h2;exact h2
  rw[bc (wU hN h1 h2 (by simp) (by simp;omega) (by simp[a.gn,b.gn];omega))]
  have e1:(stk++[[C.i (o+a.sz-1:Nat)]]++[[C.i (o+a.sz+b.sz-1:Nat)]]).length-2=stk.length:=by simp
  have e2:stk++[[C.i (o+a.sz-1:Nat)]]++[[C.i (o+a.sz+b.sz-1:Nat)]]=stk++[[C.i (o+a.sz-1:Nat)],[C.i (o+a.sz+b.sz-1:Nat)]]:=by simp
  rw[e1,e2,List.drop_left',List.take_left']
  ·have e3:o+(Tr.bn kd a b).sz=o+a.sz+b.sz+1:=by simp only[Tr.sz];omega
   rw[e3]
   simp[Tr.kids]
  ·rfl
  ·rfl
theorem vE (t:Tr) (ht:t.sz≤1048576):eh [.l t.flat]=some [.b true,.l (t.kids 0)]:=by
 have hN:t.flat.length≤1048576:=by rw[t.fX];exact ht
 have h:=Aj hN t 0 [] [] [] (by simp) (by simp) (by simp)
 have he:apn 4 eh.d1 [.i (0+t.sz:Nat),.l t.flat,.l ([]++t.kids 0),.l ([]++[[.i (0+t.sz-1:Nat)]])]=some (.brk 0 [.l (t.kids 0),.l [[.i (t.sz-1:Nat)]]]):=by
  simp[eh.d1,t.fX]
 rw[bB he] at h
 simp only[eh,eh.d3,apL,jC,aB]
 erw[h]
 simp[eh.d2]
end Go.Ev
namespace Go.Ev
section
variable {K:List (List C)} (hK:K.length≤1048576)
include hK
theorem uW (G:List C→Option (List C)) {ix:Nat} (hi:ix<K.length) {l:List (List C)} (hr:K[ix]=[.l l]) {d c e:Nat} (hd:d<l.length) (hl:l.length≤2) {kid:Nat} (hk:l[d]=[.i (kid:Nat)])
  (hG:G [.l K,.i (kid:Nat)]=some [.i (e:Nat)]) (he:e<big):
  apn 4 (bC.d1 G) [.l K,.i (ix:Nat),.i (c:Nat),.i (d:Nat)]=some (.again [.l K,.i (ix:Nat),.i (max c (e+1):Nat),.i (d+1:Nat)]):=by
 have hg:K.getD ix []=[.l l]:=by rw[List.getD_eq_getElem?_getD,List.getElem?_eq_getElem hi,hr];rfl
 have hgd:l.getD d []=[.i (kid:Nat)]:=by rw[List.getD_eq_getElem?_getD,List.getElem?_eq_getElem hd,hk];rfl
 have hw:=BL he
 have hwd:w64 ((d:Int)+1)=((d+1:Nat):Int):=BL (by simp only[big];omega)
 simp only[apL,jC,jD,bC.d1,C.I_i,C.L_l,jY,hg,hgd,hG,aa,jI,hw,hwd,jX,decide_true,jR]
 have e1:((ix:Int)<(K.length:Int)):=by omega
 have e2:((d:Int)<(l.length:Int)):=by omega
 simp only[e1,e2,decide_true,jR]
 by_cases h:((e+1:Nat):Int)>(c:Int)
 ·have:max c (e+1)=e+1:=by omega
  simp only[h,decide_true,jR,this]
 ·have:max c (e+1)=c:=by omega
  simp only[h,decide_false,jS,this]
theorem wP (G:List C→Option (List C)) {ix:Nat} (hi:ix<K.length) {l:List (List C)} (hr:K[ix]=[.l l]) {c:Nat}:
  apn 4 (bC.d1 G) [.l K,.i (ix:Nat),.i (c:Nat),.i (l.length:Nat)]=some (.brk 0 [.i (c:Nat)]):=by
 have hg:K.getD ix []=[.l l]:=by rw[List.getD_eq_getElem?_getD,List.getElem?_eq_getElem hi,hr];rfl
 simp only[apL,jC,jD,bC.d1,C.I_i,C.L_l,jY,hg]
 simp[hi]
theorem AD:∀(k:Nat) (t:Tr) (o:Nat) (r:List (List C)),t.depth<k→t.depth<big→K.drop o=t.kids o++r→bC.g k 0 [.l K,.i (o+t.sz-1:Nat)]=some [.i (t.depth:Nat)]
 |0,t,o,r,h,_,_=>by omega
 |k+1,t,o,r,h,hb,hd=>by
  have hs:∀x,bC.g (k+1) 0 x=bC.step (bC.g k 0) x:=fun _=>rfl
  rw[hs]
  simp only[bC.step,bC.d3,apL,jC,jD]
  cases t with
  |lf kd n v=>
   obtain ⟨h1,h2,_⟩:=drop_cons (show K.drop o=[.l []]::r from hd)
   have:=bB (wP hK (bC.g k 0) h1 h2 (c:=0))
   simp only[List.length_nil,Int.ofNat_zero,Int.natCast_zero] at this
   have e:o+(Tr.lf kd n v).sz-1=o:=by simp[Tr.sz]
   rw[e,this]
   simp[bC.d2,Tr.depth]
  |un t=>
   simp only[Tr.depth] at h hb
   have h':K.drop o=t.kids o++([.l [[.i (o+t.sz-1:Nat)]]]::r):=by rw[hd];simp[Tr.kids]
   have ih:=AD k t o _ (by omega) (by omega) h'
   obtain ⟨h1,h2⟩:=wm h'
   rw[t.gn] at h1
   have h2:K[o+t.sz]=[.l [[.i (o+t.sz-1:Nat)]]]:=by simp only[t.gn] at h2;exact h2
   have e:o+(Tr.un t).sz-1=o+t.sz:=by simp[Tr.sz]
   have s1:=uW hK (bC.g k 0) h1 h2 (d:=0) (c:=0) (by simp) (by simp) (kid:=o+t.sz-1) rfl ih (by omega)
   have s2:=wP hK (bC.g k 0) h1 h2 (c:=max 0 (t.depth+1))
   simp only[Int.natCast_zero,Nat.zero_max,List.length_cons,List.length_nil,Nat.zero_add] at s1 s2
   rw[e,bc s1,bB s2]
   simp[bC.d2,Tr.depth]
  |bn kd a b=>
   simp only[Tr.depth] at h hb
   have h':K.drop o=a.kids o++(b.kids (o+a.sz)++([.l [[.i (o+a.sz-1:Nat)],[.i (o+a.sz+b.sz-1:Nat)]]]::r)):=by rw[hd];simp[Tr.kids]
   have h'':K.drop (o+a.sz)=b.kids (o+a.sz)++([.l [[.i (o+a.sz-1:Nat)],[.i (o+a.sz+b.sz-1:Nat)]]]::r):=by
    rw[←List.drop_drop,h',←a.gn o];simp
   have iha:=AD k a o _ (by omega) (by omega) h'
   have ihb:=AD k b (o+a.sz) _ (by omega) (by omega) h''
   obtain ⟨h1,h2⟩:=wm h''
   rw[b.gn] at h1
   have h2:K[o+a.sz+b.sz]=[.l [[.i (o+a.sz-1:Nat)],[.i (o+a.sz+b.sz-1:Nat)]]]:=by simp only[b.gn] at h2;exact h2
   have e:o+(Tr.bn kd a b).sz-1=o+a.sz+b.sz:=by simp only[Tr.sz];omega
   have s1:=uW hK (bC.g k 0) h1 h2 (d:=0) (c:=0) (by simp) (by simp) (kid:=o+a.sz-1) rfl iha (by omega)
   have s2:=uW hK (bC.g k 0) h1 h2 (d:=1) (c:=max 0 (a.depth+1)) (by simp) (by simp) (kid:=o+a.sz+b.sz-1) rfl ihb (by omega)
   have s3:=wP hK (bC.g k 0) h1 h2 (c:=max (max 0 (a.depth+1)) (b.depth+1))
   simp only[Int.natCast_zero,List.length_cons,List.length_nil,Nat.zero_add,Nat.reduceAdd] at s1 s2 s3
   rw[e,bc s1,bc s2,bB s3]
   have e2:max (max 0 (a.depth+1)) (b.depth+1)=max a.depth b.depth+1:=by omega
   rw[e2]
   simp[bC.d2,Tr.depth]
end
inductive OkN:List C→Prop
 |n1 (n:Tok) (h:bf (mkS n)=true):OkN (node 1 n [] 0)
 |n2 (n v:Tok) (h:bf (mkS n)=true) (h2:bf (mkS v)=true):OkN (node 2 n v 0)
 |n3:OkN (node 3 [] [] 1)
 |n4:OkN (node 4 [] [] 2)
 |n5:OkN (node 5 [] [] 2)
theorem Tr.okN:∀(t:Tr),t.Wf→∀r,r∈t.flat→OkN r
 |.lf k n v,h,r,hr=>by
  simp only[Tr.flat,List.mem_singleton] at hr
  subst hr
  rcases h with ⟨h1,⟨rfl,rfl⟩|⟨rfl,h2⟩⟩
  ·exact .n1 n h1
  ·exact .n2 n v h1 h2
 |.un t,h,r,hr=>by
  simp only[Tr.flat,List.mem_append,List.mem_singleton] at hr
  rcases hr with hr|rfl
  ·exact t.okN h r hr
  ·exact .n3
 |.bn k a b,h,r,hr=>by
  simp only[Tr.flat,List.mem_append,List.mem_singleton] at hr
  rcases hr with (hr|hr)|rfl
  ·exact a.okN h.2.1 r hr
  ·exact b.okN h.2.2 r hr
  ·rcases h.1 with rfl|rfl
   ·exact .n4
   ·exact .n5
theorem qF {s:Str} (h:bf s=true):s.size≤1048576:=by
 simp only[bf,within,Bool.and_eq_true,decide_eq_true_eq] at h
 omega
theorem emp:(mkS []).toList=[]:=eV _
theorem Dm {N:List (List C)} (hN:N.length≤1048576) {i:Nat} (hi:i<N.length) (ho:OkN N[i]):
  apn 2 aY.d4 [.i i,.l N]=some (.again [.i (i+1:Nat),.l N]):=by
 have hw1:=w1 hi (show N.length<big by simp only[big];omega)
 have hg:N.getD i []=N[i]:=by rw[List.getD_eq_getElem?_getD,List.getElem?_eq_getElem hi];rfl
 have e0:((i:Int)<(N.length:Int)):=by omega
 have key:∀r,OkN r→N.getD i []=r→apn 2 aY.d4 [.i i,.l N]=some (.again [.i (i+1:Nat),.l N]):=by
  intro r hr hgr
  have z1:within 1 0 5=true:=rfl
  have z2:within 2 0 5=true:=rfl
  have z3:within 3 0 5=true:=rfl
  have z4:within 4 0 5=true:=rfl
  have z5:within 5 0 5=true:=rfl
  have t2:Int.toNat 2=2:=rfl
  have t3:Int.toNat 3=3:=rfl
  have t4:Int.toNat 4=4:=rfl
  have t5:Int.toNat 5=5:=rfl
  cases hr with
  |n1 n h=>
   simp only[apL,jC,jD,aY.d4,C.I_i,C.L_l,jY,hgr,node]
   simp[aY.d3,aY.d2,aY.d1,gq,z1,aa,cD _ (qF h),h,emp,eS,hw1,hi]
  |n2 n v h h2=>
   simp only[apL,jC,jD,aY.d4,C.I_i,C.L_l,jY,hgr,node]
   simp[aY.d3,aY.d2,aY.d1,gq,z2,t2,aa,cD _ (qF h),cD _ (qF h2),h,h2,emp,eS,hw1,hi]
  |n3=>
   simp only[apL,jC,jD,aY.d4,C.I_i,C.L_l,jY,hgr,node]
   simp[aY.d3,aY.d2,aY.d1,gq,z3,t3,aa,emp,eS,hw1,hi]
  |n4=>
   simp only[apL,jC,jD,aY.d4,C.I_i,C.L_l,jY,hgr,node]
   simp[aY.d3,aY.d2,aY.d1,gq,z4,t4,aa,emp,eS,hw1,hi]
  |n5=>
   simp only[apL,jC,jD,aY.d4,C.I_i,C.L_l,jY,hgr,node]
   simp[aY.d3,aY.d2,aY.d1,gq,z5,t5,aa,emp,eS,hw1,hi]
 exact key _ ho hg
theorem Bl (t:Tr) (ht:t.sz≤400) (hw:t.Wf):aY [.l t.flat]=some [.b true]:=by
 have hN:t.flat.length≤1048576:=by rw[t.fX];omega
 have hloop:∀(k i:Nat),t.flat.length-i≤k→i≤t.flat.length→lim (apn 2 aY.d4) [.i i,.l t.flat]=some (.brk 0 []):=by
  intro k
  induction k with
  |zero=>
   intro i hk hi
   have:i=t.flat.length:=by omega
   subst this
   exact bB (by simp[aY.d4])
  |succ k ih=>
   intro i hk hi
   rcases Nat.lt_or_ge i t.flat.length with h|h
   ·rw[bc (Dm hN h (t.okN hw _ (List.getElem_mem h)))]
    exact ih (i+1) (by omega) (by omega)
   ·have:i=t.flat.length:=by omega
    subst this
    exact bB (by simp[aY.d4])
 have h0:=hloop _ 0 (Nat.le_refl _) (Nat.zero_le _)
 simp only[Int.natCast_zero] at h0
 have e:¬((t.flat.length:Int)>400):=by rw[t.fX];omega
 simp only[aY,aY.d6,apL,jC,C.L_l,e,decide_false,jS,vE t (by omega),call2,jI,C.B_b,jZ,h0]
 simp[aY.d5]
theorem zE (t:Tr) (ht:t.sz≤400) (hw:t.Wf):kI [.l t.flat]=some [.b (decide (t.depth≤20))]:=by
 have hd:=t.pY
 have hp:=t.zG
 have hF:=Ap
 have hw1:w64 ((t.flat.length:Int)-1)=((0+t.sz-1:Nat):Int):=by rw[t.fX,ed (by omega) (by omega)];omega
 have hn:bC [.l (t.kids 0),.i (0+t.sz-1:Nat)]=some [.i (t.depth:Nat)]:=
  AD (K:=t.kids 0) (by rw[t.gn];omega) p8 t 0 [] (by omega) (by simp only[big];omega) (by simp)
 simp only[kI,kI.d1,apL,jC,jD,Bl t ht hw,aa,call2,jI,C.B_b,jZ,jS,vE t (by omega),C.L_l,hw1,hn,C.I_i,jV]
 have:decide ((t.depth:Int)≤20)=decide (t.depth≤20):=by
  rw[decide_eq_decide];omega
 rw[this]
end Go.Ev
namespace Go.Ev
theorem lex_nil:∀l:List UInt8,(cY l=[])↔l.all sp=true
 |[]=>by simp[cY]
 |c::r=>by
  rw[cY.eq_2]
  by_cases h:c=32
  ·subst h
   rw[if_pos rfl,List.all_cons,lex_nil r]
   simp[sp]
  ·rw[if_neg h]
   have:sp c=false:=by simp[sp,h]
   split<;>simp[this]
theorem CQ (s0:Str):∀(n:Nat) (l:List UInt8),l.length≤n→n≤1048576→∃q,lim (apn 2 aK.d1) [.s (mkS l),.i 32]=some (.brk 0 [.s (mkS q)])∧q.length≤l.length∧q.all sp=l.all sp
 |n,l,hn,hb=>by
  rcases List.eq_nil_or_concat l with rfl|⟨p,c,rfl⟩
  ·exact ⟨[],bB (by simp[aK.d1,oM]),Nat.le_refl _,rfl⟩
  ·simp only[List.concat_eq_append] at hn⊢
   obtain ⟨n,rfl⟩:∃n',n=n'+1:=⟨n-1,by simp at hn;omega⟩
   have hsz:(mkS (p++[c])).size=p.length+1:=by rw[oM];simp
   have hw:w64 (((p.length+1:Nat):Int)-1)=(p.length:Nat):=by simp at hn;rw[ed (by omega) (by omega)];omega
   have hgd:(mkS (p++[c])).data.getD p.length 0=c:=by
    rw[ej (by rw[gH];simp)]
    simp[gH]
   have hext:(mkS (p++[c])).extract 0 p.length=mkS p:=by
    rw[mb,gH];simp
   have e1:((p.length+1:Nat):Int)>0:=by omega
   have e2:(p.length:Int)<((p.length+1:Nat):Int):=by omega
   have e3:(p.length:Int)≤((p.length+1:Nat):Int):=by omega
   cases hc:sp c with
   |true=>
    have h:apn 2 aK.d1 [.s (mkS (p++[c])),.i 32]=some (.again [.s (mkS p),.i 32]):=by
     simp only[sp] at hc
     simp only[apL,jC,jD,aK.d1,C.S_s,C.I_i,hsz,hw,jY,hgd,bn c 32 32 rfl,hc,hext,e1,e2,e3,decide_true,jR,jX]
    rw[bc h]
    obtain ⟨q,h1,h2,h3⟩:=CQ s0 n p (by simp at hn;omega) (by omega)
    exact ⟨q,h1,by simp;omega,by rw[h3];simp[hc]⟩
   |false=>
    refine ⟨p++[c],bB ?_,Nat.le_refl _,rfl⟩
    simp only[sp] at hc
    simp only[apL,jC,jD,aK.d1,C.S_s,C.I_i,hsz,hw,jY,hgd,bn c 32 32 rfl,hc,e1,e2,decide_true,jR,jS,jX]
theorem C8:∀(l:List UInt8),l.length≤1048576→lim (apn 2 aM.d1) [.s (mkS l),.i 32]=some (.brk 0 [.s (mkS (l.dropWhile sp))])
 |[],hn=>bB (by simp[aM.d1,oM])
 |c::r,hn=>by
  have hsz:(mkS (c::r)).size=r.length+1:=rfl
  have hgd:(mkS (c::r)).data.getD 0 0=c:=by
   rw[ej (by rw[gH];simp)]
   simp[gH]
  have hext:(mkS (c::r)).extract 1 (r.length+1)=mkS r:=by
   rw[mb,gH];simp
  have e1:((r.length+1:Nat):Int)>0:=by omega
  have e2:(1:Int)≤((r.length+1:Nat):Int):=by omega
  rw[List.dropWhile_cons]
  cases hc:sp c with
  |true=>
   have h:apn 2 aM.d1 [.s (mkS (c::r)),.i 32]=some (.again [.s (mkS r),.i 32]):=by
    simp only[sp] at hc
    have e1':(0:Int)<((r.length+1:Nat):Int):=by omega
    simp only[apL,jC,jD,aM.d1,C.S_s,C.I_i,hsz,jY,hgd,bn c 32 32 rfl,hc,hext,e1,e1',e2,decide_true,jR,Int.le_refl]
   rw[bc h]
   simp only[List.length_cons] at hn
   simpa using C8 r (by omega)
  |false=>
   refine bB ?_
   simp only[sp] at hc
   have e1':(0:Int)<((r.length+1:Nat):Int):=by omega
   simp only[apL,jC,jD,aM.d1,C.S_s,C.I_i,hsz,jY,hgd,bn c 32 32 rfl,hc,e1,e1',decide_true,jR,jS]
   rfl
theorem rT (l:List UInt8):l.dropWhile sp=[]↔l.all sp=true:=by
 induction l with
 |nil=>simp
 |cons c r ih=>
  rw[List.dropWhile_cons,List.all_cons]
  cases hc:sp c<;>simp[ih]
theorem G3 (s:Str) (hl:s.size≤1048576):∃z,eT [.s s,.s (bs #[32])]=some [.s z]∧(z.toList==(bs #[]).toList)=s.data.toList.all sp:=by
 have hb32:bs #[32]=mkS [32]:=rfl
 simp only[eT,eT.d2,apL,jC,jD,C.S_s]
 cases hq:(s.toList==(bs #[]).toList) with
 |true=>
  have:s=mkS []:=(gR s (bs #[])).1 hq
  subst this
  refine ⟨mkS [],?_,?_⟩
  ·simp
  ·rw[hq];rfl
 |false=>
  have h32:((bs #[32]).toList==(bs #[]).toList)=false:=by
   rw[hb32,eV,eS,eV];rfl
  have hsz:(bs #[32]).size=1:=rfl
  have hgd:(bs #[32]).data.getD 0 0=32:=rfl
  obtain ⟨q,h1,h2,h3⟩:=CQ s s.data.toList.length s.data.toList (Nat.le_refl _) (by rw[←cZ];exact hl)
  rw[GU] at h1
  have h4:=C8 q (by rw[←cZ] at h2;omega)
  refine ⟨mkS (q.dropWhile sp),?_,?_⟩
  ·have e1:(((32:UInt8).toNat:Nat):Int)=32:=rfl
   have e2:((1:Nat):Int)=1:=rfl
   simp only[ja,jR,h32,jS,hsz,hgd,e1,e2,aK,aK.d3,aM,aM.d3,apL,jC,jD,h1,dB,aK.d2,jV,aa,jI]
   simp[h4,aM.d2]
  ·rw[←h3,eV,eS,eV,gH,gH]
   cases hall:q.all sp with
   |true=>rw[(rT q).2 hall];rfl
   |false=>
    cases hd:q.dropWhile sp with
    |nil=>rw[(rT q).1 hd] at hall;simp at hall
    |cons c r=>rfl
inductive PR where
 |err (n:Nat)
 |all
 |tree (t:Tr)
def pp (s:Str):PR:=
 if 200<s.size then .err 1
 else if s.data.toList.all sp=true then .all
 else match prs 1000 0 (cY s.data.toList) with
  |some (t,[])=>if t.depth≤20 then .tree t else .err 3
  |_=>.err 2
def PR.nodes:PR→List (List C)
 |.err _=>[]
 |.all=>[node 0 [] [] 0]
 |.tree t=>t.flat
def PR.code:PR→Nat
 |.err n=>n
 |_=>0
def PR.ptr:PR→C
 |.err _=>.nil
 |.all=>.p [.i 0,.s (mkS []),.s (mkS []),.l []]
 |.tree t=>t.enc
theorem wa (s:Str) (hl:s.size≤1048576):gE [.s s]=some [.l (pp s).nodes,.i ((pp s).code:Nat)]:=by
 have hF:=Ap
 simp only[gE,gE.d1,apL,jC,C.S_s]
 by_cases hs:(s.size:Int)>200
 ·have h200:200<s.size:=by omega
  simp[hs,pp,h200,PR.nodes,PR.code]
 have h200:¬200<s.size:=by omega
 simp only[hs,decide_false,jS]
 have hlen:=sL _ s.data.toList (Nat.le_refl _)
 rw[←cZ] at hlen
 rcases yy s hl with ⟨hg,ht⟩|⟨hg,o,ht⟩
 ·simp only[ht,call2,jI,jC,jD,C.B_b,jZ,jS,C.L_l,jW]
  cases hall:s.data.toList.all sp with
  |true=>
   have:cY s.data.toList=[]:=(lex_nil _).2 hall
   rw[this]
   simp[pp,h200,hall,PR.nodes,PR.code,node,eS]
  |false=>
   have hne:cY s.data.toList≠[]:=fun h=>by rw[(lex_nil _).1 h] at hall;simp at hall
   have hlp:0<(cY s.data.toList).length:=List.length_pos_iff.2 hne
   have hz:(((cY s.data.toList).length:Int)==0)=false:=by rw[beq_eq_false_iff_ne];omega
   obtain ⟨nodes,a',bad,hgo,q1,q2,q3,q4⟩:=Gk (T:=cY s.data.toList) (by omega) (fun t ht=>by have:=hlen.2 t ht;omega) 1000 0 p8 0 (by omega) (by omega) (by omega) (by omega)
   have hgo:af [.l ((cY s.data.toList).map tk),.i 0,.b false]=_:=hgo
   simp only[hz,jS,hgo,call4,jI,jC,jD,C.B_b,C.I_i]
   simp only[List.drop_zero] at q4
   simp only[pp,if_neg h200,hall,Bool.false_eq_true,if_false]
   cases hp:prs 1000 0 (cY s.data.toList) with
   |none=>
    rw[hp] at q4
    simp only at q4
    subst q4
    simp[PR.nodes,PR.code]
   |some z=>
    obtain ⟨t,r⟩:=z
    rw[hp] at q4
    obtain ⟨rfl,rfl,q5,q6⟩:=q4
    simp only[ja,jR]
    have hrl:r.length=(cY s.data.toList).length-a':=by rw[←q5];simp
    cases r with
    |cons x r=>
     simp only[List.length_cons] at hrl
     have:(a':Int)<((cY s.data.toList).length:Int):=by omega
     simp[this,PR.nodes,PR.code]
    |nil=>
     simp only[List.length_nil] at hrl
     have:¬(a':Int)<((cY s.data.toList).length:Int):=by omega
     obtain ⟨p,h1,h2,h3,h4⟩:=pA _ _ _ _ _ hp
     have h5:t.sz≤400:=by
      have:=hlen.1
      rw[h1] at this
      simp at this
      omega
     simp only[this,decide_false,jS,zE t h5 h4,aa,jI,jC,C.B_b]
     by_cases hd:t.depth≤20<;>simp[hd,PR.nodes,PR.code]
 ·simp only[ht,call2,jI,jC,jD,C.B_b,ja,jR,jV,aB]
  have hcode:pp s=.err 2:=by
   unfold pp
   rw[if_neg h200,if_neg]
   ·split
    ·rename_i t hq
     obtain ⟨p,h1,h2,h3,h4⟩:=pA _ _ _ _ _ hq
     have:=qW _ s.data.toList (Nat.le_refl _) (fun x hx=>h2 x (by rw[h1] at hx;simpa using hx))
     rw[this] at hg;simp at hg
    ·rfl
   ·intro hall
    have:s.data.toList.all gT=true:=by
     rw[List.all_eq_true] at hall⊢
     intro x hx
     have:=hall x hx
     simp only[sp] at this
     simp[gT,this]
    rw[this] at hg;simp at hg
  rw[hcode]
  rfl
theorem vI (s:Str) (hl:s.size≤1048576):lA [.s s]=some [(pp s).ptr,.i ((pp s).code:Nat)]:=by
 have hF:=Ap
 simp only[lA,lA.d1,apL,jC,C.S_s]
 by_cases hs:(s.size:Int)>200
 ·have h200:200<s.size:=by omega
  simp[hs,pp,h200,PR.ptr,PR.code]
 have h200:¬200<s.size:=by omega
 have hlen:=sL _ s.data.toList (Nat.le_refl _)
 rw[←cZ] at hlen
 obtain ⟨z,hz,hz2⟩:=G3 s hl
 simp only[hs,decide_false,jS,hz,aa,jI,jC,C.S_s,hz2]
 cases hall:s.data.toList.all sp with
 |true=>simp[pp,h200,hall,PR.ptr,PR.code,eS]
 |false=>
  obtain ⟨c,i',ok,hgo,q1,q2⟩:=Ge (s:=s) hl 1000 0 p8 0 (by omega) (by omega) (by simp only[List.drop_zero];omega) (by omega)
  have hgo:ak [.s s,.i 0,.b true]=_:=hgo
  simp only[List.drop_zero] at q2
  simp only[jS,hgo,call4,jI,jC,jD,EL hl i' ok q1,call3,C.B_b,C.I_i]
  simp only[pp,if_neg h200,hall,Bool.false_eq_true,if_false]
  cases hp:prs 1000 0 (cY s.data.toList) with
  |none=>
   rw[hp] at q2
   simp only at q2
   subst q2
   simp[PR.ptr,PR.code]
  |some y=>
   obtain ⟨t,r⟩:=y
   rw[hp] at q2
   obtain ⟨rfl,rfl,q3,q4⟩:=q2
   have hgd:=zU (s:=s) i'
   have hlt:=tt (s.data.toList.drop i')
   rw[q3,←hgd] at hlt
   simp only[jZ,ja,jR,jS]
   cases r with
   |cons x r=>
    have:(gp s i':Int)<(s.size:Int):=by
     rcases Nat.lt_or_ge (gp s i') s.size with h|h
     ·omega
     ·rw[cZ] at h
      rw[List.drop_eq_nil_of_le h] at hlt
      simp[cY] at hlt
    simp[this,PR.ptr,PR.code]
   |nil=>
    have:¬(gp s i':Int)<(s.size:Int):=by
     intro h
     have h:gp s i'<s.data.toList.length:=by rw[←cZ];omega
     have h1:=(lex_nil _).1 hlt
     rw[hgd] at h1
     have h2:((s.data.toList.drop i').dropWhile sp).length=s.data.toList.length-gp s i':=by rw[←hgd];simp
     cases hq:(s.data.toList.drop i').dropWhile sp with
     |nil=>rw[hq] at h2;simp at h2;omega
     |cons x r=>
      have:=w9 hq
      rw[hq] at h1
      simp[sp] at h1
      exact this h1.1
    obtain ⟨p,h1,h2,h3,h4⟩:=pA _ _ _ _ _ hp
    have h5:t.sz≤400:=by
     have:=hlen.1
     rw[h1] at this
     simp at this
     omega
    have hdl:=t.pY
    have hdep:ao [t.enc]=some [.i (t.depth:Nat)]:=wj p8 t (by omega) (by simp only[big];omega)
    simp only[this,decide_false,jS,hdep,aa,jI,jC,C.I_i]
    by_cases hd:t.depth≤20
    ·have hd':¬(t.depth:Int)>20:=by omega
     simp only[hd',decide_false,jS,jV]
     simp[hd,PR.ptr,PR.code]
    ·have hd':(t.depth:Int)>20:=by omega
     simp only[hd',decide_true,jR,jV]
     simp[hd,PR.ptr,PR.code]
end Go.Ev
