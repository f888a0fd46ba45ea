/- Proved here: the law FnPilotSpareCard of the given program answers true at every input, and leaves the input as it was; no condition. This text: lemmas on the way (an evaluator of the program's code, sound once for all; the functions it prints; plain proofs on these). -/
import Derived.Test.YtephnkjnbnjicaaGreatDoorP2
set_option linter.all false
set_option autoImplicit false
set_option maxRecDepth 100000
namespace Go.Ev
open Go.Proofs
noncomputable section
def aM.d1 (a b c d e f g h i j k l m n o p q r s t u v w x y z a0 a1 a2 a3 a4 a5 a6:C):R:=(bif (decide (a.I<(a4.L.length:Int))) then (bif (decide (0≤a.I)) then (bif (decide (a.I<(a4.L.length:Int))) then (bif (Op.bytesLess (((a4.L.getD a.I.toNat []).getD 0 .nil).S).toList h.S.toList) then (some (.again [.i (w64 (a.I+1)),.l b.L,.l c.L,.l d.L,.l e.L,.l f.L,g,h,i,j,k,l,m,n,o,p,q,r,s,t,u,v,w,x,y,z,a0,.l a1.L,.l a2.L,.l a3.L,.l a4.L,.l a5.L,.l a6.L])) else (some (.brk 1 [a,.l b.L,.l c.L,.l d.L,.l e.L,.l f.L,g,h,i,j,k,l,m,n,o,p,q,r,s,t,u,v,w,x,y,z,a0,.l a1.L,.l a2.L,.l a3.L,.l a4.L,.l a5.L,.l a6.L]))) else none) else none) else (some (.brk 1 [a,.l b.L,.l c.L,.l d.L,.l e.L,.l f.L,g,h,i,j,k,l,m,n,o,p,q,r,s,t,u,v,w,x,y,z,a0,.l a1.L,.l a2.L,.l a3.L,.l a4.L,.l a5.L,.l a6.L])))
def aM.d2 (a b c d e f g h i j k l m n o p q r s t u v w x y z a0 a1 a2 a3 a4 a5 a6 a7:C):R:=(bif (decide (0≤a.I)) then (bif (decide (a.I≤(a2.L.length:Int))) then (bif (decide (af.length+((a2.L.take a.I.toNat).drop 0).length≤4294967296)) then (call7 (jN [i,j,k,l,m,.l f.L]) fun a8 a9 b0 b1 b2 b3 b4=>(bif (decide ((af++((a2.L.take a.I.toNat).drop 0)).length+(rows [[a8,a9,.l b4.L,b0,b1,b2]]).length≤4294967296)) then (bif (decide (((af++((a2.L.take a.I.toNat).drop 0))++(rows [[a8,a9,.l b4.L,b0,b1,b2]])).length+b.L.length≤4294967296)) then (some (.ret [a1,.b true,.l c.L,.l d.L,.l e.L,.l b3.L,.l g.L,.l (((af++((a2.L.take a.I.toNat).drop 0))++(rows [[a8,a9,.l b4.L,b0,b1,b2]]))++b.L),.l a6.L,.l a7.L])) else none) else none)) else none) else none) else none)
def aM.d3 (a b c d e f g h i j k l m n o p q r s t u v w x y z a0 a1 a2 a3 a4 a5 a6:C):R:=(bif (decide (0≤a.I)) then (bif (decide (a.I≤(a4.L.length:Int))) then (bif (decide ((a4.L.length:Int)≤(a4.L.length:Int))) then (bf (bif (decide ((((a4.L.take (a4.L.length:Int).toNat).drop a.I.toNat).length:Int)>0)) then (bif (decide (0<(((a4.L.take (a4.L.length:Int).toNat).drop a.I.toNat).length:Int))) then (bif ((((((a4.L.take (a4.L.length:Int).toNat).drop a.I.toNat).getD 0 []).getD 0 .nil).S).toList==h.S.toList) then (bif (decide (1≤(((a4.L.take (a4.L.length:Int).toNat).drop a.I.toNat).length:Int))) then (bif (decide ((((a4.L.take (a4.L.length:Int).toNat).drop a.I.toNat).length:Int)≤(((a4.L.take (a4.L.length:Int).toNat).drop a.I.toNat).length:Int))) then (some (.nrm [a,.l ((((a4.L.take (a4.L.length:Int).toNat).drop a.I.toNat).take (((a4.L.take (a4.L.length:Int).toNat).drop a.I.toNat).length:Int).toNat).drop 1),.l b.L,.l c.L,.l d.L,.l e.L,.l f.L,g,h,i,j,k,l,m,n,o,p,q,r,s,t,u,v,w,x,y,z,a0,.l a4.L,.l a1.L,.l a2.L,.l a3.L,.l a5.L,.l a6.L])) else none) else none) else (some (.nrm [a,.l ((a4.L.take (a4.L.length:Int).toNat).drop a.I.toNat),.l b.L,.l c.L,.l d.L,.l e.L,.l f.L,g,h,i,j,k,l,m,n,o,p,q,r,s,t,u,v,w,x,y,z,a0,.l a4.L,.l a1.L,.l a2.L,.l a3.L,.l a5.L,.l a6.L]))) else none) else (some (.nrm [a,.l ((a4.L.take (a4.L.length:Int).toNat).drop a.I.toNat),.l b.L,.l c.L,.l d.L,.l e.L,.l f.L,g,h,i,j,k,l,m,n,o,p,q,r,s,t,u,v,w,x,y,z,a0,.l a4.L,.l a1.L,.l a2.L,.l a3.L,.l a5.L,.l a6.L]))) (apn 34 aM.d2)) else none) else none) else none)
def aM.d4 (a b c d e f g h i j k l m n o p q r s t u v w x y z a0 a1 a2 a3 a4 a5 a6:C):R:=(bif (decide (a.I<(a6.L.length:Int))) then (bif (decide (0≤a.I)) then (bif (decide (a.I<(a6.L.length:Int))) then (bif ((((a6.L.getD a.I.toNat []).getD 11 .nil).S).toList==x.S.toList) then (bif (decide (0≤a.I)) then (bif (decide (a.I<(a6.L.length:Int))) then (some (.again [.i (w64 (a.I+1)),.l b.L,.l c.L,.l d.L,.l e.L,.l f.L,g,h,i,j,k,l,m,n,o,p,q,r,s,t,u,v,w,x,y,z,a0,.l a1.L,.l a2.L,.l a3.L,.l a4.L,.l a5.L,.l (a6.L.set a.I.toNat (aE (a6.L.getD a.I.toNat []) 11 [.s (bs #[])]))])) else none) else none) else (some (.again [.i (w64 (a.I+1)),.l b.L,.l c.L,.l d.L,.l e.L,.l f.L,g,h,i,j,k,l,m,n,o,p,q,r,s,t,u,v,w,x,y,z,a0,.l a1.L,.l a2.L,.l a3.L,.l a4.L,.l a5.L,.l a6.L]))) else none) else none) else (some (.brk 3 [.l b.L,.l c.L,.l d.L,.l e.L,.l f.L,z,a0,.l a1.L,.l a2.L,.l a3.L,.l a4.L,.l a5.L,.l a6.L])))
def aM.d5 (a b c d e f g h i j k l m:C):R:=(some (.ret [g,.b true,.l a.L,.l b.L,.l c.L,.l d.L,.l e.L,.l k.L,.l l.L,.l m.L]))
def aM.d6 (a b c d e f g h i j k l m n o p q r s t u v w x y z a0 a1 a2 a3 a4 a5 a6:C):R:=(bif (decide (a.I<(a6.L.length:Int))) then (bif (decide (0≤a.I)) then (bif (decide (a.I<(a6.L.length:Int))) then (bif (Op.bytesLess (((a6.L.getD a.I.toNat []).getD 0 .nil).S).toList m.S.toList) then (some (.again [.i (w64 (a.I+1)),.l b.L,.l c.L,.l d.L,.l e.L,.l f.L,g,h,i,j,k,l,m,n,o,p,q,r,s,t,u,v,w,x,y,z,a0,.l a1.L,.l a2.L,.l a3.L,.l a4.L,.l a5.L,.l a6.L])) else (some (.brk 5 [a,.l b.L,.l c.L,.l d.L,.l e.L,.l f.L,g,h,i,j,k,l,m,n,o,p,q,r,s,t,u,v,w,x,y,z,a0,.l a1.L,.l a2.L,.l a3.L,.l a4.L,.l a5.L,.l a6.L]))) else none) else none) else (some (.brk 5 [a,.l b.L,.l c.L,.l d.L,.l e.L,.l f.L,g,h,i,j,k,l,m,n,o,p,q,r,s,t,u,v,w,x,y,z,a0,.l a1.L,.l a2.L,.l a3.L,.l a4.L,.l a5.L,.l a6.L])))
def aM.d7 (a b c d e f g h i j k l m n o p q r s t u v w x y z a0 a1 a2 a3 a4 a5 a6 a7:C):R:=(bif (decide (0≤a.I)) then (bif (decide (a.I≤(a2.L.length:Int))) then (bif (decide (af.length+((a2.L.take a.I.toNat).drop 0).length≤4294967296)) then (call13 (fY [n,o,p,q,r,s,t,u,v,w,x,.l g.L]) fun a8 a9 b0 b1 b2 b3 b4 b5 b6 b7 b8 b9 c0=>(bif (decide ((af++((a2.L.take a.I.toNat).drop 0)).length+(rows [[a8,a9,b0,b1,b2,b3,b4,.l c0.L,b5,b6,b7,b8]]).length≤4294967296)) then (bif (decide (((af++((a2.L.take a.I.toNat).drop 0))++(rows [[a8,a9,b0,b1,b2,b3,b4,.l c0.L,b5,b6,b7,b8]])).length+b.L.length≤4294967296)) then (some (.ret [a1,.b true,.l c.L,.l d.L,.l e.L,.l f.L,.l b9.L,.l a6.L,.l a7.L,.l (((af++((a2.L.take a.I.toNat).drop 0))++(rows [[a8,a9,b0,b1,b2,b3,b4,.l c0.L,b5,b6,b7,b8]]))++b.L)])) else none) else none)) else none) else none) else none)
def aM.d8 (a b c d e f g h i j k l m n o p q r s t u v w x y z a0 a1 a2 a3 a4 a5 a6:C):R:=(bif (decide (0≤a.I)) then (bif (decide (a.I≤(a6.L.length:Int))) then (bif (decide ((a6.L.length:Int)≤(a6.L.length:Int))) then (bf (bif (decide ((((a6.L.take (a6.L.length:Int).toNat).drop a.I.toNat).length:Int)>0)) then (bif (decide (0<(((a6.L.take (a6.L.length:Int).toNat).drop a.I.toNat).length:Int))) then (bif ((((((a6.L.take (a6.L.length:Int).toNat).drop a.I.toNat).getD 0 []).getD 0 .nil).S).toList==m.S.toList) then (bif (decide (1≤(((a6.L.take (a6.L.length:Int).toNat).drop a.I.toNat).length:Int))) then (bif (decide ((((a6.L.take (a6.L.length:Int).toNat).drop a.I.toNat).length:Int)≤(((a6.L.take (a6.L.length:Int).toNat).drop a.I.toNat).length:Int))) then (some (.nrm [a,.l ((((a6.L.take (a6.L.length:Int).toNat).drop a.I.toNat).take (((a6.L.take (a6.L.length:Int).toNat).drop a.I.toNat).length:Int).toNat).drop 1),.l b.L,.l c.L,.l d.L,.l e.L,.l f.L,g,h,i,j,k,l,m,n,o,p,q,r,s,t,u,v,w,x,y,z,a0,.l a6.L,.l a1.L,.l a2.L,.l a3.L,.l a4.L,.l a5.L])) else none) else none) else (some (.nrm [a,.l ((a6.L.take (a6.L.length:Int).toNat).drop a.I.toNat),.l b.L,.l c.L,.l d.L,.l e.L,.l f.L,g,h,i,j,k,l,m,n,o,p,q,r,s,t,u,v,w,x,y,z,a0,.l a6.L,.l a1.L,.l a2.L,.l a3.L,.l a4.L,.l a5.L]))) else none) else (some (.nrm [a,.l ((a6.L.take (a6.L.length:Int).toNat).drop a.I.toNat),.l b.L,.l c.L,.l d.L,.l e.L,.l f.L,g,h,i,j,k,l,m,n,o,p,q,r,s,t,u,v,w,x,y,z,a0,.l a6.L,.l a1.L,.l a2.L,.l a3.L,.l a4.L,.l a5.L]))) (apn 34 aM.d7)) else none) else none) else none)
def aM.d9 (a b c d e f g h i j k l m n o p q r s t u v w x y:C):R:=(call7 (bQ [a,.l u.L,.l v.L,.l w.L]) fun z a0 a1 a2 a3 a4 a5=>(bif (b.I==1) then (ah 1 (lim (apn 33 aM.d1) [.i 0,.l a0.L,.l a1.L,.l a2.L,.l x.L,.l y.L,b,c,d,e,f,g,h,i,j,k,l,m,n,o,p,q,r,s,t,.b false,z,.l af,.l af,.l af,.l a3.L,.l a4.L,.l a5.L]) (apn 33 aM.d3)) else (bif (b.I==2) then (ad (cQ [z,.l a3.L,.l a4.L,.l a5.L,s]) fun a6=>(bif (decide (a6.I<0)) then (some (.ret [z,.b false,.l a0.L,.l a1.L,.l a2.L,.l x.L,.l y.L,.l a3.L,.l a4.L,.l a5.L])) else (bif (decide (0≤a6.I)) then (bif (decide (a6.I≤(a3.L.length:Int))) then (bif (decide (af.length+((a3.L.take a6.I.toNat).drop 0).length≤4294967296)) then (bif (decide (0≤(w64 (a6.I+1)))) then (bif (decide ((w64 (a6.I+1))≤(a3.L.length:Int))) then (bif (decide ((a3.L.length:Int)≤(a3.L.length:Int))) then (bif (decide ((af++((a3.L.take a6.I.toNat).drop 0)).length+((a3.L.take (a3.L.length:Int).toNat).drop (w64 (a6.I+1)).toNat).length≤4294967296)) then (ah 3 (lim (apn 33 aM.d4) [.i 0,.l a0.L,.l a1.L,.l a2.L,.l x.L,.l y.L,b,c,d,e,f,g,h,i,j,k,l,m,n,o,p,q,r,s,t,.b false,z,.l af,.l af,.l af,.l ((af++((a3.L.take a6.I.toNat).drop 0))++((a3.L.take (a3.L.length:Int).toNat).drop (w64 (a6.I+1)).toNat)),.l a4.L,.l a5.L]) (apn 13 aM.d5)) else none) else none) else none) else none) else none) else none) else none))) else (bif (b.I==3) then (ah 5 (lim (apn 33 aM.d6) [.i 0,.l a0.L,.l a1.L,.l a2.L,.l x.L,.l y.L,b,c,d,e,f,g,h,i,j,k,l,m,n,o,p,q,r,s,t,.b false,z,.l af,.l af,.l af,.l a3.L,.l a4.L,.l a5.L]) (apn 33 aM.d8)) else (bif (b.I==4) then (ad (cY [z,.l a3.L,.l a4.L,.l a5.L,s]) fun a7=>(bif (decide (a7.I<0)) then (some (.ret [z,.b false,.l a0.L,.l a1.L,.l a2.L,.l x.L,.l y.L,.l a3.L,.l a4.L,.l a5.L])) else (bif (decide (0≤a7.I)) then (bif (decide (a7.I≤(a5.L.length:Int))) then (bif (decide (af.length+((a5.L.take a7.I.toNat).drop 0).length≤4294967296)) then (bif (decide (0≤(w64 (a7.I+1)))) then (bif (decide ((w64 (a7.I+1))≤(a5.L.length:Int))) then (bif (decide ((a5.L.length:Int)≤(a5.L.length:Int))) then (bif (decide ((af++((a5.L.take a7.I.toNat).drop 0)).length+((a5.L.take (a5.L.length:Int).toNat).drop (w64 (a7.I+1)).toNat).length≤4294967296)) then (some (.ret [z,.b true,.l a0.L,.l a1.L,.l a2.L,.l x.L,.l y.L,.l a3.L,.l a4.L,.l ((af++((a5.L.take a7.I.toNat).drop 0))++((a5.L.take (a5.L.length:Int).toNat).drop (w64 (a7.I+1)).toNat))])) else none) else none) else none) else none) else none) else none) else none))) else (bif (b.I==5) then (ad (cY [z,.l a3.L,.l a4.L,.l a5.L,s]) fun a8=>(bif (!(decide (a8.I<0))) then (bif (!(t.S.toList==(bs #[]).toList)) then (ad (cQ [z,.l a3.L,.l a4.L,.l a5.L,t]) fun a9=>(bif (decide (a9.I<0)) then (some (.ret [z,.b false,.l a0.L,.l a1.L,.l a2.L,.l x.L,.l y.L,.l a3.L,.l a4.L,.l a5.L])) else (bif (decide (0≤a8.I)) then (bif (decide (a8.I<(a5.L.length:Int))) then (some (.ret [z,.b true,.l a0.L,.l a1.L,.l a2.L,.l x.L,.l y.L,.l a3.L,.l a4.L,.l (a5.L.set a8.I.toNat (aE (a5.L.getD a8.I.toNat []) 11 [t]))])) else none) else none))) else (bif (decide (0≤a8.I)) then (bif (decide (a8.I<(a5.L.length:Int))) then (some (.ret [z,.b true,.l a0.L,.l a1.L,.l a2.L,.l x.L,.l y.L,.l a3.L,.l a4.L,.l (a5.L.set a8.I.toNat (aE (a5.L.getD a8.I.toNat []) 11 [t]))])) else none) else none)) else (some (.ret [z,.b false,.l a0.L,.l a1.L,.l a2.L,.l x.L,.l y.L,.l a3.L,.l a4.L,.l a5.L])))) else (some (.ret [z,.b true,.l a0.L,.l a1.L,.l a2.L,.l x.L,.l y.L,.l a3.L,.l a4.L,.l a5.L]))))))))
def aM:List C→Option (List C):=fun xs=>aY (apn 25 aM.d9 xs)
def lV:FS:=⟨2,⟨[(0,(.ag [zo,(.ow 2000),(.ow 2001),(.ow 2002)])),(1,z19)],[(2000,.arr 72),(2001,.arr 40 1),(2002,.arr 38),(2003,.arr 9 1),(2004,.arr 100 1)]⟩,⟨[(0,(.tu [(.ag [zo,(.ow 3005),(.ow 3006),(.ow 3007)]),zo]))],[(2000,.arr 72),(2001,.arr 40 1),(2002,.arr 38),(2003,.arr 9 1),(2004,.arr 100 1),(3005,.arr 72),(3006,.arr 40 1),(3007,.arr 38)]⟩,[2000,2001,2002,2003,2004],aM⟩
theorem xI:aD Tryz.checked.prog T0 131 lV:=ry aC [68,165] false (fn:=Tryz.f131) (c:=Tryz.f131.body.getD .skip) lV (.seq .leaf (.seq .leaf (.seq (.seq .leaf (.skip (.seq .leaf (.cond (.seq .leaf (.seq (.block ⟨[(3,(.pt 3 0)),(4,(.pt 4 0)),(6,(.pt 6 0)),(7,zi)],[(2000,.arr 72),(2001,.arr 40 1),(2002,.arr 38),(2003,.arr 9 1),(2004,.arr 100 1),(3,z6),(4,.var 27 [zo,(.ow 1150100),(.ow 1150101),(.ow 1150102)]),(6,.var 27 [zo,(.ow 72635),(.ow 72636),(.ow 72637)]),(1150100,.arr 72 1),(1150101,.arr 40 1),(1150102,.arr 38 1),(72635,.arr 72 1),(72636,.arr 40 1),(72637,.arr 38 1)]⟩ (.loop ⟨[(3,(.pt 3 0)),(4,(.pt 4 0)),(6,(.pt 6 0)),(7,zi)],[(2000,.arr 72),(2001,.arr 40 1),(2002,.arr 38),(2003,.arr 9 1),(2004,.arr 100 1),(3,z6),(4,.var 27 [zo,(.ow 1150100),(.ow 1150101),(.ow 1150102)]),(6,.var 27 [zo,(.ow 72635),(.ow 72636),(.ow 72637)]),(1150100,.arr 72 1),(1150101,.arr 40 1),(1150102,.arr 38 1),(72635,.arr 72 1),(72636,.arr 40 1),(72637,.arr 38 1)]⟩ .leaf)) (.seq .leaf (.seq (.join ⟨[(3,(.pt 3 0)),(4,(.pt 4 0)),(6,(.pt 6 0)),(7,zi),(8,(zl 72))],[(2000,.arr 72),(2001,.arr 40 1),(2002,.arr 38),(2003,.arr 9 1),(2004,.arr 100 1),(3,z6),(4,.var 27 [zo,(.ow 1150100),(.ow 1150101),(.ow 1150102)]),(6,.var 27 [zo,(zl 72),(.ow 72636),(.ow 72637)]),(1150100,.arr 72 1),(1150101,.arr 40 1),(1150102,.arr 38 1),(72636,.arr 40 1),(72637,.arr 38 1)]⟩ (.frz [72635] .leaf)) .leaf)))) (.seq .leaf (.cond (.seq .leaf (.seq .leaf (.seq .leaf (.seq .leaf (.block ⟨[(4,(.pt 4 0)),(6,(.pt 6 0))],[(2000,.arr 72),(2001,.arr 40 1),(2002,.arr 38),(2003,.arr 9 1),(2004,.arr 100 1),(4,.var 27 [zo,(.ow 1153700),(.ow 1153701),(.ow 1153702)]),(6,.var 27 [zo,(.ow 82),(.ow 72636),(.ow 72637)]),(1153700,.arr 72 1),(1153701,.arr 40 1),(1153702,.arr 38 1),(82,.arr 72),(72636,.arr 40 1),(72637,.arr 38 1)]⟩ (.loop ⟨[(3,(.pt 3 0)),(4,(.pt 4 0)),(6,(.pt 6 0)),(10,zi)],[(2000,.arr 72),(2001,.arr 40 1),(2002,.arr 38),(2003,.arr 9 1),(2004,.arr 100 1),(3,z6),(4,.var 27 [zo,(.ow 1153700),(.ow 1153701),(.ow 1153702)]),(6,.var 27 [zo,(.ow 82),(.ow 72636),(.ow 72637)]),(1153700,.arr 72 1),(1153701,.arr 40 1),(1153702,.arr 38 1),(82,.arr 72),(72636,.arr 40 1),(72637,.arr 38 1)]⟩ .leaf)))))) (.seq .leaf (.cond (.seq .leaf (.seq (.block ⟨[(3,(.pt 3 0)),(4,(.pt 4 0)),(6,(.pt 6 0)),(11,zi)],[(2000,.arr 72),(2001,.arr 40 1),(2002,.arr 38),(2003,.arr 9 1),(2004,.arr 100 1),(3,z6),(4,.var 27 [zo,(.ow 1155900),(.ow 1155901),(.ow 1155902)]),(6,.var 27 [zo,(.ow 72635),(.ow 72636),(.ow 72637)]),(1155900,.arr 72 1),(1155901,.arr 40 1),(1155902,.arr 38 1),(72635,.arr 72 1),(72636,.arr 40 1),(72637,.arr 38 1)]⟩ (.loop ⟨[(3,(.pt 3 0)),(4,(.pt 4 0)),(6,(.pt 6 0)),(11,zi)],[(2000,.arr 72),(2001,.arr 40 1),(2002,.arr 38),(2003,.arr 9 1),(2004,.arr 100 1),(3,z6),(4,.var 27 [zo,(.ow 1155900),(.ow 1155901),(.ow 1155902)]),(6,.var 27 [zo,(.ow 72635),(.ow 72636),(.ow 72637)]),(1155900,.arr 72 1),(1155901,.arr 40 1),(1155902,.arr 38 1),(72635,.arr 72 1),(72636,.arr 40 1),(72637,.arr 38 1)]⟩ .leaf)) (.seq .leaf (.seq (.join ⟨[(3,(.pt 3 0)),(4,(.pt 4 0)),(6,(.pt 6 0)),(11,zi),(12,(zl 38))],[(2000,.arr 72),(2001,.arr 40 1),(2002,.arr 38),(2003,.arr 9 1),(2004,.arr 100 1),(3,z6),(4,.var 27 [zo,(.ow 1155900),(.ow 1155901),(.ow 1155902)]),(6,.var 27 [zo,(.ow 72635),(.ow 72636),(zl 38)]),(1155900,.arr 72 1),(1155901,.arr 40 1),(1155902,.arr 38 1),(72635,.arr 72 1),(72636,.arr 40 1)]⟩ (.frz [72637] .leaf)) .leaf)))) .leaf)))))))) .leaf))) [(36,some 175,eh),(36,some 197,eh),(37,some 78,fh),(37,some 208,fh),(76,some 16,lS),(104,some 67,jv),(105,some 164,ke)] (.cons eT (.cons eT (.cons gH (.cons gH (.cons wK (.cons sA (.cons tG .nil))))))) (by kernel_rfl) (by kernel_rfl) (by kernel_rfl) (fun xs=>by kernel_rfl)
def bS.d1 (a b c d e f g h i j k l m n o p q r s t u v w x y z a0 a1 a2 a3 a4 a5 a6:C):R:=(bif (!a.B) then (some (.ret [.b false,.i 3,.l b.L,.l c.L,.l d.L,.l e.L,.l f.L,.l af,.l af,.l af])) else (ad (gG [g,.i 1,.i 5]) fun a7=>(bif (!a7.B) then (some (.ret [.b false,.i 4,.l b.L,.l c.L,.l d.L,.l e.L,.l f.L,.l af,.l af,.l af])) else (some (.ret [a0,.i 0,.l b.L,.l c.L,.l d.L,.l e.L,.l f.L,.l a4.L,.l a5.L,.l a6.L])))))
def bS.d2 (a b c d e f g h i j k l m n o p q r s t u v w x y:C):R:=(ad (ay [a,.l u.L,.l v.L,.l w.L]) fun z=>(bif (!z.B) then (some (.ret [.b false,.i 1,.l u.L,.l v.L,.l w.L,.l x.L,.l y.L,.l af,.l af,.l af])) else (call10 (aM [a,b,c,d,e,f,g,h,i,j,k,l,m,n,o,p,q,r,s,t,.l u.L,.l v.L,.l w.L,.l x.L,.l y.L]) fun a0 a1 a2 a3 a4 a5 a6 a7 a8 a9=>(bf (bif a1.B then (ad (ay [a0,.l a7.L,.l a8.L,.l a9.L]) fun b0=>(bif (!b0.B) then (some (.ret [.b false,.i 2,.l a2.L,.l a3.L,.l a4.L,.l a5.L,.l a6.L,.l af,.l af,.l af])) else (some (.nrm [.b a1.B,.l a2.L,.l a3.L,.l a4.L,.l a5.L,.l a6.L,b,c,d,e,f,g,h,i,j,k,l,m,n,o,p,q,r,s,t,.b false,a0,.l af,.l af,.l af,.l a7.L,.l a8.L,.l a9.L])))) else (some (.nrm [.b a1.B,.l a2.L,.l a3.L,.l a4.L,.l a5.L,.l a6.L,b,c,d,e,f,g,h,i,j,k,l,m,n,o,p,q,r,s,t,.b false,a0,.l af,.l af,.l af,.l a7.L,.l a8.L,.l a9.L]))) (apn 33 bS.d1)))))
def bS:List C→Option (List C):=fun xs=>aY (apn 25 bS.d2 xs)
def fy:FS:=⟨2,⟨[(0,(.ag [zo,(.ow 2000),(.ow 2001),(.ow 2002)])),(1,z19)],[(2000,.arr 72),(2001,.arr 40 1),(2002,.arr 38),(2003,.arr 9 1),(2004,.arr 100 1)]⟩,⟨[(0,(.tu [(.ag [zo,(.ow 3005),(.ow 3006),(.ow 3007)]),zi]))],[(2000,.arr 72),(2001,.arr 40 1),(2002,.arr 38),(2003,.arr 9 1),(2004,.arr 100 1),(3005,.arr 72),(3006,.arr 40 1),(3007,.arr 38)]⟩,[2000,2001,2002,2003,2004],bS⟩
theorem iZ:aD Tryz.checked.prog T0 93 fy:=br aC (fn:=Tryz.f93) (c:=Tryz.f93.body.getD .skip) fy (.seq .leaf (.seq .leaf (.seq .leaf (.seq (.join ⟨[(3,(.pt 3 0)),(4,(.pt 4 0)),(6,(.pt 6 0)),(7,zo)],[(2000,.arr 72),(2001,.arr 40 1),(2002,.arr 38),(2003,.arr 9 1),(2004,.arr 100 1),(3,z6),(4,.var 27 [zo,(.ow 1088900),(.ow 1088901),(.ow 1088902)]),(6,.var 27 [zo,(.ow 68541),(.ow 68542),(.ow 68543)]),(1088900,.arr 72 1),(1088901,.arr 40 1),(1088902,.arr 38 1),(68541,.arr 72),(68542,.arr 40 1),(68543,.arr 38)]⟩ .leaf) .leaf)))) [(38,some 9,eW),(38,some 21,eW),(70,some 30,eV),(131,some 15,lV)] (.cons gO (.cons gO (.cons fK (.cons xI .nil)))) (by kernel_rfl) (by kernel_rfl) (by kernel_rfl) (fun xs=>by kernel_rfl)
def j4.d1 (a b c d e f:C):R:=(bif (decide (af.length+c.L.length≤4294967296)) then (bif (decide ((bs #[122,111,110,101,61]).size+b.S.size≤4294967296)) then (bif (decide ((af++c.L).length+(rows [[.s ((bs #[122,111,110,101,61])++b.S)]]).length≤4294967296)) then (some (.ret [.l ((af++c.L)++(rows [[.s ((bs #[122,111,110,101,61])++b.S)]]))])) else none) else none) else none)
def j4:List C→Option (List C):=fun xs=>aY (apn 6 j4.d1 xs)
def o9:FS:=⟨1,⟨[(0,z7)],[]⟩,⟨[(0,(.ow 3000))],[(3000,.arr 9 1)]⟩,[],j4⟩
theorem Ak:aD Tryz.checked.prog T0 108 o9:=br aC (fn:=Tryz.f108) (c:=Tryz.f108.body.getD .skip) o9 .leaf [] .nil (by kernel_rfl) (by kernel_rfl) (by kernel_rfl) (fun xs=>by kernel_rfl)
def bj.d1 (G0:List C→Option (List C)) (a b c d e f g:C):R:=(bif c.B then (some (.ret [.b true])) else (some (.again [a,.i (w64 (b.I+1)),d,e,f,g])))
def bj.d2 (G0:List C→Option (List C)) (a b c d e f:C):R:=(bif (decide (b.I<(a.L.length:Int))) then (bif (decide (0≤b.I)) then (bif (decide (b.I<(a.L.length:Int))) then (call3 (dU [((a.L.getD b.I.toNat []).getD 0 .nil)]) fun g h i=>(bf (bif i.B then (bif (g.S.toList==d.S.toList) then (bif (!(c.I==1)) then (some (.nrm [a,b,.b (h.S.toList==e.S.toList),c,d,e,f])) else (some (.nrm [a,b,.b true,c,d,e,f]))) else (some (.nrm [a,b,.b false,c,d,e,f]))) else (some (.nrm [a,b,.b false,c,d,e,f]))) (apn 7 (bj.d1 G0)))) else none) else none) else (some (.brk 1 [])))
def bj.d3 (G0:List C→Option (List C)):R:=(some (.ret [.b false]))
def bj.d4 (G0:List C→Option (List C)) (a b c d:C):R:=(bif (decide (0≤c.I)) then (bif (decide (c.I<(a.L.length:Int))) then (bif (((a.L.getD c.I.toNat []).getD 0 .nil).I==0) then (some (.ret [.b true])) else (bif (((a.L.getD c.I.toNat []).getD 0 .nil).I==3) then (bif (decide (0≤c.I)) then (bif (decide (c.I<(b.L.length:Int))) then (bif (decide (0<((((b.L.getD c.I.toNat []).getD 0 .nil).L).length:Int))) then (ad (G0 [a,b,(((((b.L.getD c.I.toNat []).getD 0 .nil).L).getD 0 []).getD 0 .nil),d]) fun e=>(some (.ret [.b (!e.B)]))) else none) else none) else none) else (bif (((a.L.getD c.I.toNat []).getD 0 .nil).I==4) then (bif (decide (0≤c.I)) then (bif (decide (c.I<(b.L.length:Int))) then (bif (decide (0<((((b.L.getD c.I.toNat []).getD 0 .nil).L).length:Int))) then (ad (G0 [a,b,(((((b.L.getD c.I.toNat []).getD 0 .nil).L).getD 0 []).getD 0 .nil),d]) fun f=>(bif f.B then (bif (decide (0≤c.I)) then (bif (decide (c.I<(b.L.length:Int))) then (bif (decide (1<((((b.L.getD c.I.toNat []).getD 0 .nil).L).length:Int))) then (ad (G0 [a,b,(((((b.L.getD c.I.toNat []).getD 0 .nil).L).getD 1 []).getD 0 .nil),d]) fun g=>(some (.ret [.b g.B]))) else none) else none) else none) else (some (.ret [.b false])))) else none) else none) else none) else (bif (((a.L.getD c.I.toNat []).getD 0 .nil).I==5) then (bif (decide (0≤c.I)) then (bif (decide (c.I<(b.L.length:Int))) then (bif (decide (0<((((b.L.getD c.I.toNat []).getD 0 .nil).L).length:Int))) then (ad (G0 [a,b,(((((b.L.getD c.I.toNat []).getD 0 .nil).L).getD 0 []).getD 0 .nil),d]) fun h=>(bif (!h.B) then (bif (decide (0≤c.I)) then (bif (decide (c.I<(b.L.length:Int))) then (bif (decide (1<((((b.L.getD c.I.toNat []).getD 0 .nil).L).length:Int))) then (ad (G0 [a,b,(((((b.L.getD c.I.toNat []).getD 0 .nil).L).getD 1 []).getD 0 .nil),d]) fun i=>(some (.ret [.b i.B]))) else none) else none) else none) else (some (.ret [.b true])))) else none) else none) else none) else (ah 1 (lim (apn 6 (bj.d2 G0)) [d,.i 0,((a.L.getD c.I.toNat []).getD 0 .nil),((a.L.getD c.I.toNat []).getD 1 .nil),((a.L.getD c.I.toNat []).getD 2 .nil),((a.L.getD c.I.toNat []).getD 3 .nil)]) (fun xs=>(bj.d3 G0))))))) else none) else none)
def bj.step (G0:List C→Option (List C)):List C→Option (List C):=fun xs=>aY (apn 4 (bj.d4 G0) xs)
def eo (G:List C→Option (List C)):FS:=⟨4,⟨[(0,(.ag [(.d (.sl 170))])),(1,(.d (.sl 55))),(2,(.d (.int .i64))),(3,(.d (.sl 9)))],[]⟩,⟨[(0,(.d .bool))],[]⟩,[],G⟩
theorem Ab {G0:List C→Option (List C)} (h0:aD Tryz.checked.prog T0 140 (eo G0)):aD Tryz.checked.prog T0 140 (eo (bj.step G0)):=br aC (fn:=Tryz.f140) (c:=Tryz.f140.body.getD .skip) (eo (bj.step G0)) (.seq .leaf (.seq .leaf (.seq .leaf (.seq (.seq .leaf (.block ⟨[],[]⟩ (.loop ⟨[(3,(.d (.sl 9))),(9,(.pt 9 0)),(10,(.d (.int .i64)))],[(9,.var 170 [(.d (.int .i64)),(.d .str),(.d .str),(.d (.int .i64))])]⟩ (.seq .leaf (.seq (.skip (.seq .leaf (.seq (.join ⟨[(3,(.d (.sl 9))),(9,(.pt 9 0)),(10,(.d (.int .i64))),(116,(.d .bool))],[(9,.var 170 [(.d (.int .i64)),(.d .str),(.d .str),(.d (.int .i64))])]⟩ .leaf) .leaf))) .leaf))))) .leaf)))) [(135,some 95,kW),(140,some 34,(eo G0)),(140,some 47,(eo G0)),(140,some 58,(eo G0)),(140,some 71,(eo G0)),(140,some 82,(eo G0))] (.cons qf (.cons h0 (.cons h0 (.cons h0 (.cons h0 (.cons h0 .nil)))))) (by kernel_rfl) (by kernel_rfl) (by kernel_rfl) (fun xs=>by kernel_rfl)
def bj.g:Nat→Nat→List C→Option (List C)
 |0,_=>fun _=>none
 |k+1,0=>bj.step (bj.g k 0)
 |_,_=>fun _=>none
theorem rA:∀k:Nat,aD Tryz.checked.prog T0 140 (eo (bj.g k 0))
 |0=>kr (fn:=Tryz.f140) (c:=Tryz.f140.body.getD .skip) (4) (⟨[(0,(.ag [(.d (.sl 170))])),(1,(.d (.sl 55))),(2,(.d (.int .i64))),(3,(.d (.sl 9)))],[]⟩) (⟨[(0,(.d .bool))],[]⟩) [] (by kernel_rfl) (by kernel_rfl) (by kernel_rfl)
 |k+1=>Ab (rA k)
def bj:List C→Option (List C):=bj.g iD 0
theorem zZ:aD Tryz.checked.prog T0 140 (eo bj):=rA iD
def gB.d1 (a b:C):R:=(ad (fL [a]) fun c=>(bif (!c.B) then (some (.ret [.b false])) else (call2 (dV [a]) fun d e=>(ad (bj [a,.l e.L,.i (w64 ((a.L.length:Int)-1)),b]) fun f=>(some (.ret [.b f.B]))))))
def gB:List C→Option (List C):=fun xs=>aY (apn 2 gB.d1 xs)
def kZ:FS:=⟨2,⟨[(0,(.ag [(zl 170)])),(1,(zl 9))],[]⟩,⟨[(0,zo)],[]⟩,[],gB⟩
theorem vI:aD Tryz.checked.prog T0 107 kZ:=br aC (fn:=Tryz.f107) (c:=Tryz.f107.body.getD .skip) kZ .leaf [(138,some 8,jy),(139,some 12,jf),(140,some 22,(eo bj))] (.cons oJ (.cons mR (.cons zZ .nil))) (by kernel_rfl) (by kernel_rfl) (by kernel_rfl) (fun xs=>by kernel_rfl)
def ib.d1 (a b c d e f g:C):R:=(call2 (fP [a]) fun h i=>(bif (i.I==0) then (ad (j4 [b,c,d,e,f,g]) fun j=>(ad (gB [h,.l j.L]) fun k=>(some (.ret [.b k.B])))) else (some (.ret [.b false]))))
def ib:List C→Option (List C):=fun xs=>aY (apn 7 ib.d1 xs)
def kx:FS:=⟨2,⟨[(0,zt),(1,z7)],[]⟩,⟨[(0,zo)],[]⟩,[],ib⟩
theorem rF:aD Tryz.checked.prog T0 77 kx:=br aC (fn:=Tryz.f77) (c:=Tryz.f77.body.getD .skip) kx .leaf [(106,some 9,iU),(107,some 18,kZ),(108,some 17,o9)] (.cons pv (.cons vI (.cons Ak .nil))) (by kernel_rfl) (by kernel_rfl) (by kernel_rfl) (fun xs=>by kernel_rfl)
def gA.d1 (a b c d e:C):R:=(ad (cQ [a,b,c,d,e]) fun f=>(bif (decide (f.I<0)) then (some (.ret [.s (bs #[])])) else (bif (decide (0≤f.I)) then (bif (decide (f.I<(b.L.length:Int))) then (some (.ret [((b.L.getD f.I.toNat []).getD 1 .nil)])) else none) else none)))
def gA:List C→Option (List C):=fun xs=>aY (apn 5 gA.d1 xs)
def iM:FS:=⟨2,⟨[(0,z2),(1,zt)],[]⟩,⟨[(0,zt)],[]⟩,[],gA⟩
theorem nd:aD Tryz.checked.prog T0 109 iM:=br aC (fn:=Tryz.f109) (c:=Tryz.f109.body.getD .skip) iM .leaf [(37,some 8,fh)] (.cons gH .nil) (by kernel_rfl) (by kernel_rfl) (by kernel_rfl) (fun xs=>by kernel_rfl)
def bq.d1 (a b c d e f g h i j k l m n o p q r s t u v w x y z a0 a1 a2 a3 a4 a5 a6 a7 a8:C):R:=(ad (gA [b,c,d,e,a8]) fun a9=>(bif (a9.S.toList==s.S.toList) then (bif (!(a5.I==2)) then (bif (n.I==2) then (some (.ret [.b true])) else (some (.brk 1 [a,b,c,d,e,f,g,h,i,j,k,l,m,n,o,p,q,r,s,t,u,v,w]))) else (some (.ret [.b true]))) else (some (.brk 1 [a,b,c,d,e,f,g,h,i,j,k,l,m,n,o,p,q,r,s,t,u,v,w]))))
def bq.d2 (a b c d e f g h i j k l m n o p q r s t u v w:C):R:=(some (.again [.i (w64 (a.I+1)),b,c,d,e,f,g,h,i,j,k,l,m,n,o,p,q,r,s,t,u,v,w]))
def bq.d3 (a b c d e f g h i j k l m n o p q r s t u v w:C):R:=(bif (decide (a.I<(e.L.length:Int))) then (ah 1 (bif (decide (0≤a.I)) then (bif (decide (a.I<(e.L.length:Int))) then (bif (!((((e.L.getD a.I.toNat []).getD 0 .nil).S).toList==f.S.toList)) then (bif (!(!((((e.L.getD a.I.toNat []).getD 1 .nil).S).toList==g.S.toList))) then (bif ((((e.L.getD a.I.toNat []).getD 11 .nil).S).toList==(bs #[]).toList) then (some (.brk 1 [a,b,c,d,e,f,g,h,i,j,k,l,m,n,o,p,q,r,s,t,u,v,w])) else (bf (bif ((((e.L.getD a.I.toNat []).getD 11 .nil).S).toList==r.S.toList) then (bif (!(((e.L.getD a.I.toNat []).getD 8 .nil).I !=0)) then (bif (n.I !=0) then (some (.ret [.b true])) else (some (.nrm [a,b,c,d,e,f,g,h,i,j,k,l,m,n,o,p,q,r,s,t,u,v,w,((e.L.getD a.I.toNat []).getD 0 .nil),((e.L.getD a.I.toNat []).getD 1 .nil),((e.L.getD a.I.toNat []).getD 2 .nil),((e.L.getD a.I.toNat []).getD 3 .nil),((e.L.getD a.I.toNat []).getD 4 .nil),((e.L.getD a.I.toNat []).getD 5 .nil),((e.L.getD a.I.toNat []).getD 6 .nil),((e.L.getD a.I.toNat []).getD 7 .nil),((e.L.getD a.I.toNat []).getD 8 .nil),((e.L.getD a.I.toNat []).getD 9 .nil),((e.L.getD a.I.toNat []).getD 10 .nil),((e.L.getD a.I.toNat []).getD 11 .nil)]))) else (some (.ret [.b true]))) else (some (.nrm [a,b,c,d,e,f,g,h,i,j,k,l,m,n,o,p,q,r,s,t,u,v,w,((e.L.getD a.I.toNat []).getD 0 .nil),((e.L.getD a.I.toNat []).getD 1 .nil),((e.L.getD a.I.toNat []).getD 2 .nil),((e.L.getD a.I.toNat []).getD 3 .nil),((e.L.getD a.I.toNat []).getD 4 .nil),((e.L.getD a.I.toNat []).getD 5 .nil),((e.L.getD a.I.toNat []).getD 6 .nil),((e.L.getD a.I.toNat []).getD 7 .nil),((e.L.getD a.I.toNat []).getD 8 .nil),((e.L.getD a.I.toNat []).getD 9 .nil),((e.L.getD a.I.toNat []).getD 10 .nil),((e.L.getD a.I.toNat []).getD 11 .nil)]))) (apn 35 bq.d1))) else (some (.brk 1 [a,b,c,d,e,f,g,h,i,j,k,l,m,n,o,p,q,r,s,t,u,v,w]))) else (some (.brk 1 [a,b,c,d,e,f,g,h,i,j,k,l,m,n,o,p,q,r,s,t,u,v,w]))) else none) else none) (apn 23 bq.d2)) else (some (.brk 0 [])))
def bq.d4:R:=(some (.ret [.b false]))
def bq.d5 (a b c d e f g h i j k l m n o p q r s t u v:C):R:=(ah 0 (lim (apn 23 bq.d3) [.i 0,a,b,c,d,e,f,g,h,i,j,k,l,m,n,o,p,q,r,s,t,u,v]) (fun xs=>bq.d4))
def bq:List C→Option (List C):=fun xs=>aY (apn 22 bq.d5 xs)
def ll:FS:=⟨3,⟨[(0,z2),(1,z5),(2,z7)],[]⟩,⟨[(0,zo)],[]⟩,[],bq⟩
theorem vP:aD Tryz.checked.prog T0 78 ll:=br aC (fn:=Tryz.f78) (c:=Tryz.f78.body.getD .skip) ll (.seq .leaf (.seq (.seq .leaf (.block ⟨[],[]⟩ (.loop ⟨[(3,(.pt 3 0)),(4,(.pt 4 0)),(5,(.pt 5 0)),(7,zi)],[(3,z0),(4,z1),(5,z4)]⟩ (.seq .leaf (.seq (.block ⟨[(3,(.pt 3 0)),(4,(.pt 4 0)),(5,(.pt 5 0)),(7,zi)],[(3,z0),(4,z1),(5,z4)]⟩ (.seq .leaf (.seq .leaf (.seq (.join ⟨[(3,(.pt 3 0)),(4,(.pt 4 0)),(5,(.pt 5 0)),(7,zi),(8,(.pt 8 0))],[(3,z0),(4,z1),(5,z4),(8,z1)]⟩ .leaf) .leaf)))) .leaf))))) .leaf)) [(109,some 56,iM)] (.cons nd .nil) (by kernel_rfl) (by kernel_rfl) (by kernel_rfl) (fun xs=>by kernel_rfl)
def eK.d1 (a b c d e f g h i j k l m n o p q r s t u v w x:C):R:=(some (.again [a,.i (w64 (b.I+1)),c,d,e,f,g,h,i,j,k,l,m,n,o,p,q,r,s,t,u,v,w,x]))
def eK.d2 (a b c d e f g h i j k l m n o p q r s t u v w x:C):R:=(bif (decide (b.I<(f.L.length:Int))) then (ah 1 (bif (decide (0≤b.I)) then (bif (decide (b.I<(f.L.length:Int))) then (bif (!((((f.L.getD b.I.toNat []).getD 0 .nil).S).toList==g.S.toList)) then (bif (!(!((((f.L.getD b.I.toNat []).getD 1 .nil).S).toList==p.S.toList))) then (bif ((((f.L.getD b.I.toNat []).getD 11 .nil).S).toList==(bs #[]).toList) then (some (.brk 1 [a,b,c,d,e,f,g,h,i,j,k,l,m,n,o,p,q,r,s,t,u,v,w,x])) else (ad (gA [c,d,e,f,((f.L.getD b.I.toNat []).getD 11 .nil)]) fun y=>(bif (y.S.toList==t.S.toList) then (some (.ret [.b false])) else (some (.brk 1 [.b true,b,c,d,e,f,g,h,i,j,k,l,m,n,o,p,q,r,s,t,u,v,w,x]))))) else (some (.brk 1 [a,b,c,d,e,f,g,h,i,j,k,l,m,n,o,p,q,r,s,t,u,v,w,x]))) else (some (.brk 1 [a,b,c,d,e,f,g,h,i,j,k,l,m,n,o,p,q,r,s,t,u,v,w,x]))) else none) else none) (apn 24 eK.d1)) else (some (.brk 0 [a,g,h,i,j,k,l,m,n,o,p,q,r])))
def eK.d3 (a b c d e f g h i j k l m:C):R:=(bif (!a.B) then (some (.ret [.b (!(k.S.toList==c.S.toList))])) else (some (.ret [.b true])))
def eK.d4 (a b c d e f g h i j k l m n o p q r s t u v:C):R:=(bif (n.S.toList==(bs #[]).toList) then (some (.ret [.b false])) else (ah 0 (lim (apn 24 eK.d2) [.b false,.i 0,a,b,c,d,e,f,g,h,i,j,k,l,m,n,o,p,q,r,s,t,u,v]) (apn 13 eK.d3)))
def eK:List C→Option (List C):=fun xs=>aY (apn 22 eK.d4 xs)
def rL:FS:=⟨3,⟨[(0,z2),(1,z5),(2,z7)],[]⟩,⟨[(0,zo)],[]⟩,[],eK⟩
theorem Dz:aD Tryz.checked.prog T0 79 rL:=br aC (fn:=Tryz.f79) (c:=Tryz.f79.body.getD .skip) rL (.seq .leaf (.seq .leaf (.seq .leaf (.seq (.seq .leaf (.block ⟨[(4,(.pt 4 0)),(7,zo)],[(4,z1)]⟩ (.loop ⟨[(3,(.pt 3 0)),(4,(.pt 4 0)),(5,(.pt 5 0)),(7,zo),(8,zi)],[(3,z0),(4,z1),(5,z4)]⟩ (.seq .leaf (.seq (.block ⟨[(3,(.pt 3 0)),(4,(.pt 4 0)),(5,(.pt 5 0)),(7,zo),(8,zi)],[(3,z0),(4,z1),(5,z4)]⟩ .leaf) .leaf))))) .leaf)))) [(109,some 45,iM)] (.cons nd .nil) (by kernel_rfl) (by kernel_rfl) (by kernel_rfl) (fun xs=>by kernel_rfl)
def cC.d1 (a b c d e f g h i j k l m n o p q r s t u v w x y z a0 a1 a2 a3 a4 a5 a6 a7 a8 a9 b0 b1 b2 b3:C):R:=(bif f.B then (some (.again [a,.i (w64 (b.I+a6.I)),.i (w64 (c.I+a7.I)),.i (w64 (d.I+1)),.i (w64 (e.I+1)),g,h,i,j,k,l,m,n,o,p,q,r,s,t,u,v,w,x,y,z,a0,a1])) else (some (.again [a,b,c,d,.i (w64 (e.I+1)),g,h,i,j,k,l,m,n,o,p,q,r,s,t,u,v,w,x,y,z,a0,a1])))
def cC.d2 (a b c d e f g h i j k l m n o p q r s t u v w x y z a0:C):R:=(bif (decide (e.I<(i.L.length:Int))) then (bif (decide (0≤e.I)) then (bif (decide (e.I<(i.L.length:Int))) then (bf (bif (!((((i.L.getD e.I.toNat []).getD 0 .nil).S).toList==j.S.toList)) then (some (.nrm [a,b,c,d,e,.b ((((i.L.getD e.I.toNat []).getD 11 .nil).S).toList==v.S.toList),f,g,h,i,j,k,l,m,n,o,p,q,r,s,t,u,v,w,x,y,z,a0,((i.L.getD e.I.toNat []).getD 0 .nil),((i.L.getD e.I.toNat []).getD 1 .nil),((i.L.getD e.I.toNat []).getD 2 .nil),((i.L.getD e.I.toNat []).getD 3 .nil),((i.L.getD e.I.toNat []).getD 4 .nil),((i.L.getD e.I.toNat []).getD 5 .nil),((i.L.getD e.I.toNat []).getD 6 .nil),((i.L.getD e.I.toNat []).getD 7 .nil),((i.L.getD e.I.toNat []).getD 8 .nil),((i.L.getD e.I.toNat []).getD 9 .nil),((i.L.getD e.I.toNat []).getD 10 .nil),((i.L.getD e.I.toNat []).getD 11 .nil)])) else (some (.nrm [a,b,c,d,e,.b false,f,g,h,i,j,k,l,m,n,o,p,q,r,s,t,u,v,w,x,y,z,a0,((i.L.getD e.I.toNat []).getD 0 .nil),((i.L.getD e.I.toNat []).getD 1 .nil),((i.L.getD e.I.toNat []).getD 2 .nil),((i.L.getD e.I.toNat []).getD 3 .nil),((i.L.getD e.I.toNat []).getD 4 .nil),((i.L.getD e.I.toNat []).getD 5 .nil),((i.L.getD e.I.toNat []).getD 6 .nil),((i.L.getD e.I.toNat []).getD 7 .nil),((i.L.getD e.I.toNat []).getD 8 .nil),((i.L.getD e.I.toNat []).getD 9 .nil),((i.L.getD e.I.toNat []).getD 10 .nil),((i.L.getD e.I.toNat []).getD 11 .nil)]))) (apn 40 cC.d1)) else none) else none) else (some (.brk 0 [a,b,c,d,f,g,h,i,j,k,l,m,n,o,p,q,r,s,t,u,v,w,x,y,z,a0])))
def cC.d3 (a b c d e f g h i j k l m n o p q r s t u v w x y z:C):R:=(bif d.B then (some (.ret [.i 2])) else (ad (ib [o,u,v,w,x,y,z]) fun a0=>(bif (!a0.B) then (some (.ret [.i 3])) else (ad (bq [e,f,g,h,i,j,k,l,m,n,o,p,q,r,s,t,u,v,w,x,y,z]) fun a1=>(bif a1.B then (some (.ret [.i 4])) else (ad (eK [e,f,g,h,i,j,k,l,m,n,o,p,q,r,s,t,u,v,w,x,y,z]) fun a2=>(bif a2.B then (some (.ret [.i 5])) else (bif (decide (c.I≥10)) then (some (.ret [.i 6])) else (bif (decide (a.I>x.I)) then (some (.ret [.i 7])) else (bif (decide (b.I>y.I)) then (some (.ret [.i 8])) else (some (.ret [.i 0]))))))))))))
def cC.d4 (a b c d e f g h i j k l m n o p q r s t u v w x y z:C):R:=(bif d.B then (some (.ret [.i 1])) else (bf (bif (!(s.S.toList==(bs #[]).toList)) then (some (.nrm [a,b,c,.b (!(s.S.toList==u.S.toList)),e,f,g,h,i,j,k,l,m,n,o,p,q,r,s,t,u,v,w,x,y,z])) else (some (.nrm [a,b,c,.b false,e,f,g,h,i,j,k,l,m,n,o,p,q,r,s,t,u,v,w,x,y,z]))) (apn 26 cC.d3)))
def cC.d5 (a b c d e f g h i j k l m n o p q r s t u v w x y z:C):R:=(bf (bif z.B then (some (.nrm [b,c,d,.b (!a.B),e,f,g,h,i,j,k,l,m,n,o,p,q,r,s,t,u,v,w,x,y,z])) else (some (.nrm [b,c,d,.b false,e,f,g,h,i,j,k,l,m,n,o,p,q,r,s,t,u,v,w,x,y,z]))) (apn 26 cC.d4))
def cC.d6 (a b c d e f g h i j k l m n o p q r s t u v w:C):R:=(ah 0 (lim (apn 27 cC.d2) [w,i,j,.i 0,.i 0,a,b,c,d,e,f,g,h,i,j,k,l,m,n,o,p,q,r,s,t,u,v]) (apn 26 cC.d5))
def cC:List C→Option (List C):=fun xs=>aY (apn 23 cC.d6 xs)
def jm:FS:=⟨4,⟨[(0,z2),(1,z5),(2,z7),(3,zo)],[]⟩,⟨[(0,zi)],[]⟩,[],cC⟩
theorem mD:aD Tryz.checked.prog T0 41 jm:=br aC (fn:=Tryz.f41) (c:=Tryz.f41.body.getD .skip) jm (.seq .leaf (.seq .leaf (.seq .leaf (.seq .leaf (.seq (.seq .leaf (.block ⟨[(3,zo),(4,(.pt 4 0)),(5,(.pt 5 0)),(6,(.pt 6 0)),(9,zi),(10,zi),(11,zi)],[(4,z0),(5,z1),(6,z4)]⟩ (.loop ⟨[(3,zo),(4,(.pt 4 0)),(5,(.pt 5 0)),(6,(.pt 6 0)),(9,zi),(10,zi),(11,zi),(12,zi)],[(4,z0),(5,z1),(6,z4)]⟩ (.seq .leaf (.seq (.skip (.seq .leaf (.seq (.join ⟨[(3,zo),(4,(.pt 4 0)),(5,(.pt 5 0)),(6,(.pt 6 0)),(9,zi),(10,zi),(11,zi),(12,zi),(13,(.pt 13 0)),(41,zo)],[(4,z0),(5,z1),(6,z4),(13,z1)]⟩ .leaf) .leaf))) .leaf))))) (.seq (.skip (.seq (.join ⟨[(4,(.pt 4 0)),(5,(.pt 5 0)),(6,(.pt 6 0)),(9,zi),(10,zi),(11,zi),(52,zo)],[(4,z0),(5,z1),(6,z4)]⟩ .leaf) (.cond .leaf (.seq (.join ⟨[(4,(.pt 4 0)),(5,(.pt 5 0)),(6,(.pt 6 0)),(9,zi),(10,zi),(11,zi),(59,zo)],[(4,z0),(5,z1),(6,z4)]⟩ .leaf) .leaf)))) .leaf)))))) [(77,some 74,kx),(78,some 80,ll),(79,some 85,rL)] (.cons rF (.cons vP (.cons Dz .nil))) (by kernel_rfl) (by kernel_rfl) (by kernel_rfl) (fun xs=>by kernel_rfl)
end
end Go.Ev
namespace Go.Ev
open Go.Proofs
noncomputable section
def aN.d1 (a b c d e f g h i j k l:C):R:=(bif (decide (b.I<a.I)) then (ad (dS [b]) fun m=>(bif (decide ((bs #[98]).size+m.S.size≤4294967296)) then (call8 (gg [.s ((bs #[98])++m.S),c,d]) fun n o p q r s t u=>(bif (decide (j.L.length+(rows [[n,o,.l u.L,p,q,r]]).length≤4294967296)) then (some (.again [a,.i (w64 (b.I+1)),s,t,e,f,.l g.L,.l h.L,.l i.L,.l (j.L++(rows [[n,o,.l u.L,p,q,r]])),.l k.L,.l l.L])) else none)) else none)) else (some (.brk 0 [c,d,e,f,.l g.L,.l h.L,.l i.L,.l j.L,.l k.L,.l l.L])))
def aN.d2 (a b c d e f g h i j k:C):R:=(bif (decide (a.I<4)) then (bif (decide (0≤a.I)) then (bif (decide (a.I<((rows [[.s (bs #[99,97,99,104,101])],[.s (bs #[100,98])],[.s (bs #[106,111,98])],[.s (bs #[119,101,98])]]).length:Int))) then (call3 (ae [.i 5,b,c]) fun l m n=>(bif (decide (j.L.length+(rows [[(((rows [[.s (bs #[99,97,99,104,101])],[.s (bs #[100,98])],[.s (bs #[106,111,98])],[.s (bs #[119,101,98])]]).getD a.I.toNat []).getD 0 .nil),l]]).length≤4294967296)) then (some (.again [.i (w64 (a.I+1)),m,n,d,e,.l f.L,.l g.L,.l h.L,.l i.L,.l (j.L++(rows [[(((rows [[.s (bs #[99,97,99,104,101])],[.s (bs #[100,98])],[.s (bs #[106,111,98])],[.s (bs #[119,101,98])]]).getD a.I.toNat []).getD 0 .nil),l]])),.l k.L])) else none)) else none) else none) else (some (.brk 2 [b,c,d,e,.l f.L,.l g.L,.l h.L,.l i.L,.l j.L,.l k.L])))
def aN.d3 (a b c d e f g h i j k l:C):R:=(bif (decide (b.I>0)) then (call14 (cf [b,c,d]) fun m n o p q r s t u v w x y z=>(call10 (bS [f,.i 3,.s (bs #[]),.s (bs #[]),.i 0,.i 0,.b false,m,n,o,p,q,r,s,t,u,v,w,.s (bs #[]),.s (bs #[]),.l j.L,.l k.L,.l l.L,.l af,.l z.L]) fun a0 a1 a2 a3 a4 a5 a6 a7 a8 a9=>(bif (a1.I==0) then (some (.again [a,.i (w64 (b.I-1)),x,y,e,a0,.l g.L,.l h.L,.l i.L,.l a7.L,.l a8.L,.l a9.L])) else (some (.again [a,.i (w64 (b.I-1)),x,y,e,f,.l g.L,.l h.L,.l i.L,.l a2.L,.l a3.L,.l a4.L]))))) else (some (.brk 4 [a,c,d,e,f,.l g.L,.l h.L,.l i.L,.l j.L,.l k.L,.l l.L])))
def aN.d4 (a b c d e f g h i j k l m n o p q r s:C):R:=(bif c.B then (bif (decide (0≤b.I)) then (bif (decide (b.I<(s.L.length:Int))) then (call10 (bS [g,.i 5,.s (bs #[]),.s (bs #[]),.i 0,.i 0,.b false,.s (bs #[]),.s (bs #[]),.i 0,.i 0,.i 0,.i 0,.s (bs #[]),.i 0,.s (bs #[]),.s (bs #[]),.s (bs #[]),((s.L.getD b.I.toNat []).getD 0 .nil),h,.l q.L,.l r.L,.l s.L,.l af,.l af]) fun t u v w x y z a0 a1 a2=>(bif (u.I==0) then (some (.again [a,.i (w64 (b.I+1)),d,e,f,t,.l n.L,.l o.L,.l p.L,.l a0.L,.l a1.L,.l a2.L])) else (some (.again [a,.i (w64 (b.I+1)),d,e,f,g,.l n.L,.l o.L,.l p.L,.l v.L,.l w.L,.l x.L])))) else none) else none) else (some (.again [a,.i (w64 (b.I+1)),d,e,f,g,.l n.L,.l o.L,.l p.L,.l q.L,.l r.L,.l s.L])))
def aN.d5 (a b c d e f g h i j k l:C):R:=(bif (decide (b.I<(l.L.length:Int))) then (call3 (ae [.i 4,c,d]) fun m n o=>(bif (decide (m.I<a.I)) then (call3 (ae [.i (j.L.length:Int),n,o]) fun p q r=>(bif (decide (0≤p.I)) then (bif (decide (p.I<(j.L.length:Int))) then (bif (decide (0≤b.I)) then (bif (decide (b.I<(l.L.length:Int))) then (ad (cC [f,.l j.L,.l k.L,.l l.L,((l.L.getD b.I.toNat []).getD 0 .nil),((l.L.getD b.I.toNat []).getD 1 .nil),((l.L.getD b.I.toNat []).getD 2 .nil),((l.L.getD b.I.toNat []).getD 3 .nil),((l.L.getD b.I.toNat []).getD 4 .nil),((l.L.getD b.I.toNat []).getD 5 .nil),((l.L.getD b.I.toNat []).getD 6 .nil),((l.L.getD b.I.toNat []).getD 7 .nil),((l.L.getD b.I.toNat []).getD 8 .nil),((l.L.getD b.I.toNat []).getD 9 .nil),((l.L.getD b.I.toNat []).getD 10 .nil),((l.L.getD b.I.toNat []).getD 11 .nil),((j.L.getD p.I.toNat []).getD 0 .nil),((j.L.getD p.I.toNat []).getD 1 .nil),((j.L.getD p.I.toNat []).getD 2 .nil),((j.L.getD p.I.toNat []).getD 3 .nil),((j.L.getD p.I.toNat []).getD 4 .nil),((j.L.getD p.I.toNat []).getD 5 .nil),.b true]) fun s=>(bf (bif (!(s.I==0)) then (bif (decide (s.I<6)) then (call3 (ae [.i 8,q,r]) fun t u v=>(some (.nrm [a,b,.b (t.I==0),u,v,e,f,((j.L.getD p.I.toNat []).getD 0 .nil),((j.L.getD p.I.toNat []).getD 1 .nil),((j.L.getD p.I.toNat []).getD 2 .nil),((j.L.getD p.I.toNat []).getD 3 .nil),((j.L.getD p.I.toNat []).getD 4 .nil),((j.L.getD p.I.toNat []).getD 5 .nil),.l g.L,.l h.L,.l i.L,.l j.L,.l k.L,.l l.L]))) else (some (.nrm [a,b,.b false,q,r,e,f,((j.L.getD p.I.toNat []).getD 0 .nil),((j.L.getD p.I.toNat []).getD 1 .nil),((j.L.getD p.I.toNat []).getD 2 .nil),((j.L.getD p.I.toNat []).getD 3 .nil),((j.L.getD p.I.toNat []).getD 4 .nil),((j.L.getD p.I.toNat []).getD 5 .nil),.l g.L,.l h.L,.l i.L,.l j.L,.l k.L,.l l.L]))) else (some (.nrm [a,b,.b true,q,r,e,f,((j.L.getD p.I.toNat []).getD 0 .nil),((j.L.getD p.I.toNat []).getD 1 .nil),((j.L.getD p.I.toNat []).getD 2 .nil),((j.L.getD p.I.toNat []).getD 3 .nil),((j.L.getD p.I.toNat []).getD 4 .nil),((j.L.getD p.I.toNat []).getD 5 .nil),.l g.L,.l h.L,.l i.L,.l j.L,.l k.L,.l l.L]))) (apn 19 aN.d4))) else none) else none) else none) else none)) else (some (.again [a,.i (w64 (b.I+1)),n,o,e,f,.l g.L,.l h.L,.l i.L,.l j.L,.l k.L,.l l.L])))) else (some (.brk 6 [c,d,e,f,.l g.L,.l h.L,.l i.L,.l j.L,.l k.L,.l l.L])))
def aN.d6 (a b c d e f g h i j:C):R:=(some (.ret [d,a,b,.l h.L,.l i.L,.l j.L]))
def aN.d7 (a b c d e f g h i j k:C):R:=(ah 6 (lim (apn 12 aN.d5) [a,.i 0,b,c,d,e,.l f.L,.l g.L,.l h.L,.l i.L,.l j.L,.l k.L]) (apn 10 aN.d6))
def aN.d8 (a b c d e f g h i j:C):R:=(call3 (ae [.i 4,a,b]) fun k l m=>(call3 (ae [.i 14,l,m]) fun n o p=>(ah 4 (lim (apn 12 aN.d3) [k,.i (w64 (1+n.I)),o,p,c,d,.l e.L,.l f.L,.l g.L,.l h.L,.l i.L,.l j.L]) (apn 11 aN.d7))))
def aN.d9 (a b c d e f g h i j:C):R:=(ah 2 (lim (apn 11 aN.d2) [.i 0,a,b,c,d,.l e.L,.l f.L,.l g.L,.l h.L,.l i.L,.l j.L]) (apn 10 aN.d8))
def aN.d10 (a b:C):R:=(call3 (ae [.i 2,a,b]) fun c d e=>(call3 (ae [.i 5,d,e]) fun f g h=>(ah 0 (lim (apn 12 aN.d1) [.i (w64 (1+f.I)),.i 0,g,h,.b false,.b (c.I==0),.l af,.l af,.l af,.l af,.l af,.l af]) (apn 10 aN.d9))))
def aN:List C→Option (List C):=fun xs=>aY (apn 2 aN.d10 xs)
def pZ:FS:=⟨1,⟨[(0,(.pt 2000 0))],[(2000,z3)]⟩,⟨[(0,(.ag [zo,(.ow 3001),(.ow 3002),(.ow 3003)]))],[(2000,z3),(3001,.arr 72),(3002,.arr 40 1),(3003,.arr 38)]⟩,[2000],aN⟩
theorem CN:aD Tryz.checked.prog T0 90 pZ:=ry aC [35] false (fn:=Tryz.f90) (c:=Tryz.f90.body.getD .skip) pZ (.seq .leaf (.seq .leaf (.seq .leaf (.seq (.seq .leaf (.block ⟨[(0,(.pt 2000 0)),(2,(.pt 2 0)),(3,(.pt 3 0))],[(2000,z3),(2,z8),(3,z9),(1034300,.arr 72 1),(1034301,.arr 40 1),(1034302,.arr 38 1),(1034303,.arr 72 1),(1034304,.arr 40 1),(1034305,.arr 38 1)]⟩ (.loop ⟨[(0,(.pt 2000 0)),(2,(.pt 2 0)),(3,(.pt 3 0)),(4,zi),(5,zi)],[(2000,z3),(2,z8),(3,z9),(1034300,.arr 72 1),(1034301,.arr 40 1),(1034302,.arr 38 1),(1034303,.arr 72 1),(1034304,.arr 40 1),(1034305,.arr 38 1)]⟩ .leaf))) (.seq (.seq .leaf (.block ⟨[(0,(.pt 2000 0)),(2,(.pt 2 0)),(3,(.pt 3 0))],[(2000,z3),(2,z8),(3,z9),(1034300,.arr 72 1),(1034301,.arr 40 1),(1034302,.arr 38 1),(1034303,.arr 72 1),(1034304,.arr 40 1),(1034305,.arr 38 1)]⟩ (.loop ⟨[(0,(.pt 2000 0)),(2,(.pt 2 0)),(3,(.pt 3 0)),(6,zi)],[(2000,z3),(2,z8),(3,z9),(1034300,.arr 72 1),(1034301,.arr 40 1),(1034302,.arr 38 1),(1034303,.arr 72 1),(1034304,.arr 40 1),(1034305,.arr 38 1)]⟩ .leaf))) (.seq .leaf (.seq (.seq .leaf (.block ⟨[(0,(.pt 2000 0)),(2,(.pt 2 0)),(3,(.pt 3 0)),(7,zi)],[(2000,z3),(2,z8),(3,z9),(1034300,.arr 72 1),(1034301,.arr 40 1),(1034302,.arr 38 1),(1034303,.arr 72),(1034304,.arr 40 1),(1034305,.arr 38)]⟩ (.loop ⟨[(0,(.pt 2000 0)),(2,(.pt 2 0)),(3,(.pt 3 0)),(7,zi),(8,zi)],[(2000,z3),(2,z8),(3,z9),(1034300,.arr 72 1),(1034301,.arr 40 1),(1034302,.arr 38 1),(1034303,.arr 72),(1034304,.arr 40 1),(1034305,.arr 38)]⟩ .leaf))) (.seq (.seq .leaf (.block ⟨[(2,(.pt 2 0)),(3,(.pt 3 0))],[(2000,z3),(2,z8),(3,z9),(1034300,.arr 72 1),(1034301,.arr 40 1),(1034302,.arr 38 1),(1034303,.arr 72),(1034304,.arr 40 1),(1034305,.arr 38)]⟩ (.loop ⟨[(0,(.pt 2000 0)),(2,(.pt 2 0)),(3,(.pt 3 0)),(7,zi),(11,zi)],[(2000,z3),(2,z8),(3,z9),(1034300,.arr 72 1),(1034301,.arr 40 1),(1034302,.arr 38 1),(1034303,.arr 72),(1034304,.arr 40 1),(1034305,.arr 38)]⟩ (.seq .leaf (.seq (.skip (.seq .leaf (.cond (.seq .leaf (.seq .leaf (.seq (.join ⟨[(0,(.pt 2000 0)),(2,(.pt 2 0)),(3,(.pt 3 0)),(7,zi),(11,zi),(12,(.pt 12 0)),(113,zo)],[(2000,z3),(2,z8),(3,z9),(12,z4),(1034300,.arr 72 1),(1034301,.arr 40 1),(1034302,.arr 38 1),(1034303,.arr 72),(1034304,.arr 40 1),(1034305,.arr 38)]⟩ .leaf) .leaf))) .leaf))) .leaf))))) .leaf)))))))) [(27,some 17,aa),(27,some 21,aa),(27,some 49,aa),(27,some 55,aa),(27,some 57,aa),(27,some 83,aa),(27,some 92,aa),(27,some 110,aa),(41,some 102,jm),(89,some 32,(fm dS)),(92,some 67,iW),(93,some 69,fy),(93,some 125,fy),(129,some 34,j8)] (.cons ab (.cons ab (.cons ab (.cons ab (.cons ab (.cons ab (.cons ab (.cons ab (.cons mD (.cons pb (.cons pg (.cons iZ (.cons iZ (.cons uD .nil)))))))))))))) (by kernel_rfl) (by kernel_rfl) (by kernel_rfl) (fun xs=>by kernel_rfl)
def cu.d1 (a b c d e f g h i j k l m:C):R:=(bif (decide (a.I<(c.L.length:Int))) then (bif (decide (0≤a.I)) then (bif (decide (a.I<(c.L.length:Int))) then (call6 (gw [((c.L.getD a.I.toNat []).getD 0 .nil),((c.L.getD a.I.toNat []).getD 1 .nil),((c.L.getD a.I.toNat []).getD 2 .nil),((c.L.getD a.I.toNat []).getD 3 .nil),((c.L.getD a.I.toNat []).getD 4 .nil),((c.L.getD a.I.toNat []).getD 5 .nil)]) fun n o p q r s=>(bif (decide (k.L.length+(rows [[n,o,.l s.L,p,q,r]]).length≤4294967296)) then (some (.again [.i (w64 (a.I+1)),b,c,d,e,f,g,.l h.L,.l i.L,.l j.L,.l (k.L++(rows [[n,o,.l s.L,p,q,r]])),.l l.L,.l m.L])) else none)) else none) else none) else (some (.brk 0 [b,c,d,e,f,g,.l h.L,.l i.L,.l j.L,.l k.L,.l l.L,.l m.L])))
def cu.d2 (a b c d e f g h i j k l m:C):R:=(bif (decide (a.I<(e.L.length:Int))) then (bif (decide (0≤a.I)) then (bif (decide (a.I<(e.L.length:Int))) then (call12 (ic [((e.L.getD a.I.toNat []).getD 0 .nil),((e.L.getD a.I.toNat []).getD 1 .nil),((e.L.getD a.I.toNat []).getD 2 .nil),((e.L.getD a.I.toNat []).getD 3 .nil),((e.L.getD a.I.toNat []).getD 4 .nil),((e.L.getD a.I.toNat []).getD 5 .nil),((e.L.getD a.I.toNat []).getD 6 .nil),((e.L.getD a.I.toNat []).getD 7 .nil),((e.L.getD a.I.toNat []).getD 8 .nil),((e.L.getD a.I.toNat []).getD 9 .nil),((e.L.getD a.I.toNat []).getD 10 .nil),((e.L.getD a.I.toNat []).getD 11 .nil)]) fun n o p q r s t u v w x y=>(bif (decide (m.L.length+(rows [[n,o,p,q,r,s,t,.l y.L,u,v,w,x]]).length≤4294967296)) then (some (.again [.i (w64 (a.I+1)),b,c,d,e,f,g,.l h.L,.l i.L,.l j.L,.l k.L,.l l.L,.l (m.L++(rows [[n,o,p,q,r,s,t,.l y.L,u,v,w,x]]))])) else none)) else none) else none) else (some (.brk 2 [f,g,.l h.L,.l i.L,.l j.L,.l k.L,.l l.L,.l m.L])))
def cu.d3 (a b c d e f g h:C):R:=(some (.ret [b,.l f.L,.l g.L,.l h.L]))
def cu.d4 (a b c d e f g h i j k l:C):R:=(ah 2 (lim (apn 13 cu.d2) [.i 0,a,b,c,d,e,f,.l g.L,.l h.L,.l i.L,.l j.L,.l k.L,.l l.L]) (apn 8 cu.d3))
def cu.d5 (a b c d:C):R:=(bif (decide (af.length+c.L.length≤4294967296)) then (ah 0 (lim (apn 13 cu.d1) [.i 0,a,b,c,d,.b false,.b a.B,.l af,.l af,.l af,.l af,.l (af++c.L),.l af]) (apn 12 cu.d4)) else none)
def cu:List C→Option (List C):=fun xs=>aY (apn 4 cu.d5 xs)
def jG:FS:=⟨1,⟨[(0,z2)],[]⟩,⟨[(0,z16)],[(3000,.arr 72 1),(3001,.arr 40 1),(3002,.arr 38 1)]⟩,[],cu⟩
theorem pd:aD Tryz.checked.prog T0 76 jG:=ry aC [28,46] false (fn:=Tryz.f76) (c:=Tryz.f76.body.getD .skip) jG (.seq .leaf (.seq .leaf (.seq (.seq .leaf (.block ⟨[(1,(.pt 1 0)),(2,(.pt 2 0)),(3,(.pt 3 0))],[(1,z0),(2,z11),(3,z12),(1161700,.arr 72 1),(1161701,.arr 40 1),(1161702,.arr 38 1),(1161703,.arr 72 1),(8,.arr 40 1),(1161704,.arr 38 1)]⟩ (.loop ⟨[(1,(.pt 1 0)),(2,(.pt 2 0)),(3,(.pt 3 0)),(4,zi)],[(1,z0),(2,z11),(3,z12),(1161700,.arr 72 1),(1161701,.arr 40 1),(1161702,.arr 38 1),(1161703,.arr 72 1),(8,.arr 40 1),(1161704,.arr 38 1)]⟩ .leaf))) (.seq (.seq .leaf (.block ⟨[(2,(.pt 2 0)),(3,(.pt 3 0))],[(2,z11),(3,z12),(1161700,.arr 72 1),(1161701,.arr 40 1),(1161702,.arr 38 1),(1161703,.arr 72 1),(8,.arr 40 1),(1161704,.arr 38 1)]⟩ (.loop ⟨[(1,(.pt 1 0)),(2,(.pt 2 0)),(3,(.pt 3 0)),(5,zi)],[(1,z0),(2,z11),(3,z12),(1161700,.arr 72 1),(1161701,.arr 40 1),(1161702,.arr 38 1),(1161703,.arr 72 1),(8,.arr 40 1),(1161704,.arr 38 1)]⟩ .leaf))) .leaf)))) [(104,some 27,js),(105,some 45,ky)] (.cons pH (.cons rn .nil)) (by kernel_rfl) (by kernel_rfl) (by kernel_rfl) (fun xs=>by kernel_rfl)
def jk.d1 (a b c d e f g h i j k l m n o p q r s t u v w x:C):R:=(bif (c.I !=o.I) then (some (.ret [.b (decide (c.I>o.I))])) else (bif (d.I !=p.I) then (some (.ret [.b (decide (d.I<p.I))])) else (some (.ret [.b (Op.bytesLess a.S.toList m.S.toList)]))))
def jk:List C→Option (List C):=fun xs=>aY (apn 24 jk.d1 xs)
def pc:FS:=⟨2,⟨[(0,z5),(1,z5)],[]⟩,⟨[(0,zo)],[]⟩,[],jk⟩
theorem zY:aD Tryz.checked.prog T0 115 pc:=br aC (fn:=Tryz.f115) (c:=Tryz.f115.body.getD .skip) pc .leaf [] .nil (by kernel_rfl) (by kernel_rfl) (by kernel_rfl) (fun xs=>by kernel_rfl)
def bl.d1 (a b c d e f g:C):R:=(bif (decide (b.I<(g.L.length:Int))) then (bif (decide (0≤b.I)) then (bif (decide (b.I<(g.L.length:Int))) then (bif (decide (0≤a.I)) then (bif (decide (a.I<(f.L.length:Int))) then (ad (jk [((g.L.getD b.I.toNat []).getD 0 .nil),((g.L.getD b.I.toNat []).getD 1 .nil),((g.L.getD b.I.toNat []).getD 2 .nil),((g.L.getD b.I.toNat []).getD 3 .nil),((g.L.getD b.I.toNat []).getD 4 .nil),((g.L.getD b.I.toNat []).getD 5 .nil),((g.L.getD b.I.toNat []).getD 6 .nil),((g.L.getD b.I.toNat []).getD 7 .nil),((g.L.getD b.I.toNat []).getD 8 .nil),((g.L.getD b.I.toNat []).getD 9 .nil),((g.L.getD b.I.toNat []).getD 10 .nil),((g.L.getD b.I.toNat []).getD 11 .nil),((f.L.getD a.I.toNat []).getD 0 .nil),((f.L.getD a.I.toNat []).getD 1 .nil),((f.L.getD a.I.toNat []).getD 2 .nil),((f.L.getD a.I.toNat []).getD 3 .nil),((f.L.getD a.I.toNat []).getD 4 .nil),((f.L.getD a.I.toNat []).getD 5 .nil),((f.L.getD a.I.toNat []).getD 6 .nil),((f.L.getD a.I.toNat []).getD 7 .nil),((f.L.getD a.I.toNat []).getD 8 .nil),((f.L.getD a.I.toNat []).getD 9 .nil),((f.L.getD a.I.toNat []).getD 10 .nil),((f.L.getD a.I.toNat []).getD 11 .nil)]) fun h=>(bif h.B then (some (.again [a,.i (w64 (b.I+1)),c,d,e,f,.l g.L])) else (some (.brk 2 [a,b,c,d,e,f,.l g.L])))) else none) else none) else none) else none) else (some (.brk 2 [a,b,c,d,e,f,.l g.L])))
def bl.d2 (a b c d e f g:C):R:=(bif (decide (0≤b.I)) then (bif (decide (b.I≤(g.L.length:Int))) then (bif (decide (af.length+((g.L.take b.I.toNat).drop 0).length≤4294967296)) then (bif (decide (0≤a.I)) then (bif (decide (a.I<(f.L.length:Int))) then (bif (decide ((af++((g.L.take b.I.toNat).drop 0)).length+(rows [[((f.L.getD a.I.toNat []).getD 0 .nil),((f.L.getD a.I.toNat []).getD 1 .nil),((f.L.getD a.I.toNat []).getD 2 .nil),((f.L.getD a.I.toNat []).getD 3 .nil),((f.L.getD a.I.toNat []).getD 4 .nil),((f.L.getD a.I.toNat []).getD 5 .nil),((f.L.getD a.I.toNat []).getD 6 .nil),((f.L.getD a.I.toNat []).getD 7 .nil),((f.L.getD a.I.toNat []).getD 8 .nil),((f.L.getD a.I.toNat []).getD 9 .nil),((f.L.getD a.I.toNat []).getD 10 .nil),((f.L.getD a.I.toNat []).getD 11 .nil)]]).length≤4294967296)) then (bif (decide (0≤b.I)) then (bif (decide (b.I≤(g.L.length:Int))) then (bif (decide ((g.L.length:Int)≤(g.L.length:Int))) then (bif (decide (((af++((g.L.take b.I.toNat).drop 0))++(rows [[((f.L.getD a.I.toNat []).getD 0 .nil),((f.L.getD a.I.toNat []).getD 1 .nil),((f.L.getD a.I.toNat []).getD 2 .nil),((f.L.getD a.I.toNat []).getD 3 .nil),((f.L.getD a.I.toNat []).getD 4 .nil),((f.L.getD a.I.toNat []).getD 5 .nil),((f.L.getD a.I.toNat []).getD 6 .nil),((f.L.getD a.I.toNat []).getD 7 .nil),((f.L.getD a.I.toNat []).getD 8 .nil),((f.L.getD a.I.toNat []).getD 9 .nil),((f.L.getD a.I.toNat []).getD 10 .nil),((f.L.getD a.I.toNat []).getD 11 .nil)]])).length+((g.L.take (g.L.length:Int).toNat).drop b.I.toNat).length≤4294967296)) then (some (.brk 1 [a,c,d,e,f,.l (((af++((g.L.take b.I.toNat).drop 0))++(rows [[((f.L.getD a.I.toNat []).getD 0 .nil),((f.L.getD a.I.toNat []).getD 1 .nil),((f.L.getD a.I.toNat []).getD 2 .nil),((f.L.getD a.I.toNat []).getD 3 .nil),((f.L.getD a.I.toNat []).getD 4 .nil),((f.L.getD a.I.toNat []).getD 5 .nil),((f.L.getD a.I.toNat []).getD 6 .nil),((f.L.getD a.I.toNat []).getD 7 .nil),((f.L.getD a.I.toNat []).getD 8 .nil),((f.L.getD a.I.toNat []).getD 9 .nil),((f.L.getD a.I.toNat []).getD 10 .nil),((f.L.getD a.I.toNat []).getD 11 .nil)]]))++((g.L.take (g.L.length:Int).toNat).drop b.I.toNat))])) else none) else none) else none) else none) else none) else none) else none) else none) else none) else none)
def bl.d3 (a b c d e f:C):R:=(some (.again [.i (w64 (a.I+1)),b,c,d,e,.l f.L]))
def bl.d4 (a b c d e f:C):R:=(bif (decide (a.I<(e.L.length:Int))) then (ah 1 (bif (decide (0≤a.I)) then (bif (decide (a.I<(e.L.length:Int))) then (bif (!((((e.L.getD a.I.toNat []).getD 11 .nil).S).toList==(bs #[]).toList)) then (some (.brk 1 [a,b,c,d,e,.l f.L])) else (ah 2 (lim (apn 7 bl.d1) [a,.i 0,b,c,d,e,.l f.L]) (apn 7 bl.d2))) else none) else none) (apn 6 bl.d3)) else (some (.brk 0 [.l f.L])))
def bl.d5 (a b c:C):R:=(bif (decide (a.I<(b.L.length:Int))) then (bif (decide (0≤a.I)) then (bif (decide (a.I<(b.L.length:Int))) then (bif (decide (c.L.length+(rows [[((b.L.getD a.I.toNat []).getD 0 .nil)]]).length≤4294967296)) then (some (.again [.i (w64 (a.I+1)),.l b.L,.l (c.L++(rows [[((b.L.getD a.I.toNat []).getD 0 .nil)]]))])) else none) else none) else none) else (some (.brk 4 [.l c.L])))
def bl.d6 (a:C):R:=(some (.ret [.l a.L]))
def bl.d7 (a:C):R:=(ah 4 (lim (apn 3 bl.d5) [.i 0,.l a.L,.l af]) (apn 1 bl.d6))
def bl.d8 (a b c d:C):R:=(ah 0 (lim (apn 6 bl.d4) [.i 0,a,b,c,d,.l af]) (apn 1 bl.d7))
def bl:List C→Option (List C):=fun xs=>aY (apn 4 bl.d8 xs)
def lD:FS:=⟨1,⟨[(0,z2)],[]⟩,⟨[(0,(.ow 3000))],[(3000,.arr 9 1)]⟩,[],bl⟩
theorem sF:aD Tryz.checked.prog T0 83 lD:=ry aC [51] false (fn:=Tryz.f83) (c:=Tryz.f83.body.getD .skip) lD (.seq .leaf (.seq .leaf (.seq (.seq .leaf (.block ⟨[(3,(.ow 8))],[(8,.arr 38)]⟩ (.loop ⟨[(1,(.pt 1 0)),(3,(.ow 8)),(4,zi)],[(1,z0),(8,.arr 38)]⟩ (.seq .leaf (.seq (.block ⟨[(1,(.pt 1 0)),(3,(.ow 8)),(4,zi)],[(1,z0),(8,.arr 38)]⟩ (.seq .leaf (.seq .leaf (.seq (.block ⟨[(1,(.pt 1 0)),(3,(.ow 8)),(4,zi),(5,zi)],[(1,z0),(8,.arr 38)]⟩ (.loop ⟨[(1,(.pt 1 0)),(3,(.ow 8)),(4,zi),(5,zi)],[(1,z0),(8,.arr 38)]⟩ .leaf)) .leaf)))) .leaf))))) (.seq .leaf (.seq (.seq .leaf (.block ⟨[(6,(.ow 57))],[(57,.arr 9 1)]⟩ (.loop ⟨[(3,(.ow 8)),(6,(.ow 57)),(7,zi)],[(8,.arr 38),(57,.arr 9 1)]⟩ .leaf))) .leaf))))) [(115,some 37,pc)] (.cons zY .nil) (by kernel_rfl) (by kernel_rfl) (by kernel_rfl) (fun xs=>by kernel_rfl)
def aX.d1 (a b c d e f g h i j k l m n o p q r s t u v w x y z a0 a1 a2 a3 a4:C):R:=(bif (decide (a.I<(m.L.length:Int))) then (bif (decide (0≤a.I)) then (bif (decide (a.I<(m.L.length:Int))) then (ad (ib [((m.L.getD a.I.toNat []).getD 0 .nil),r,s,t,u,v,w]) fun a5=>(bif a5.B then (bif (decide (0≤a.I)) then (bif (decide (a.I<(m.L.length:Int))) then (some (.again [.i (w64 (a.I+1)),b,c,d,e,f,g,h,i,j,k,l,m,n,o,p,q,r,s,t,u,v,w,x,y,z,a0,.i (w64 (a1.I+((m.L.getD a.I.toNat []).getD 1 .nil).I)),a2,a3,a4])) else none) else none) else (some (.again [.i (w64 (a.I+1)),b,c,d,e,f,g,h,i,j,k,l,m,n,o,p,q,r,s,t,u,v,w,x,y,z,a0,a1,a2,a3,a4])))) else none) else none) else (some (.brk 0 [b,c,d,e,f,g,h,i,j,k,l,m,n,o,p,q,r,s,t,u,v,w,x,y,z,a0,a1,a2,a3,a4])))
def aX.d2 (a b c d e f g h i j k l m n o p q r s t u v w x y z a0 a1 a2 a3 a4 a5 a6 a7 a8 a9 b0 b1 b2 b3 b4 b5 b6:C):R:=(bif (a6.S.toList==g.S.toList) then (ad (gA [b,c,d,e,b6]) fun b7=>(bif (b7.S.toList==s.S.toList) then (some (.brk 3 [a,b,c,d,e,f,g,h,i,j,k,l,m,n,o,p,q,r,s,t,u,v,w,x,y,z,a0,a1,.i (w64 (a2.I+1)),a3,a4])) else (some (.brk 3 [a,b,c,d,e,f,g,h,i,j,k,l,m,n,o,p,q,r,s,t,u,v,w,x,y,z,a0,a1,a2,a3,a4])))) else (some (.brk 3 [a,b,c,d,e,f,g,h,i,j,k,l,m,n,o,p,q,r,s,t,u,v,w,x,y,z,a0,a1,a2,a3,a4])))
def aX.d3 (a b c d e f g h i j k l m n o p q r s t u v w x y z a0 a1 a2 a3 a4 a5 a6 a7 a8 a9 b0 b1 b2 b3 b4 b5 b6:C):R:=(bf (bif (a6.S.toList==g.S.toList) then (bif (b6.S.toList==r.S.toList) then (some (.nrm [a,b,c,d,e,f,g,h,i,j,k,l,m,n,o,p,q,r,s,t,u,v,w,x,y,z,a0,a1,a2,.i (w64 (a3.I+1)),a4,a5,a6,a7,a8,a9,b0,b1,b2,b3,b4,b5,b6])) else (some (.nrm [a,b,c,d,e,f,g,h,i,j,k,l,m,n,o,p,q,r,s,t,u,v,w,x,y,z,a0,a1,a2,a3,a4,a5,a6,a7,a8,a9,b0,b1,b2,b3,b4,b5,b6]))) else (some (.nrm [a,b,c,d,e,f,g,h,i,j,k,l,m,n,o,p,q,r,s,t,u,v,w,x,y,z,a0,a1,a2,a3,a4,a5,a6,a7,a8,a9,b0,b1,b2,b3,b4,b5,b6]))) (fun xs=>aX.d2 (xs.getD 0 .nil) (xs.getD 1 .nil) (xs.getD 2 .nil) (xs.getD 3 .nil) (xs.getD 4 .nil) (xs.getD 5 .nil) (xs.getD 6 .nil) (xs.getD 7 .nil) (xs.getD 8 .nil) (xs.getD 9 .nil) (xs.getD 10 .nil) (xs.getD 11 .nil) (xs.getD 12 .nil) (xs.getD 13 .nil) (xs.getD 14 .nil) (xs.getD 15 .nil) (xs.getD 16 .nil) (xs.getD 17 .nil) (xs.getD 18 .nil) (xs.getD 19 .nil) (xs.getD 20 .nil) (xs.getD 21 .nil) (xs.getD 22 .nil) (xs.getD 23 .nil) (xs.getD 24 .nil) (xs.getD 25 .nil) (xs.getD 26 .nil) (xs.getD 27 .nil) (xs.getD 28 .nil) (xs.getD 29 .nil) (xs.getD 30 .nil) (xs.getD 31 .nil) (xs.getD 32 .nil) (xs.getD 33 .nil) (xs.getD 34 .nil) (xs.getD 35 .nil) (xs.getD 36 .nil) (xs.getD 37 .nil) (xs.getD 38 .nil) (xs.getD 39 .nil) (xs.getD 40 .nil) (xs.getD 41 .nil) (xs.getD 42 .nil)))
def aX.d4 (a b c d e f g h i j k l m n o p q r s t u v w x y z a0 a1 a2 a3 a4:C):R:=(some (.again [.i (w64 (a.I+1)),b,c,d,e,f,g,h,i,j,k,l,m,n,o,p,q,r,s,t,u,v,w,x,y,z,a0,a1,a2,a3,a4]))
def aX.d5 (a b c d e f g h i j k l m n o p q r s t u v w x y z a0 a1 a2 a3 a4:C):R:=(bif (decide (a.I<(e.L.length:Int))) then (ah 3 (bif (decide (0≤a.I)) then (bif (decide (a.I<(e.L.length:Int))) then (bif (!((((e.L.getD a.I.toNat []).getD 0 .nil).S).toList==f.S.toList)) then (bif ((((e.L.getD a.I.toNat []).getD 11 .nil).S).toList==(bs #[]).toList) then (some (.brk 3 [a,b,c,d,e,f,g,h,i,j,k,l,m,n,o,p,q,r,s,t,u,v,w,x,y,z,a0,a1,a2,a3,a4])) else (bf (bif ((((e.L.getD a.I.toNat []).getD 11 .nil).S).toList==r.S.toList) then (some (.nrm [a,b,c,d,e,f,g,h,i,j,k,l,m,n,o,p,q,r,s,t,u,v,w,x,y,z,a0,a1,a2,a3,.i (w64 (a4.I-((e.L.getD a.I.toNat []).getD 4 .nil).I)),((e.L.getD a.I.toNat []).getD 0 .nil),((e.L.getD a.I.toNat []).getD 1 .nil),((e.L.getD a.I.toNat []).getD 2 .nil),((e.L.getD a.I.toNat []).getD 3 .nil),((e.L.getD a.I.toNat []).getD 4 .nil),((e.L.getD a.I.toNat []).getD 5 .nil),((e.L.getD a.I.toNat []).getD 6 .nil),((e.L.getD a.I.toNat []).getD 7 .nil),((e.L.getD a.I.toNat []).getD 8 .nil),((e.L.getD a.I.toNat []).getD 9 .nil),((e.L.getD a.I.toNat []).getD 10 .nil),((e.L.getD a.I.toNat []).getD 11 .nil)])) else (some (.nrm [a,b,c,d,e,f,g,h,i,j,k,l,m,n,o,p,q,r,s,t,u,v,w,x,y,z,a0,a1,a2,a3,a4,((e.L.getD a.I.toNat []).getD 0 .nil),((e.L.getD a.I.toNat []).getD 1 .nil),((e.L.getD a.I.toNat []).getD 2 .nil),((e.L.getD a.I.toNat []).getD 3 .nil),((e.L.getD a.I.toNat []).getD 4 .nil),((e.L.getD a.I.toNat []).getD 5 .nil),((e.L.getD a.I.toNat []).getD 6 .nil),((e.L.getD a.I.toNat []).getD 7 .nil),((e.L.getD a.I.toNat []).getD 8 .nil),((e.L.getD a.I.toNat []).getD 9 .nil),((e.L.getD a.I.toNat []).getD 10 .nil),((e.L.getD a.I.toNat []).getD 11 .nil)]))) (fun xs=>aX.d3 (xs.getD 0 .nil) (xs.getD 1 .nil) (xs.getD 2 .nil) (xs.getD 3 .nil) (xs.getD 4 .nil) (xs.getD 5 .nil) (xs.getD 6 .nil) (xs.getD 7 .nil) (xs.getD 8 .nil) (xs.getD 9 .nil) (xs.getD 10 .nil) (xs.getD 11 .nil) (xs.getD 12 .nil) (xs.getD 13 .nil) (xs.getD 14 .nil) (xs.getD 15 .nil) (xs.getD 16 .nil) (xs.getD 17 .nil) (xs.getD 18 .nil) (xs.getD 19 .nil) (xs.getD 20 .nil) (xs.getD 21 .nil) (xs.getD 22 .nil) (xs.getD 23 .nil) (xs.getD 24 .nil) (xs.getD 25 .nil) (xs.getD 26 .nil) (xs.getD 27 .nil) (xs.getD 28 .nil) (xs.getD 29 .nil) (xs.getD 30 .nil) (xs.getD 31 .nil) (xs.getD 32 .nil) (xs.getD 33 .nil) (xs.getD 34 .nil) (xs.getD 35 .nil) (xs.getD 36 .nil) (xs.getD 37 .nil) (xs.getD 38 .nil) (xs.getD 39 .nil) (xs.getD 40 .nil) (xs.getD 41 .nil) (xs.getD 42 .nil)))) else (some (.brk 3 [a,b,c,d,e,f,g,h,i,j,k,l,m,n,o,p,q,r,s,t,u,v,w,x,y,z,a0,a1,a2,a3,a4]))) else none) else none) (apn 31 aX.d4)) else (some (.brk 2 [x,y,z,a0,a1,a2,a3,a4])))
def aX.d6 (a b c d e f g h:C):R:=(some (.ret [e,f,g,h]))
def aX.d7 (a b c d e f g h i j k l m n o p q r s t u v w x y z a0 a1 a2 a3:C):R:=(ah 2 (lim (apn 31 aX.d5) [.i 0,a,b,c,d,e,f,g,h,i,j,k,l,m,n,o,p,q,r,s,t,u,v,w,x,y,z,a0,a1,a2,a3]) (apn 8 aX.d6))
def aX.d8 (a b c d e f g h i j k l m n o p q r s t u v:C):R:=(ah 0 (lim (apn 31 aX.d1) [.i 0,a,b,c,d,e,f,g,h,i,j,k,l,m,n,o,p,q,r,s,t,u,v,.i 0,.i 0,.i 0,.i 0,.i 0,.i 0,.i 0,.i (w64 (t.I-i.I))]) (apn 30 aX.d7))
def aX:List C→Option (List C):=fun xs=>aY (apn 22 aX.d8 xs)
def iq:FS:=⟨3,⟨[(0,z2),(1,z5),(2,z7)],[]⟩,⟨[(0,(.ag [zi,zi,zi,zi]))],[]⟩,[],aX⟩
theorem lC:aD Tryz.checked.prog T0 133 iq:=br aC (fn:=Tryz.f133) (c:=Tryz.f133.body.getD .skip) iq (.seq .leaf (.seq .leaf (.seq (.seq .leaf (.block ⟨[(3,(.pt 3 0)),(4,(.pt 4 0)),(5,(.pt 5 0)),(6,(.pt 6 0)),(7,(.pt 7 0))],[(3,z0),(4,z1),(5,z4),(6,z13),(7,z13)]⟩ (.loop ⟨[(3,(.pt 3 0)),(4,(.pt 4 0)),(5,(.pt 5 0)),(6,(.pt 6 0)),(7,(.pt 7 0)),(8,zi)],[(3,z0),(4,z1),(5,z4),(6,z13),(7,z13)]⟩ .leaf))) (.seq (.seq .leaf (.block ⟨[(6,(.pt 6 0)),(7,(.pt 7 0))],[(6,z13),(7,z13)]⟩ (.loop ⟨[(3,(.pt 3 0)),(4,(.pt 4 0)),(5,(.pt 5 0)),(6,(.pt 6 0)),(7,(.pt 7 0)),(9,zi)],[(3,z0),(4,z1),(5,z4),(6,z13),(7,z13)]⟩ (.seq .leaf (.seq (.block ⟨[(3,(.pt 3 0)),(4,(.pt 4 0)),(5,(.pt 5 0)),(6,(.pt 6 0)),(7,(.pt 7 0)),(9,zi)],[(3,z0),(4,z1),(5,z4),(6,z13),(7,z13)]⟩ (.seq .leaf (.seq .leaf (.seq (.join ⟨[(3,(.pt 3 0)),(4,(.pt 4 0)),(5,(.pt 5 0)),(6,(.pt 6 0)),(7,(.pt 7 0)),(9,zi),(10,(.pt 10 0))],[(3,z0),(4,z1),(5,z4),(6,z13),(7,z13),(10,z1)]⟩ .leaf) (.seq (.join ⟨[(3,(.pt 3 0)),(4,(.pt 4 0)),(5,(.pt 5 0)),(6,(.pt 6 0)),(7,(.pt 7 0)),(9,zi),(10,(.pt 10 0))],[(3,z0),(4,z1),(5,z4),(6,z13),(7,z13),(10,z1)]⟩ .leaf) .leaf))))) .leaf))))) .leaf)))) [(77,some 31,kx),(109,some 100,iM)] (.cons rF (.cons nd .nil)) (by kernel_rfl) (by kernel_rfl) (by kernel_rfl) (fun xs=>by kernel_rfl)
def fk.d1 (a b c d e f g h i:C):R:=(bif (a.I !=e.I) then (some (.ret [.b (decide (a.I>e.I))])) else (bif (b.I !=f.I) then (some (.ret [.b (decide (b.I<f.I))])) else (bif (c.I !=g.I) then (some (.ret [.b (decide (c.I<g.I))])) else (bif i.B then (some (.ret [.b (decide (d.I<h.I))])) else (some (.ret [.b (decide (d.I>h.I))]))))))
def fk:List C→Option (List C):=fun xs=>aY (apn 9 fk.d1 xs)
def il:FS:=⟨3,⟨[(0,(.ag [zi,zi,zi,zi])),(1,(.ag [zi,zi,zi,zi])),(2,zo)],[]⟩,⟨[(0,zo)],[]⟩,[],fk⟩
theorem nV:aD Tryz.checked.prog T0 134 il:=br aC (fn:=Tryz.f134) (c:=Tryz.f134.body.getD .skip) il .leaf [] .nil (by kernel_rfl) (by kernel_rfl) (by kernel_rfl) (fun xs=>by kernel_rfl)
def cG.d1 (a b c d e f g h i j k l m n o p q r s:C):R:=(bif c.B then (some (.again [b,.i (w64 (b.I+1)),d,e,f,g,h,i,j,k,l,m,n,o,p,q,r,s])) else (some (.again [a,.i (w64 (b.I+1)),d,e,f,g,h,i,j,k,l,m,n,o,p,q,r,s])))
def cG.d2 (a b c d e f g h i j k l m n o p q r:C):R:=(bif (decide (b.I<(d.L.length:Int))) then (bf (bif (decide (0≤b.I)) then (bif (decide (b.I<(d.L.length:Int))) then (ad (cC [c,d,e,f,g,h,i,j,k,l,m,n,o,p,q,r,((d.L.getD b.I.toNat []).getD 0 .nil),((d.L.getD b.I.toNat []).getD 1 .nil),((d.L.getD b.I.toNat []).getD 2 .nil),((d.L.getD b.I.toNat []).getD 3 .nil),((d.L.getD b.I.toNat []).getD 4 .nil),((d.L.getD b.I.toNat []).getD 5 .nil),.b false]) fun s=>(bif (s.I==0) then (bif (!(decide (a.I<0))) then (bif (decide (0≤b.I)) then (bif (decide (b.I<(d.L.length:Int))) then (call4 (aX [c,d,e,f,g,h,i,j,k,l,m,n,o,p,q,r,((d.L.getD b.I.toNat []).getD 0 .nil),((d.L.getD b.I.toNat []).getD 1 .nil),((d.L.getD b.I.toNat []).getD 2 .nil),((d.L.getD b.I.toNat []).getD 3 .nil),((d.L.getD b.I.toNat []).getD 4 .nil),((d.L.getD b.I.toNat []).getD 5 .nil)]) fun t u v w=>(bif (decide (0≤a.I)) then (bif (decide (a.I<(d.L.length:Int))) then (call4 (aX [c,d,e,f,g,h,i,j,k,l,m,n,o,p,q,r,((d.L.getD a.I.toNat []).getD 0 .nil),((d.L.getD a.I.toNat []).getD 1 .nil),((d.L.getD a.I.toNat []).getD 2 .nil),((d.L.getD a.I.toNat []).getD 3 .nil),((d.L.getD a.I.toNat []).getD 4 .nil),((d.L.getD a.I.toNat []).getD 5 .nil)]) fun x y z a0=>(ad (fk [t,u,v,w,x,y,z,a0,.b c.B]) fun a1=>(some (.nrm [a,b,.b a1.B,c,d,e,f,g,h,i,j,k,l,m,n,o,p,q,r])))) else none) else none)) else none) else none) else (some (.nrm [a,b,.b true,c,d,e,f,g,h,i,j,k,l,m,n,o,p,q,r]))) else (some (.nrm [a,b,.b false,c,d,e,f,g,h,i,j,k,l,m,n,o,p,q,r])))) else none) else none) (apn 19 cG.d1)) else (some (.brk 0 [a,c,d,e,f])))
def cG.d3 (a b c d e:C):R:=(bif (decide (a.I<0)) then (some (.ret [.s (bs #[])])) else (bif (decide (0≤a.I)) then (bif (decide (a.I<(c.L.length:Int))) then (some (.ret [((c.L.getD a.I.toNat []).getD 0 .nil)])) else none) else none))
def cG.d4 (a b c d e f g h i j k l m n o p:C):R:=(ah 0 (lim (apn 18 cG.d2) [.i (-1),.i 0,a,b,c,d,e,f,g,h,i,j,k,l,m,n,o,p]) (apn 5 cG.d3))
def cG:List C→Option (List C):=fun xs=>aY (apn 16 cG.d4 xs)
def nj:FS:=⟨2,⟨[(0,z2),(1,z5)],[]⟩,⟨[(0,zt)],[]⟩,[],cG⟩
theorem yx:aD Tryz.checked.prog T0 132 nj:=br aC (fn:=Tryz.f132) (c:=Tryz.f132.body.getD .skip) nj (.seq .leaf (.seq .leaf (.seq (.seq .leaf (.block ⟨[(2,(.pt 2 0)),(5,zi)],[(2,z0)]⟩ (.loop ⟨[(2,(.pt 2 0)),(3,(.pt 3 0)),(5,zi),(6,zi)],[(2,z0),(3,z1)]⟩ (.seq .leaf (.seq (.skip (.seq (.join ⟨[(2,(.pt 2 0)),(3,(.pt 3 0)),(5,zi),(6,zi),(47,zo)],[(2,z0),(3,z1)]⟩ .leaf) .leaf)) .leaf))))) .leaf))) [(41,some 21,jm),(133,some 34,iq),(133,some 42,iq),(134,some 45,il)] (.cons mD (.cons lC (.cons lC (.cons nV .nil)))) (by kernel_rfl) (by kernel_rfl) (by kernel_rfl) (fun xs=>by kernel_rfl)
def dZ.d1 (a b c d e f g h i:C):R:=(bif (decide (a.I<(h.L.length:Int))) then (bif (decide (0≤a.I)) then (bif (decide (a.I<(h.L.length:Int))) then (ad (cY [b,c,d,e,((h.L.getD a.I.toNat []).getD 0 .nil)]) fun j=>(bif (decide (0≤j.I)) then (bif (decide (j.I<(e.L.length:Int))) then (ad (cG [b,c,d,e,((e.L.getD j.I.toNat []).getD 0 .nil),((e.L.getD j.I.toNat []).getD 1 .nil),((e.L.getD j.I.toNat []).getD 2 .nil),((e.L.getD j.I.toNat []).getD 3 .nil),((e.L.getD j.I.toNat []).getD 4 .nil),((e.L.getD j.I.toNat []).getD 5 .nil),((e.L.getD j.I.toNat []).getD 6 .nil),((e.L.getD j.I.toNat []).getD 7 .nil),((e.L.getD j.I.toNat []).getD 8 .nil),((e.L.getD j.I.toNat []).getD 9 .nil),((e.L.getD j.I.toNat []).getD 10 .nil),((e.L.getD j.I.toNat []).getD 11 .nil)]) fun k=>(bif (!(k.S.toList==(bs #[]).toList)) then (bif (decide (0≤a.I)) then (bif (decide (a.I<(h.L.length:Int))) then (some (.ret [((h.L.getD a.I.toNat []).getD 0 .nil),k,.b true,.l af])) else none) else none) else (some (.again [.i (w64 (a.I+1)),b,c,d,e,f,g,.l h.L,.l i.L])))) else none) else none)) else none) else none) else (some (.brk 0 [f,g,.l i.L])))
def dZ.d2 (a b c:C):R:=(some (.ret [.s (bs #[]),.s (bs #[]),.b false,.l af]))
def dZ.d3 (a b c d:C):R:=(ad (bl [a,b,c,d]) fun e=>(ah 0 (lim (apn 9 dZ.d1) [.i 0,a,b,c,d,.s (bs #[]),.s (bs #[]),.l e.L,.l af]) (apn 3 dZ.d2)))
def dZ:List C→Option (List C):=fun xs=>aY (apn 4 dZ.d3 xs)
def jH:FS:=⟨1,⟨[(0,z2)],[]⟩,⟨[(0,(.tu [(.ag [zt,zt,(.ow 3000)]),zo]))],[(3000,.arr 9 1)]⟩,[],dZ⟩
theorem nZ:aD Tryz.checked.prog T0 95 jH:=br aC (fn:=Tryz.f95) (c:=Tryz.f95.body.getD .skip) jH (.seq .leaf (.seq .leaf (.seq (.seq .leaf (.block ⟨[(2,(.pt 2 0))],[(2,.var 30 [zt,zt,(.ow 1200800)]),(1200800,.arr 9 1)]⟩ (.loop ⟨[(1,(.pt 1 0)),(2,(.pt 2 0)),(4,(.ow 39864)),(5,zi)],[(1,z0),(2,.var 30 [zt,zt,(.ow 1200800)]),(39864,.arr 9 1),(1200800,.arr 9 1)]⟩ .leaf))) .leaf))) [(36,some 23,eh),(83,some 8,lD),(132,some 26,nj)] (.cons eT (.cons sF (.cons yx .nil))) (by kernel_rfl) (by kernel_rfl) (by kernel_rfl) (fun xs=>by kernel_rfl)
def cw.d1 (a b c d e f g h i j k l m:C):R:=(bif a.B then (ad (cY [d,.l j.L,.l k.L,.l l.L,e]) fun n=>(bif (decide (0≤n.I)) then (bif (decide (n.I<(l.L.length:Int))) then (bif (decide (c.L.length+(rows [[e,f,.l m.L]]).length≤4294967296)) then (call4 (dZ [d,.l j.L,.l k.L,.l (l.L.set n.I.toNat (aE (l.L.getD n.I.toNat []) 11 [f]))]) fun o p q r=>(some (.again [.b q.B,b,.l (c.L++(rows [[e,f,.l m.L]])),d,o,p,.l g.L,.l h.L,.l i.L,.l j.L,.l k.L,.l (l.L.set n.I.toNat (aE (l.L.getD n.I.toNat []) 11 [f])),.l r.L]))) else none) else none) else none)) else (some (.brk 0 [b,.l c.L,d,.l g.L,.l h.L,.l i.L,.l j.L,.l k.L,.l l.L])))
def cw.d2 (a b c d e f g h i:C):R:=(some (.ret [c,.l g.L,.l h.L,.l i.L,.l b.L]))
def cw.d3 (a b c d:C):R:=(ad (ay [a,b,c,d]) fun e=>(bif (!e.B) then (some (.ret [.b false,.l af,.l af,.l af,.l af])) else (call4 (cu [a,b,c,d]) fun f g h i=>(call4 (dZ [f,.l g.L,.l h.L,.l i.L]) fun j k l m=>(ah 0 (lim (apn 13 cw.d1) [.b l.B,.b false,.l af,f,j,k,.l af,.l af,.l af,.l g.L,.l h.L,.l i.L,.l m.L]) (apn 9 cw.d2))))))
def cw:List C→Option (List C):=fun xs=>aY (apn 4 cw.d3 xs)
def lj:FS:=⟨1,⟨[(0,z2)],[]⟩,⟨[(0,(.tu [z16,(.ow 3003)]))],[(3000,.arr 72 1),(3001,.arr 40 1),(3002,.arr 38 1),(3003,.arr 30 1)]⟩,[],cw⟩
theorem vN:aD Tryz.checked.prog T0 91 lj:=ry aC [39] false (fn:=Tryz.f91) (c:=Tryz.f91.body.getD .skip) lj (.seq .leaf (.seq .leaf (.seq .leaf (.seq .leaf (.seq (.seq .leaf (.block ⟨[(2,(.pt 2 0)),(4,(.ow 8)),(5,(.pt 5 0))],[(2,.var 27 [zo,(.ow 1198000),(.ow 1198001),(.ow 1198002)]),(8,.arr 30 1),(5,.var 27 [zo,(.ow 68536),(.ow 68537),(.ow 68538)]),(1198000,.arr 72 1),(1198001,.arr 40 1),(1198002,.arr 38 1),(68536,.arr 72 1),(68537,.arr 40 1),(68538,.arr 38 1)]⟩ (.loop ⟨[(2,(.pt 2 0)),(4,(.ow 8)),(5,(.pt 5 0)),(6,(.pt 6 0)),(7,zo)],[(2,.var 27 [zo,(.ow 1198000),(.ow 1198001),(.ow 1198002)]),(8,.arr 30 1),(5,.var 27 [zo,(.ow 68536),(.ow 68537),(.ow 68538)]),(6,.var 30 [zt,zt,(.ow 80824)]),(1198000,.arr 72 1),(1198001,.arr 40 1),(1198002,.arr 38 1),(68536,.arr 72 1),(68537,.arr 40 1),(68538,.arr 38 1),(80824,.arr 9 1)]⟩ .leaf))) .leaf))))) [(36,some 32,eh),(38,some 10,eW),(76,some 15,jG),(95,some 18,jH),(95,some 24,jH)] (.cons eT (.cons gO (.cons pd (.cons nZ (.cons nZ .nil))))) (by kernel_rfl) (by kernel_rfl) (by kernel_rfl) (fun xs=>by kernel_rfl)
def aL.d1 (a b c d e f g h i j k:C):R:=(some (.again [.i (w64 (a.I+1)),b,c,d,e,.l f.L,.l g.L,.l h.L,.l i.L,.l j.L,.l k.L]))
def aL.d2 (a b c d e f g h i j k:C):R:=(bif (decide (a.I<(k.L.length:Int))) then (bf (bif (decide (0≤a.I)) then (bif (decide (a.I<(k.L.length:Int))) then (bif (!((((k.L.getD a.I.toNat []).getD 11 .nil).S).toList==(bs #[]).toList)) then (call3 (ae [.i 4,b,c]) fun l m n=>(bif (decide (0≤a.I)) then (bif (decide (a.I<(k.L.length:Int))) then (some (.nrm [a,m,n,d,e,.l f.L,.l g.L,.l h.L,.l i.L,.l j.L,.l (k.L.set a.I.toNat (aE (k.L.getD a.I.toNat []) 2 [l]))])) else none) else none)) else (call3 (ae [.i 6,b,c]) fun o p q=>(bif (decide (0≤a.I)) then (bif (decide (a.I<(k.L.length:Int))) then (call3 (ae [.i 2,p,q]) fun r s t=>(bif (r.I==0) then (bif (decide (0≤a.I)) then (bif (decide (a.I<((k.L.set a.I.toNat (aE (k.L.getD a.I.toNat []) 2 [.i (w64 (2+o.I))])).length:Int))) then (bif (decide (0≤a.I)) then (bif (decide (a.I<(((k.L.set a.I.toNat (aE (k.L.getD a.I.toNat []) 2 [.i (w64 (2+o.I))])).set a.I.toNat (aE ((k.L.set a.I.toNat (aE (k.L.getD a.I.toNat []) 2 [.i (w64 (2+o.I))])).getD a.I.toNat []) 6 [.s (bs #[])])).length:Int))) then (some (.nrm [a,s,t,d,e,.l f.L,.l g.L,.l h.L,.l i.L,.l j.L,.l (((k.L.set a.I.toNat (aE (k.L.getD a.I.toNat []) 2 [.i (w64 (2+o.I))])).set a.I.toNat (aE ((k.L.set a.I.toNat (aE (k.L.getD a.I.toNat []) 2 [.i (w64 (2+o.I))])).getD a.I.toNat []) 6 [.s (bs #[])])).set a.I.toNat (aE (((k.L.set a.I.toNat (aE (k.L.getD a.I.toNat []) 2 [.i (w64 (2+o.I))])).set a.I.toNat (aE ((k.L.set a.I.toNat (aE (k.L.getD a.I.toNat []) 2 [.i (w64 (2+o.I))])).getD a.I.toNat []) 6 [.s (bs #[])])).getD a.I.toNat []) 9 [.s (bs #[])]))])) else none) else none) else none) else none) else (some (.nrm [a,s,t,d,e,.l f.L,.l g.L,.l h.L,.l i.L,.l j.L,.l (k.L.set a.I.toNat (aE (k.L.getD a.I.toNat []) 2 [.i (w64 (2+o.I))]))])))) else none) else none))) else none) else none) (apn 11 aL.d1)) else (some (.brk 0 [b,c,d,e,.l f.L,.l g.L,.l h.L,.l i.L,.l j.L,.l k.L])))
def aL.d3 (a b c d e f g h i j k l m n o p q r s t u v w:C):R:=(call10 (bS [e,.i 3,.s (bs #[]),.s (bs #[]),.i 0,.i 0,.b false,f,g,h,i,j,k,l,m,n,o,p,.s (bs #[]),.s (bs #[]),.l t.L,.l u.L,.l v.L,.l af,.l w.L]) fun x y z a0 a1 a2 a3 a4 a5 a6=>(bif (y.I==0) then (some (.again [.i (w64 (a.I+1)),b,c,d,x,.l q.L,.l r.L,.l s.L,.l a4.L,.l a5.L,.l a6.L])) else (some (.again [.i (w64 (a.I+1)),b,c,d,e,.l q.L,.l r.L,.l s.L,.l z.L,.l a0.L,.l a1.L]))))
def aL.d4 (a b c d e f g h i j k:C):R:=(bif (decide (a.I<3)) then (call14 (cf [.i (w64 (40+a.I)),b,c]) fun l m n o p q r s t u v w x y=>(call3 (ae [.i 30,w,x]) fun z a0 a1=>(call3 (ae [.i 8,a0,a1]) fun a2 a3 a4=>(bf (call3 (ae [.i 3,a3,a4]) fun a5 a6 a7=>(bif (decide (a5.I>0)) then (some (.nrm [a,a6,a7,d,e,l,m,.i (w64 (3+z.I)),o,.i (w64 (2+a2.I)),q,.s (bs #[]),s,.s (bs #[]),u,v,.l f.L,.l g.L,.l h.L,.l i.L,.l j.L,.l k.L,.l y.L])) else (some (.nrm [a,a6,a7,d,e,l,m,.i (w64 (3+z.I)),o,.i (w64 (2+a2.I)),q,r,s,t,u,v,.l f.L,.l g.L,.l h.L,.l i.L,.l j.L,.l k.L,.l y.L])))) (apn 23 aL.d3))))) else (some (.brk 2 [b,c,d,e,.l f.L,.l g.L,.l h.L,.l i.L,.l j.L,.l k.L])))
def aL.d5 (a b c d e f g h i j:C):R:=(some (.nrm [a,b,c,d,.l e.L,.l f.L,.l g.L,.l h.L,.l i.L,.l j.L]))
def aL.d6 (a b c d e f g h i j k:C):R:=(bif (decide (a.I<(j.L.length:Int))) then (bif (decide (0≤a.I)) then (bif (decide (a.I<(j.L.length:Int))) then (call3 (ae [.i 6,b,c]) fun l m n=>(bif (decide (0≤a.I)) then (bif (decide (a.I<(j.L.length:Int))) then (some (.again [.i (w64 (a.I+1)),m,n,d,e,.l f.L,.l g.L,.l h.L,.l i.L,.l (j.L.set a.I.toNat (aE (j.L.getD a.I.toNat []) 1 [.i (w64 (((j.L.getD a.I.toNat []).getD 1 .nil).I+l.I))])),.l k.L])) else none) else none)) else none) else none) else (some (.brk 4 [b,c,d,e,.l f.L,.l g.L,.l h.L,.l i.L,.l j.L,.l k.L])))
def aL.d7 (a b c d e f g h i j:C):R:=(some (.ret [d,a,b,.l h.L,.l i.L,.l j.L]))
def aL.d8 (a b c d e f g h i j:C):R:=(ah 4 (lim (apn 11 aL.d6) [.i 0,a,b,c,d,.l e.L,.l f.L,.l g.L,.l h.L,.l i.L,.l j.L]) (apn 10 aL.d7))
def aL.d9 (a b c d e f g h i j:C):R:=(bf (call3 (ae [.i 3,a,b]) fun k l m=>(bif (decide (k.I>0)) then (call5 (cw [d,.l h.L,.l i.L,.l j.L]) fun n o p q r=>(ah 2 (lim (apn 11 aL.d4) [.i 0,l,m,c,n,.l e.L,.l f.L,.l g.L,.l o.L,.l p.L,.l q.L]) (apn 10 aL.d5))) else (some (.nrm [l,m,c,d,.l e.L,.l f.L,.l g.L,.l h.L,.l i.L,.l j.L])))) (apn 10 aL.d8))
def aL.d10 (a b:C):R:=(call6 (aN [a,b]) fun c d e f g h=>(ah 0 (lim (apn 11 aL.d2) [.i 0,d,e,.b false,c,.l af,.l af,.l af,.l f.L,.l g.L,.l h.L]) (apn 10 aL.d9)))
def aL:List C→Option (List C):=fun xs=>aY (apn 2 aL.d10 xs)
def oN:FS:=⟨1,⟨[(0,(.pt 2000 0))],[(2000,z3)]⟩,⟨[(0,(.ag [zo,(.ow 3001),(.ow 3002),(.ow 3003)]))],[(2000,z3),(3001,.arr 72),(3002,.arr 40 1),(3003,.arr 38)]⟩,[2000],aL⟩
theorem AD:aD Tryz.checked.prog T0 57 oN:=br aC (fn:=Tryz.f57) (c:=Tryz.f57.body.getD .skip) oN (.seq .leaf (.seq .leaf (.seq (.seq .leaf (.block ⟨[(0,(.pt 2000 0)),(2,(.pt 2 0)),(3,(.pt 3 0))],[(2000,z3),(2,z10),(3,.var 27 [zo,(.ow 52153),(.ow 52154),(.ow 52155)]),(1025100,.arr 72 1),(1025101,.arr 40 1),(1025102,.arr 38 1),(52153,.arr 72),(52154,.arr 40 1),(52155,.arr 38)]⟩ (.loop ⟨[(0,(.pt 2000 0)),(2,(.pt 2 0)),(3,(.pt 3 0)),(4,zi)],[(2000,z3),(2,z10),(3,.var 27 [zo,(.ow 52153),(.ow 52154),(.ow 52155)]),(1025100,.arr 72 1),(1025101,.arr 40 1),(1025102,.arr 38 1),(52153,.arr 72),(52154,.arr 40 1),(52155,.arr 38)]⟩ (.seq .leaf (.seq (.join ⟨[(0,(.pt 2000 0)),(2,(.pt 2 0)),(3,(.pt 3 0)),(4,zi)],[(2000,z3),(2,z10),(3,.var 27 [zo,(.ow 52153),(.ow 52154),(.ow 52155)]),(1025100,.arr 72 1),(1025101,.arr 40 1),(1025102,.arr 38 1),(52153,.arr 72),(52154,.arr 40 1),(52155,.arr 38)]⟩ .leaf) .leaf))))) (.seq (.join ⟨[(0,(.pt 2000 0)),(2,(.pt 2 0)),(3,(.pt 3 0))],[(2000,z3),(2,z10),(3,z14),(1025100,.arr 72 1),(1025101,.arr 40 1),(1025102,.arr 38 1),(248760,.arr 72),(248761,.arr 40 1),(248762,.arr 38)]⟩ (.seq .leaf (.cond (.seq (.frz [52153,52154,52155] .leaf) (.seq .leaf (.block ⟨[(0,(.pt 2000 0)),(2,(.pt 2 0)),(3,(.pt 3 0))],[(2000,z3),(2,z10),(3,z14),(1025100,.arr 72 1),(1025101,.arr 40 1),(1025102,.arr 38 1),(248760,.arr 72),(248761,.arr 40 1),(248762,.arr 38)]⟩ (.loop ⟨[(0,(.pt 2000 0)),(2,(.pt 2 0)),(3,(.pt 3 0)),(5,zi)],[(2000,z3),(2,z10),(3,z14),(1025100,.arr 72 1),(1025101,.arr 40 1),(1025102,.arr 38 1),(248760,.arr 72),(248761,.arr 40 1),(248762,.arr 38)]⟩ (.seq .leaf (.seq (.skip (.seq .leaf (.seq .leaf (.seq .leaf (.seq (.join ⟨[(0,(.pt 2000 0)),(2,(.pt 2 0)),(3,(.pt 3 0)),(5,zi),(6,(.pt 6 0))],[(2000,z3),(2,z10),(3,z14),(6,.var 38 [zt,zt,zi,zi,zi,zi,zt,(.ow 289721),zi,zt,zt,zt]),(1025100,.arr 72 1),(1025101,.arr 40 1),(1025102,.arr 38 1),(248760,.arr 72),(248761,.arr 40 1),(248762,.arr 38),(289721,.arr 100 1)]⟩ .leaf) .leaf))))) .leaf)))))) .leaf))) (.seq (.seq .leaf (.block ⟨[(2,(.pt 2 0)),(3,(.pt 3 0))],[(2000,z3),(2,z10),(3,z14),(1025100,.arr 72 1),(1025101,.arr 40 1),(1025102,.arr 38 1),(248760,.arr 72),(248761,.arr 40 1),(248762,.arr 38)]⟩ (.loop ⟨[(0,(.pt 2000 0)),(2,(.pt 2 0)),(3,(.pt 3 0)),(9,zi)],[(2000,z3),(2,z10),(3,z14),(1025100,.arr 72 1),(1025101,.arr 40 1),(1025102,.arr 38 1),(248760,.arr 72),(248761,.arr 40 1),(248762,.arr 38)]⟩ .leaf))) .leaf))))) [(27,some 30,aa),(27,some 37,aa),(27,some 42,aa),(27,some 55,aa),(27,some 71,aa),(27,some 75,aa),(27,some 79,aa),(27,some 110,aa),(90,some 11,pZ),(91,some 59,lj),(92,some 69,iW),(93,some 87,fy)] (.cons ab (.cons ab (.cons ab (.cons ab (.cons ab (.cons ab (.cons ab (.cons ab (.cons CN (.cons vN (.cons pg (.cons iZ .nil)))))))))))) (by kernel_rfl) (by kernel_rfl) (by kernel_rfl) (fun xs=>by kernel_rfl)
end
end Go.Ev
namespace Go.Ev
open Go.Proofs
noncomputable section
def eO.d1 (a b c:C):R:=(bif (decide (b.I>0)) then (bif ((b.I.tmod 2)==1) then (bif (decide (c.S.size+a.S.size≤4294967296)) then (bif (decide (a.S.size+a.S.size≤4294967296)) then (some (.again [.s (a.S++a.S),.i (w64 (b.I.tdiv 2)),.s (c.S++a.S)])) else none) else none) else (bif (decide (a.S.size+a.S.size≤4294967296)) then (some (.again [.s (a.S++a.S),.i (w64 (b.I.tdiv 2)),c])) else none)) else (some (.brk 0 [c])))
def eO.d2 (a:C):R:=(some (.ret [a]))
def eO.d3 (a b:C):R:=(ah 0 (lim (apn 3 eO.d1) [a,b,.s (bs #[])]) (apn 1 eO.d2))
def eO:List C→Option (List C):=fun xs=>aY (apn 2 eO.d3 xs)
def mL:FS:=⟨2,⟨[(0,zt),(1,zi)],[]⟩,⟨[(0,zt)],[]⟩,[],eO⟩
theorem uR:aD Tryz.checked.prog T0 94 mL:=br aC (fn:=Tryz.f94) (c:=Tryz.f94.body.getD .skip) mL (.seq .leaf (.seq .leaf (.seq (.block ⟨[(5,zt)],[]⟩ (.loop ⟨[(0,zt),(1,zi),(5,zt)],[]⟩ .leaf)) .leaf))) [] .nil (by kernel_rfl) (by kernel_rfl) (by kernel_rfl) (fun xs=>by kernel_rfl)
def bF.d1 (a b c d e f g h i j k l:C):R:=(bif (decide (0≤a.I)) then (bif (decide (a.I<(l.L.length:Int))) then (bif (decide ((((l.L.getD a.I.toNat []).getD 7 .nil).L.length:Int)<b.I)) then (bif (decide (0≤a.I)) then (bif (decide (a.I<(l.L.length:Int))) then (call3 (ae [.i 2,c,d]) fun m n o=>(call3 (ae [.i 2,n,o]) fun p q r=>(bif (decide (((l.L.getD a.I.toNat []).getD 7 .nil).L.length+(rows [[.s (bs #[]),.i (w64 (9+(w64 (m.I*p.I))))]]).length≤4294967296)) then (bif (decide (0≤a.I)) then (bif (decide (a.I<((l.L.set a.I.toNat (aE (l.L.getD a.I.toNat []) 7 [.nil])).length:Int))) then (bif (List.all ((l.L.set a.I.toNat (aE (l.L.getD a.I.toNat []) 7 [.nil])).set a.I.toNat (aE ((l.L.set a.I.toNat (aE (l.L.getD a.I.toNat []) 7 [.nil])).getD a.I.toNat []) 7 [.l (((l.L.getD a.I.toNat []).getD 7 .nil).L++(rows [[.s (bs #[]),.i (w64 (9+(w64 (m.I*p.I))))]]))])) (pF [.str,.str,(.int .i64),(.int .i64),(.int .i64),(.int .i64),.str,(.sl 100),(.int .i64),.str,.str,.str])) then (some (.again [a,b,q,r,e,f,.l g.L,.l h.L,.l i.L,.l j.L,.l k.L,.l ((l.L.set a.I.toNat (aE (l.L.getD a.I.toNat []) 7 [.nil])).set a.I.toNat (aE ((l.L.set a.I.toNat (aE (l.L.getD a.I.toNat []) 7 [.nil])).getD a.I.toNat []) 7 [.l (((l.L.getD a.I.toNat []).getD 7 .nil).L++(rows [[.s (bs #[]),.i (w64 (9+(w64 (m.I*p.I))))]]))]))])) else none) else none) else none) else none))) else none) else none) else (some (.brk 1 [c,d,e,f,.l g.L,.l h.L,.l i.L,.l j.L,.l k.L,.l l.L]))) else none) else none)
def bF.d2 (a b c d e f g h i j:C):R:=(some (.nrm [a,b,c,d,.l j.L,.l e.L,.l f.L,.l g.L,.l h.L,.l i.L]))
def bF.d3 (a b c d e f g h i j k l m:C):R:=(bif (decide (c.I<b.I)) then (bif (decide ((bs #[99]).size+(kV (rows [[.i (IntKind.wrap .u8 (w64 (97+c.I)))]])).size≤4294967296)) then (bif (decide (0≤a.I)) then (bif (decide (a.I<(k.L.length:Int))) then (bif (decide (m.L.length+(rows [[.s ((bs #[99])++(kV (rows [[.i (IntKind.wrap .u8 (w64 (97+c.I)))]]))),.s (bs #[119,101,98]),.i 0,.i 0,.i 0,.i 0,.s (bs #[]),.l af,.i 0,.s (bs #[]),.s (bs #[]),((k.L.getD a.I.toNat []).getD 0 .nil)]]).length≤4294967296)) then (some (.again [a,b,.i (w64 (c.I+1)),d,e,f,g,.l h.L,.l i.L,.l j.L,.l k.L,.l l.L,.l (m.L++(rows [[.s ((bs #[99])++(kV (rows [[.i (IntKind.wrap .u8 (w64 (97+c.I)))]]))),.s (bs #[119,101,98]),.i 0,.i 0,.i 0,.i 0,.s (bs #[]),.l af,.i 0,.s (bs #[]),.s (bs #[]),((k.L.getD a.I.toNat []).getD 0 .nil)]]))])) else none) else none) else none) else none) else (some (.brk 3 [d,e,f,g,.l h.L,.l i.L,.l j.L,.l k.L,.l l.L,.l m.L])))
def bF.d4 (a b c d e f g h i j:C):R:=(some (.ret [d,e,a,b,.l i.L,.l j.L]))
def bF.d5 (a b c d e f:C):R:=(call4 (cu [a,b,c,d]) fun g h i j=>(call3 (ae [.i (h.L.length:Int),e,f]) fun k l m=>(call3 (ae [.i (j.L.length:Int),l,m]) fun n o p=>(bif (!((h.L.length:Int)==0)) then (bif ((j.L.length:Int)==0) then (some (.ret [.b false,.l af,o,p,.l af,.l (rows [[.s (bs #[]),.i 0]])])) else (bf (call3 (ae [.i 16,o,p]) fun q r s=>(bif (q.I==0) then (call3 (ae [.i 2,r,s]) fun t u v=>(ad (eO [.s (bs #[110]),.i (w64 (20+t.I))]) fun w=>(call3 (ae [.i 4,u,v]) fun x y z=>(bif (decide (0≤x.I)) then (bif (decide (x.I<((rows [[.s (bs #[])],[.s (bs #[65])],[.s (bs #[122,122])],[w]]).length:Int))) then (bif (decide (0≤k.I)) then (bif (decide (k.I<(h.L.length:Int))) then (some (.nrm [y,z,.b false,g,.l j.L,.l af,.l af,.l af,.l (h.L.set k.I.toNat (aE (h.L.getD k.I.toNat []) 0 [(((rows [[.s (bs #[])],[.s (bs #[65])],[.s (bs #[122,122])],[w]]).getD x.I.toNat []).getD 0 .nil)])),.l i.L])) else none) else none) else none) else none)))) else (bif (q.I==1) then (call3 (ae [.i 2,r,s]) fun a0 a1 a2=>(bif (decide (0≤a0.I)) then (bif (decide (a0.I<((rows [[.s (bs #[])],[.s (bs #[120,32,121])]]).length:Int))) then (bif (decide (0≤k.I)) then (bif (decide (k.I<(h.L.length:Int))) then (some (.nrm [a1,a2,.b false,g,.l j.L,.l af,.l af,.l af,.l (h.L.set k.I.toNat (aE (h.L.getD k.I.toNat []) 1 [(((rows [[.s (bs #[])],[.s (bs #[120,32,121])]]).getD a0.I.toNat []).getD 0 .nil)])),.l i.L])) else none) else none) else none) else none)) else (bif (q.I==2) then (call3 (ae [.i 6,r,s]) fun a3 a4 a5=>(bif (decide (0≤a3.I)) then (bif (decide (a3.I<((rows [[.l (rows [[.s (bs #[98])],[.s (bs #[97])]])],[.l (rows [[.s (bs #[97])],[.s (bs #[97,61,98])]])],[.l (rows [[.s (bs #[97,61,98])],[.s (bs #[97,61,99])]])],[.l (rows [[.s (bs #[65])]])],[.l (rows [[.s (bs #[97])],[.s (bs #[97,45,120])],[.s (bs #[97,61,98])]])],[.l (rows [[.s (bs #[49])],[.s (bs #[50])],[.s (bs #[51])],[.s (bs #[52])],[.s (bs #[53])],[.s (bs #[54])],[.s (bs #[55])],[.s (bs #[56])],[.s (bs #[57])],[.s (bs #[97])],[.s (bs #[98])]])]]).length:Int))) then (bif (decide (0≤k.I)) then (bif (decide (k.I<(h.L.length:Int))) then (some (.nrm [a4,a5,.b false,g,.l j.L,.l af,.l af,.l af,.l (h.L.set k.I.toNat (aE (h.L.getD k.I.toNat []) 2 [(((rows [[.l (rows [[.s (bs #[98])],[.s (bs #[97])]])],[.l (rows [[.s (bs #[97])],[.s (bs #[97,61,98])]])],[.l (rows [[.s (bs #[97,61,98])],[.s (bs #[97,61,99])]])],[.l (rows [[.s (bs #[65])]])],[.l (rows [[.s (bs #[97])],[.s (bs #[97,45,120])],[.s (bs #[97,61,98])]])],[.l (rows [[.s (bs #[49])],[.s (bs #[50])],[.s (bs #[51])],[.s (bs #[52])],[.s (bs #[53])],[.s (bs #[54])],[.s (bs #[55])],[.s (bs #[56])],[.s (bs #[57])],[.s (bs #[97])],[.s (bs #[98])]])]]).getD a3.I.toNat []).getD 0 .nil)])),.l i.L])) else none) else none) else none) else none)) else (bif (q.I==3) then (call3 (ae [.i 4,r,s]) fun a6 a7 a8=>(bif (decide (0≤a6.I)) then (bif (decide (a6.I<((rows [[.i (-1)],[.i 0],[.i 1000],[.i 1001]]).length:Int))) then (bif (decide (0≤k.I)) then (bif (decide (k.I<(h.L.length:Int))) then (some (.nrm [a7,a8,.b false,g,.l j.L,.l af,.l af,.l af,.l (h.L.set k.I.toNat (aE (h.L.getD k.I.toNat []) 3 [(((rows [[.i (-1)],[.i 0],[.i 1000],[.i 1001]]).getD a6.I.toNat []).getD 0 .nil)])),.l i.L])) else none) else none) else none) else none)) else (bif (q.I==4) then (bif (decide (0≤k.I)) then (bif (decide (k.I<(h.L.length:Int))) then (bif (decide (h.L.length+(rows [[((h.L.getD k.I.toNat []).getD 0 .nil),((h.L.getD k.I.toNat []).getD 1 .nil),((h.L.getD k.I.toNat []).getD 2 .nil),((h.L.getD k.I.toNat []).getD 3 .nil),((h.L.getD k.I.toNat []).getD 4 .nil),((h.L.getD k.I.toNat []).getD 5 .nil)]]).length≤4294967296)) then (some (.nrm [r,s,.b false,g,.l j.L,.l af,.l af,.l af,.l (h.L++(rows [[((h.L.getD k.I.toNat []).getD 0 .nil),((h.L.getD k.I.toNat []).getD 1 .nil),((h.L.getD k.I.toNat []).getD 2 .nil),((h.L.getD k.I.toNat []).getD 3 .nil),((h.L.getD k.I.toNat []).getD 4 .nil),((h.L.getD k.I.toNat []).getD 5 .nil)]])),.l i.L])) else none) else none) else none) else (bif (q.I==5) then (call3 (ae [.i 4,r,s]) fun a9 b0 b1=>(call3 (ae [.i 3,b0,b1]) fun b2 b3 b4=>(bif (decide (0≤b2.I)) then (bif (decide (b2.I<((rows [[.i (-1)],[.i 60],[.i 61]]).length:Int))) then (bif (decide (0≤a9.I)) then (bif (decide (a9.I<(i.L.length:Int))) then (some (.nrm [b3,b4,.b false,g,.l j.L,.l af,.l af,.l af,.l h.L,.l (i.L.set a9.I.toNat (aE (i.L.getD a9.I.toNat []) 1 [(((rows [[.i (-1)],[.i 60],[.i 61]]).getD b2.I.toNat []).getD 0 .nil)]))])) else none) else none) else none) else none))) else (bif (q.I==6) then (call3 (ae [.i 3,r,s]) fun b5 b6 b7=>(bif (decide (0≤b5.I)) then (bif (decide (b5.I<((rows [[.i (-1)],[.i 100],[.i 101]]).length:Int))) then (bif (decide (0≤n.I)) then (bif (decide (n.I<(j.L.length:Int))) then (some (.nrm [b6,b7,.b false,g,.l (j.L.set n.I.toNat (aE (j.L.getD n.I.toNat []) 2 [(((rows [[.i (-1)],[.i 100],[.i 101]]).getD b5.I.toNat []).getD 0 .nil)])),.l af,.l af,.l af,.l h.L,.l i.L])) else none) else none) else none) else none)) else (bif (q.I==7) then (call3 (ae [.i 3,r,s]) fun b8 b9 c0=>(bif (decide (0≤b8.I)) then (bif (decide (b8.I<((rows [[.i (-1)],[.i 1000000],[.i 1000001]]).length:Int))) then (bif (decide (0≤n.I)) then (bif (decide (n.I<(j.L.length:Int))) then (some (.nrm [b9,c0,.b false,g,.l (j.L.set n.I.toNat (aE (j.L.getD n.I.toNat []) 3 [(((rows [[.i (-1)],[.i 1000000],[.i 1000001]]).getD b8.I.toNat []).getD 0 .nil)])),.l af,.l af,.l af,.l h.L,.l i.L])) else none) else none) else none) else none)) else (bif (q.I==8) then (call3 (ae [.i 3,r,s]) fun c1 c2 c3=>(bif (decide (0≤c1.I)) then (bif (decide (c1.I<((rows [[.i (-1)],[.i 1000],[.i 1001]]).length:Int))) then (bif (decide (0≤n.I)) then (bif (decide (n.I<(j.L.length:Int))) then (some (.nrm [c2,c3,.b false,g,.l (j.L.set n.I.toNat (aE (j.L.getD n.I.toNat []) 4 [(((rows [[.i (-1)],[.i 1000],[.i 1001]]).getD c1.I.toNat []).getD 0 .nil)])),.l af,.l af,.l af,.l h.L,.l i.L])) else none) else none) else none) else none)) else (bif (q.I==9) then (ad (eO [.s (bs #[97]),.i 201]) fun c4=>(call3 (ae [.i 4,r,s]) fun c5 c6 c7=>(bif (decide (0≤c5.I)) then (bif (decide (c5.I<((rows [[.s (bs #[97,32,98])],[.s (bs #[33])],[c4],[.s (bs #[120])]]).length:Int))) then (bif (decide (0≤n.I)) then (bif (decide (n.I<(j.L.length:Int))) then (some (.nrm [c6,c7,.b false,g,.l (j.L.set n.I.toNat (aE (j.L.getD n.I.toNat []) 6 [(((rows [[.s (bs #[97,32,98])],[.s (bs #[33])],[c4],[.s (bs #[120])]]).getD c5.I.toNat []).getD 0 .nil)])),.l af,.l af,.l af,.l h.L,.l i.L])) else none) else none) else none) else none))) else (bif (q.I==10) then (call3 (ae [.i 2,r,s]) fun c8 c9 d0=>(ah 1 (lim (apn 12 bF.d1) [n,.i (w64 (5+c8.I)),c9,d0,.b false,g,.l af,.l af,.l af,.l h.L,.l i.L,.l j.L]) (apn 10 bF.d2))) else (bif (q.I==11) then (call3 (ae [.i 2,r,s]) fun d1 d2 d3=>(bif (decide (0≤d1.I)) then (bif (decide (d1.I<((rows [[.i (-1)],[.i 3]]).length:Int))) then (bif (decide (0≤n.I)) then (bif (decide (n.I<(j.L.length:Int))) then (some (.nrm [d2,d3,.b false,g,.l (j.L.set n.I.toNat (aE (j.L.getD n.I.toNat []) 8 [(((rows [[.i (-1)],[.i 3]]).getD d1.I.toNat []).getD 0 .nil)])),.l af,.l af,.l af,.l h.L,.l i.L])) else none) else none) else none) else none)) else (bif (q.I==12) then (call3 (ae [.i 3,r,s]) fun d4 d5 d6=>(bif (decide (0≤d4.I)) then (bif (decide (d4.I<((rows [[.s (bs #[103,111,110,101])],[.s (bs #[98,48])],[.s (bs #[98,49])]]).length:Int))) then (bif (decide (0≤n.I)) then (bif (decide (n.I<(j.L.length:Int))) then (some (.nrm [d5,d6,.b false,g,.l (j.L.set n.I.toNat (aE (j.L.getD n.I.toNat []) 11 [(((rows [[.s (bs #[103,111,110,101])],[.s (bs #[98,48])],[.s (bs #[98,49])]]).getD d4.I.toNat []).getD 0 .nil)])),.l af,.l af,.l af,.l h.L,.l i.L])) else none) else none) else none) else none)) else (bif (q.I==13) then (call3 (ae [.i 2,r,s]) fun d7 d8 d9=>(bif (decide (0≤d7.I)) then (bif (decide (d7.I<((rows [[.s (bs #[110,111,110,101])],[.s (bs #[])]]).length:Int))) then (bif (decide (0≤n.I)) then (bif (decide (n.I<(j.L.length:Int))) then (some (.nrm [d8,d9,.b false,g,.l (j.L.set n.I.toNat (aE (j.L.getD n.I.toNat []) 1 [(((rows [[.s (bs #[110,111,110,101])],[.s (bs #[])]]).getD d7.I.toNat []).getD 0 .nil)])),.l af,.l af,.l af,.l h.L,.l i.L])) else none) else none) else none) else none)) else (bif (q.I==14) then (call3 (ae [.i 2,r,s]) fun e0 e1 e2=>(ah 3 (lim (apn 13 bF.d3) [k,.i (w64 (10+e0.I)),.i 0,e1,e2,.b false,g,.l af,.l af,.l af,.l h.L,.l i.L,.l af]) (apn 10 bF.d2))) else (call3 (ae [.i 2,r,s]) fun e3 e4 e5=>(bif (decide (0≤e3.I)) then (bif (decide (e3.I<((rows [[.s (bs #[65])],[.s (bs #[119,101,98])]]).length:Int))) then (bif (decide (0≤n.I)) then (bif (decide (n.I<(j.L.length:Int))) then (call3 (ae [.i 2,e4,e5]) fun e6 e7 e8=>(bif (decide (0≤e6.I)) then (bif (decide (e6.I<((rows [[.s (bs #[120,32,121])],[.s (bs #[98,48])]]).length:Int))) then (bif (decide (0≤n.I)) then (bif (decide (n.I<((j.L.set n.I.toNat (aE (j.L.getD n.I.toNat []) 9 [(((rows [[.s (bs #[65])],[.s (bs #[119,101,98])]]).getD e3.I.toNat []).getD 0 .nil)])).length:Int))) then (some (.nrm [e7,e8,.b false,g,.l ((j.L.set n.I.toNat (aE (j.L.getD n.I.toNat []) 9 [(((rows [[.s (bs #[65])],[.s (bs #[119,101,98])]]).getD e3.I.toNat []).getD 0 .nil)])).set n.I.toNat (aE ((j.L.set n.I.toNat (aE (j.L.getD n.I.toNat []) 9 [(((rows [[.s (bs #[65])],[.s (bs #[119,101,98])]]).getD e3.I.toNat []).getD 0 .nil)])).getD n.I.toNat []) 10 [(((rows [[.s (bs #[120,32,121])],[.s (bs #[98,48])]]).getD e6.I.toNat []).getD 0 .nil)])),.l af,.l af,.l af,.l h.L,.l i.L])) else none) else none) else none) else none)) else none) else none) else none) else none)))))))))))))))))) (apn 10 bF.d4))) else (some (.ret [.b false,.l af,o,p,.l af,.l (rows [[.s (bs #[]),.i 0]])]))))))
def bF:List C→Option (List C):=fun xs=>aY (apn 6 bF.d5 xs)
def ou:FS:=⟨2,⟨[(0,(.pt 2000 0)),(1,z2)],[(2000,z3)]⟩,⟨[(0,(.ag [zo,(.ow 3001),(.ow 3002),(zl 38)]))],[(2000,z3),(3001,.arr 72),(3002,.arr 40 1)]⟩,[2000],bF⟩
theorem Ax:aD Tryz.checked.prog T0 58 ou:=IU aC [125,287] true [40,72] (fn:=Tryz.f58) (c:=Tryz.f58.body.getD .skip) ou (.seq .leaf (.seq .leaf (.seq .leaf (.seq .leaf (.seq .leaf (.seq (.join ⟨[(4,(.pt 4 0)),(5,(.pt 5 0))],[(2000,z3),(4,.var 27 [zo,(.ow 1231100),(.ow 1231101),(.ow 1231102)]),(5,.var 27 [zo,(.ow 56248),(.ow 56249),(zl 38)]),(1231100,.arr 72 1),(1231101,.arr 40 1),(1231102,.arr 38 1),(56248,.arr 72),(56249,.arr 40 1)]⟩ (.seq .leaf (.skip (.seq .leaf (.cond .leaf (.seq .leaf (.cond .leaf (.seq .leaf (.cond .leaf (.seq .leaf (.cond .leaf (.seq .leaf (.cond .leaf (.seq .leaf (.cond .leaf (.seq .leaf (.cond .leaf (.seq .leaf (.cond .leaf (.seq .leaf (.cond .leaf (.seq .leaf (.cond .leaf (.seq .leaf (.cond (.seq .leaf (.block ⟨[(4,(.pt 4 0)),(5,(.pt 5 0))],[(2000,z3),(4,.var 27 [zo,(.ow 1231100),(.ow 1231101),(.ow 1231102)]),(5,.var 27 [zo,(.ow 56248),(.ow 56249),(.ow 56250)]),(1231100,.arr 72 1),(1231101,.arr 40 1),(1231102,.arr 38 1),(56248,.arr 72 1),(56249,.arr 40 1),(56250,.arr 38 2)]⟩ (.loop ⟨[(0,(.pt 2000 0)),(4,(.pt 4 0)),(5,(.pt 5 0)),(7,zi),(8,zi)],[(2000,z3),(4,.var 27 [zo,(.ow 1231100),(.ow 1231101),(.ow 1231102)]),(5,.var 27 [zo,(.ow 56248),(.ow 56249),(.ow 56250)]),(1231100,.arr 72 1),(1231101,.arr 40 1),(1231102,.arr 38 1),(56248,.arr 72 1),(56249,.arr 40 1),(56250,.arr 38 2)]⟩ .leaf))) (.seq .leaf (.cond .leaf (.seq .leaf (.cond .leaf (.seq .leaf (.cond .leaf (.seq .leaf (.cond (.seq .leaf (.seq .leaf (.seq .leaf (.block ⟨[(4,(.pt 4 0)),(5,(.pt 5 0))],[(2000,z3),(4,.var 27 [zo,(.ow 1234200),(.ow 1234201),(.ow 1234202)]),(5,.var 27 [zo,(.ow 56248),(.ow 56249),(.ow 265)]),(1234200,.arr 72 1),(1234201,.arr 40 1),(1234202,.arr 38 1),(56248,.arr 72 1),(56249,.arr 40 1),(265,.arr 38 1)]⟩ (.loop ⟨[(4,(.pt 4 0)),(5,(.pt 5 0)),(6,zi),(9,zi),(10,zi)],[(2000,z3),(4,.var 27 [zo,(.ow 1234200),(.ow 1234201),(.ow 1234202)]),(5,.var 27 [zo,(.ow 56248),(.ow 56249),(.ow 265)]),(1234200,.arr 72 1),(1234201,.arr 40 1),(1234202,.arr 38 1),(56248,.arr 72 1),(56249,.arr 40 1),(265,.arr 38 1)]⟩ .leaf))))) .leaf))))))))))))))))))))))))))))))))) .leaf)))))) [(27,some 17,aa),(27,some 22,aa),(27,some 37,aa),(27,some 43,aa),(27,some 53,aa),(27,some 64,aa),(27,some 69,aa),(27,some 81,aa),(27,some 99,aa),(27,some 111,aa),(27,some 133,aa),(27,some 136,aa),(27,some 148,aa),(27,some 160,aa),(27,some 172,aa),(27,some 185,aa),(27,some 193,aa),(27,some 214,aa),(27,some 216,aa),(27,some 231,aa),(27,some 243,aa),(27,some 255,aa),(27,some 263,aa),(76,some 12,jG),(94,some 66,mL),(94,some 182,mL)] (.cons ab (.cons ab (.cons ab (.cons ab (.cons ab (.cons ab (.cons ab (.cons ab (.cons ab (.cons ab (.cons ab (.cons ab (.cons ab (.cons ab (.cons ab (.cons ab (.cons ab (.cons ab (.cons ab (.cons ab (.cons ab (.cons ab (.cons ab (.cons pd (.cons uR (.cons uR .nil)))))))))))))))))))))))))) (by kernel_rfl) (by kernel_rfl) (by kernel_rfl) (fun xs=>by kernel_rfl)
def ot.d1 (a b:C):R:=(call3 (ae [.i 12,a,b]) fun c d e=>(bif (c.I==0) then (call6 (cN [d,e]) fun f g h i j k=>(some (.ret [f,.l k.L,g,h,.l i.L,.l j.L]))) else (call6 (aL [d,e]) fun l m n o p q=>(call3 (ae [.i 16,m,n]) fun r s t=>(bif (r.I==0) then (call6 (bF [l,.l o.L,.l p.L,.l q.L,s,t]) fun u v w x y z=>(some (.ret [u,v,w,x,.l y.L,.l z.L]))) else (some (.ret [l,.l q.L,s,t,.l o.L,.l p.L])))))))
def ot:List C→Option (List C):=fun xs=>aY (apn 2 ot.d1 xs)
def rT:FS:=⟨1,⟨[(0,(.pt 2000 0))],[(2000,z3)]⟩,⟨[(0,(.ag [zo,(.ow 3001),(.ow 3002),(zl 38)]))],[(2000,z3),(3001,.arr 72),(3002,.arr 40 1)]⟩,[2000],ot⟩
theorem DM:aD Tryz.checked.prog T0 25 rT:=br aC (fn:=Tryz.f25) (c:=Tryz.f25.body.getD .skip) rT (.seq .leaf (.seq (.seq .leaf (.cond (.seq .leaf (.frz [39867] .leaf)) .leaf)) (.seq .leaf (.seq (.seq .leaf (.cond (.seq (.frz [48057,48058,48059] .leaf) .leaf) .leaf)) (.seq .leaf (.frz [48059] .leaf)))))) [(27,some 5,aa),(27,some 12,aa),(56,some 8,qv),(57,some 10,oN),(58,some 16,ou)] (.cons ab (.cons ab (.cons B6 (.cons AD (.cons Ax .nil))))) (by kernel_rfl) (by kernel_rfl) (by kernel_rfl) (fun xs=>by kernel_rfl)
def cH.d1 (a b c d e f g h i:C):R:=(bif (decide (d.I<(i.L.length:Int))) then (bif (decide (0≤d.I)) then (bif (decide (d.I<(i.L.length:Int))) then (bif (decide (((i.L.getD d.I.toNat []).getD 0 .nil).I≥c.I)) then (some (.again [a,b,c,.i (w64 (d.I+1)),e,f,g,h,.l i.L])) else (some (.brk 2 [a,b,c,d,e,f,g,h,.l i.L]))) else none) else none) else (some (.brk 2 [a,b,c,d,e,f,g,h,.l i.L])))
def cH.d2 (a b c d e f g h i:C):R:=(bif (decide (0≤d.I)) then (bif (decide (d.I≤(i.L.length:Int))) then (bif (decide (af.length+((i.L.take d.I.toNat).drop 0).length≤4294967296)) then (bif (decide ((af++((i.L.take d.I.toNat).drop 0)).length+(rows [[c]]).length≤4294967296)) then (bif (decide (0≤d.I)) then (bif (decide (d.I≤(i.L.length:Int))) then (bif (decide ((i.L.length:Int)≤(i.L.length:Int))) then (bif (decide (((af++((i.L.take d.I.toNat).drop 0))++(rows [[c]])).length+((i.L.take (i.L.length:Int).toNat).drop d.I.toNat).length≤4294967296)) then (some (.again [a,.i (w64 (b.I+1)),e,f,g,h,.l (((af++((i.L.take d.I.toNat).drop 0))++(rows [[c]]))++((i.L.take (i.L.length:Int).toNat).drop d.I.toNat))])) else none) else none) else none) else none) else none) else none) else none) else none)
def cH.d3 (a b c d e f g:C):R:=(bif (decide (b.I<(a.L.length:Int))) then (bif (decide (0≤b.I)) then (bif (decide (b.I<(a.L.length:Int))) then (ad (cY [c,d,e,f,((a.L.getD b.I.toNat []).getD 0 .nil)]) fun h=>(bif (decide (0≤h.I)) then (bif (decide (h.I<(f.L.length:Int))) then (ah 2 (lim (apn 9 cH.d1) [a,b,((f.L.getD h.I.toNat []).getD 2 .nil),.i 0,c,d,e,f,.l g.L]) (apn 9 cH.d2)) else none) else none)) else none) else none) else (some (.brk 0 [.l g.L])))
def cH.d4 (a:C):R:=(some (.ret [.l a.L]))
def cH.d5 (a b c d e:C):R:=(ah 0 (lim (apn 7 cH.d3) [e,.i 0,a,b,c,d,.l af]) (apn 1 cH.d4))
def cH:List C→Option (List C):=fun xs=>aY (apn 5 cH.d5 xs)
def jn:FS:=⟨2,⟨[(0,z2),(1,(zl 9))],[]⟩,⟨[(0,(.ow 3000))],[(3000,.arr 3 1)]⟩,[],cH⟩
theorem mW:aD Tryz.checked.prog T0 55 jn:=br aC (fn:=Tryz.f55) (c:=Tryz.f55.body.getD .skip) jn (.seq .leaf (.seq .leaf (.seq (.seq .leaf (.block ⟨[(5,(.ow 9))],[(9,.arr 3 1)]⟩ (.loop ⟨[(1,(zl 9)),(2,(.pt 2 0)),(5,(.ow 9)),(6,zi)],[(2,z0),(9,.arr 3 1)]⟩ (.seq .leaf (.seq (.skip (.seq .leaf (.seq .leaf (.seq (.block ⟨[(1,(zl 9)),(2,(.pt 2 0)),(5,(.ow 9)),(6,zi),(7,zi),(8,zi)],[(2,z0),(9,.arr 3 1)]⟩ (.loop ⟨[(1,(zl 9)),(2,(.pt 2 0)),(5,(.ow 9)),(6,zi),(7,zi),(8,zi)],[(2,z0),(9,.arr 3 1)]⟩ .leaf)) .leaf)))) .leaf))))) .leaf))) [(36,some 23,eh)] (.cons eT .nil) (by kernel_rfl) (by kernel_rfl) (by kernel_rfl) (fun xs=>by kernel_rfl)
def cg.d1 (a b c:C):R:=(bif (decide (c.I<(a.L.length:Int))) then (bif (decide (c.I<(b.L.length:Int))) then (bif (decide (0≤c.I)) then (bif (decide (c.I<(a.L.length:Int))) then (bif (decide (0≤c.I)) then (bif (decide (c.I<(b.L.length:Int))) then (bif (((a.L.getD c.I.toNat []).getD 0 .nil).I !=((b.L.getD c.I.toNat []).getD 0 .nil).I) then (bif (decide (0≤c.I)) then (bif (decide (c.I<(a.L.length:Int))) then (bif (decide (0≤c.I)) then (bif (decide (c.I<(b.L.length:Int))) then (some (.ret [.b (decide (((a.L.getD c.I.toNat []).getD 0 .nil).I<((b.L.getD c.I.toNat []).getD 0 .nil).I))])) else none) else none) else none) else none) else (some (.again [a,b,.i (w64 (c.I+1))]))) else none) else none) else none) else none) else (some (.brk 0 [a,b]))) else (some (.brk 0 [a,b])))
def cg.d2 (a b:C):R:=(some (.ret [.b (decide ((a.L.length:Int)<(b.L.length:Int)))]))
def cg.d3 (a b:C):R:=(ah 0 (lim (apn 3 cg.d1) [a,b,.i 0]) (apn 2 cg.d2))
def cg:List C→Option (List C):=fun xs=>aY (apn 2 cg.d3 xs)
def gq:FS:=⟨2,⟨[(0,(zl 3)),(1,(zl 3))],[]⟩,⟨[(0,zo)],[]⟩,[],cg⟩
theorem jF:aD Tryz.checked.prog T0 23 gq:=br aC (fn:=Tryz.f23) (c:=Tryz.f23.body.getD .skip) gq (.seq .leaf (.seq (.seq .leaf (.block ⟨[(0,(zl 3)),(1,(zl 3))],[]⟩ (.loop ⟨[(0,(zl 3)),(1,(zl 3)),(5,zi)],[]⟩ .leaf))) .leaf)) [] .nil (by kernel_rfl) (by kernel_rfl) (by kernel_rfl) (fun xs=>by kernel_rfl)
def ed.d1 (a b c:C):R:=(bif (decide (c.I<(a.L.length:Int))) then (bif (decide (c.I<(b.L.length:Int))) then (bif (decide (0≤c.I)) then (bif (decide (c.I<(a.L.length:Int))) then (bif (decide (0≤c.I)) then (bif (decide (c.I<(b.L.length:Int))) then (bif (!((((a.L.getD c.I.toNat []).getD 0 .nil).S).toList==(((b.L.getD c.I.toNat []).getD 0 .nil).S).toList)) then (bif (decide (0≤c.I)) then (bif (decide (c.I<(a.L.length:Int))) then (bif (decide (0≤c.I)) then (bif (decide (c.I<(b.L.length:Int))) then (some (.ret [.b (Op.bytesLess (((a.L.getD c.I.toNat []).getD 0 .nil).S).toList (((b.L.getD c.I.toNat []).getD 0 .nil).S).toList)])) else none) else none) else none) else none) else (some (.again [a,b,.i (w64 (c.I+1))]))) else none) else none) else none) else none) else (some (.brk 0 [a,b]))) else (some (.brk 0 [a,b])))
def ed.d2 (a b:C):R:=(some (.ret [.b (decide ((a.L.length:Int)<(b.L.length:Int)))]))
def ed.d3 (a b:C):R:=(ah 0 (lim (apn 3 ed.d1) [a,b,.i 0]) (apn 2 ed.d2))
def ed:List C→Option (List C):=fun xs=>aY (apn 2 ed.d3 xs)
def oS:FS:=⟨2,⟨[(0,(zl 9)),(1,(zl 9))],[]⟩,⟨[(0,zo)],[]⟩,[],ed⟩
theorem An:aD Tryz.checked.prog T0 85 oS:=br aC (fn:=Tryz.f85) (c:=Tryz.f85.body.getD .skip) oS (.seq .leaf (.seq (.seq .leaf (.block ⟨[(0,(zl 9)),(1,(zl 9))],[]⟩ (.loop ⟨[(0,(zl 9)),(1,(zl 9)),(5,zi)],[]⟩ .leaf))) .leaf)) [] .nil (by kernel_rfl) (by kernel_rfl) (by kernel_rfl) (fun xs=>by kernel_rfl)
def aR.d1 (a b c d e f:C):R:=(bif (decide (b.I<(a.L.length:Int))) then (bif (decide (0≤b.I)) then (bif (decide (b.I<(a.L.length:Int))) then (ad (cY [c,d,e,f,((a.L.getD b.I.toNat []).getD 0 .nil)]) fun g=>(bif (!(decide (g.I<0))) then (bif (decide (0≤g.I)) then (bif (decide (g.I<(f.L.length:Int))) then (bif (!((((f.L.getD g.I.toNat []).getD 11 .nil).S).toList==(bs #[]).toList)) then (bif (decide (b.I>0)) then (bif (decide (0≤(w64 (b.I-1)))) then (bif (decide ((w64 (b.I-1))<(a.L.length:Int))) then (bif (decide (0≤b.I)) then (bif (decide (b.I<(a.L.length:Int))) then (bif (!(Op.bytesLess (((a.L.getD (w64 (b.I-1)).toNat []).getD 0 .nil).S).toList (((a.L.getD b.I.toNat []).getD 0 .nil).S).toList)) then (some (.ret [.b false])) else (some (.again [a,.i (w64 (b.I+1)),c,d,e,f]))) else none) else none) else none) else none) else (some (.again [a,.i (w64 (b.I+1)),c,d,e,f]))) else (some (.ret [.b false]))) else none) else none) else (some (.ret [.b false])))) else none) else none) else (some (.brk 0 [a,c,d,e,f])))
def aR.d2 (a b c d e f g h i:C):R:=(bif (decide (e.I<(i.L.length:Int))) then (bif (decide (0≤e.I)) then (bif (decide (e.I<(i.L.length:Int))) then (bif (decide (0≤b.I)) then (bif (decide (b.I<(h.L.length:Int))) then (bif ((((i.L.getD e.I.toNat []).getD 1 .nil).S).toList==(((h.L.getD b.I.toNat []).getD 0 .nil).S).toList) then (bif (decide (0≤e.I)) then (bif (decide (e.I<(i.L.length:Int))) then (bif ((((i.L.getD e.I.toNat []).getD 11 .nil).S).toList==(bs #[]).toList) then (some (.again [a,b,.i (w64 (c.I-1)),d,.i (w64 (e.I+1)),f,g,h,i])) else (some (.again [a,b,c,d,.i (w64 (e.I+1)),f,g,h,i]))) else none) else none) else (some (.again [a,b,c,d,.i (w64 (e.I+1)),f,g,h,i]))) else none) else none) else none) else none) else (some (.brk 4 [a,b,c,d,f,g,h,i])))
def aR.d3 (a b c d e f g h i:C):R:=(bif (decide (e.I<(a.L.length:Int))) then (bif (decide (0≤e.I)) then (bif (decide (e.I<(a.L.length:Int))) then (ad (cY [f,g,h,i,((a.L.getD e.I.toNat []).getD 0 .nil)]) fun j=>(bif (decide (0≤j.I)) then (bif (decide (j.I<(i.L.length:Int))) then (bif (decide (0≤b.I)) then (bif (decide (b.I<(h.L.length:Int))) then (bif ((((i.L.getD j.I.toNat []).getD 1 .nil).S).toList==(((h.L.getD b.I.toNat []).getD 0 .nil).S).toList) then (some (.again [a,b,c,.i (w64 (d.I+1)),.i (w64 (e.I+1)),f,g,h,i])) else (some (.again [a,b,c,d,.i (w64 (e.I+1)),f,g,h,i]))) else none) else none) else none) else none)) else none) else none) else (some (.brk 6 [a,b,c,d,f,g,h,i])))
def aR.d4 (a b c d e f g h:C):R:=(bif (decide (d.I>0)) then (bif (decide (d.I>c.I)) then (some (.ret [.b false])) else (some (.again [a,.i (w64 (b.I+1)),e,f,g,h]))) else (some (.again [a,.i (w64 (b.I+1)),e,f,g,h])))
def aR.d5 (a b c d e f g h:C):R:=(ah 6 (lim (apn 9 aR.d3) [a,b,c,d,.i 0,e,f,g,h]) (apn 8 aR.d4))
def aR.d6 (a b c d e f:C):R:=(bif (decide (b.I<(e.L.length:Int))) then (bif (decide (0≤b.I)) then (bif (decide (b.I<(e.L.length:Int))) then (ah 4 (lim (apn 9 aR.d2) [a,b,((e.L.getD b.I.toNat []).getD 1 .nil),.i 0,.i 0,c,d,e,f]) (apn 8 aR.d5)) else none) else none) else (some (.brk 2 [])))
def aR.d7:R:=(some (.ret [.b true]))
def aR.d8 (a b c d e:C):R:=(ah 2 (lim (apn 6 aR.d6) [a,.i 0,b,c,d,e]) (fun xs=>aR.d7))
def aR.d9 (a b c d e:C):R:=(ah 0 (lim (apn 6 aR.d1) [e,.i 0,a,b,c,d]) (apn 5 aR.d8))
def aR:List C→Option (List C):=fun xs=>aY (apn 5 aR.d9 xs)
def lA:FS:=⟨2,⟨[(0,z2),(1,(zl 9))],[]⟩,⟨[(0,zo)],[]⟩,[],aR⟩
theorem sI:aD Tryz.checked.prog T0 39 lA:=br aC (fn:=Tryz.f39) (c:=Tryz.f39.body.getD .skip) lA (.seq .leaf (.seq (.seq .leaf (.block ⟨[(1,(zl 9)),(2,(.pt 2 0))],[(2,z0)]⟩ (.loop ⟨[(1,(zl 9)),(2,(.pt 2 0)),(5,zi)],[(2,z0)]⟩ .leaf))) (.seq (.seq .leaf (.block ⟨[],[]⟩ (.loop ⟨[(1,(zl 9)),(2,(.pt 2 0)),(7,zi)],[(2,z0)]⟩ (.seq .leaf (.seq (.skip (.seq .leaf (.seq .leaf (.seq (.seq .leaf (.block ⟨[(1,(zl 9)),(2,(.pt 2 0)),(7,zi),(8,zi),(9,zi)],[(2,z0)]⟩ (.loop ⟨[(1,(zl 9)),(2,(.pt 2 0)),(7,zi),(8,zi),(9,zi),(10,zi)],[(2,z0)]⟩ .leaf))) (.seq (.seq .leaf (.block ⟨[(1,(zl 9)),(2,(.pt 2 0)),(7,zi),(8,zi),(9,zi)],[(2,z0)]⟩ (.loop ⟨[(1,(zl 9)),(2,(.pt 2 0)),(7,zi),(8,zi),(9,zi),(11,zi)],[(2,z0)]⟩ .leaf))) .leaf))))) .leaf))))) .leaf))) [(36,some 23,eh),(36,some 108,eh)] (.cons eT (.cons eT .nil)) (by kernel_rfl) (by kernel_rfl) (by kernel_rfl) (fun xs=>by kernel_rfl)
def cE.d1 (a b c d e f g h i j:C):R:=(bif (decide (b.I<(a.L.length:Int))) then (bif (decide (0≤b.I)) then (bif (decide (b.I<(a.L.length:Int))) then (ad (cY [d,.l h.L,.l i.L,.l j.L,((a.L.getD b.I.toNat []).getD 0 .nil)]) fun k=>(bif (decide (0≤k.I)) then (bif (decide (k.I<(j.L.length:Int))) then (some (.again [a,.i (w64 (b.I+1)),c,d,.l e.L,.l f.L,.l g.L,.l h.L,.l i.L,.l (j.L.set k.I.toNat (aE (j.L.getD k.I.toNat []) 11 [.s (bs #[])]))])) else none) else none)) else none) else none) else (some (.brk 0 [c,d,.l e.L,.l f.L,.l g.L,.l h.L,.l i.L,.l j.L])))
def cE.d2 (a b c d e f g h:C):R:=(some (.ret [b,.l f.L,.l g.L,.l h.L]))
def cE.d3 (a b c d e:C):R:=(call4 (cu [a,b,c,d]) fun f g h i=>(ah 0 (lim (apn 10 cE.d1) [e,.i 0,.b false,f,.l af,.l af,.l af,.l g.L,.l h.L,.l i.L]) (apn 8 cE.d2)))
def cE:List C→Option (List C):=fun xs=>aY (apn 5 cE.d3 xs)
def gv:FS:=⟨2,⟨[(0,z2),(1,(zl 9))],[]⟩,⟨[(0,z16)],[(3000,.arr 72 1),(3001,.arr 40 1),(3002,.arr 38 1)]⟩,[],cE⟩
theorem jL:aD Tryz.checked.prog T0 40 gv:=br aC (fn:=Tryz.f40) (c:=Tryz.f40.body.getD .skip) gv (.seq .leaf (.seq .leaf (.seq (.seq .leaf (.block ⟨[(4,(.pt 4 0)),(5,(.pt 5 0))],[(4,.var 27 [zo,(.ow 1277000),(.ow 1277001),(.ow 1277002)]),(5,.var 27 [zo,(.ow 39864),(.ow 39865),(.ow 39866)]),(1277000,.arr 72 1),(1277001,.arr 40 1),(1277002,.arr 38 1),(39864,.arr 72 1),(39865,.arr 40 1),(39866,.arr 38 1)]⟩ (.loop ⟨[(1,(zl 9)),(4,(.pt 4 0)),(5,(.pt 5 0)),(6,zi)],[(4,.var 27 [zo,(.ow 1277000),(.ow 1277001),(.ow 1277002)]),(5,.var 27 [zo,(.ow 39864),(.ow 39865),(.ow 39866)]),(1277000,.arr 72 1),(1277001,.arr 40 1),(1277002,.arr 38 1),(39864,.arr 72 1),(39865,.arr 40 1),(39866,.arr 38 1)]⟩ .leaf))) .leaf))) [(36,some 22,eh),(76,some 8,jG)] (.cons eT (.cons pd .nil)) (by kernel_rfl) (by kernel_rfl) (by kernel_rfl) (fun xs=>by kernel_rfl)
def aG.d1 (a b c d e f g h i j k l m n o p q r s t u v w x:C):R:=(bif (decide (a.I<(e.L.length:Int))) then (bif (decide (0≤a.I)) then (bif (decide (a.I<(e.L.length:Int))) then (bif ((((e.L.getD a.I.toNat []).getD 11 .nil).S).toList==r.S.toList) then (bif (decide (0≤a.I)) then (bif (decide (a.I<(e.L.length:Int))) then (bif (decide (((e.L.getD a.I.toNat []).getD 2 .nil).I<h.I)) then (bif (decide (0≤a.I)) then (bif (decide (a.I<(e.L.length:Int))) then (bif (decide (x.L.length+(rows [[((e.L.getD a.I.toNat []).getD 0 .nil)]]).length≤4294967296)) then (some (.again [.i (w64 (a.I+1)),b,c,d,e,f,g,h,i,j,k,l,m,n,o,p,q,r,s,t,u,v,w,.l (x.L++(rows [[((e.L.getD a.I.toNat []).getD 0 .nil)]]))])) else none) else none) else none) else (some (.again [.i (w64 (a.I+1)),b,c,d,e,f,g,h,i,j,k,l,m,n,o,p,q,r,s,t,u,v,w,.l x.L]))) else none) else none) else (some (.again [.i (w64 (a.I+1)),b,c,d,e,f,g,h,i,j,k,l,m,n,o,p,q,r,s,t,u,v,w,.l x.L]))) else none) else none) else (some (.brk 0 [b,c,d,e,f,g,h,i,j,k,l,m,n,o,p,q,r,s,t,u,v,w,.l x.L])))
def aG.d2 (a b c d e f g h i j k l m n o p q r s t u v w x y z a0 a1:C):R:=(bif (decide (c.I<(z.L.length:Int))) then (bif (decide (0≤c.I)) then (bif (((b.I.fdiv (2^(min c.I.toNat 64))).tmod 2)==1) then (bif (decide (0≤c.I)) then (bif (decide (c.I<(z.L.length:Int))) then (bif (decide (a1.L.length+(rows [[((z.L.getD c.I.toNat []).getD 0 .nil)]]).length≤4294967296)) then (some (.again [a,b,.i (w64 (c.I+1)),d,e,f,g,h,i,j,k,l,m,n,o,p,q,r,s,t,u,v,w,x,y,.l z.L,.l a0.L,.l (a1.L++(rows [[((z.L.getD c.I.toNat []).getD 0 .nil)]]))])) else none) else none) else none) else (some (.again [a,b,.i (w64 (c.I+1)),d,e,f,g,h,i,j,k,l,m,n,o,p,q,r,s,t,u,v,w,x,y,.l z.L,.l a0.L,.l a1.L]))) else none) else (some (.brk 4 [a,b,d,e,f,g,h,i,j,k,l,m,n,o,p,q,r,s,t,u,v,w,x,y,.l z.L,.l a0.L,.l a1.L])))
def aG.d3 (a b c d e f g h i j k l m n o p q r s t u v w x y z a0:C):R:=(ad (aR [c,d,e,f,.l a0.L]) fun a1=>(bif a1.B then (call4 (cE [c,d,e,f,.l a0.L]) fun a2 a3 a4 a5=>(ad (cC [a2,.l a3.L,.l a4.L,.l a5.L,g,h,i,j,k,l,m,n,o,p,q,r,s,t,u,v,w,x,.b false]) fun a6=>(bif (a6.I==0) then (some (.brk 3 [.b true,b,c,d,e,f,g,h,i,j,k,l,m,n,o,p,q,r,s,t,u,v,w,x,.l y.L,.l a0.L])) else (some (.brk 3 [a,b,c,d,e,f,g,h,i,j,k,l,m,n,o,p,q,r,s,t,u,v,w,x,.l y.L,.l z.L]))))) else (some (.brk 3 [a,b,c,d,e,f,g,h,i,j,k,l,m,n,o,p,q,r,s,t,u,v,w,x,.l y.L,.l z.L]))))
def aG.d4 (a b c d e f g h i j k l m n o p q r s t u v w x y z a0:C):R:=(bf (bif a.B then (ad (cH [c,d,e,f,.l a0.L]) fun a1=>(ad (cH [c,d,e,f,.l z.L]) fun a2=>(ad (cg [.l a2.L,.l a1.L]) fun a3=>(bif (!a3.B) then (ad (cg [.l a1.L,.l a2.L]) fun a4=>(bif (!a4.B) then (ad (ed [.l a0.L,.l z.L]) fun a5=>(bif (!a5.B) then (some (.brk 3 [a,b,c,d,e,f,g,h,i,j,k,l,m,n,o,p,q,r,s,t,u,v,w,x,.l y.L,.l z.L])) else (some (.nrm [a,b,c,d,e,f,g,h,i,j,k,l,m,n,o,p,q,r,s,t,u,v,w,x,.l y.L,.l z.L,.l a0.L])))) else (some (.nrm [a,b,c,d,e,f,g,h,i,j,k,l,m,n,o,p,q,r,s,t,u,v,w,x,.l y.L,.l z.L,.l a0.L])))) else (some (.brk 3 [a,b,c,d,e,f,g,h,i,j,k,l,m,n,o,p,q,r,s,t,u,v,w,x,.l y.L,.l z.L])))))) else (some (.nrm [a,b,c,d,e,f,g,h,i,j,k,l,m,n,o,p,q,r,s,t,u,v,w,x,.l y.L,.l z.L,.l a0.L]))) (apn 27 aG.d3))
def aG.d5 (a b c d e f g h i j k l m n o p q r s t u v w x y z:C):R:=(some (.again [a,.i (w64 (b.I+1)),c,d,e,f,g,h,i,j,k,l,m,n,o,p,q,r,s,t,u,v,w,x,.l y.L,.l z.L]))
def aG.d6 (a b c d e f g h i j k l m n o p q r s t u v w x y z:C):R:=(bif (decide (0≤(y.L.length:Int))) then (bif (decide (b.I<(w64 (1*2^(min (y.L.length:Int).toNat 64))))) then (ah 3 (ah 4 (lim (apn 28 aG.d2) [a,b,.i 0,c,d,e,f,g,h,i,j,k,l,m,n,o,p,q,r,s,t,u,v,w,x,.l y.L,.l z.L,.l af]) (apn 27 aG.d4)) (apn 26 aG.d5)) else (some (.brk 2 [a,.l z.L]))) else none)
def aG.d7 (a b:C):R:=(some (.ret [.b a.B,.l b.L]))
def aG.d8 (a b c d e f g h i j k l m n o p q r s t u v w:C):R:=(ah 2 (lim (apn 26 aG.d6) [.b false,.i 0,a,b,c,d,e,f,g,h,i,j,k,l,m,n,o,p,q,r,s,t,u,v,.l w.L,.l af]) (apn 2 aG.d7))
def aG.d9 (a b c d e f g h i j k l m n o p q r s t u v:C):R:=(ah 0 (lim (apn 24 aG.d1) [.i 0,a,b,c,d,e,f,g,h,i,j,k,l,m,n,o,p,q,r,s,t,u,v,.l af]) (apn 23 aG.d8))
def aG:List C→Option (List C):=fun xs=>aY (apn 22 aG.d9 xs)
def ml:FS:=⟨3,⟨[(0,z2),(1,z5),(2,z7)],[]⟩,⟨[(0,(.tu [(.ow 3000),zo]))],[(3000,.arr 9 1)]⟩,[],aG⟩
theorem xy:aD Tryz.checked.prog T0 51 ml:=br aC (fn:=Tryz.f51) (c:=Tryz.f51.body.getD .skip) ml (.seq .leaf (.seq .leaf (.seq (.seq .leaf (.block ⟨[(3,(.pt 3 0)),(4,(.pt 4 0)),(5,(.pt 5 0)),(8,(.ow 17))],[(3,z0),(4,z1),(5,z4),(17,.arr 9 1)]⟩ (.loop ⟨[(3,(.pt 3 0)),(4,(.pt 4 0)),(5,(.pt 5 0)),(8,(.ow 17)),(9,zi)],[(3,z0),(4,z1),(5,z4),(17,.arr 9 1)]⟩ .leaf))) (.seq .leaf (.seq .leaf (.seq (.seq .leaf (.block ⟨[(10,(.ow 54)),(11,zo)],[(54,.arr 9 1)]⟩ (.loop ⟨[(3,(.pt 3 0)),(4,(.pt 4 0)),(5,(.pt 5 0)),(8,(.ow 17)),(10,(.ow 54)),(11,zo),(12,zi)],[(3,z0),(4,z1),(5,z4),(17,.arr 9 1),(54,.arr 9 1)]⟩ (.seq .leaf (.seq (.block ⟨[(3,(.pt 3 0)),(4,(.pt 4 0)),(5,(.pt 5 0)),(8,(.ow 17)),(10,(.ow 54)),(11,zo),(12,zi)],[(3,z0),(4,z1),(5,z4),(17,.arr 9 1),(54,.arr 9 1)]⟩ (.seq .leaf (.seq (.seq .leaf (.block ⟨[(3,(.pt 3 0)),(4,(.pt 4 0)),(5,(.pt 5 0)),(8,(.ow 17)),(10,(.ow 54)),(11,zo),(12,zi),(13,(.ow 62))],[(3,z0),(4,z1),(5,z4),(17,.arr 9 1),(54,.arr 9 1),(62,.arr 9 1)]⟩ (.loop ⟨[(3,(.pt 3 0)),(4,(.pt 4 0)),(5,(.pt 5 0)),(8,(.ow 17)),(10,(.ow 54)),(11,zo),(12,zi),(13,(.ow 62)),(14,zi)],[(3,z0),(4,z1),(5,z4),(17,.arr 9 1),(54,.arr 9 1),(62,.arr 9 1)]⟩ .leaf))) (.seq (.join ⟨[(3,(.pt 3 0)),(4,(.pt 4 0)),(5,(.pt 5 0)),(8,(.ow 17)),(10,(.ow 54)),(11,zo),(12,zi),(13,(.ow 62))],[(3,z0),(4,z1),(5,z4),(17,.arr 9 1),(54,.arr 9 1),(62,.arr 9 1)]⟩ .leaf) .leaf)))) .leaf))))) .leaf)))))) [(23,some 90,gq),(23,some 94,gq),(39,some 105,lA),(40,some 109,gv),(41,some 112,jm),(55,some 84,jn),(55,some 87,jn),(85,some 99,oS)] (.cons jF (.cons jF (.cons sI (.cons jL (.cons mD (.cons mW (.cons mW (.cons An .nil)))))))) (by kernel_rfl) (by kernel_rfl) (by kernel_rfl) (fun xs=>by kernel_rfl)
def dL.d1 (a b c d e f g h i j k l m n o p q r s t u v w x:C):R:=(some (.again [a,.i (w64 (b.I+1)),c,d,e,f,g,h,i,j,k,l,m,n,o,p,q,r,s,t,u,v,.l w.L,.l x.L]))
def dL.d2 (a b c d e f g h i j k l m n o p q r s t u v w x:C):R:=(bif (decide (b.I<(d.L.length:Int))) then (ah 1 (bif (decide (0≤b.I)) then (bif (decide (b.I<(d.L.length:Int))) then (call2 (aG [c,d,e,f,g,h,i,j,k,l,m,n,o,p,q,r,((d.L.getD b.I.toNat []).getD 0 .nil),((d.L.getD b.I.toNat []).getD 1 .nil),((d.L.getD b.I.toNat []).getD 2 .nil),((d.L.getD b.I.toNat []).getD 3 .nil),((d.L.getD b.I.toNat []).getD 4 .nil),((d.L.getD b.I.toNat []).getD 5 .nil)]) fun y z=>(bif (!y.B) then (some (.brk 1 [a,b,c,d,e,f,g,h,i,j,k,l,m,n,o,p,q,r,s,t,u,v,.l w.L,.l x.L])) else (bif a.B then (ad (cH [c,d,e,f,.l z.L]) fun a0=>(ad (cH [c,d,e,f,.l x.L]) fun a1=>(ad (cg [.l a1.L,.l a0.L]) fun a2=>(bif a2.B then (some (.brk 1 [a,b,c,d,e,f,g,h,i,j,k,l,m,n,o,p,q,r,s,t,u,v,.l w.L,.l x.L])) else (call4 (cE [c,d,e,f,.l z.L]) fun a3 a4 a5 a6=>(bif (decide (0≤b.I)) then (bif (decide (b.I<(d.L.length:Int))) then (call4 (aX [a3,.l a4.L,.l a5.L,.l a6.L,g,h,i,j,k,l,m,n,o,p,q,r,((d.L.getD b.I.toNat []).getD 0 .nil),((d.L.getD b.I.toNat []).getD 1 .nil),((d.L.getD b.I.toNat []).getD 2 .nil),((d.L.getD b.I.toNat []).getD 3 .nil),((d.L.getD b.I.toNat []).getD 4 .nil),((d.L.getD b.I.toNat []).getD 5 .nil)]) fun a7 a8 a9 b0=>(call4 (cE [c,d,e,f,.l x.L]) fun b1 b2 b3 b4=>(ad (cQ [c,d,e,f,v]) fun b5=>(bif (decide (0≤b5.I)) then (bif (decide (b5.I<(d.L.length:Int))) then (call4 (aX [b1,.l b2.L,.l b3.L,.l b4.L,g,h,i,j,k,l,m,n,o,p,q,r,((d.L.getD b5.I.toNat []).getD 0 .nil),((d.L.getD b5.I.toNat []).getD 1 .nil),((d.L.getD b5.I.toNat []).getD 2 .nil),((d.L.getD b5.I.toNat []).getD 3 .nil),((d.L.getD b5.I.toNat []).getD 4 .nil),((d.L.getD b5.I.toNat []).getD 5 .nil)]) fun b6 b7 b8 b9=>(ad (cg [.l a0.L,.l a1.L]) fun c0=>(bif (!c0.B) then (ad (fk [a7,a8,a9,b0,b6,b7,b8,b9,.b c.B]) fun c1=>(bif (!c1.B) then (some (.brk 1 [a,b,c,d,e,f,g,h,i,j,k,l,m,n,o,p,q,r,s,t,u,v,.l w.L,.l x.L])) else (bif (decide (0≤b.I)) then (bif (decide (b.I<(d.L.length:Int))) then (some (.brk 1 [.b true,b,c,d,e,f,g,h,i,j,k,l,m,n,o,p,q,r,s,t,g,((d.L.getD b.I.toNat []).getD 0 .nil),.l w.L,.l z.L])) else none) else none))) else (bif (decide (0≤b.I)) then (bif (decide (b.I<(d.L.length:Int))) then (some (.brk 1 [.b true,b,c,d,e,f,g,h,i,j,k,l,m,n,o,p,q,r,s,t,g,((d.L.getD b.I.toNat []).getD 0 .nil),.l w.L,.l z.L])) else none) else none)))) else none) else none)))) else none) else none)))))) else (bif (decide (0≤b.I)) then (bif (decide (b.I<(d.L.length:Int))) then (some (.brk 1 [.b true,b,c,d,e,f,g,h,i,j,k,l,m,n,o,p,q,r,s,t,g,((d.L.getD b.I.toNat []).getD 0 .nil),.l w.L,.l z.L])) else none) else none)))) else none) else none) (apn 24 dL.d1)) else (some (.brk 0 [a,s,t,u,v,.l w.L,.l x.L])))
def dL.d3 (a b c d e f g:C):R:=(some (.ret [d,e,.b a.B,.l g.L]))
def dL.d4 (a b c d e f g h i j k l m n o p:C):R:=(ah 0 (lim (apn 24 dL.d2) [.b false,.i 0,a,b,c,d,e,f,g,h,i,j,k,l,m,n,o,p,.s (bs #[]),.s (bs #[]),.s (bs #[]),.s (bs #[]),.l af,.l af]) (apn 7 dL.d3))
def dL:List C→Option (List C):=fun xs=>aY (apn 16 dL.d4 xs)
def pB:FS:=⟨2,⟨[(0,z2),(1,z5)],[]⟩,⟨[(0,(.tu [(.ag [zt,zt,(.ow 3000)]),zo]))],[(3000,.arr 9 1)]⟩,[],dL⟩
theorem Ck:aD Tryz.checked.prog T0 96 pB:=br aC (fn:=Tryz.f96) (c:=Tryz.f96.body.getD .skip) pB (.seq .leaf (.seq .leaf (.seq .leaf (.seq (.seq .leaf (.block ⟨[(4,(.pt 4 0)),(6,(.pt 6 0)),(7,zo)],[(4,.var 30 [zt,zt,(.ow 1244800)]),(6,.var 30 [zt,zt,(.ow 1244801)]),(1244800,.arr 9 1),(1244801,.arr 9 1)]⟩ (.loop ⟨[(2,(.pt 2 0)),(3,(.pt 3 0)),(4,(.pt 4 0)),(6,(.pt 6 0)),(7,zo),(8,zi)],[(2,z0),(3,z1),(4,.var 30 [zt,zt,(.ow 1244800)]),(6,.var 30 [zt,zt,(.ow 1244801)]),(1244800,.arr 9 1),(1244801,.arr 9 1)]⟩ (.seq .leaf (.seq (.block ⟨[(2,(.pt 2 0)),(3,(.pt 3 0)),(4,(.pt 4 0)),(6,(.pt 6 0)),(7,zo),(8,zi)],[(2,z0),(3,z1),(4,.var 30 [zt,zt,(.ow 1244800)]),(6,.var 30 [zt,zt,(.ow 1244801)]),(1244800,.arr 9 1),(1244801,.arr 9 1)]⟩ .leaf) .leaf))))) .leaf)))) [(23,some 46,gq),(23,some 73,gq),(37,some 67,fh),(40,some 49,gv),(40,some 60,gv),(51,some 31,ml),(55,some 39,jn),(55,some 43,jn),(133,some 56,iq),(133,some 70,iq),(134,some 80,il)] (.cons jF (.cons jF (.cons gH (.cons jL (.cons jL (.cons xy (.cons mW (.cons mW (.cons lC (.cons lC (.cons nV .nil))))))))))) (by kernel_rfl) (by kernel_rfl) (by kernel_rfl) (fun xs=>by kernel_rfl)
def ft.d1 (a b c d e f g h i j k l:C):R:=(bif (decide (a.I<(j.L.length:Int))) then (bif (decide (0≤a.I)) then (bif (decide (a.I<(j.L.length:Int))) then (ad (cY [b,c,d,e,((j.L.getD a.I.toNat []).getD 0 .nil)]) fun m=>(bif (decide (0≤m.I)) then (bif (decide (m.I<(e.L.length:Int))) then (call4 (dL [b,c,d,e,((e.L.getD m.I.toNat []).getD 0 .nil),((e.L.getD m.I.toNat []).getD 1 .nil),((e.L.getD m.I.toNat []).getD 2 .nil),((e.L.getD m.I.toNat []).getD 3 .nil),((e.L.getD m.I.toNat []).getD 4 .nil),((e.L.getD m.I.toNat []).getD 5 .nil),((e.L.getD m.I.toNat []).getD 6 .nil),((e.L.getD m.I.toNat []).getD 7 .nil),((e.L.getD m.I.toNat []).getD 8 .nil),((e.L.getD m.I.toNat []).getD 9 .nil),((e.L.getD m.I.toNat []).getD 10 .nil),((e.L.getD m.I.toNat []).getD 11 .nil)]) fun n o p q=>(bif p.B then (some (.ret [n,o,.b true,.l q.L])) else (some (.again [.i (w64 (a.I+1)),b,c,d,e,f,g,n,o,.l j.L,.l k.L,.l q.L])))) else none) else none)) else none) else none) else (some (.brk 0 [f,g,.l k.L])))
def ft.d2 (a b c:C):R:=(some (.ret [.s (bs #[]),.s (bs #[]),.b false,.l af]))
def ft.d3 (a b c d:C):R:=(call4 (dZ [a,b,c,d]) fun e f g h=>(bif g.B then (some (.ret [e,f,.b true,.l h.L])) else (ad (bl [a,b,c,d]) fun i=>(ah 0 (lim (apn 12 ft.d1) [.i 0,a,b,c,d,.s (bs #[]),.s (bs #[]),e,f,.l i.L,.l af,.l h.L]) (apn 3 ft.d2)))))
def ft:List C→Option (List C):=fun xs=>aY (apn 4 ft.d3 xs)
def pC:FS:=⟨1,⟨[(0,z2)],[]⟩,⟨[(0,(.tu [(.ag [zt,zt,(.ow 3000)]),zo]))],[(3000,.arr 9 1)]⟩,[],ft⟩
theorem BO:aD Tryz.checked.prog T0 59 pC:=br aC (fn:=Tryz.f59) (c:=Tryz.f59.body.getD .skip) pC (.seq .leaf (.seq .leaf (.seq .leaf (.seq .leaf (.seq (.seq .leaf (.block ⟨[(2,(.pt 2 0))],[(2,.var 30 [zt,zt,(.ow 1241600)]),(1241600,.arr 9 1)]⟩ (.loop ⟨[(1,(.pt 1 0)),(2,(.pt 2 0)),(4,(.pt 4 0)),(6,(.ow 72632)),(7,zi)],[(1,z0),(2,.var 30 [zt,zt,(.ow 1241600)]),(4,.var 30 [zt,zt,(.ow 48056)]),(72632,.arr 9 1),(1241600,.arr 9 1),(48056,.arr 9 1)]⟩ .leaf))) .leaf))))) [(36,some 32,eh),(83,some 16,lD),(95,some 10,jH),(96,some 35,pB)] (.cons eT (.cons sF (.cons nZ (.cons Ck .nil)))) (by kernel_rfl) (by kernel_rfl) (by kernel_rfl) (fun xs=>by kernel_rfl)
def ie.d1 (a b c d:C):R:=(ad (ay [a,b,c,d]) fun e=>(bif (!e.B) then (some (.ret [.s (bs #[]),.s (bs #[]),.b false,.l af])) else (call4 (ft [a,b,c,d]) fun f g h i=>(some (.ret [f,g,.b h.B,.l i.L])))))
def ie:List C→Option (List C):=fun xs=>aY (apn 4 ie.d1 xs)
def me:FS:=⟨1,⟨[(0,z2)],[]⟩,⟨[(0,(.tu [(.ag [zt,zt,(.ow 3000)]),zo]))],[(3000,.arr 9 1)]⟩,[],ie⟩
theorem wy:aD Tryz.checked.prog T0 26 me:=br aC (fn:=Tryz.f26) (c:=Tryz.f26.body.getD .skip) me .leaf [(38,some 5,eW),(59,some 9,pC)] (.cons gO (.cons BO .nil)) (by kernel_rfl) (by kernel_rfl) (by kernel_rfl) (fun xs=>by kernel_rfl)
def kI.d1 (a b c d e f:C):R:=(bif (!((d.L.length:Int)==0)) then (call3 (ae [.i 16,e,f]) fun g h i=>(bif (g.I==0) then (call3 (ae [.i 2,h,i]) fun j k l=>(bif (decide (0≤j.I)) then (bif (decide (j.I<((rows [[.s (bs #[])],[.s (bs #[103,111,110,101])]]).length:Int))) then (some (.ret [(((rows [[.s (bs #[])],[.s (bs #[103,111,110,101])]]).getD j.I.toNat []).getD 0 .nil),k,l])) else none) else none)) else (call3 (ae [.i (d.L.length:Int),h,i]) fun m n o=>(bif (decide (0≤m.I)) then (bif (decide (m.I<(d.L.length:Int))) then (some (.ret [((d.L.getD m.I.toNat []).getD 0 .nil),n,o])) else none) else none)))) else (call3 (ae [.i 2,e,f]) fun p q r=>(bif (decide (0≤p.I)) then (bif (decide (p.I<((rows [[.s (bs #[])],[.s (bs #[103,111,110,101])]]).length:Int))) then (some (.ret [(((rows [[.s (bs #[])],[.s (bs #[103,111,110,101])]]).getD p.I.toNat []).getD 0 .nil),q,r])) else none) else none)))
def kI:List C→Option (List C):=fun xs=>aY (apn 6 kI.d1 xs)
def mB:FS:=⟨2,⟨[(0,(.pt 2000 0)),(1,z2)],[(2000,z3)]⟩,⟨[(0,zt)],[(2000,z3)]⟩,[2000],kI⟩
theorem uX:aD Tryz.checked.prog T0 28 mB:=br aC (fn:=Tryz.f28) (c:=Tryz.f28.body.getD .skip) mB .leaf [(27,some 11,aa),(27,some 16,aa),(27,some 25,aa)] (.cons ab (.cons ab (.cons ab .nil))) (by kernel_rfl) (by kernel_rfl) (by kernel_rfl) (fun xs=>by kernel_rfl)
end
end Go.Ev
namespace Go.Ev
open Go.Proofs
noncomputable section
def j9.d1 (a b c d e f:C):R:=(bif (!((b.L.length:Int)==0)) then (call3 (ae [.i 16,e,f]) fun g h i=>(bif (g.I==0) then (call3 (ae [.i 2,h,i]) fun j k l=>(bif (decide (0≤j.I)) then (bif (decide (j.I<((rows [[.s (bs #[])],[.s (bs #[103,111,110,101])]]).length:Int))) then (some (.ret [(((rows [[.s (bs #[])],[.s (bs #[103,111,110,101])]]).getD j.I.toNat []).getD 0 .nil),k,l])) else none) else none)) else (call3 (ae [.i (b.L.length:Int),h,i]) fun m n o=>(bif (decide (0≤m.I)) then (bif (decide (m.I<(b.L.length:Int))) then (some (.ret [((b.L.getD m.I.toNat []).getD 0 .nil),n,o])) else none) else none)))) else (call3 (ae [.i 2,e,f]) fun p q r=>(bif (decide (0≤p.I)) then (bif (decide (p.I<((rows [[.s (bs #[])],[.s (bs #[103,111,110,101])]]).length:Int))) then (some (.ret [(((rows [[.s (bs #[])],[.s (bs #[103,111,110,101])]]).getD p.I.toNat []).getD 0 .nil),q,r])) else none) else none)))
def j9:List C→Option (List C):=fun xs=>aY (apn 6 j9.d1 xs)
def oh:FS:=⟨2,⟨[(0,(.pt 2000 0)),(1,z2)],[(2000,z3)]⟩,⟨[(0,zt)],[(2000,z3)]⟩,[2000],j9⟩
theorem Aq:aD Tryz.checked.prog T0 29 oh:=br aC (fn:=Tryz.f29) (c:=Tryz.f29.body.getD .skip) oh .leaf [(27,some 11,aa),(27,some 16,aa),(27,some 25,aa)] (.cons ab (.cons ab (.cons ab .nil))) (by kernel_rfl) (by kernel_rfl) (by kernel_rfl) (fun xs=>by kernel_rfl)
def fb.d1 (a b c d e f g h:C):R:=(bif (decide (a.I<(g.L.length:Int))) then (bif (decide (0≤a.I)) then (bif (decide (a.I<(g.L.length:Int))) then (bif (!((((g.L.getD a.I.toNat []).getD 11 .nil).S).toList==(bs #[]).toList)) then (call3 (ae [.i 3,b,c]) fun i j k=>(bif (i.I==0) then (bif (decide (0≤a.I)) then (bif (decide (a.I<(g.L.length:Int))) then (bif (decide (h.L.length+(rows [[((g.L.getD a.I.toNat []).getD 0 .nil)]]).length≤4294967296)) then (some (.again [.i (w64 (a.I+1)),j,k,d,e,f,g,.l (h.L++(rows [[((g.L.getD a.I.toNat []).getD 0 .nil)]]))])) else none) else none) else none) else (some (.again [.i (w64 (a.I+1)),j,k,d,e,f,g,.l h.L])))) else (some (.again [.i (w64 (a.I+1)),b,c,d,e,f,g,.l h.L]))) else none) else none) else (some (.brk 0 [b,c,d,e,f,g,.l h.L])))
def fb.d2 (a b c d e f g:C):R:=(call3 (ae [.i 12,a,b]) fun h i j=>(bif (h.I==0) then (call3 (kI [c,d,e,f,i,j]) fun k l m=>(bif (decide (g.L.length+(rows [[k]]).length≤4294967296)) then (some (.ret [l,m,.l (g.L++(rows [[k]]))])) else none)) else (bif (h.I==1) then (bif (decide ((g.L.length:Int)>1)) then (bif (decide (0<(g.L.length:Int))) then (bif (decide (1<(g.L.length:Int))) then (bif (decide (0<(g.L.length:Int))) then (bif (decide (1<((g.L.set 0 (aE (g.L.getD 0 []) 0 [((g.L.getD 1 []).getD 0 .nil)])).length:Int))) then (some (.ret [i,j,.l ((g.L.set 0 (aE (g.L.getD 0 []) 0 [((g.L.getD 1 []).getD 0 .nil)])).set 1 (aE ((g.L.set 0 (aE (g.L.getD 0 []) 0 [((g.L.getD 1 []).getD 0 .nil)])).getD 1 []) 0 [((g.L.getD 0 []).getD 0 .nil)]))])) else none) else none) else none) else none) else (some (.ret [i,j,.l g.L]))) else (some (.ret [i,j,.l g.L])))))
def fb.d3 (a b c d e f:C):R:=(ah 0 (lim (apn 8 fb.d1) [.i 0,e,f,a,b,c,d,.l af]) (apn 7 fb.d2))
def fb:List C→Option (List C):=fun xs=>aY (apn 6 fb.d3 xs)
def pD:FS:=⟨2,⟨[(0,(.pt 2000 0)),(1,z2)],[(2000,z3)]⟩,⟨[(0,(.ow 3001))],[(2000,z3),(3001,.arr 9 1)]⟩,[2000],fb⟩
theorem Cf:aD Tryz.checked.prog T0 30 pD:=br aC (fn:=Tryz.f30) (c:=Tryz.f30.body.getD .skip) pD (.seq .leaf (.seq .leaf (.seq (.seq .leaf (.block ⟨[(0,(.pt 2000 0)),(3,(.pt 3 0)),(5,(.ow 8))],[(2000,z3),(3,z0),(8,.arr 9 1)]⟩ (.loop ⟨[(0,(.pt 2000 0)),(3,(.pt 3 0)),(5,(.ow 8)),(6,zi)],[(2000,z3),(3,z0),(8,.arr 9 1)]⟩ .leaf))) .leaf))) [(27,some 25,aa),(27,some 38,aa),(28,some 44,mB)] (.cons ab (.cons ab (.cons uX .nil))) (by kernel_rfl) (by kernel_rfl) (by kernel_rfl) (fun xs=>by kernel_rfl)
def dF.d1 (a b c d e f g h i j k l m n o p q:C):R:=(bif a.B then (call3 (kI [g,h,i,j,e,f]) fun r s t=>(call3 (j9 [g,h,i,j,s,t]) fun u v w=>(call3 (ae [.i 2,v,w]) fun x y z=>(bif (x.I==0) then (call3 (fb [g,h,i,j,y,z]) fun a0 a1 a2=>(some (.ret [g,h,i,j,r,u,.l a2.L]))) else (some (.ret [g,h,i,j,r,u,.l af])))))) else (some (.ret [g,h,i,j,k,l,.l q.L])))
def dF.d2 (a:C):R:=(call2 (mw [a]) fun b c=>(call6 (ot [b,c]) fun d e f g h i=>(call4 (ie [d,.l h.L,.l i.L,e]) fun j k l m=>(bf (bif (!(!l.B)) then (call3 (ae [.i 4,f,g]) fun n o p=>(some (.nrm [.b (n.I==0),.b false,.s (bs #[]),.s (bs #[]),o,p,d,.l h.L,.l i.L,e,j,k,.l af,.l af,.l af,.l af,.l m.L]))) else (some (.nrm [.b true,.b false,.s (bs #[]),.s (bs #[]),f,g,d,.l h.L,.l i.L,e,j,k,.l af,.l af,.l af,.l af,.l m.L]))) (apn 17 dF.d1)))))
def dF:List C→Option (List C):=fun xs=>aY (apn 1 dF.d2 xs)
def kb:FS:=⟨1,⟨[(0,(zl 5))],[]⟩,⟨[(0,(.tu [z2,(.ag [zt,zt,(.ow 3000)])]))],[(3000,.arr 9 1)]⟩,[],dF⟩
theorem uj:aD Tryz.checked.prog T0 5 kb:=br aC (fn:=Tryz.f5) (c:=Tryz.f5.body.getD .skip) kb (.seq .leaf (.seq .leaf (.seq .leaf (.seq (.frz [52153,52154] .leaf) (.seq (.seq (.join ⟨[(2,(.pt 2 0)),(3,(.pt 3 0)),(4,(.pt 43960 0)),(5,(.pt 5 0)),(6,(.pt 6 0)),(23,zo)],[(2,.var 27 [zo,(.ow 1009300),(.ow 1009301),(.ow 1009302)]),(3,.var 30 [zt,zt,(.ow 1009303)]),(43960,z3),(5,z0),(6,.var 30 [zt,zt,(.ow 64440)]),(1009300,.arr 72 1),(1009301,.arr 40 1),(1009302,.arr 38 1),(1009303,.arr 9 1),(64440,.arr 9 1)]⟩ .leaf) .leaf) .leaf))))) [(24,some 9,pS),(25,some 11,rT),(26,some 14,me),(27,some 21,aa),(27,some 32,aa),(28,some 26,mB),(29,some 29,oh),(30,some 36,pD)] (.cons BW (.cons DM (.cons wy (.cons ab (.cons ab (.cons uX (.cons Aq (.cons Cf .nil)))))))) (by kernel_rfl) (by kernel_rfl) (by kernel_rfl) (fun xs=>by kernel_rfl)
def jh.d1 (a b c d e f g h i j k l m:C):R:=(bif m.isP then (some (.ret [.b (a.S.toList==((m.P.getD 0 .nil).S).toList)])) else none)
def jh:List C→Option (List C):=fun xs=>aY (apn 13 jh.d1 xs)
def mq:FS:=⟨2,⟨[(0,z5),(1,(.d (.pt 9)))],[]⟩,⟨[(0,zo)],[]⟩,[],jh⟩
theorem wO:aD Tryz.checked.prog T0 61 mq:=br aC (fn:=Tryz.f61) (c:=Tryz.f61.body.getD .skip) mq .leaf [] .nil (by kernel_rfl) (by kernel_rfl) (by kernel_rfl) (fun xs=>by kernel_rfl)
def aK.d1 (a b c d:C):R:=(bif (decide (d.I<c.I)) then (bif (decide (0≤d.I)) then (bif (decide (d.I<(a.L.length:Int))) then (ad (jh [((a.L.getD d.I.toNat []).getD 0 .nil),((a.L.getD d.I.toNat []).getD 1 .nil),((a.L.getD d.I.toNat []).getD 2 .nil),((a.L.getD d.I.toNat []).getD 3 .nil),((a.L.getD d.I.toNat []).getD 4 .nil),((a.L.getD d.I.toNat []).getD 5 .nil),((a.L.getD d.I.toNat []).getD 6 .nil),((a.L.getD d.I.toNat []).getD 7 .nil),((a.L.getD d.I.toNat []).getD 8 .nil),((a.L.getD d.I.toNat []).getD 9 .nil),((a.L.getD d.I.toNat []).getD 10 .nil),((a.L.getD d.I.toNat []).getD 11 .nil),b]) fun e=>(bif e.B then (some (.ret [d])) else (some (.again [a,b,c,.i (w64 (d.I+1))])))) else none) else none) else (some (.brk 0 [])))
def aK.d2:R:=(some (.ret [.i (-1)]))
def aK.d3 (a b:C):R:=(ah 0 (lim (apn 4 aK.d1) [a,b,.i (a.L.length:Int),.i 0]) (fun xs=>aK.d2))
def aK:List C→Option (List C):=fun xs=>aY (apn 2 aK.d3 xs)
def eN:FS:=⟨2,⟨[(0,(zl 38)),(1,(.fn 61 [(.d (.pt 9))]))],[]⟩,⟨[(0,zi)],[]⟩,[],aK⟩
theorem kT:aD Tryz.checked.prog T0 60 eN:=br aC (fn:=Tryz.f60) (c:=Tryz.f60.body.getD .skip) eN (.seq .leaf (.seq (.seq .leaf (.block ⟨[],[]⟩ (.loop ⟨[(0,(zl 38)),(1,(.fn 61 [(.d (.pt 9))])),(7,zi),(8,zi)],[]⟩ .leaf))) .leaf)) [(61,some 16,mq)] (.cons wO .nil) (by kernel_rfl) (by kernel_rfl) (by kernel_rfl) (fun xs=>by kernel_rfl)
def iB.d1 (a b c d e:C):R:=(ad (aK [d,.p [e]]) fun f=>(some (.ret [f])))
def iB:List C→Option (List C):=fun xs=>aY (apn 5 iB.d1 xs)
def ju:FS:=⟨2,⟨[(0,z2),(1,zt)],[]⟩,⟨[(0,zi)],[]⟩,[],iB⟩
theorem oM:aD Tryz.checked.prog T0 31 ju:=br aC (fn:=Tryz.f31) (c:=Tryz.f31.body.getD .skip) ju .leaf [(60,some 8,eN)] (.cons kT .nil) (by kernel_rfl) (by kernel_rfl) (by kernel_rfl) (fun xs=>by kernel_rfl)
def iu.d1 (a b c d e f g:C):R:=(bif g.isP then (some (.ret [.b (a.S.toList==((g.P.getD 0 .nil).S).toList)])) else none)
def iu:List C→Option (List C):=fun xs=>aY (apn 7 iu.d1 xs)
def k9:FS:=⟨2,⟨[(0,z7),(1,(.d (.pt 9)))],[]⟩,⟨[(0,zo)],[]⟩,[],iu⟩
theorem vK:aD Tryz.checked.prog T0 63 k9:=br aC (fn:=Tryz.f63) (c:=Tryz.f63.body.getD .skip) k9 .leaf [] .nil (by kernel_rfl) (by kernel_rfl) (by kernel_rfl) (fun xs=>by kernel_rfl)
def aJ.d1 (a b c d:C):R:=(bif (decide (d.I<c.I)) then (bif (decide (0≤d.I)) then (bif (decide (d.I<(a.L.length:Int))) then (ad (iu [((a.L.getD d.I.toNat []).getD 0 .nil),((a.L.getD d.I.toNat []).getD 1 .nil),((a.L.getD d.I.toNat []).getD 2 .nil),((a.L.getD d.I.toNat []).getD 3 .nil),((a.L.getD d.I.toNat []).getD 4 .nil),((a.L.getD d.I.toNat []).getD 5 .nil),b]) fun e=>(bif e.B then (some (.ret [d])) else (some (.again [a,b,c,.i (w64 (d.I+1))])))) else none) else none) else (some (.brk 0 [])))
def aJ.d2:R:=(some (.ret [.i (-1)]))
def aJ.d3 (a b:C):R:=(ah 0 (lim (apn 4 aJ.d1) [a,b,.i (a.L.length:Int),.i 0]) (fun xs=>aJ.d2))
def aJ:List C→Option (List C):=fun xs=>aY (apn 2 aJ.d3 xs)
def eH:FS:=⟨2,⟨[(0,(zl 72)),(1,(.fn 63 [(.d (.pt 9))]))],[]⟩,⟨[(0,zi)],[]⟩,[],aJ⟩
theorem kp:aD Tryz.checked.prog T0 62 eH:=br aC (fn:=Tryz.f62) (c:=Tryz.f62.body.getD .skip) eH (.seq .leaf (.seq (.seq .leaf (.block ⟨[],[]⟩ (.loop ⟨[(0,(zl 72)),(1,(.fn 63 [(.d (.pt 9))])),(7,zi),(8,zi)],[]⟩ .leaf))) .leaf)) [(63,some 16,k9)] (.cons vK .nil) (by kernel_rfl) (by kernel_rfl) (by kernel_rfl) (fun xs=>by kernel_rfl)
def fw.d1 (a b c d e:C):R:=(ad (aJ [b,.p [e]]) fun f=>(some (.ret [f])))
def fw:List C→Option (List C):=fun xs=>aY (apn 5 fw.d1 xs)
def gQ:FS:=⟨2,⟨[(0,z2),(1,zt)],[]⟩,⟨[(0,zi)],[]⟩,[],fw⟩
theorem kD:aD Tryz.checked.prog T0 32 gQ:=br aC (fn:=Tryz.f32) (c:=Tryz.f32.body.getD .skip) gQ .leaf [(62,some 8,eH)] (.cons kp .nil) (by kernel_rfl) (by kernel_rfl) (by kernel_rfl) (fun xs=>by kernel_rfl)
def qV.d1 (a:C):R:=(bif (decide (a.I≥97)) then (bif (!(decide (a.I≤122))) then (bif (decide (a.I≥48)) then (bif (!(decide (a.I≤57))) then (bif (!(a.I==45)) then (some (.ret [.b (a.I==95)])) else (some (.ret [.b true]))) else (some (.ret [.b true]))) else (bif (!(a.I==45)) then (some (.ret [.b (a.I==95)])) else (some (.ret [.b true])))) else (some (.ret [.b true]))) else (bif (decide (a.I≥48)) then (bif (!(decide (a.I≤57))) then (bif (!(a.I==45)) then (some (.ret [.b (a.I==95)])) else (some (.ret [.b true]))) else (some (.ret [.b true]))) else (bif (!(a.I==45)) then (some (.ret [.b (a.I==95)])) else (some (.ret [.b true])))))
def qV:List C→Option (List C):=fun xs=>aY (apn 1 qV.d1 xs)
def oI:FS:=⟨1,⟨[(0,(.d (.int .u8)))],[]⟩,⟨[(0,zo)],[]⟩,[],qV⟩
theorem xv:aD Tryz.checked.prog T0 81 oI:=br aC (fn:=Tryz.f81) (c:=Tryz.f81.body.getD .skip) oI .leaf [] .nil (by kernel_rfl) (by kernel_rfl) (by kernel_rfl) (fun xs=>by kernel_rfl)
def dY.d1 (a b c:C):R:=(bif (decide (c.I<b.I)) then (bif (decide (0≤c.I)) then (bif (decide (c.I<(a.S.size:Int))) then (ad (qV [.i ((a.S.data.getD c.I.toNat 0).toNat:Int)]) fun d=>(bif (!d.B) then (some (.ret [.b false])) else (some (.again [a,b,.i (w64 (c.I+1))])))) else none) else none) else (some (.brk 0 [])))
def dY.d2:R:=(some (.ret [.b true]))
def dY.d3 (a:C):R:=(bif (!(decide ((a.S.size:Int)<1))) then (bif (decide ((a.S.size:Int)>20)) then (some (.ret [.b false])) else (ah 0 (lim (apn 3 dY.d1) [a,.i (a.S.size:Int),.i 0]) (fun xs=>dY.d2))) else (some (.ret [.b false])))
def dY:List C→Option (List C):=fun xs=>aY (apn 1 dY.d3 xs)
def fp:FS:=⟨1,⟨[(0,zt)],[]⟩,⟨[(0,zo)],[]⟩,[],dY⟩
theorem gx:aD Tryz.checked.prog T0 45 fp:=br aC (fn:=Tryz.f45) (c:=Tryz.f45.body.getD .skip) fp (.seq .leaf (.seq .leaf (.seq (.seq .leaf (.block ⟨[],[]⟩ (.loop ⟨[(0,zt),(13,zi),(14,zi)],[]⟩ .leaf))) .leaf))) [(81,some 20,oI)] (.cons xv .nil) (by kernel_rfl) (by kernel_rfl) (by kernel_rfl) (fun xs=>by kernel_rfl)
def fA.d1 (a b c:C):R:=(bif (decide (a.I≥b.I)) then (some (.ret [.b (decide (a.I≤c.I))])) else (some (.ret [.b false])))
def fA:List C→Option (List C):=fun xs=>aY (apn 3 fA.d1 xs)
def eM:FS:=⟨3,⟨[(0,zi),(1,zi),(2,zi)],[]⟩,⟨[(0,zo)],[]⟩,[],fA⟩
theorem fT:aD Tryz.checked.prog T0 46 eM:=br aC (fn:=Tryz.f46) (c:=Tryz.f46.body.getD .skip) eM .leaf [] .nil (by kernel_rfl) (by kernel_rfl) (by kernel_rfl) (fun xs=>by kernel_rfl)
def eJ:List C→Option (List C):=ibF
def fH:FS:=⟨2,⟨[(0,.d .str),(1,.d (.int .u8))],[]⟩,⟨[(0,.d (.int .i64))],[]⟩,[],eJ⟩
theorem jq:aD Tryz.checked.prog T0 176 fH:=Kb
def aZ.d1 (a b c d:C):R:=(bif d.B then (some (.ret [.i 0])) else (bif (c.I==1) then (bif (decide (0<(b.S.size:Int))) then (ad (eJ [a,.i ((b.S.data.getD 0 0).toNat:Int)]) fun e=>(some (.ret [e]))) else none) else (bif (decide (c.I≥(a.S.size:Int))) then (some (.ret [.i (-1)])) else none)))
def aZ.d2 (a b:C):R:=(bf (bif (!((b.S.size:Int)==0)) then (some (.nrm [a,b,.i (b.S.size:Int),.b (b.S.toList==a.S.toList)])) else (some (.nrm [a,b,.i (b.S.size:Int),.b true]))) (apn 4 aZ.d1))
def aZ:List C→Option (List C):=fun xs=>aY (apn 2 aZ.d2 xs)
def eR:FS:=⟨2,⟨[(0,zt),(1,zt)],[]⟩,⟨[(0,zi)],[]⟩,[],aZ⟩
theorem kP:aD Tryz.checked.prog T0 165 eR:=br aC (fn:=Tryz.f165) (c:=Tryz.f165.body.getD .skip) eR (.seq .leaf (.seq .leaf (.seq (.skip (.seq (.join ⟨[(0,zt),(1,zt),(5,zi),(16,zo)],[]⟩ .leaf) .leaf)) .leaf))) [(176,some 30,fH)] (.cons jq .nil) (by kernel_rfl) (by kernel_rfl) (by kernel_rfl) (fun xs=>by kernel_rfl)
def dc.d1 (a b:C):R:=(ad (aZ [a,b]) fun c=>(bif (decide (c.I≥0)) then (bif (decide (0≤c.I)) then (bif (decide (c.I≤(a.S.size:Int))) then (bif (decide (0≤(w64 (c.I+(b.S.size:Int))))) then (bif (decide ((w64 (c.I+(b.S.size:Int)))≤(a.S.size:Int))) then (bif (decide ((a.S.size:Int)≤(a.S.size:Int))) then (some (.ret [.s (a.S.extract 0 c.I.toNat),.s (a.S.extract (w64 (c.I+(b.S.size:Int))).toNat (a.S.size:Int).toNat),.b true])) else none) else none) else none) else none) else none) else (some (.ret [a,.s (bs #[]),.b false]))))
def dc:List C→Option (List C):=fun xs=>aY (apn 2 dc.d1 xs)
def fg:FS:=⟨2,⟨[(0,zt),(1,zt)],[]⟩,⟨[(0,(.tu [zt,zt,zo]))],[]⟩,[],dc⟩
theorem ly:aD Tryz.checked.prog T0 141 fg:=br aC (fn:=Tryz.f141) (c:=Tryz.f141.body.getD .skip) fg .leaf [(165,some 10,eR)] (.cons kP .nil) (by kernel_rfl) (by kernel_rfl) (by kernel_rfl) (fun xs=>by kernel_rfl)
def jg.d1 (a b:C):R:=(call3 (dc [a,b]) fun c d e=>(some (.ret [c,d,.b e.B])))
def jg:List C→Option (List C):=fun xs=>aY (apn 2 jg.d1 xs)
def mm:FS:=⟨2,⟨[(0,zt),(1,zt)],[]⟩,⟨[(0,(.tu [zt,zt,zo]))],[]⟩,[],jg⟩
theorem yk:aD Tryz.checked.prog T0 110 mm:=br aC (fn:=Tryz.f110) (c:=Tryz.f110.body.getD .skip) mm .leaf [(141,some 9,fg)] (.cons ly .nil) (by kernel_rfl) (by kernel_rfl) (by kernel_rfl) (fun xs=>by kernel_rfl)
def mU.d1 (a:C):R:=(call3 (jg [a,.s (bs #[61])]) fun b c d=>(ad (dY [b]) fun e=>(bif e.B then (bif (!(!d.B)) then (ad (dY [c]) fun f=>(some (.ret [b,c,.b f.B]))) else (some (.ret [b,c,.b true]))) else (some (.ret [b,c,.b false])))))
def mU:List C→Option (List C):=fun xs=>aY (apn 1 mU.d1 xs)
def o8:FS:=⟨1,⟨[(0,zt)],[]⟩,⟨[(0,(.tu [zt,zt,zo]))],[]⟩,[],mU⟩
theorem xt:aD Tryz.checked.prog T0 80 o8:=br aC (fn:=Tryz.f80) (c:=Tryz.f80.body.getD .skip) o8 .leaf [(45,some 17,fp),(45,some 23,fp),(110,some 10,mm)] (.cons gx (.cons gx (.cons yk .nil))) (by kernel_rfl) (by kernel_rfl) (by kernel_rfl) (fun xs=>by kernel_rfl)
def dN.d1 (a b c d e f g h i j:C):R:=(bif (decide (c.I<b.I)) then (bif (decide (0≤c.I)) then (bif (decide (c.I<(a.L.length:Int))) then (call3 (mU [((a.L.getD c.I.toNat []).getD 0 .nil)]) fun k l m=>(bif (!(!m.B)) then (bif (!((jr (.b false) k.S j.L).B)) then (bif (decide (c.I>0)) then (bif (decide (0≤(w64 (c.I-1)))) then (bif (decide ((w64 (c.I-1))<(f.L.length:Int))) then (bif ((Op.bytesLess (((a.L.getD c.I.toNat []).getD 0 .nil).S).toList (((f.L.getD (w64 (c.I-1)).toNat []).getD 0 .nil).S).toList)||((((a.L.getD c.I.toNat []).getD 0 .nil).S).toList==(((f.L.getD (w64 (c.I-1)).toNat []).getD 0 .nil).S).toList)) then (some (.ret [.b false])) else (some (.again [a,b,.i (w64 (c.I+1)),d,e,f,g,h,i,.l (ln k.S (.b true) j.L)]))) else none) else none) else (some (.again [a,b,.i (w64 (c.I+1)),d,e,f,g,h,i,.l (ln k.S (.b true) j.L)]))) else (some (.ret [.b false]))) else (some (.ret [.b false])))) else none) else none) else (some (.brk 0 [])))
def dN.d2:R:=(some (.ret [.b true]))
def dN.d3 (a b c d e f:C):R:=(ad (dY [a]) fun g=>(bif (!(!g.B)) then (ad (dY [b]) fun h=>(bif (!(!h.B)) then (bif (!(decide ((c.L.length:Int)>10))) then (ad (fA [d,.i 0,.i 1000]) fun i=>(bif (!(!i.B)) then (ad (fA [e,.i 0,.i 1000]) fun j=>(bif (!j.B) then (some (.ret [.b false])) else (ah 0 (lim (apn 10 dN.d1) [c,.i (c.L.length:Int),.i 0,a,b,c,d,e,f,.l af]) (fun xs=>dN.d2)))) else (some (.ret [.b false])))) else (some (.ret [.b false]))) else (some (.ret [.b false])))) else (some (.ret [.b false]))))
def dN:List C→Option (List C):=fun xs=>aY (apn 6 dN.d3 xs)
def nk:FS:=⟨1,⟨[(0,z7)],[]⟩,⟨[(0,zo)],[]⟩,[],dN⟩
theorem yG:aD Tryz.checked.prog T0 44 nk:=br aC (fn:=Tryz.f44) (c:=Tryz.f44.body.getD .skip) nk (.seq .leaf (.seq .leaf (.seq .leaf (.seq (.seq .leaf (.block ⟨[],[]⟩ (.loop ⟨[(1,(.pt 1 0)),(3,(.mp 37)),(39,(zl 9)),(40,zi),(41,zi)],[(1,z4),(37,.mp 4)]⟩ .leaf))) .leaf)))) [(45,some 11,fp),(45,some 16,fp),(46,some 28,eM),(46,some 34,eM),(80,some 48,o8)] (.cons gx (.cons gx (.cons fT (.cons fT (.cons xt .nil))))) (by kernel_rfl) (by kernel_rfl) (by kernel_rfl) (fun xs=>by kernel_rfl)
def aP.d1 (a b:C):R:=(bif (decide ((a.S.size:Int)>0)) then (bif (decide (0≤(w64 ((a.S.size:Int)-1)))) then (bif (decide ((w64 ((a.S.size:Int)-1))<(a.S.size:Int))) then (bif (((a.S.data.getD (w64 ((a.S.size:Int)-1)).toNat 0).toNat:Int)==b.I) then (bif (decide (0≤(w64 ((a.S.size:Int)-1)))) then (bif (decide ((w64 ((a.S.size:Int)-1))≤(a.S.size:Int))) then (some (.again [.s (a.S.extract 0 (w64 ((a.S.size:Int)-1)).toNat),b])) else none) else none) else (some (.brk 0 [a]))) else none) else none) else (some (.brk 0 [a])))
def aP.d2 (a:C):R:=(some (.ret [a]))
def aP.d3 (a b:C):R:=(ah 0 (lim (apn 2 aP.d1) [a,b]) (apn 1 aP.d2))
def aP:List C→Option (List C):=fun xs=>aY (apn 2 aP.d3 xs)
def gh:FS:=⟨2,⟨[(0,zt),(1,(.d (.int .u8)))],[]⟩,⟨[(0,zt)],[]⟩,[],aP⟩
theorem ng:aD Tryz.checked.prog T0 143 gh:=br aC (fn:=Tryz.f143) (c:=Tryz.f143.body.getD .skip) gh (.seq .leaf (.seq (.block ⟨[(0,zt)],[]⟩ (.loop ⟨[(0,zt),(1,(.d (.int .u8)))],[]⟩ .leaf)) .leaf)) [] .nil (by kernel_rfl) (by kernel_rfl) (by kernel_rfl) (fun xs=>by kernel_rfl)
def aS.d1 (a b:C):R:=(bif (decide ((a.S.size:Int)>0)) then (bif (decide (0<(a.S.size:Int))) then (bif (((a.S.data.getD 0 0).toNat:Int)==b.I) then (bif (decide (1≤(a.S.size:Int))) then (bif (decide ((a.S.size:Int)≤(a.S.size:Int))) then (some (.again [.s (a.S.extract 1 (a.S.size:Int).toNat),b])) else none) else none) else (some (.brk 0 [a]))) else none) else (some (.brk 0 [a])))
def aS.d2 (a:C):R:=(some (.ret [a]))
def aS.d3 (a b:C):R:=(ah 0 (lim (apn 2 aS.d1) [a,b]) (apn 1 aS.d2))
def aS:List C→Option (List C):=fun xs=>aY (apn 2 aS.d3 xs)
def gn:FS:=⟨2,⟨[(0,zt),(1,(.d (.int .u8)))],[]⟩,⟨[(0,zt)],[]⟩,[],aS⟩
theorem nD:aD Tryz.checked.prog T0 142 gn:=br aC (fn:=Tryz.f142) (c:=Tryz.f142.body.getD .skip) gn (.seq .leaf (.seq (.block ⟨[(0,zt)],[]⟩ (.loop ⟨[(0,zt),(1,(.d (.int .u8)))],[]⟩ .leaf)) .leaf)) [] .nil (by kernel_rfl) (by kernel_rfl) (by kernel_rfl) (fun xs=>by kernel_rfl)
def fU.d1 (a:C):R:=none
def fU:List C→Option (List C):=fun xs=>aY (apn 1 fU.d1 xs)
def gr:FS:=⟨1,⟨[(0,zt)],[]⟩,⟨[],[]⟩,[],fU⟩
theorem nO:aD Tryz.checked.prog T0 144 gr:=br aC (fn:=Tryz.f144) (c:=Tryz.f144.body.getD .skip) gr .leaf [] .nil (by kernel_rfl) (by kernel_rfl) (by kernel_rfl) (fun xs=>by kernel_rfl)
def fc.d1 (a b:C):R:=(gW (fU [b]) fun _=>none)
def fc.d2 (a b:C):R:=(bif (!(a.S.toList==(bs #[]).toList)) then (bif (b.S.toList==(bs #[]).toList) then (some (.ret [a])) else (bf (bif ((b.S.size:Int)==1) then (bif (decide (0<(b.S.size:Int))) then (bif (decide (((b.S.data.getD 0 0).toNat:Int)<128)) then (bif (decide (0<(b.S.size:Int))) then (ad (aP [a,.i ((b.S.data.getD 0 0).toNat:Int)]) fun c=>(bif (decide (0<(b.S.size:Int))) then (ad (aS [c,.i ((b.S.data.getD 0 0).toNat:Int)]) fun d=>(some (.ret [d]))) else none)) else none) else (some (.nrm [a,b]))) else none) else (some (.nrm [a,b]))) (apn 2 fc.d1))) else (some (.ret [a])))
def fc:List C→Option (List C):=fun xs=>aY (apn 2 fc.d2 xs)
def k7:FS:=⟨2,⟨[(0,zt),(1,zt)],[]⟩,⟨[(0,zt)],[]⟩,[],fc⟩
theorem vQ:aD Tryz.checked.prog T0 111 k7:=br aC (fn:=Tryz.f111) (c:=Tryz.f111.body.getD .skip) k7 (.seq .leaf (.seq .leaf (.seq (.join ⟨[(0,zt),(1,zt)],[]⟩ .leaf) .leaf))) [(142,some 28,gn),(143,some 25,gh),(144,some 31,gr)] (.cons nD (.cons ng (.cons nO .nil))) (by kernel_rfl) (by kernel_rfl) (by kernel_rfl) (fun xs=>by kernel_rfl)
def bM.d1 (a b c:C):R:=(bif (decide (b.I<(a.S.size:Int))) then (bif (decide (0≤b.I)) then (bif (decide (b.I<(a.S.size:Int))) then (bif (((a.S.data.getD b.I.toNat 0).toNat:Int)==32) then (some (.again [a,.i (w64 (b.I+1)),c])) else (some (.brk 0 [a,b,c]))) else none) else none) else (some (.brk 0 [a,b,c])))
def bM.d2 (a b c:C):R:=(some (.ret [a,b,c]))
def bM.d3 (a b c:C):R:=(ah 0 (lim (apn 3 bM.d1) [a,b,c]) (apn 3 bM.d2))
def bM:List C→Option (List C):=fun xs=>aY (apn 3 bM.d3 xs)
def gu:FS:=⟨1,⟨[(0,(.pt 2000 0))],[(2000,.var 142 [zt,zi,zo])]⟩,⟨[(0,(.tu []))],[(2000,.var 142 [zt,zi,zo])]⟩,[2000],bM⟩
theorem jT:aD Tryz.checked.prog T0 113 gu:=br aC (fn:=Tryz.f113) (c:=Tryz.f113.body.getD .skip) gu (.block ⟨[],[(2000,.var 142 [zt,zi,zo])]⟩ (.loop ⟨[(0,(.pt 2000 0))],[(2000,.var 142 [zt,zi,zo])]⟩ .leaf)) [] .nil (by kernel_rfl) (by kernel_rfl) (by kernel_rfl) (fun xs=>by kernel_rfl)
def bA.d1 (a b c d:C):R:=(call3 (bM [b,c,d]) fun e f g=>(bif (decide (f.I<(e.S.size:Int))) then (bif (decide (0≤f.I)) then (bif (decide (f.I<(e.S.size:Int))) then (bif (((e.S.data.getD f.I.toNat 0).toNat:Int)==a.I) then (some (.ret [.b true,e,.i (w64 (f.I+1)),g])) else (some (.ret [.b false,e,f,g]))) else none) else none) else (some (.ret [.b false,e,f,g]))))
def bA:List C→Option (List C):=fun xs=>aY (apn 4 bA.d1 xs)
def dQ:FS:=⟨2,⟨[(0,(.pt 2000 0)),(1,(.d (.int .u8)))],[(2000,.var 142 [zt,zi,zo])]⟩,⟨[(0,zo)],[(2000,.var 142 [zt,zi,zo])]⟩,[2000],bA⟩
theorem eU:aD Tryz.checked.prog T0 150 dQ:=br aC (fn:=Tryz.f150) (c:=Tryz.f150.body.getD .skip) dQ .leaf [(113,some 6,gu)] (.cons jT .nil) (by kernel_rfl) (by kernel_rfl) (by kernel_rfl) (fun xs=>by kernel_rfl)
def bz.d1 (a b c d:C):R:=(bif (decide (c.I<(b.S.size:Int))) then (bif (decide (0≤c.I)) then (bif (decide (c.I<(b.S.size:Int))) then (ad (qV [.i ((b.S.data.getD c.I.toNat 0).toNat:Int)]) fun e=>(bif e.B then (some (.again [a,b,.i (w64 (c.I+1)),d])) else (some (.brk 0 [a,b,c,d])))) else none) else none) else (some (.brk 0 [a,b,c,d])))
def bz.d2 (a b c d:C):R:=(bif (decide (0≤a.I)) then (bif (decide (a.I≤c.I)) then (bif (decide (c.I≤(b.S.size:Int))) then (ad (dY [.s (b.S.extract a.I.toNat c.I.toNat)]) fun e=>(bif (!e.B) then (bif (decide (0≤a.I)) then (bif (decide (a.I≤c.I)) then (bif (decide (c.I≤(b.S.size:Int))) then (some (.ret [.s (b.S.extract a.I.toNat c.I.toNat),b,c,.b false])) else none) else none) else none) else (bif (decide (0≤a.I)) then (bif (decide (a.I≤c.I)) then (bif (decide (c.I≤(b.S.size:Int))) then (some (.ret [.s (b.S.extract a.I.toNat c.I.toNat),b,c,d])) else none) else none) else none))) else none) else none) else none)
def bz.d3 (a b c:C):R:=(call3 (bM [a,b,c]) fun d e f=>(ah 0 (lim (apn 4 bz.d1) [e,d,e,f]) (apn 4 bz.d2)))
def bz:List C→Option (List C):=fun xs=>aY (apn 3 bz.d3 xs)
def gX:FS:=⟨1,⟨[(0,(.pt 2000 0))],[(2000,.var 142 [zt,zi,zo])]⟩,⟨[(0,zt)],[(2000,.var 142 [zt,zi,zo])]⟩,[2000],bz⟩
theorem mV:aD Tryz.checked.prog T0 183 gX:=br aC (fn:=Tryz.f183) (c:=Tryz.f183.body.getD .skip) gX (.seq .leaf (.seq .leaf (.seq .leaf (.seq (.block ⟨[(0,(.pt 2000 0)),(3,zi)],[(2000,.var 142 [zt,zi,zo])]⟩ (.loop ⟨[(0,(.pt 2000 0)),(3,zi)],[(2000,.var 142 [zt,zi,zo])]⟩ .leaf)) .leaf)))) [(45,some 49,fp),(81,some 30,oI),(113,some 5,gu)] (.cons gx (.cons xv (.cons jT .nil))) (by kernel_rfl) (by kernel_rfl) (by kernel_rfl) (fun xs=>by kernel_rfl)
def av.d1 (G0 G1 G2:List C→Option (List C)) (a b c d:C):R:=(bif d.B then (call4 (bA [.i 124,b,c,d]) fun e f g h=>(bif e.B then (call4 (G1 [f,g,h]) fun i j k l=>(some (.again [.p [.i 5,.s (bs #[]),.s (bs #[]),.l (rows [[a],[i]])],j,k,l]))) else (some (.brk 0 [a,f,g,h])))) else (some (.brk 0 [a,b,c,d])))
def av.d2 (G0 G1 G2:List C→Option (List C)) (a b c d:C):R:=(some (.ret [a,b,c,d]))
def av.d3 (G0 G1 G2:List C→Option (List C)) (a b c:C):R:=(call4 (G1 [a,b,c]) fun d e f g=>(ah 0 (lim (apn 4 (av.d1 G0 G1 G2)) [d,e,f,g]) (apn 4 (av.d2 G0 G1 G2))))
def av.step (G0 G1 G2:List C→Option (List C)):List C→Option (List C):=fun xs=>aY (apn 3 (av.d3 G0 G1 G2) xs)
def dW (G:List C→Option (List C)):FS:=⟨1,⟨[(0,(.pt 2000 0))],[(2000,.var 142 [(.d .str),(.d (.int .i64)),(.d .bool)])]⟩,⟨[(0,(.d (.pt 139)))],[(2000,.var 142 [(.d .str),(.d (.int .i64)),(.d .bool)])]⟩,[2000],G⟩
def dG.d1 (G0 G1 G2:List C→Option (List C)) (a b c d:C):R:=(bif d.B then (call4 (bA [.i 38,b,c,d]) fun e f g h=>(bif e.B then (call4 (G2 [f,g,h]) fun i j k l=>(some (.again [.p [.i 4,.s (bs #[]),.s (bs #[]),.l (rows [[a],[i]])],j,k,l]))) else (some (.brk 0 [a,f,g,h])))) else (some (.brk 0 [a,b,c,d])))
def dG.d2 (G0 G1 G2:List C→Option (List C)) (a b c d:C):R:=(some (.ret [a,b,c,d]))
def dG.d3 (G0 G1 G2:List C→Option (List C)) (a b c:C):R:=(call4 (G2 [a,b,c]) fun d e f g=>(ah 0 (lim (apn 4 (dG.d1 G0 G1 G2)) [d,e,f,g]) (apn 4 (dG.d2 G0 G1 G2))))
def dG.step (G0 G1 G2:List C→Option (List C)):List C→Option (List C):=fun xs=>aY (apn 3 (dG.d3 G0 G1 G2) xs)
def ec (G:List C→Option (List C)):FS:=⟨1,⟨[(0,(.pt 2000 0))],[(2000,.var 142 [(.d .str),(.d (.int .i64)),(.d .bool)])]⟩,⟨[(0,(.d (.pt 139)))],[(2000,.var 142 [(.d .str),(.d (.int .i64)),(.d .bool)])]⟩,[2000],G⟩
def fi.d1 (G0 G1 G2:List C→Option (List C)) (a b c:C):R:=(bif (!c.B) then (some (.ret [.p [.i 0,.s (bs #[]),.s (bs #[]),.l af],a,b,c])) else (call4 (bA [.i 33,a,b,c]) fun d e f g=>(bif d.B then (call4 (G2 [e,f,g]) fun h i j k=>(some (.ret [.p [.i 3,.s (bs #[]),.s (bs #[]),.l (rows [[h]])],i,j,k]))) else (call4 (bA [.i 40,e,f,g]) fun l m n o=>(bif l.B then (call4 (G0 [m,n,o]) fun p q r s=>(bif s.B then (call4 (bA [.i 41,q,r,s]) fun t u v w=>(some (.ret [p,u,v,.b t.B]))) else (some (.ret [p,q,r,.b false])))) else (call4 (bz [m,n,o]) fun x y z a0=>(bif a0.B then (call4 (bA [.i 61,y,z,a0]) fun a1 a2 a3 a4=>(bif a1.B then (call4 (bz [a2,a3,a4]) fun a5 a6 a7 a8=>(some (.ret [.p [.i 2,x,a5,.l af],a6,a7,a8]))) else (some (.ret [.p [.i 1,x,.s (bs #[]),.l af],a2,a3,a4])))) else (some (.ret [.p [.i 1,x,.s (bs #[]),.l af],y,z,a0])))))))))
def fi.step (G0 G1 G2:List C→Option (List C)):List C→Option (List C):=fun xs=>aY (apn 3 (fi.d1 G0 G1 G2) xs)
def dJ (G:List C→Option (List C)):FS:=⟨1,⟨[(0,(.pt 2000 0))],[(2000,.var 142 [(.d .str),(.d (.int .i64)),(.d .bool)])]⟩,⟨[(0,(.d (.pt 139)))],[(2000,.var 142 [(.d .str),(.d (.int .i64)),(.d .bool)])]⟩,[2000],G⟩
theorem vJ {G0 G1 G2:List C→Option (List C)} (h0:aD Tryz.checked.prog T0 112 (dW G0)) (h1:aD Tryz.checked.prog T0 149 (ec G1)) (h2:aD Tryz.checked.prog T0 170 (dJ G2)):aD Tryz.checked.prog T0 112 (dW (av.step G0 G1 G2)):=br aC (fn:=Tryz.f112) (c:=Tryz.f112.body.getD .skip) (dW (av.step G0 G1 G2)) (.seq .leaf (.seq .leaf (.seq (.block ⟨[(3,(.d (.pt 139)))],[(2000,.var 142 [(.d .str),(.d (.int .i64)),(.d .bool)])]⟩ (.loop ⟨[(0,(.pt 2000 0)),(3,(.d (.pt 139)))],[(2000,.var 142 [(.d .str),(.d (.int .i64)),(.d .bool)])]⟩ .leaf)) .leaf))) [(149,some 5,(ec G1)),(149,some 16,(ec G1)),(150,some 12,dQ)] (.cons h1 (.cons h1 (.cons eU .nil))) (by kernel_rfl) (by kernel_rfl) (by kernel_rfl) (fun xs=>by kernel_rfl)
theorem tR {G0 G1 G2:List C→Option (List C)} (h0:aD Tryz.checked.prog T0 112 (dW G0)) (h1:aD Tryz.checked.prog T0 149 (ec G1)) (h2:aD Tryz.checked.prog T0 170 (dJ G2)):aD Tryz.checked.prog T0 149 (ec (dG.step G0 G1 G2)):=br aC (fn:=Tryz.f149) (c:=Tryz.f149.body.getD .skip) (ec (dG.step G0 G1 G2)) (.seq .leaf (.seq .leaf (.seq (.block ⟨[(3,(.d (.pt 139)))],[(2000,.var 142 [(.d .str),(.d (.int .i64)),(.d .bool)])]⟩ (.loop ⟨[(0,(.pt 2000 0)),(3,(.d (.pt 139)))],[(2000,.var 142 [(.d .str),(.d (.int .i64)),(.d .bool)])]⟩ .leaf)) .leaf))) [(150,some 12,dQ),(170,some 5,(dJ G2)),(170,some 16,(dJ G2))] (.cons eU (.cons h2 (.cons h2 .nil))) (by kernel_rfl) (by kernel_rfl) (by kernel_rfl) (fun xs=>by kernel_rfl)
theorem ux {G0 G1 G2:List C→Option (List C)} (h0:aD Tryz.checked.prog T0 112 (dW G0)) (h1:aD Tryz.checked.prog T0 149 (ec G1)) (h2:aD Tryz.checked.prog T0 170 (dJ G2)):aD Tryz.checked.prog T0 170 (dJ (fi.step G0 G1 G2)):=br aC (fn:=Tryz.f170) (c:=Tryz.f170.body.getD .skip) (dJ (fi.step G0 G1 G2)) (.seq .leaf (.seq (.skip (.seq .leaf (.cond (.seq .leaf (.frz [12] .leaf)) (.seq .leaf (.cond (.seq .leaf (.frz [18,20] .leaf)) .leaf))))) (.seq .leaf (.seq .leaf (.seq .leaf (.frz [41] .leaf)))))) [(112,some 25,(dW G0)),(150,some 15,dQ),(150,some 23,dQ),(150,some 33,dQ),(150,some 48,dQ),(170,some 17,(dJ G2)),(183,some 39,gX),(183,some 53,gX)] (.cons h0 (.cons eU (.cons eU (.cons eU (.cons eU (.cons h2 (.cons mV (.cons mV .nil)))))))) (by kernel_rfl) (by kernel_rfl) (by kernel_rfl) (fun xs=>by kernel_rfl)
def av.g:Nat→Nat→List C→Option (List C)
 |0,_=>fun _=>none
 |k+1,0=>av.step (av.g k 0) (av.g k 1) (av.g k 2)
 |k+1,1=>dG.step (av.g k 0) (av.g k 1) (av.g k 2)
 |k+1,2=>fi.step (av.g k 0) (av.g k 1) (av.g k 2)
 |_,_=>fun _=>none
theorem da:∀k:Nat,aD Tryz.checked.prog T0 112 (dW (av.g k 0))∧aD Tryz.checked.prog T0 149 (ec (av.g k 1))∧aD Tryz.checked.prog T0 170 (dJ (av.g k 2))
 |0=>⟨kr (fn:=Tryz.f112) (c:=Tryz.f112.body.getD .skip) (1) (⟨[(0,(.pt 2000 0))],[(2000,.var 142 [(.d .str),(.d (.int .i64)),(.d .bool)])]⟩) (⟨[(0,(.d (.pt 139)))],[(2000,.var 142 [(.d .str),(.d (.int .i64)),(.d .bool)])]⟩) [2000] (by kernel_rfl) (by kernel_rfl) (by kernel_rfl),kr (fn:=Tryz.f149) (c:=Tryz.f149.body.getD .skip) (1) (⟨[(0,(.pt 2000 0))],[(2000,.var 142 [(.d .str),(.d (.int .i64)),(.d .bool)])]⟩) (⟨[(0,(.d (.pt 139)))],[(2000,.var 142 [(.d .str),(.d (.int .i64)),(.d .bool)])]⟩) [2000] (by kernel_rfl) (by kernel_rfl) (by kernel_rfl),kr (fn:=Tryz.f170) (c:=Tryz.f170.body.getD .skip) (1) (⟨[(0,(.pt 2000 0))],[(2000,.var 142 [(.d .str),(.d (.int .i64)),(.d .bool)])]⟩) (⟨[(0,(.d (.pt 139)))],[(2000,.var 142 [(.d .str),(.d (.int .i64)),(.d .bool)])]⟩) [2000] (by kernel_rfl) (by kernel_rfl) (by kernel_rfl)⟩
 |k+1=>⟨vJ (da k).1 (da k).2.1 (da k).2.2,tR (da k).1 (da k).2.1 (da k).2.2,ux (da k).1 (da k).2.1 (da k).2.2⟩
def av:List C→Option (List C):=av.g iD 0
theorem vL:aD Tryz.checked.prog T0 112 (dW av):=(da iD).1
def dG:List C→Option (List C):=av.g iD 1
def fi:List C→Option (List C):=av.g iD 2
def aw.d1 (G0:List C→Option (List C)) (a b c d:C):R:=(bif (decide (d.I<c.I)) then (bif (decide (0≤d.I)) then (bif (decide (d.I<(b.L.length:Int))) then (ad (G0 [((b.L.getD d.I.toNat []).getD 0 .nil)]) fun e=>(some (.again [.i (if (w64 (e.I+1))>a.I then (w64 (e.I+1)) else a.I),b,c,.i (w64 (d.I+1))]))) else none) else none) else (some (.brk 0 [a])))
def aw.d2 (G0:List C→Option (List C)) (a:C):R:=(some (.ret [a]))
def aw.d3 (G0:List C→Option (List C)) (a:C):R:=(bif a.isP then (ah 0 (lim (apn 4 (aw.d1 G0)) [.i 0,(a.P.getD 3 .nil),.i (((a.P.getD 3 .nil).L).length:Int),.i 0]) (apn 1 (aw.d2 G0))) else none)
def aw.step (G0:List C→Option (List C)):List C→Option (List C):=fun xs=>aY (apn 1 (aw.d3 G0) xs)
def eY (G:List C→Option (List C)):FS:=⟨1,⟨[(0,(.d (.pt 139)))],[]⟩,⟨[(0,(.d (.int .i64)))],[]⟩,[],G⟩
theorem vM {G0:List C→Option (List C)} (h0:aD Tryz.checked.prog T0 114 (eY G0)):aD Tryz.checked.prog T0 114 (eY (aw.step G0)):=br aC (fn:=Tryz.f114) (c:=Tryz.f114.body.getD .skip) (eY (aw.step G0)) (.seq .leaf (.seq .leaf (.seq (.seq .leaf (.block ⟨[(3,(.d (.int .i64)))],[]⟩ (.loop ⟨[(3,(.d (.int .i64))),(9,(.d (.sl 104))),(10,(.d (.int .i64))),(11,(.d (.int .i64)))],[]⟩ .leaf))) .leaf))) [(114,some 17,(eY G0))] (.cons h0 .nil) (by kernel_rfl) (by kernel_rfl) (by kernel_rfl) (fun xs=>by kernel_rfl)
def aw.g:Nat→Nat→List C→Option (List C)
 |0,_=>fun _=>none
 |k+1,0=>aw.step (aw.g k 0)
 |_,_=>fun _=>none
theorem nA:∀k:Nat,aD Tryz.checked.prog T0 114 (eY (aw.g k 0))
 |0=>kr (fn:=Tryz.f114) (c:=Tryz.f114.body.getD .skip) (1) (⟨[(0,(.d (.pt 139)))],[]⟩) (⟨[(0,(.d (.int .i64)))],[]⟩) [] (by kernel_rfl) (by kernel_rfl) (by kernel_rfl)
 |k+1=>vM (nA k)
def aw:List C→Option (List C):=aw.g iD 0
theorem vR:aD Tryz.checked.prog T0 114 (eY aw):=nA iD
def jK.d1 (a:C):R:=(bif (decide ((a.S.size:Int)>200)) then (some (.ret [.nil,.i 1])) else (ad (fc [a,.s (bs #[32])]) fun b=>(bif (b.S.toList==(bs #[]).toList) then (some (.ret [.p [.i 0,.s (bs #[]),.s (bs #[]),.l af],.i 0])) else (call4 (av [a,.i 0,.b true]) fun c d e f=>(call3 (bM [d,e,f]) fun g h i=>(bif (!(!i.B)) then (bif (decide (h.I<(a.S.size:Int))) then (some (.ret [.nil,.i 2])) else (ad (aw [c]) fun j=>(bif (decide (j.I>20)) then (some (.ret [.nil,.i 3])) else (some (.ret [c,.i 0]))))) else (some (.ret [.nil,.i 2]))))))))
def jK:List C→Option (List C):=fun xs=>aY (apn 1 jK.d1 xs)
def kJ:FS:=⟨1,⟨[(0,zt)],[]⟩,⟨[(0,(.tu [(.d (.pt 139)),zi]))],[]⟩,[],jK⟩
theorem qu:aD Tryz.checked.prog T0 82 kJ:=br aC (fn:=Tryz.f82) (c:=Tryz.f82.body.getD .skip) kJ (.seq .leaf (.seq .leaf (.seq (.seq .leaf (.cond (.seq .leaf (.frz [13] .leaf)) .leaf)) .leaf))) [(111,some 10,k7),(112,some 18,(dW av)),(113,some 20,gu),(114,some 36,(eY aw))] (.cons vQ (.cons vL (.cons jT (.cons vR .nil)))) (by kernel_rfl) (by kernel_rfl) (by kernel_rfl) (fun xs=>by kernel_rfl)
def dg.d1 (a b c:C):R:=(bif (decide (c.I<b.I)) then (bif (decide (0≤c.I)) then (bif (decide (c.I<(a.L.length:Int))) then (call2 (jK [((a.L.getD c.I.toNat []).getD 0 .nil)]) fun d e=>(bif (!(e.I !=0)) then (ad (fA [((a.L.getD c.I.toNat []).getD 1 .nil),.i (-9),.i 9]) fun f=>(bif (!f.B) then (some (.ret [.b false])) else (some (.again [a,b,.i (w64 (c.I+1))])))) else (some (.ret [.b false])))) else none) else none) else (some (.brk 0 [])))
def dg.d2:R:=(some (.ret [.b true]))
def dg.d3 (a b c d e f g h i j k l m:C):R:=(bif a.B then (some (.ret [.b false])) else (call2 (jK [h]) fun n o=>(bif (o.I !=0) then (some (.ret [.b false])) else (ah 0 (lim (apn 3 dg.d1) [i,.i (i.L.length:Int),.i 0]) (fun xs=>dg.d2)))))
def dg.d4 (a b c d e f g h i j k l:C):R:=(bf (ad (dY [a]) fun m=>(bif (!(!m.B)) then (ad (fA [c,.i 0,.i 100]) fun n=>(bif (!(!n.B)) then (ad (fA [d,.i 0,.i 1000000]) fun o=>(bif (!(!o.B)) then (ad (fA [e,.i 0,.i 1000]) fun p=>(bif (!(!p.B)) then (ad (fA [f,.i 0,.i 1000]) fun q=>(bif (!(!q.B)) then (bif (!(decide ((h.L.length:Int)>5))) then (ad (fA [i,.i 0,.i 2]) fun r=>(bif (!(!r.B)) then (bif (!(j.S.toList==(bs #[]).toList)) then (ad (dY [j]) fun s=>(bif (!(!s.B)) then (bif (!(k.S.toList==(bs #[]).toList)) then (ad (dY [k]) fun t=>(some (.nrm [.b (!t.B),a,b,c,d,e,f,g,h,i,j,k,l]))) else (some (.nrm [.b false,a,b,c,d,e,f,g,h,i,j,k,l]))) else (some (.nrm [.b true,a,b,c,d,e,f,g,h,i,j,k,l])))) else (bif (!(k.S.toList==(bs #[]).toList)) then (ad (dY [k]) fun u=>(some (.nrm [.b (!u.B),a,b,c,d,e,f,g,h,i,j,k,l]))) else (some (.nrm [.b false,a,b,c,d,e,f,g,h,i,j,k,l])))) else (some (.nrm [.b true,a,b,c,d,e,f,g,h,i,j,k,l])))) else (some (.nrm [.b true,a,b,c,d,e,f,g,h,i,j,k,l]))) else (some (.nrm [.b true,a,b,c,d,e,f,g,h,i,j,k,l])))) else (some (.nrm [.b true,a,b,c,d,e,f,g,h,i,j,k,l])))) else (some (.nrm [.b true,a,b,c,d,e,f,g,h,i,j,k,l])))) else (some (.nrm [.b true,a,b,c,d,e,f,g,h,i,j,k,l])))) else (some (.nrm [.b true,a,b,c,d,e,f,g,h,i,j,k,l])))) (apn 13 dg.d3))
def dg:List C→Option (List C):=fun xs=>aY (apn 12 dg.d4 xs)
def oD:FS:=⟨1,⟨[(0,z5)],[]⟩,⟨[(0,zo)],[]⟩,[],dg⟩
theorem A7:aD Tryz.checked.prog T0 47 oD:=br aC (fn:=Tryz.f47) (c:=Tryz.f47.body.getD .skip) oD (.seq .leaf (.seq (.seq (.join ⟨[(1,(.pt 1 0)),(70,zo)],[(1,z1)]⟩ .leaf) .leaf) (.seq .leaf (.seq (.seq .leaf (.block ⟨[],[]⟩ (.loop ⟨[(80,(zl 100)),(81,zi),(82,zi)],[]⟩ .leaf))) .leaf)))) [(45,some 11,fp),(45,some 56,fp),(45,some 67,fp),(46,some 16,eM),(46,some 22,eM),(46,some 28,eM),(46,some 34,eM),(46,some 46,eM),(46,some 97,eM),(82,some 74,kJ),(82,some 89,kJ)] (.cons gx (.cons gx (.cons gx (.cons fT (.cons fT (.cons fT (.cons fT (.cons fT (.cons fT (.cons qu (.cons qu .nil))))))))))) (by kernel_rfl) (by kernel_rfl) (by kernel_rfl) (fun xs=>by kernel_rfl)
def dE.d1 (a b c d e f:C):R:=(bif (decide (f.I<e.I)) then (bif (decide (0≤f.I)) then (bif (decide (f.I<(d.L.length:Int))) then (bif ((((d.L.getD f.I.toNat []).getD 11 .nil).S).toList==a.S.toList) then (some (.again [a,.i (w64 (b.I+((d.L.getD f.I.toNat []).getD 4 .nil).I)),.i (w64 (c.I+((d.L.getD f.I.toNat []).getD 5 .nil).I)),d,e,.i (w64 (f.I+1))])) else (some (.again [a,b,c,d,e,.i (w64 (f.I+1))]))) else none) else none) else (some (.brk 0 [b,c])))
def dE.d2 (a b:C):R:=(some (.ret [a,b]))
def dE.d3 (a b c d e:C):R:=(bif (!(e.S.toList==(bs #[]).toList)) then (ad (fw [a,b,c,d,e]) fun f=>(bif (decide (f.I<0)) then (some (.ret [.i 0,.i 0])) else (ah 0 (lim (apn 6 dE.d1) [e,.i 0,.i 0,d,.i (d.L.length:Int),.i 0]) (apn 2 dE.d2)))) else (some (.ret [.i 0,.i 0])))
def dE:List C→Option (List C):=fun xs=>aY (apn 5 dE.d3 xs)
def mg:FS:=⟨2,⟨[(0,z2),(1,zt)],[]⟩,⟨[(0,(.tu [zi,zi]))],[]⟩,[],dE⟩
theorem xz:aD Tryz.checked.prog T0 48 mg:=br aC (fn:=Tryz.f48) (c:=Tryz.f48.body.getD .skip) mg (.seq .leaf (.seq .leaf (.seq .leaf (.seq (.seq .leaf (.block ⟨[(6,zi),(7,zi)],[]⟩ (.loop ⟨[(1,zt),(6,zi),(7,zi),(19,(zl 38)),(20,zi),(21,zi)],[]⟩ .leaf))) .leaf)))) [(32,some 15,gQ)] (.cons kD .nil) (by kernel_rfl) (by kernel_rfl) (by kernel_rfl) (fun xs=>by kernel_rfl)
end
end Go.Ev
namespace Go.Ev
open Go.Proofs
noncomputable section
def ar.d1 (a b c d e f g:C):R:=(bif (decide (c.I<b.I)) then (bif (decide (0≤c.I)) then (bif (decide (c.I<(a.L.length:Int))) then (ad (dN [((a.L.getD c.I.toNat []).getD 0 .nil),((a.L.getD c.I.toNat []).getD 1 .nil),((a.L.getD c.I.toNat []).getD 2 .nil),((a.L.getD c.I.toNat []).getD 3 .nil),((a.L.getD c.I.toNat []).getD 4 .nil),((a.L.getD c.I.toNat []).getD 5 .nil)]) fun h=>(bif (!(!h.B)) then (bif (decide (c.I>0)) then (bif (decide (0≤(w64 (c.I-1)))) then (bif (decide ((w64 (c.I-1))<(e.L.length:Int))) then (bif ((Op.bytesLess (((a.L.getD c.I.toNat []).getD 0 .nil).S).toList (((e.L.getD (w64 (c.I-1)).toNat []).getD 0 .nil).S).toList)||((((a.L.getD c.I.toNat []).getD 0 .nil).S).toList==(((e.L.getD (w64 (c.I-1)).toNat []).getD 0 .nil).S).toList)) then (some (.ret [.b false])) else (some (.again [a,b,.i (w64 (c.I+1)),d,e,f,g]))) else none) else none) else (some (.again [a,b,.i (w64 (c.I+1)),d,e,f,g]))) else (some (.ret [.b false])))) else none) else none) else (some (.brk 0 [d,e,f,g])))
def ar.d2 (a b c d e f g h:C):R:=(bif (decide (c.I<b.I)) then (bif (decide (0≤c.I)) then (bif (decide (c.I<(a.L.length:Int))) then (ad (dY [((a.L.getD c.I.toNat []).getD 0 .nil)]) fun i=>(bif (!(!i.B)) then (ad (fA [((a.L.getD c.I.toNat []).getD 1 .nil),.i 0,.i 60]) fun j=>(bif (!(!j.B)) then (bif (decide (c.I>0)) then (bif (decide (0≤(w64 (c.I-1)))) then (bif (decide ((w64 (c.I-1))<(f.L.length:Int))) then (bif ((Op.bytesLess (((a.L.getD c.I.toNat []).getD 0 .nil).S).toList (((f.L.getD (w64 (c.I-1)).toNat []).getD 0 .nil).S).toList)||((((a.L.getD c.I.toNat []).getD 0 .nil).S).toList==(((f.L.getD (w64 (c.I-1)).toNat []).getD 0 .nil).S).toList)) then (some (.ret [.b false])) else (some (.again [a,b,.i (w64 (c.I+1)),d,e,f,g,.l (ln (((a.L.getD c.I.toNat []).getD 0 .nil).S) (.b true) h.L)]))) else none) else none) else (some (.again [a,b,.i (w64 (c.I+1)),d,e,f,g,.l (ln (((a.L.getD c.I.toNat []).getD 0 .nil).S) (.b true) h.L)]))) else (some (.ret [.b false])))) else (some (.ret [.b false])))) else none) else none) else (some (.brk 2 [d,e,f,g,.l h.L])))
def ar.d3 (a b c d e f g h i j k l m n o p q r s t u v:C):R:=(bif d.B then (some (.ret [.b false])) else (some (.again [a,b,.i (w64 (c.I+1)),e,f,g,h,.l i.L,.l (ln v.S (.i (w64 ((jr (.i 0) v.S j.L).I+1))) j.L)])))
def ar.d4 (a b c d e f g h i:C):R:=(bif (decide (c.I<b.I)) then (bif (decide (0≤c.I)) then (bif (decide (c.I<(a.L.length:Int))) then (bf (ad (dg [((a.L.getD c.I.toNat []).getD 0 .nil),((a.L.getD c.I.toNat []).getD 1 .nil),((a.L.getD c.I.toNat []).getD 2 .nil),((a.L.getD c.I.toNat []).getD 3 .nil),((a.L.getD c.I.toNat []).getD 4 .nil),((a.L.getD c.I.toNat []).getD 5 .nil),((a.L.getD c.I.toNat []).getD 6 .nil),((a.L.getD c.I.toNat []).getD 7 .nil),((a.L.getD c.I.toNat []).getD 8 .nil),((a.L.getD c.I.toNat []).getD 9 .nil),((a.L.getD c.I.toNat []).getD 10 .nil),((a.L.getD c.I.toNat []).getD 11 .nil)]) fun j=>(bif (!(!j.B)) then (bif (!(!((jr (.b false) (((a.L.getD c.I.toNat []).getD 1 .nil).S) h.L).B))) then (bif (decide (c.I>0)) then (bif (decide (0≤(w64 (c.I-1)))) then (bif (decide ((w64 (c.I-1))<(g.L.length:Int))) then (bif (!((Op.bytesLess (((a.L.getD c.I.toNat []).getD 0 .nil).S).toList (((g.L.getD (w64 (c.I-1)).toNat []).getD 0 .nil).S).toList)||((((a.L.getD c.I.toNat []).getD 0 .nil).S).toList==(((g.L.getD (w64 (c.I-1)).toNat []).getD 0 .nil).S).toList))) then (bif (!((((a.L.getD c.I.toNat []).getD 11 .nil).S).toList==(bs #[]).toList)) then (ad (fw [d,e,f,g,((a.L.getD c.I.toNat []).getD 11 .nil)]) fun k=>(some (.nrm [a,b,c,.b (decide (k.I<0)),d,e,f,g,.l h.L,.l i.L,((a.L.getD c.I.toNat []).getD 0 .nil),((a.L.getD c.I.toNat []).getD 1 .nil),((a.L.getD c.I.toNat []).getD 2 .nil),((a.L.getD c.I.toNat []).getD 3 .nil),((a.L.getD c.I.toNat []).getD 4 .nil),((a.L.getD c.I.toNat []).getD 5 .nil),((a.L.getD c.I.toNat []).getD 6 .nil),((a.L.getD c.I.toNat []).getD 7 .nil),((a.L.getD c.I.toNat []).getD 8 .nil),((a.L.getD c.I.toNat []).getD 9 .nil),((a.L.getD c.I.toNat []).getD 10 .nil),((a.L.getD c.I.toNat []).getD 11 .nil)]))) else (some (.nrm [a,b,c,.b false,d,e,f,g,.l h.L,.l i.L,((a.L.getD c.I.toNat []).getD 0 .nil),((a.L.getD c.I.toNat []).getD 1 .nil),((a.L.getD c.I.toNat []).getD 2 .nil),((a.L.getD c.I.toNat []).getD 3 .nil),((a.L.getD c.I.toNat []).getD 4 .nil),((a.L.getD c.I.toNat []).getD 5 .nil),((a.L.getD c.I.toNat []).getD 6 .nil),((a.L.getD c.I.toNat []).getD 7 .nil),((a.L.getD c.I.toNat []).getD 8 .nil),((a.L.getD c.I.toNat []).getD 9 .nil),((a.L.getD c.I.toNat []).getD 10 .nil),((a.L.getD c.I.toNat []).getD 11 .nil)]))) else (some (.nrm [a,b,c,.b true,d,e,f,g,.l h.L,.l i.L,((a.L.getD c.I.toNat []).getD 0 .nil),((a.L.getD c.I.toNat []).getD 1 .nil),((a.L.getD c.I.toNat []).getD 2 .nil),((a.L.getD c.I.toNat []).getD 3 .nil),((a.L.getD c.I.toNat []).getD 4 .nil),((a.L.getD c.I.toNat []).getD 5 .nil),((a.L.getD c.I.toNat []).getD 6 .nil),((a.L.getD c.I.toNat []).getD 7 .nil),((a.L.getD c.I.toNat []).getD 8 .nil),((a.L.getD c.I.toNat []).getD 9 .nil),((a.L.getD c.I.toNat []).getD 10 .nil),((a.L.getD c.I.toNat []).getD 11 .nil)]))) else none) else none) else (bif (!((((a.L.getD c.I.toNat []).getD 11 .nil).S).toList==(bs #[]).toList)) then (ad (fw [d,e,f,g,((a.L.getD c.I.toNat []).getD 11 .nil)]) fun l=>(some (.nrm [a,b,c,.b (decide (l.I<0)),d,e,f,g,.l h.L,.l i.L,((a.L.getD c.I.toNat []).getD 0 .nil),((a.L.getD c.I.toNat []).getD 1 .nil),((a.L.getD c.I.toNat []).getD 2 .nil),((a.L.getD c.I.toNat []).getD 3 .nil),((a.L.getD c.I.toNat []).getD 4 .nil),((a.L.getD c.I.toNat []).getD 5 .nil),((a.L.getD c.I.toNat []).getD 6 .nil),((a.L.getD c.I.toNat []).getD 7 .nil),((a.L.getD c.I.toNat []).getD 8 .nil),((a.L.getD c.I.toNat []).getD 9 .nil),((a.L.getD c.I.toNat []).getD 10 .nil),((a.L.getD c.I.toNat []).getD 11 .nil)]))) else (some (.nrm [a,b,c,.b false,d,e,f,g,.l h.L,.l i.L,((a.L.getD c.I.toNat []).getD 0 .nil),((a.L.getD c.I.toNat []).getD 1 .nil),((a.L.getD c.I.toNat []).getD 2 .nil),((a.L.getD c.I.toNat []).getD 3 .nil),((a.L.getD c.I.toNat []).getD 4 .nil),((a.L.getD c.I.toNat []).getD 5 .nil),((a.L.getD c.I.toNat []).getD 6 .nil),((a.L.getD c.I.toNat []).getD 7 .nil),((a.L.getD c.I.toNat []).getD 8 .nil),((a.L.getD c.I.toNat []).getD 9 .nil),((a.L.getD c.I.toNat []).getD 10 .nil),((a.L.getD c.I.toNat []).getD 11 .nil)])))) else (some (.nrm [a,b,c,.b true,d,e,f,g,.l h.L,.l i.L,((a.L.getD c.I.toNat []).getD 0 .nil),((a.L.getD c.I.toNat []).getD 1 .nil),((a.L.getD c.I.toNat []).getD 2 .nil),((a.L.getD c.I.toNat []).getD 3 .nil),((a.L.getD c.I.toNat []).getD 4 .nil),((a.L.getD c.I.toNat []).getD 5 .nil),((a.L.getD c.I.toNat []).getD 6 .nil),((a.L.getD c.I.toNat []).getD 7 .nil),((a.L.getD c.I.toNat []).getD 8 .nil),((a.L.getD c.I.toNat []).getD 9 .nil),((a.L.getD c.I.toNat []).getD 10 .nil),((a.L.getD c.I.toNat []).getD 11 .nil)]))) else (some (.nrm [a,b,c,.b true,d,e,f,g,.l h.L,.l i.L,((a.L.getD c.I.toNat []).getD 0 .nil),((a.L.getD c.I.toNat []).getD 1 .nil),((a.L.getD c.I.toNat []).getD 2 .nil),((a.L.getD c.I.toNat []).getD 3 .nil),((a.L.getD c.I.toNat []).getD 4 .nil),((a.L.getD c.I.toNat []).getD 5 .nil),((a.L.getD c.I.toNat []).getD 6 .nil),((a.L.getD c.I.toNat []).getD 7 .nil),((a.L.getD c.I.toNat []).getD 8 .nil),((a.L.getD c.I.toNat []).getD 9 .nil),((a.L.getD c.I.toNat []).getD 10 .nil),((a.L.getD c.I.toNat []).getD 11 .nil)])))) (apn 22 ar.d3)) else none) else none) else (some (.brk 4 [d,e,f,g,.l i.L])))
def ar.d5 (a b c d e f g h:C):R:=(bif (decide (c.I<b.I)) then (bif (decide (0≤c.I)) then (bif (decide (c.I<(a.L.length:Int))) then (call2 (dE [d,e,f,g,((a.L.getD c.I.toNat []).getD 0 .nil)]) fun i j=>(bif (!(decide ((jr (.i 0) (((a.L.getD c.I.toNat []).getD 0 .nil).S) h.L).I>10))) then (bif (!(decide (i.I>((a.L.getD c.I.toNat []).getD 3 .nil).I))) then (bif (decide (j.I>((a.L.getD c.I.toNat []).getD 4 .nil).I)) then (some (.ret [.b false])) else (some (.again [a,b,.i (w64 (c.I+1)),d,e,f,g,.l h.L]))) else (some (.ret [.b false]))) else (some (.ret [.b false])))) else none) else none) else (some (.brk 6 [])))
def ar.d6:R:=(some (.ret [.b true]))
def ar.d7 (a b c d e:C):R:=(ah 6 (lim (apn 8 ar.d5) [b,.i (b.L.length:Int),.i 0,a,b,c,d,.l e.L]) (fun xs=>ar.d6))
def ar.d8 (a b c d e:C):R:=(ah 4 (lim (apn 9 ar.d4) [d,.i (d.L.length:Int),.i 0,a,b,c,d,.l e.L,.l af]) (apn 5 ar.d7))
def ar.d9 (a b c d:C):R:=(ah 2 (lim (apn 8 ar.d2) [c,.i (c.L.length:Int),.i 0,a,b,c,d,.l af]) (apn 5 ar.d8))
def ar.d10 (a b c d:C):R:=(bif (!(decide ((b.L.length:Int)>12))) then (bif (!(decide ((c.L.length:Int)>30))) then (bif (decide ((d.L.length:Int)>60)) then (some (.ret [.b false])) else (ah 0 (lim (apn 7 ar.d1) [b,.i (b.L.length:Int),.i 0,a,b,c,d]) (apn 4 ar.d9))) else (some (.ret [.b false]))) else (some (.ret [.b false])))
def ar:List C→Option (List C):=fun xs=>aY (apn 4 ar.d10 xs)
def iV:FS:=⟨1,⟨[(0,z2)],[]⟩,⟨[(0,zo)],[]⟩,[],ar⟩
theorem px:aD Tryz.checked.prog T0 10 iV:=br aC (fn:=Tryz.f10) (c:=Tryz.f10.body.getD .skip) iV (.seq .leaf (.seq .leaf (.seq (.seq .leaf (.block ⟨[(1,(.pt 1 0))],[(1,z0)]⟩ (.loop ⟨[(1,(.pt 1 0)),(32,(zl 72)),(33,zi),(34,zi)],[(1,z0)]⟩ .leaf))) (.seq .leaf (.seq (.seq .leaf (.block ⟨[(1,(.pt 1 0)),(5,(.mp 59))],[(1,z0),(59,.mp 4)]⟩ (.loop ⟨[(1,(.pt 1 0)),(5,(.mp 59)),(61,(zl 40)),(62,zi),(63,zi)],[(1,z0),(59,.mp 4)]⟩ .leaf))) (.seq .leaf (.seq (.seq .leaf (.block ⟨[(1,(.pt 1 0)),(8,(.mp 98))],[(1,z0),(98,.mp 3)]⟩ (.loop ⟨[(1,(.pt 1 0)),(5,(.mp 59)),(8,(.mp 98)),(100,(zl 38)),(101,zi),(102,zi)],[(1,z0),(59,.mp 4),(98,.mp 3)]⟩ (.seq .leaf (.seq .leaf (.seq (.skip (.seq .leaf (.seq (.seq (.join ⟨[(1,(.pt 1 0)),(5,(.mp 59)),(8,(.mp 98)),(10,(.pt 10 0)),(100,(zl 38)),(101,zi),(102,zi),(144,zo)],[(1,z0),(59,.mp 4),(98,.mp 3),(10,z1)]⟩ .leaf) .leaf) .leaf))) .leaf)))))) (.seq (.seq .leaf (.block ⟨[],[]⟩ (.loop ⟨[(1,(.pt 1 0)),(8,(.mp 98)),(152,(zl 72)),(153,zi),(154,zi)],[(1,z0),(98,.mp 3)]⟩ .leaf))) .leaf)))))))) [(32,some 141,gQ),(44,some 40,nk),(45,some 70,fp),(46,some 75,eM),(47,some 108,oD),(48,some 162,mg)] (.cons kD (.cons yG (.cons gx (.cons fT (.cons A7 (.cons xz .nil)))))) (by kernel_rfl) (by kernel_rfl) (by kernel_rfl) (fun xs=>by kernel_rfl)
def zh.d1 (a:C):R:=(bif a.B then (some (.ret [.i 1])) else (some (.ret [.i 0])))
def zh:List C→Option (List C):=fun xs=>aY (apn 1 zh.d1 xs)
def wJ:FS:=⟨1,⟨[(0,zo)],[]⟩,⟨[(0,zi)],[]⟩,[],zh⟩
theorem FP:aD Tryz.checked.prog T0 64 wJ:=br aC (fn:=Tryz.f64) (c:=Tryz.f64.body.getD .skip) wJ .leaf [] .nil (by kernel_rfl) (by kernel_rfl) (by kernel_rfl) (fun xs=>by kernel_rfl)
def bw.d1 (a b c d e f g h i:C):R:=(bif (decide (d.I<c.I)) then (bif (decide (0≤d.I)) then (bif (decide (d.I<(b.L.length:Int))) then (ad (iB [e,f,g,h,((b.L.getD d.I.toNat []).getD 0 .nil)]) fun j=>(bif (!(decide (j.I<0))) then (bif (decide (0≤j.I)) then (bif (decide (j.I<(h.L.length:Int))) then (bif (!((((h.L.getD j.I.toNat []).getD 11 .nil).S).toList==(bs #[]).toList)) then (bif (decide (d.I>0)) then (bif (decide (0≤(w64 (d.I-1)))) then (bif (decide ((w64 (d.I-1))<(a.L.length:Int))) then (bif ((Op.bytesLess (((b.L.getD d.I.toNat []).getD 0 .nil).S).toList (((a.L.getD (w64 (d.I-1)).toNat []).getD 0 .nil).S).toList)||((((b.L.getD d.I.toNat []).getD 0 .nil).S).toList==(((a.L.getD (w64 (d.I-1)).toNat []).getD 0 .nil).S).toList)) then (some (.ret [.b false])) else (bif (decide (0≤j.I)) then (bif (decide (j.I<(h.L.length:Int))) then (some (.again [a,b,c,.i (w64 (d.I+1)),e,f,g,h,.l (ln (((h.L.getD j.I.toNat []).getD 1 .nil).S) (.i (w64 ((jr (.i 0) (((h.L.getD j.I.toNat []).getD 1 .nil).S) i.L).I+1))) i.L)])) else none) else none)) else none) else none) else (bif (decide (0≤j.I)) then (bif (decide (j.I<(h.L.length:Int))) then (some (.again [a,b,c,.i (w64 (d.I+1)),e,f,g,h,.l (ln (((h.L.getD j.I.toNat []).getD 1 .nil).S) (.i (w64 ((jr (.i 0) (((h.L.getD j.I.toNat []).getD 1 .nil).S) i.L).I+1))) i.L)])) else none) else none)) else (some (.ret [.b false]))) else none) else none) else (some (.ret [.b false])))) else none) else none) else (some (.brk 0 [e,f,g,h,.l i.L])))
def bw.d2 (a b c d e f g h i j k l m n:C):R:=(bif (decide (g.I<f.I)) then (bif (decide (0≤g.I)) then (bif (decide (g.I<(e.L.length:Int))) then (bif ((((e.L.getD g.I.toNat []).getD 1 .nil).S).toList==m.S.toList) then (ad (zh [.b ((((e.L.getD g.I.toNat []).getD 11 .nil).S).toList==(bs #[]).toList)]) fun o=>(some (.again [.i (w64 (a.I+o.I)),b,c,d,e,f,.i (w64 (g.I+1)),h,i,j,k,.l l.L,m,n]))) else (ad (zh [.b false]) fun p=>(some (.again [.i (w64 (a.I+p.I)),b,c,d,e,f,.i (w64 (g.I+1)),h,i,j,k,.l l.L,m,n])))) else none) else none) else (some (.brk 4 [a,b,c,d,h,i,j,k,.l l.L,m,n])))
def bw.d3 (a b c d e f g h i j k:C):R:=(bif (decide ((jr (.i 0) j.S i.L).I>(w64 (k.I-a.I)))) then (some (.ret [.b false])) else (some (.brk 3 [b,c,d,e,f,g,h,.l i.L])))
def bw.d4 (a b c d e f g h:C):R:=(some (.again [a,b,.i (w64 (c.I+1)),d,e,f,g,.l h.L]))
def bw.d5 (a b c d e f g h:C):R:=(bif (decide (c.I<b.I)) then (ah 3 (bif (decide (0≤c.I)) then (bif (decide (c.I<(a.L.length:Int))) then (bif ((jr (.i 0) (((a.L.getD c.I.toNat []).getD 0 .nil).S) h.L).I==0) then (some (.brk 3 [a,b,c,d,e,f,g,.l h.L])) else (ah 4 (lim (apn 14 bw.d2) [.i 0,a,b,c,g,.i (g.L.length:Int),.i 0,d,e,f,g,.l h.L,((a.L.getD c.I.toNat []).getD 0 .nil),((a.L.getD c.I.toNat []).getD 1 .nil)]) (apn 11 bw.d3))) else none) else none) (apn 8 bw.d4)) else (some (.brk 2 [])))
def bw.d6:R:=(some (.ret [.b true]))
def bw.d7 (a b c d e:C):R:=(ah 2 (lim (apn 8 bw.d5) [c,.i (c.L.length:Int),.i 0,a,b,c,d,.l e.L]) (fun xs=>bw.d6))
def bw.d8 (a b c d e:C):R:=(ah 0 (lim (apn 9 bw.d1) [e,e,.i (e.L.length:Int),.i 0,a,b,c,d,.l af]) (apn 5 bw.d7))
def bw:List C→Option (List C):=fun xs=>aY (apn 5 bw.d8 xs)
def qe:FS:=⟨2,⟨[(0,z2),(1,(zl 9))],[]⟩,⟨[(0,zo)],[]⟩,[],bw⟩
theorem B7:aD Tryz.checked.prog T0 33 qe:=br aC (fn:=Tryz.f33) (c:=Tryz.f33.body.getD .skip) qe (.seq .leaf (.seq .leaf (.seq (.seq .leaf (.block ⟨[(2,(.pt 2 0)),(5,(.mp 14))],[(2,z0),(14,.mp 3)]⟩ (.loop ⟨[(1,(zl 9)),(2,(.pt 2 0)),(5,(.mp 14)),(15,(zl 9)),(16,zi),(17,zi)],[(2,z0),(14,.mp 3)]⟩ .leaf))) (.seq (.seq .leaf (.block ⟨[],[]⟩ (.loop ⟨[(2,(.pt 2 0)),(5,(.mp 14)),(60,(zl 40)),(61,zi),(62,zi)],[(2,z0),(14,.mp 3)]⟩ (.seq .leaf (.seq .leaf (.seq (.block ⟨[(2,(.pt 2 0)),(5,(.mp 14)),(60,(zl 40)),(61,zi),(62,zi)],[(2,z0),(14,.mp 3)]⟩ (.seq .leaf (.seq .leaf (.seq .leaf (.seq (.seq .leaf (.block ⟨[(2,(.pt 2 0)),(5,(.mp 14)),(10,(.pt 10 0)),(11,zi),(60,(zl 40)),(61,zi),(62,zi)],[(2,z0),(14,.mp 3),(10,.var 40 [zt,zi])]⟩ (.loop ⟨[(2,(.pt 2 0)),(5,(.mp 14)),(10,(.pt 10 0)),(11,zi),(60,(zl 40)),(61,zi),(62,zi),(72,(zl 38)),(73,zi),(74,zi)],[(2,z0),(14,.mp 3),(10,.var 40 [zt,zi])]⟩ .leaf))) .leaf))))) .leaf)))))) .leaf)))) [(31,some 24,ju),(64,some 89,wJ)] (.cons oM (.cons FP .nil)) (by kernel_rfl) (by kernel_rfl) (by kernel_rfl) (fun xs=>by kernel_rfl)
def gj.d1 (a b c d e f:C):R:=(bif (decide (c.L.length≤4294967296)) then (some (.ret [a,b,d,e,f,.l c.L])) else none)
def gj:List C→Option (List C):=fun xs=>aY (apn 6 gj.d1 xs)
def kf:FS:=⟨1,⟨[(0,z7)],[]⟩,⟨[(0,(.ag [zt,zt,(.ow 3000),zi,zi,zo]))],[(3000,.arr 9 1)]⟩,[],gj⟩
theorem tM:aD Tryz.checked.prog T0 97 kf:=br aC (fn:=Tryz.f97) (c:=Tryz.f97.body.getD .skip) kf .leaf [] .nil (by kernel_rfl) (by kernel_rfl) (by kernel_rfl) (fun xs=>by kernel_rfl)
def gy.d1 (a b c d e f g h i j k l:C):R:=(bif (decide (h.L.length≤4294967296)) then (some (.ret [a,b,c,d,e,f,g,i,j,k,l,.l h.L])) else none)
def gy:List C→Option (List C):=fun xs=>aY (apn 12 gy.d1 xs)
def lp:FS:=⟨1,⟨[(0,z5)],[]⟩,⟨[(0,(.ag [zt,zt,zi,zi,zi,zi,zt,(.ow 3000),zi,zt,zt,zt]))],[(3000,.arr 100 1)]⟩,[],gy⟩
theorem vE:aD Tryz.checked.prog T0 98 lp:=br aC (fn:=Tryz.f98) (c:=Tryz.f98.body.getD .skip) lp .leaf [] .nil (by kernel_rfl) (by kernel_rfl) (by kernel_rfl) (fun xs=>by kernel_rfl)
def dz.d1 (a b c d e f g h i j k l m n o:C):R:=(bif (decide (c.I<b.I)) then (bif (decide (0≤c.I)) then (bif (decide (c.I<(a.L.length:Int))) then (call6 (gj [((a.L.getD c.I.toNat []).getD 0 .nil),((a.L.getD c.I.toNat []).getD 1 .nil),((a.L.getD c.I.toNat []).getD 2 .nil),((a.L.getD c.I.toNat []).getD 3 .nil),((a.L.getD c.I.toNat []).getD 4 .nil),((a.L.getD c.I.toNat []).getD 5 .nil)]) fun p q r s t u=>(bif (decide (m.L.length+(rows [[p,q,.l u.L,r,s,t]]).length≤4294967296)) then (some (.again [a,b,.i (w64 (c.I+1)),d,e,f,g,h,i,.l j.L,.l k.L,.l l.L,.l (m.L++(rows [[p,q,.l u.L,r,s,t]])),.l n.L,.l o.L])) else none)) else none) else none) else (some (.brk 0 [d,e,f,g,h,i,.l j.L,.l k.L,.l l.L,.l m.L,.l n.L,.l o.L])))
def dz.d2 (a b c d e f g h i j k:C):R:=(bif (decide (c.I<b.I)) then (bif (decide (0≤c.I)) then (bif (decide (c.I<(a.L.length:Int))) then (call12 (gy [((a.L.getD c.I.toNat []).getD 0 .nil),((a.L.getD c.I.toNat []).getD 1 .nil),((a.L.getD c.I.toNat []).getD 2 .nil),((a.L.getD c.I.toNat []).getD 3 .nil),((a.L.getD c.I.toNat []).getD 4 .nil),((a.L.getD c.I.toNat []).getD 5 .nil),((a.L.getD c.I.toNat []).getD 6 .nil),((a.L.getD c.I.toNat []).getD 7 .nil),((a.L.getD c.I.toNat []).getD 8 .nil),((a.L.getD c.I.toNat []).getD 9 .nil),((a.L.getD c.I.toNat []).getD 10 .nil),((a.L.getD c.I.toNat []).getD 11 .nil)]) fun l m n o p q r s t u v w=>(bif (decide (k.L.length+(rows [[l,m,n,o,p,q,r,.l w.L,s,t,u,v]]).length≤4294967296)) then (some (.again [a,b,.i (w64 (c.I+1)),d,e,.l f.L,.l g.L,.l h.L,.l i.L,.l j.L,.l (k.L++(rows [[l,m,n,o,p,q,r,.l w.L,s,t,u,v]]))])) else none)) else none) else none) else (some (.brk 2 [d,e,.l f.L,.l g.L,.l h.L,.l i.L,.l j.L,.l k.L])))
def dz.d3 (a b c d e f g h:C):R:=(some (.ret [b,.l f.L,.l g.L,.l h.L]))
def dz.d4 (a b c d e f g h i j k l:C):R:=(ah 2 (lim (apn 11 dz.d2) [d,.i (d.L.length:Int),.i 0,e,f,.l g.L,.l h.L,.l i.L,.l j.L,.l k.L,.l l.L]) (apn 8 dz.d3))
def dz.d5 (a b c d:C):R:=(bif (decide (c.L.length≤4294967296)) then (ah 0 (lim (apn 15 dz.d1) [b,.i (b.L.length:Int),.i 0,a,b,c,d,.b false,.b a.B,.l af,.l af,.l af,.l af,.l c.L,.l af]) (apn 12 dz.d4)) else none)
def dz:List C→Option (List C):=fun xs=>aY (apn 4 dz.d5 xs)
def pJ:FS:=⟨1,⟨[(0,z2)],[]⟩,⟨[(0,z16)],[(3000,.arr 72 1),(3001,.arr 40 1),(3002,.arr 38 1)]⟩,[],dz⟩
theorem CH:aD Tryz.checked.prog T0 65 pJ:=ry aC [25,40] false (fn:=Tryz.f65) (c:=Tryz.f65.body.getD .skip) pJ (.seq .leaf (.seq .leaf (.seq (.seq .leaf (.block ⟨[(1,(.pt 1 0)),(2,(.pt 2 0)),(3,(.pt 3 0))],[(1,z0),(2,z18),(3,.var 27 [zo,(.ow 1383703),(.ow 12),(.ow 1383704)]),(1383700,.arr 72 1),(1383701,.arr 40 1),(1383702,.arr 38 1),(1383703,.arr 72 1),(12,.arr 40 1),(1383704,.arr 38 1)]⟩ (.loop ⟨[(1,(.pt 1 0)),(2,(.pt 2 0)),(3,(.pt 3 0)),(15,(zl 72)),(16,zi),(17,zi)],[(1,z0),(2,z18),(3,.var 27 [zo,(.ow 1383703),(.ow 12),(.ow 1383704)]),(1383700,.arr 72 1),(1383701,.arr 40 1),(1383702,.arr 38 1),(1383703,.arr 72 1),(12,.arr 40 1),(1383704,.arr 38 1)]⟩ .leaf))) (.seq (.seq .leaf (.block ⟨[(2,(.pt 2 0)),(3,(.pt 3 0))],[(2,z18),(3,.var 27 [zo,(.ow 1383703),(.ow 12),(.ow 1383704)]),(1383700,.arr 72 1),(1383701,.arr 40 1),(1383702,.arr 38 1),(1383703,.arr 72 1),(12,.arr 40 1),(1383704,.arr 38 1)]⟩ (.loop ⟨[(2,(.pt 2 0)),(3,(.pt 3 0)),(30,(zl 38)),(31,zi),(32,zi)],[(2,z18),(3,.var 27 [zo,(.ow 1383703),(.ow 12),(.ow 1383704)]),(1383700,.arr 72 1),(1383701,.arr 40 1),(1383702,.arr 38 1),(1383703,.arr 72 1),(12,.arr 40 1),(1383704,.arr 38 1)]⟩ .leaf))) .leaf)))) [(97,some 24,kf),(98,some 39,lp)] (.cons tM (.cons vE .nil)) (by kernel_rfl) (by kernel_rfl) (by kernel_rfl) (fun xs=>by kernel_rfl)
def bg.d1 (a b c d:C):R:=(bif (decide (d.I<c.I)) then (bif (decide (0≤d.I)) then (bif (decide (d.I<(a.L.length:Int))) then (bif (b.S.toList==(((a.L.getD d.I.toNat []).getD 0 .nil).S).toList) then (some (.ret [d])) else (some (.again [a,b,c,.i (w64 (d.I+1))]))) else none) else none) else (some (.brk 0 [])))
def bg.d2:R:=(some (.ret [.i (-1)]))
def bg.d3 (a b:C):R:=(ah 0 (lim (apn 4 bg.d1) [a,b,.i (a.L.length:Int),.i 0]) (fun xs=>bg.d2))
def bg:List C→Option (List C):=fun xs=>aY (apn 2 bg.d3 xs)
def gF:FS:=⟨2,⟨[(0,(zl 9)),(1,zt)],[]⟩,⟨[(0,zi)],[]⟩,[],bg⟩
theorem od:aD Tryz.checked.prog T0 99 gF:=br aC (fn:=Tryz.f99) (c:=Tryz.f99.body.getD .skip) gF (.seq .leaf (.seq (.seq .leaf (.block ⟨[],[]⟩ (.loop ⟨[(0,(zl 9)),(1,zt),(7,zi),(8,zi)],[]⟩ .leaf))) .leaf)) [] .nil (by kernel_rfl) (by kernel_rfl) (by kernel_rfl) (fun xs=>by kernel_rfl)
def cS.d1 (a b:C):R:=(ad (bg [a,b]) fun c=>(some (.ret [.b (decide (c.I≥0))])))
def cS:List C→Option (List C):=fun xs=>aY (apn 2 cS.d1 xs)
def fJ:FS:=⟨2,⟨[(0,(zl 9)),(1,zt)],[]⟩,⟨[(0,zo)],[]⟩,[],cS⟩
theorem mA:aD Tryz.checked.prog T0 66 fJ:=br aC (fn:=Tryz.f66) (c:=Tryz.f66.body.getD .skip) fJ .leaf [(99,some 7,gF)] (.cons od .nil) (by kernel_rfl) (by kernel_rfl) (by kernel_rfl) (fun xs=>by kernel_rfl)
def mu.d1 (a b c d e f g h i j k:C):R:=(bif (decide (c.I<b.I)) then (bif (decide (0≤c.I)) then (bif (decide (c.I<(k.L.length:Int))) then (ad (cS [a,((k.L.getD c.I.toNat []).getD 0 .nil)]) fun l=>(bif l.B then (bif (decide (0≤c.I)) then (bif (decide (c.I<(k.L.length:Int))) then (some (.again [a,b,.i (w64 (c.I+1)),d,e,.l f.L,.l g.L,.l h.L,.l i.L,.l j.L,.l (k.L.set c.I.toNat (aE (k.L.getD c.I.toNat []) 11 [.s (bs #[])]))])) else none) else none) else (some (.again [a,b,.i (w64 (c.I+1)),d,e,.l f.L,.l g.L,.l h.L,.l i.L,.l j.L,.l k.L])))) else none) else none) else (some (.brk 0 [d,e,.l f.L,.l g.L,.l h.L,.l i.L,.l j.L,.l k.L])))
def mu.d2 (a b c d e f g h:C):R:=(some (.ret [b,.l f.L,.l g.L,.l h.L]))
def mu.d3 (a b c d e:C):R:=(call4 (dz [a,b,c,d]) fun f g h i=>(ah 0 (lim (apn 11 mu.d1) [e,.i (i.L.length:Int),.i 0,.b false,f,.l af,.l af,.l af,.l g.L,.l h.L,.l i.L]) (apn 8 mu.d2)))
def mu:List C→Option (List C):=fun xs=>aY (apn 5 mu.d3 xs)
def xN:FS:=⟨2,⟨[(0,z2),(1,(zl 9))],[]⟩,⟨[(0,z16)],[(3000,.arr 72 1),(3001,.arr 40 1),(3002,.arr 38 1)]⟩,[],mu⟩
theorem F4:aD Tryz.checked.prog T0 34 xN:=br aC (fn:=Tryz.f34) (c:=Tryz.f34.body.getD .skip) xN (.seq .leaf (.seq .leaf (.seq (.seq .leaf (.block ⟨[(4,(.pt 4 0)),(5,(.pt 5 0))],[(4,.var 27 [zo,(.ow 1380900),(.ow 1380901),(.ow 1380902)]),(5,.var 27 [zo,(.ow 39864),(.ow 39865),(.ow 39866)]),(1380900,.arr 72 1),(1380901,.arr 40 1),(1380902,.arr 38 1),(39864,.arr 72 1),(39865,.arr 40 1),(39866,.arr 38 1)]⟩ (.loop ⟨[(1,(zl 9)),(4,(.pt 4 0)),(5,(.pt 5 0)),(11,zi),(12,zi)],[(4,.var 27 [zo,(.ow 1380900),(.ow 1380901),(.ow 1380902)]),(5,.var 27 [zo,(.ow 39864),(.ow 39865),(.ow 39866)]),(1380900,.arr 72 1),(1380901,.arr 40 1),(1380902,.arr 38 1),(39864,.arr 72 1),(39865,.arr 40 1),(39866,.arr 38 1)]⟩ .leaf))) .leaf))) [(65,some 8,pJ),(66,some 22,fJ)] (.cons CH (.cons mA .nil)) (by kernel_rfl) (by kernel_rfl) (by kernel_rfl) (fun xs=>by kernel_rfl)
def ax.d1 (G0:List C→Option (List C)) (a b c d e:C):R:=(bif e.B then (some (.ret [.b true])) else (some (.again [a,b,c,.i (w64 (d.I+1))])))
def ax.d2 (G0:List C→Option (List C)) (a b c d:C):R:=(bif (decide (d.I<c.I)) then (bif (decide (0≤d.I)) then (bif (decide (d.I<(b.L.length:Int))) then (call3 (mU [((b.L.getD d.I.toNat []).getD 0 .nil)]) fun e f g=>(bf (bif g.B then (bif a.isP then (bif (e.S.toList==((a.P.getD 1 .nil).S).toList) then (bif a.isP then (bif (!((a.P.getD 0 .nil).I==1)) then (bif a.isP then (some (.nrm [a,b,c,d,.b (f.S.toList==((a.P.getD 2 .nil).S).toList)])) else none) else (some (.nrm [a,b,c,d,.b true]))) else none) else (some (.nrm [a,b,c,d,.b false]))) else none) else (some (.nrm [a,b,c,d,.b false]))) (apn 5 (ax.d1 G0)))) else none) else none) else (some (.brk 1 [])))
def ax.d3 (G0:List C→Option (List C)):R:=(some (.ret [.b false]))
def ax.d4 (G0:List C→Option (List C)) (a b c d:C):R:=(bif d.B then (ah 1 (lim (apn 4 (ax.d2 G0)) [a,b,.i (b.L.length:Int),.i 0]) (fun xs=>(ax.d3 G0))) else (bif (c.I==3) then (bif a.isP then (bif (decide (0<(((a.P.getD 3 .nil).L).length:Int))) then (ad (G0 [((((a.P.getD 3 .nil).L).getD 0 []).getD 0 .nil),b]) fun e=>(some (.ret [.b (!e.B)]))) else none) else none) else (bif (c.I==4) then (bif a.isP then (bif (decide (0<(((a.P.getD 3 .nil).L).length:Int))) then (ad (G0 [((((a.P.getD 3 .nil).L).getD 0 []).getD 0 .nil),b]) fun f=>(bif f.B then (bif a.isP then (bif (decide (1<(((a.P.getD 3 .nil).L).length:Int))) then (ad (G0 [((((a.P.getD 3 .nil).L).getD 1 []).getD 0 .nil),b]) fun g=>(some (.ret [.b g.B]))) else none) else none) else (some (.ret [.b false])))) else none) else none) else (bif (c.I==5) then (bif a.isP then (bif (decide (0<(((a.P.getD 3 .nil).L).length:Int))) then (ad (G0 [((((a.P.getD 3 .nil).L).getD 0 []).getD 0 .nil),b]) fun h=>(bif (!h.B) then (bif a.isP then (bif (decide (1<(((a.P.getD 3 .nil).L).length:Int))) then (ad (G0 [((((a.P.getD 3 .nil).L).getD 1 []).getD 0 .nil),b]) fun i=>(some (.ret [.b i.B]))) else none) else none) else (some (.ret [.b true])))) else none) else none) else (some (.ret [.b true]))))))
def ax.d5 (G0:List C→Option (List C)) (a b:C):R:=(bif a.isP then (bf (bif ((a.P.getD 0 .nil).I==1) then (some (.nrm [a,b,(a.P.getD 0 .nil),.b ((a.P.getD 0 .nil).I==1)])) else (some (.nrm [a,b,(a.P.getD 0 .nil),.b ((a.P.getD 0 .nil).I==2)]))) (apn 4 (ax.d4 G0))) else none)
def ax.step (G0:List C→Option (List C)):List C→Option (List C):=fun xs=>aY (apn 2 (ax.d5 G0) xs)
def cZ (G:List C→Option (List C)):FS:=⟨2,⟨[(0,(.d (.pt 139))),(1,(.d (.sl 9)))],[]⟩,⟨[(0,(.d .bool))],[]⟩,[],G⟩
theorem vC {G0:List C→Option (List C)} (h0:aD Tryz.checked.prog T0 100 (cZ G0)):aD Tryz.checked.prog T0 100 (cZ (ax.step G0)):=br aC (fn:=Tryz.f100) (c:=Tryz.f100.body.getD .skip) (cZ (ax.step G0)) (.seq .leaf (.seq (.seq .leaf (.skip (.seq (.join ⟨[(0,(.d (.pt 139))),(1,(.d (.sl 9))),(13,(.d (.int .i64))),(14,(.d .bool))],[]⟩ .leaf) (.cond (.seq (.seq .leaf (.block ⟨[],[]⟩ (.loop ⟨[(0,(.d (.pt 139))),(17,(.d (.sl 9))),(18,(.d (.int .i64))),(19,(.d (.int .i64)))],[]⟩ (.seq .leaf (.seq .leaf (.seq (.skip (.seq .leaf (.seq .leaf (.seq (.join ⟨[(0,(.d (.pt 139))),(17,(.d (.sl 9))),(18,(.d (.int .i64))),(19,(.d (.int .i64))),(52,(.d .bool))],[]⟩ .leaf) .leaf)))) .leaf)))))) .leaf) .leaf)))) .leaf)) [(80,some 25,o8),(100,some 63,(cZ G0)),(100,some 74,(cZ G0)),(100,some 83,(cZ G0)),(100,some 94,(cZ G0)),(100,some 103,(cZ G0))] (.cons xt (.cons h0 (.cons h0 (.cons h0 (.cons h0 (.cons h0 .nil)))))) (by kernel_rfl) (by kernel_rfl) (by kernel_rfl) (fun xs=>by kernel_rfl)
def ax.g:Nat→Nat→List C→Option (List C)
 |0,_=>fun _=>none
 |k+1,0=>ax.step (ax.g k 0)
 |_,_=>fun _=>none
theorem nE:∀k:Nat,aD Tryz.checked.prog T0 100 (cZ (ax.g k 0))
 |0=>kr (fn:=Tryz.f100) (c:=Tryz.f100.body.getD .skip) (2) (⟨[(0,(.d (.pt 139))),(1,(.d (.sl 9)))],[]⟩) (⟨[(0,(.d .bool))],[]⟩) [] (by kernel_rfl) (by kernel_rfl) (by kernel_rfl)
 |k+1=>vC (nE k)
def ax:List C→Option (List C):=ax.g iD 0
theorem vA:aD Tryz.checked.prog T0 100 (cZ ax):=nE iD
def lP.d1 (a b c d e f g:C):R:=(call2 (jK [a]) fun h i=>(bif (i.I==0) then (bif (decide (d.L.length≤4294967296)) then (bif (decide ((bs #[122,111,110,101,61]).size+c.S.size≤4294967296)) then (bif (decide (d.L.length+(rows [[.s ((bs #[122,111,110,101,61])++c.S)]]).length≤4294967296)) then (ad (ax [h,.l (d.L++(rows [[.s ((bs #[122,111,110,101,61])++c.S)]]))]) fun j=>(some (.ret [.b j.B]))) else none) else none) else none) else (some (.ret [.b false]))))
def lP:List C→Option (List C):=fun xs=>aY (apn 7 lP.d1 xs)
def qE:FS:=⟨2,⟨[(0,zt),(1,z7)],[]⟩,⟨[(0,zo)],[]⟩,[],lP⟩
theorem BF:aD Tryz.checked.prog T0 67 qE:=br aC (fn:=Tryz.f67) (c:=Tryz.f67.body.getD .skip) qE .leaf [(82,some 9,kJ),(100,some 24,(cZ ax))] (.cons qu (.cons vA .nil)) (by kernel_rfl) (by kernel_rfl) (by kernel_rfl) (fun xs=>by kernel_rfl)
def oL.d1 (a b c d e:C):R:=(ad (fw [a,b,c,d,e]) fun f=>(bif (decide (f.I≥0)) then (bif (decide (0≤f.I)) then (bif (decide (f.I<(b.L.length:Int))) then (some (.ret [((b.L.getD f.I.toNat []).getD 1 .nil)])) else none) else none) else (some (.ret [.s (bs #[])]))))
def oL:List C→Option (List C):=fun xs=>aY (apn 5 oL.d1 xs)
def r7:FS:=⟨2,⟨[(0,z2),(1,zt)],[]⟩,⟨[(0,zt)],[]⟩,[],oL⟩
theorem DJ:aD Tryz.checked.prog T0 68 r7:=br aC (fn:=Tryz.f68) (c:=Tryz.f68.body.getD .skip) r7 .leaf [(32,some 8,gQ)] (.cons kD .nil) (by kernel_rfl) (by kernel_rfl) (by kernel_rfl) (fun xs=>by kernel_rfl)
def bU.d1 (a b c d e f g h i j k l m n o p q r s t u v w x y z a0 a1 a2 a3 a4 a5 a6 a7 a8 a9 b0 b1 b2 b3 b4 b5 b6:C):R:=(bif (b6.S.toList==z.S.toList) then (some (.brk 1 [a,b,.i (w64 (c.I+1)),.i (w64 (d.I+a9.I)),.i (w64 (e.I+b0.I)),f,g,h,i,j,k,l,m,n,o,p,q,r,s,t,u,v,w,x,y,z,a0,a1,a2,a3,a4])) else (some (.brk 1 [a,b,c,d,e,f,g,h,i,j,k,l,m,n,o,p,q,r,s,t,u,v,w,x,y,z,a0,a1,a2,a3,a4])))
def bU.d2 (a b c d e f g h i j k l m n o p q r s t u v w x y z a0 a1 a2 a3 a4 a5 a6 a7 a8 a9 b0 b1 b2 b3 b4 b5 b6 b7:C):R:=(bf (bif (!a.B) then (bif (a7.S.toList==x.S.toList) then (some (.nrm [.b g.B,b,c,d,e,f,h,i,j,k,l,m,n,o,p,q,r,s,t,u,v,w,x,y,z,a0,a1,a2,a3,a4,a5,a6,a7,a8,a9,b0,b1,b2,b3,b4,b5,b6,b7])) else (some (.nrm [.b false,b,c,d,e,f,h,i,j,k,l,m,n,o,p,q,r,s,t,u,v,w,x,y,z,a0,a1,a2,a3,a4,a5,a6,a7,a8,a9,b0,b1,b2,b3,b4,b5,b6,b7]))) else (some (.nrm [.b true,b,c,d,e,f,h,i,j,k,l,m,n,o,p,q,r,s,t,u,v,w,x,y,z,a0,a1,a2,a3,a4,a5,a6,a7,a8,a9,b0,b1,b2,b3,b4,b5,b6,b7]))) (fun xs=>bU.d1 (xs.getD 0 .nil) (xs.getD 1 .nil) (xs.getD 2 .nil) (xs.getD 3 .nil) (xs.getD 4 .nil) (xs.getD 5 .nil) (xs.getD 6 .nil) (xs.getD 7 .nil) (xs.getD 8 .nil) (xs.getD 9 .nil) (xs.getD 10 .nil) (xs.getD 11 .nil) (xs.getD 12 .nil) (xs.getD 13 .nil) (xs.getD 14 .nil) (xs.getD 15 .nil) (xs.getD 16 .nil) (xs.getD 17 .nil) (xs.getD 18 .nil) (xs.getD 19 .nil) (xs.getD 20 .nil) (xs.getD 21 .nil) (xs.getD 22 .nil) (xs.getD 23 .nil) (xs.getD 24 .nil) (xs.getD 25 .nil) (xs.getD 26 .nil) (xs.getD 27 .nil) (xs.getD 28 .nil) (xs.getD 29 .nil) (xs.getD 30 .nil) (xs.getD 31 .nil) (xs.getD 32 .nil) (xs.getD 33 .nil) (xs.getD 34 .nil) (xs.getD 35 .nil) (xs.getD 36 .nil) (xs.getD 37 .nil) (xs.getD 38 .nil) (xs.getD 39 .nil) (xs.getD 40 .nil) (xs.getD 41 .nil) (xs.getD 42 .nil)))
def bU.d3 (a b c d e f g h i j k l m n o p q r s t u v w x y z a0 a1 a2 a3 a4:C):R:=(some (.again [a,b,c,d,e,f,g,h,.i (w64 (i.I+1)),j,k,l,m,n,o,p,q,r,s,t,u,v,w,x,y,z,a0,a1,a2,a3,a4]))
def bU.d4 (a b c d e f g h i j k l m n o p q r s t u v w x y z a0 a1 a2 a3 a4:C):R:=(bif (decide (i.I<h.I)) then (ah 1 (bif (decide (0≤i.I)) then (bif (decide (i.I<(g.L.length:Int))) then (bif (!((((g.L.getD i.I.toNat []).getD 0 .nil).S).toList==n.S.toList)) then (bif ((((g.L.getD i.I.toNat []).getD 11 .nil).S).toList==(bs #[]).toList) then (some (.brk 1 [a,b,c,d,e,f,g,h,i,j,k,l,m,n,o,p,q,r,s,t,u,v,w,x,y,z,a0,a1,a2,a3,a4])) else (ad (oL [j,k,l,m,((g.L.getD i.I.toNat []).getD 11 .nil)]) fun a5=>(bf (bif ((((g.L.getD i.I.toNat []).getD 1 .nil).S).toList==o.S.toList) then (bif (!f.B) then (bif ((((g.L.getD i.I.toNat []).getD 11 .nil).S).toList==z.S.toList) then (bif (!(decide ((w64 (v.I+((g.L.getD i.I.toNat []).getD 8 .nil).I))>0))) then (bif (a5.S.toList==a0.S.toList) then (bif (!(v.I==2)) then (some (.nrm [a,.b true,c,d,e,.b (((g.L.getD i.I.toNat []).getD 8 .nil).I==2),.b (a5.S.toList==a0.S.toList),g,h,i,j,k,l,m,n,o,p,q,r,s,t,u,v,w,x,y,z,a0,a1,a2,a3,a4,((g.L.getD i.I.toNat []).getD 0 .nil),((g.L.getD i.I.toNat []).getD 1 .nil),((g.L.getD i.I.toNat []).getD 2 .nil),((g.L.getD i.I.toNat []).getD 3 .nil),((g.L.getD i.I.toNat []).getD 4 .nil),((g.L.getD i.I.toNat []).getD 5 .nil),((g.L.getD i.I.toNat []).getD 6 .nil),((g.L.getD i.I.toNat []).getD 7 .nil),((g.L.getD i.I.toNat []).getD 8 .nil),((g.L.getD i.I.toNat []).getD 9 .nil),((g.L.getD i.I.toNat []).getD 10 .nil),((g.L.getD i.I.toNat []).getD 11 .nil)])) else (some (.nrm [a,.b true,c,d,e,.b true,.b (a5.S.toList==a0.S.toList),g,h,i,j,k,l,m,n,o,p,q,r,s,t,u,v,w,x,y,z,a0,a1,a2,a3,a4,((g.L.getD i.I.toNat []).getD 0 .nil),((g.L.getD i.I.toNat []).getD 1 .nil),((g.L.getD i.I.toNat []).getD 2 .nil),((g.L.getD i.I.toNat []).getD 3 .nil),((g.L.getD i.I.toNat []).getD 4 .nil),((g.L.getD i.I.toNat []).getD 5 .nil),((g.L.getD i.I.toNat []).getD 6 .nil),((g.L.getD i.I.toNat []).getD 7 .nil),((g.L.getD i.I.toNat []).getD 8 .nil),((g.L.getD i.I.toNat []).getD 9 .nil),((g.L.getD i.I.toNat []).getD 10 .nil),((g.L.getD i.I.toNat []).getD 11 .nil)]))) else (some (.nrm [a,.b true,c,d,e,.b false,.b (a5.S.toList==a0.S.toList),g,h,i,j,k,l,m,n,o,p,q,r,s,t,u,v,w,x,y,z,a0,a1,a2,a3,a4,((g.L.getD i.I.toNat []).getD 0 .nil),((g.L.getD i.I.toNat []).getD 1 .nil),((g.L.getD i.I.toNat []).getD 2 .nil),((g.L.getD i.I.toNat []).getD 3 .nil),((g.L.getD i.I.toNat []).getD 4 .nil),((g.L.getD i.I.toNat []).getD 5 .nil),((g.L.getD i.I.toNat []).getD 6 .nil),((g.L.getD i.I.toNat []).getD 7 .nil),((g.L.getD i.I.toNat []).getD 8 .nil),((g.L.getD i.I.toNat []).getD 9 .nil),((g.L.getD i.I.toNat []).getD 10 .nil),((g.L.getD i.I.toNat []).getD 11 .nil)]))) else (some (.nrm [a,.b true,c,d,e,.b true,.b (a5.S.toList==a0.S.toList),g,h,i,j,k,l,m,n,o,p,q,r,s,t,u,v,w,x,y,z,a0,a1,a2,a3,a4,((g.L.getD i.I.toNat []).getD 0 .nil),((g.L.getD i.I.toNat []).getD 1 .nil),((g.L.getD i.I.toNat []).getD 2 .nil),((g.L.getD i.I.toNat []).getD 3 .nil),((g.L.getD i.I.toNat []).getD 4 .nil),((g.L.getD i.I.toNat []).getD 5 .nil),((g.L.getD i.I.toNat []).getD 6 .nil),((g.L.getD i.I.toNat []).getD 7 .nil),((g.L.getD i.I.toNat []).getD 8 .nil),((g.L.getD i.I.toNat []).getD 9 .nil),((g.L.getD i.I.toNat []).getD 10 .nil),((g.L.getD i.I.toNat []).getD 11 .nil)]))) else (bif (a5.S.toList==a0.S.toList) then (bif (!(v.I==2)) then (some (.nrm [a,.b true,c,d,e,.b (((g.L.getD i.I.toNat []).getD 8 .nil).I==2),.b (a5.S.toList==a0.S.toList),g,h,i,j,k,l,m,n,o,p,q,r,s,t,u,v,w,x,y,z,a0,a1,a2,a3,a4,((g.L.getD i.I.toNat []).getD 0 .nil),((g.L.getD i.I.toNat []).getD 1 .nil),((g.L.getD i.I.toNat []).getD 2 .nil),((g.L.getD i.I.toNat []).getD 3 .nil),((g.L.getD i.I.toNat []).getD 4 .nil),((g.L.getD i.I.toNat []).getD 5 .nil),((g.L.getD i.I.toNat []).getD 6 .nil),((g.L.getD i.I.toNat []).getD 7 .nil),((g.L.getD i.I.toNat []).getD 8 .nil),((g.L.getD i.I.toNat []).getD 9 .nil),((g.L.getD i.I.toNat []).getD 10 .nil),((g.L.getD i.I.toNat []).getD 11 .nil)])) else (some (.nrm [a,.b true,c,d,e,.b true,.b (a5.S.toList==a0.S.toList),g,h,i,j,k,l,m,n,o,p,q,r,s,t,u,v,w,x,y,z,a0,a1,a2,a3,a4,((g.L.getD i.I.toNat []).getD 0 .nil),((g.L.getD i.I.toNat []).getD 1 .nil),((g.L.getD i.I.toNat []).getD 2 .nil),((g.L.getD i.I.toNat []).getD 3 .nil),((g.L.getD i.I.toNat []).getD 4 .nil),((g.L.getD i.I.toNat []).getD 5 .nil),((g.L.getD i.I.toNat []).getD 6 .nil),((g.L.getD i.I.toNat []).getD 7 .nil),((g.L.getD i.I.toNat []).getD 8 .nil),((g.L.getD i.I.toNat []).getD 9 .nil),((g.L.getD i.I.toNat []).getD 10 .nil),((g.L.getD i.I.toNat []).getD 11 .nil)]))) else (some (.nrm [a,.b true,c,d,e,.b false,.b (a5.S.toList==a0.S.toList),g,h,i,j,k,l,m,n,o,p,q,r,s,t,u,v,w,x,y,z,a0,a1,a2,a3,a4,((g.L.getD i.I.toNat []).getD 0 .nil),((g.L.getD i.I.toNat []).getD 1 .nil),((g.L.getD i.I.toNat []).getD 2 .nil),((g.L.getD i.I.toNat []).getD 3 .nil),((g.L.getD i.I.toNat []).getD 4 .nil),((g.L.getD i.I.toNat []).getD 5 .nil),((g.L.getD i.I.toNat []).getD 6 .nil),((g.L.getD i.I.toNat []).getD 7 .nil),((g.L.getD i.I.toNat []).getD 8 .nil),((g.L.getD i.I.toNat []).getD 9 .nil),((g.L.getD i.I.toNat []).getD 10 .nil),((g.L.getD i.I.toNat []).getD 11 .nil)])))) else (some (.nrm [a,.b true,c,d,e,.b true,.b (a5.S.toList==a0.S.toList),g,h,i,j,k,l,m,n,o,p,q,r,s,t,u,v,w,x,y,z,a0,a1,a2,a3,a4,((g.L.getD i.I.toNat []).getD 0 .nil),((g.L.getD i.I.toNat []).getD 1 .nil),((g.L.getD i.I.toNat []).getD 2 .nil),((g.L.getD i.I.toNat []).getD 3 .nil),((g.L.getD i.I.toNat []).getD 4 .nil),((g.L.getD i.I.toNat []).getD 5 .nil),((g.L.getD i.I.toNat []).getD 6 .nil),((g.L.getD i.I.toNat []).getD 7 .nil),((g.L.getD i.I.toNat []).getD 8 .nil),((g.L.getD i.I.toNat []).getD 9 .nil),((g.L.getD i.I.toNat []).getD 10 .nil),((g.L.getD i.I.toNat []).getD 11 .nil)]))) else (some (.nrm [a,b,c,d,e,f,.b (a5.S.toList==a0.S.toList),g,h,i,j,k,l,m,n,o,p,q,r,s,t,u,v,w,x,y,z,a0,a1,a2,a3,a4,((g.L.getD i.I.toNat []).getD 0 .nil),((g.L.getD i.I.toNat []).getD 1 .nil),((g.L.getD i.I.toNat []).getD 2 .nil),((g.L.getD i.I.toNat []).getD 3 .nil),((g.L.getD i.I.toNat []).getD 4 .nil),((g.L.getD i.I.toNat []).getD 5 .nil),((g.L.getD i.I.toNat []).getD 6 .nil),((g.L.getD i.I.toNat []).getD 7 .nil),((g.L.getD i.I.toNat []).getD 8 .nil),((g.L.getD i.I.toNat []).getD 9 .nil),((g.L.getD i.I.toNat []).getD 10 .nil),((g.L.getD i.I.toNat []).getD 11 .nil)]))) (fun xs=>bU.d2 (xs.getD 0 .nil) (xs.getD 1 .nil) (xs.getD 2 .nil) (xs.getD 3 .nil) (xs.getD 4 .nil) (xs.getD 5 .nil) (xs.getD 6 .nil) (xs.getD 7 .nil) (xs.getD 8 .nil) (xs.getD 9 .nil) (xs.getD 10 .nil) (xs.getD 11 .nil) (xs.getD 12 .nil) (xs.getD 13 .nil) (xs.getD 14 .nil) (xs.getD 15 .nil) (xs.getD 16 .nil) (xs.getD 17 .nil) (xs.getD 18 .nil) (xs.getD 19 .nil) (xs.getD 20 .nil) (xs.getD 21 .nil) (xs.getD 22 .nil) (xs.getD 23 .nil) (xs.getD 24 .nil) (xs.getD 25 .nil) (xs.getD 26 .nil) (xs.getD 27 .nil) (xs.getD 28 .nil) (xs.getD 29 .nil) (xs.getD 30 .nil) (xs.getD 31 .nil) (xs.getD 32 .nil) (xs.getD 33 .nil) (xs.getD 34 .nil) (xs.getD 35 .nil) (xs.getD 36 .nil) (xs.getD 37 .nil) (xs.getD 38 .nil) (xs.getD 39 .nil) (xs.getD 40 .nil) (xs.getD 41 .nil) (xs.getD 42 .nil) (xs.getD 43 .nil))))) else (some (.brk 1 [a,b,c,d,e,f,g,h,i,j,k,l,m,n,o,p,q,r,s,t,u,v,w,x,y,z,a0,a1,a2,a3,a4]))) else none) else none) (apn 31 bU.d3)) else (some (.brk 0 [a,b,c,d,e,f,n,o,p,q,r,s,t,u,v,w,x,y,z,a0,a1,a2,a3,a4])))
def bU.d5 (a b c d e f g h i j k l m n o p q r s t u v:C):R:=(bif d.B then (some (.ret [.i 5])) else (bif (decide (a.I≥10)) then (some (.ret [.i 6])) else (bif (decide ((w64 (b.I+i.I))>t.I)) then (some (.ret [.i 7])) else (bif (decide ((w64 (c.I+j.I))>u.I)) then (some (.ret [.i 8])) else (some (.ret [.i 0]))))))
def bU.d6 (a b c d e f g h i j k l m n o p q r s t u v w x:C):R:=(bif f.B then (some (.ret [.i 4])) else (bf (bif (!(p.S.toList==(bs #[]).toList)) then (bif (!a.B) then (bif (p.S.toList==h.S.toList) then (some (.nrm [c,d,e,.b (!(!b.B)),g,h,i,j,k,l,m,n,o,p,q,r,s,t,u,v,w,x])) else (some (.nrm [c,d,e,.b true,g,h,i,j,k,l,m,n,o,p,q,r,s,t,u,v,w,x]))) else (some (.nrm [c,d,e,.b false,g,h,i,j,k,l,m,n,o,p,q,r,s,t,u,v,w,x]))) else (some (.nrm [c,d,e,.b false,g,h,i,j,k,l,m,n,o,p,q,r,s,t,u,v,w,x]))) (apn 22 bU.d5)))
def bU.d7 (a b c d e f g h i j k l m n o p q r s t u v:C):R:=(ad (lP [k,q,r,s,t,u,v]) fun w=>(bif (!w.B) then (some (.ret [.i 3])) else (ah 0 (lim (apn 31 bU.d4) [.b false,.b false,.i 0,.i 0,.i 0,.b false,d,.i (d.L.length:Int),.i 0,a,b,c,d,e,f,g,h,i,j,k,l,m,n,o,p,q,r,s,t,u,v]) (apn 24 bU.d6))))
def bU.d8 (a b c d e f g h i j k l m n o p q r s t u v:C):R:=(bf (bif (!(o.S.toList==(bs #[]).toList)) then (bif (!(o.S.toList==q.S.toList)) then (some (.ret [.i 2])) else (some (.nrm [a,b,c,d,e,f,g,h,i,j,k,l,m,n,o,p,q,r,s,t,u,v]))) else (some (.nrm [a,b,c,d,e,f,g,h,i,j,k,l,m,n,o,p,q,r,s,t,u,v]))) (apn 22 bU.d7))
def bU.d9 (a b c d e f g h i j k l m n o p q r s t u v w:C):R:=(bf (bif w.B then (bif v.B then (some (.ret [.i 1])) else (some (.nrm [a,b,c,d,e,f,g,h,i,j,k,l,m,n,o,p,q,r,s,t,u,v]))) else (some (.nrm [a,b,c,d,e,f,g,h,i,j,k,l,m,n,o,p,q,r,s,t,u,v]))) (apn 22 bU.d8))
def bU:List C→Option (List C):=fun xs=>aY (apn 23 bU.d9 xs)
def sg:FS:=⟨4,⟨[(0,z2),(1,z5),(2,z7),(3,zo)],[]⟩,⟨[(0,zi)],[]⟩,[],bU⟩
theorem CU:aD Tryz.checked.prog T0 35 sg:=br aC (fn:=Tryz.f35) (c:=Tryz.f35.body.getD .skip) sg (.seq .leaf (.seq (.join ⟨[(4,(.pt 4 0)),(5,(.pt 5 0)),(6,(.pt 6 0))],[(4,z0),(5,z1),(6,z4)]⟩ .leaf) (.seq (.join ⟨[(4,(.pt 4 0)),(5,(.pt 5 0)),(6,(.pt 6 0))],[(4,z0),(5,z1),(6,z4)]⟩ .leaf) (.seq .leaf (.seq .leaf (.seq .leaf (.seq .leaf (.seq (.seq .leaf (.block ⟨[(5,(.pt 5 0)),(6,(.pt 6 0)),(9,zo),(10,zo),(11,zi),(12,zi),(13,zi),(14,zo)],[(5,z1),(6,z4)]⟩ (.loop ⟨[(4,(.pt 4 0)),(5,(.pt 5 0)),(6,(.pt 6 0)),(9,zo),(10,zo),(11,zi),(12,zi),(13,zi),(14,zo),(39,(zl 38)),(40,zi),(41,zi)],[(4,z0),(5,z1),(6,z4)]⟩ (.seq .leaf (.seq .leaf (.seq (.block ⟨[(4,(.pt 4 0)),(5,(.pt 5 0)),(6,(.pt 6 0)),(9,zo),(10,zo),(11,zi),(12,zi),(13,zi),(14,zo),(39,(zl 38)),(40,zi),(41,zi)],[(4,z0),(5,z1),(6,z4)]⟩ (.seq .leaf (.seq .leaf (.seq .leaf (.seq (.join ⟨[(4,(.pt 4 0)),(5,(.pt 5 0)),(6,(.pt 6 0)),(9,zo),(10,zo),(11,zi),(12,zi),(13,zi),(14,zo),(16,(.pt 16 0)),(17,zo),(39,(zl 38)),(40,zi),(41,zi)],[(4,z0),(5,z1),(6,z4),(16,z1)]⟩ .leaf) (.seq (.join ⟨[(4,(.pt 4 0)),(5,(.pt 5 0)),(6,(.pt 6 0)),(9,zo),(10,zo),(11,zi),(12,zi),(13,zi),(14,zo),(16,(.pt 16 0)),(39,(zl 38)),(40,zi),(41,zi)],[(4,z0),(5,z1),(6,z4),(16,z1)]⟩ .leaf) .leaf)))))) .leaf)))))) (.seq (.skip (.seq .leaf (.cond .leaf (.seq (.join ⟨[(5,(.pt 5 0)),(6,(.pt 6 0)),(11,zi),(12,zi),(13,zi),(125,zo)],[(5,z1),(6,z4)]⟩ .leaf) .leaf)))) .leaf))))))))) [(67,some 36,qE),(68,some 58,r7)] (.cons BF (.cons DJ .nil)) (by kernel_rfl) (by kernel_rfl) (by kernel_rfl) (fun xs=>by kernel_rfl)
def eE.d1 (a b c d e f g h i j k l m n o p:C):R:=(bif (decide (e.I<d.I)) then (bif (decide (0≤e.I)) then (bif (decide (e.I<(c.L.length:Int))) then (ad (iB [f,g,h,i,((c.L.getD e.I.toNat []).getD 0 .nil)]) fun q=>(bif (decide (0≤q.I)) then (bif (decide (q.I<(i.L.length:Int))) then (bif (!((((i.L.getD q.I.toNat []).getD 11 .nil).S).toList==k.S.toList)) then (some (.ret [.b false,.b false,.l af,.l af,.l af])) else (some (.again [a,b,c,d,.i (w64 (e.I+1)),f,g,h,i,j,k,l,m,.l n.L,.l o.L,.l p.L]))) else none) else none)) else none) else none) else (some (.brk 0 [a,b,f,g,h,i,j,k,l,m,.l n.L,.l o.L,.l p.L])))
def eE.d2 (a b c d e f g h i j k l m:C):R:=(call4 (mu [c,d,e,f,i]) fun n o p q=>(bif (decide (0≤a.I)) then (bif (decide (a.I<(q.L.length:Int))) then (bif (decide (0≤b.I)) then (bif (decide (b.I<(o.L.length:Int))) then (ad (bU [n,.l o.L,.l p.L,.l q.L,((q.L.getD a.I.toNat []).getD 0 .nil),((q.L.getD a.I.toNat []).getD 1 .nil),((q.L.getD a.I.toNat []).getD 2 .nil),((q.L.getD a.I.toNat []).getD 3 .nil),((q.L.getD a.I.toNat []).getD 4 .nil),((q.L.getD a.I.toNat []).getD 5 .nil),((q.L.getD a.I.toNat []).getD 6 .nil),((q.L.getD a.I.toNat []).getD 7 .nil),((q.L.getD a.I.toNat []).getD 8 .nil),((q.L.getD a.I.toNat []).getD 9 .nil),((q.L.getD a.I.toNat []).getD 10 .nil),((q.L.getD a.I.toNat []).getD 11 .nil),((o.L.getD b.I.toNat []).getD 0 .nil),((o.L.getD b.I.toNat []).getD 1 .nil),((o.L.getD b.I.toNat []).getD 2 .nil),((o.L.getD b.I.toNat []).getD 3 .nil),((o.L.getD b.I.toNat []).getD 4 .nil),((o.L.getD b.I.toNat []).getD 5 .nil),.b true]) fun r=>(bif (r.I !=0) then (some (.ret [.b false,.b false,.l af,.l af,.l af])) else (bif (decide (0≤a.I)) then (bif (decide (a.I<(q.L.length:Int))) then (some (.ret [n,.b true,.l o.L,.l p.L,.l (q.L.set a.I.toNat (aE (q.L.getD a.I.toNat []) 11 [h]))])) else none) else none))) else none) else none) else none) else none))
def eE.d3 (a b c d e f g:C):R:=(ad (iB [a,b,c,d,e]) fun h=>(ad (fw [a,b,c,d,f]) fun i=>(bif (!(decide (h.I<0))) then (bif (!(decide (i.I<0))) then (ad (ar [a,b,c,d]) fun j=>(bif (!(!j.B)) then (bif (decide (0≤h.I)) then (bif (decide (h.I<(d.L.length:Int))) then (bif (!(!((((d.L.getD h.I.toNat []).getD 11 .nil).S).toList==(bs #[]).toList))) then (ad (bw [a,b,c,d,g]) fun k=>(bif (!k.B) then (some (.ret [.b false,.b false,.l af,.l af,.l af])) else (ah 0 (lim (apn 16 eE.d1) [h,i,g,.i (g.L.length:Int),.i 0,a,b,c,d,e,f,g,.b false,.l af,.l af,.l af]) (apn 13 eE.d2)))) else (some (.ret [.b false,.b false,.l af,.l af,.l af]))) else none) else none) else (some (.ret [.b false,.b false,.l af,.l af,.l af])))) else (some (.ret [.b false,.b false,.l af,.l af,.l af]))) else (some (.ret [.b false,.b false,.l af,.l af,.l af])))))
def eE:List C→Option (List C):=fun xs=>aY (apn 7 eE.d3 xs)
def oo:FS:=⟨2,⟨[(0,z2),(1,(.ag [zt,zt,(zl 9)]))],[]⟩,⟨[(0,(.tu [z16,zo]))],[(3000,.arr 72 1),(3001,.arr 40 1),(3002,.arr 38 1)]⟩,[],eE⟩
theorem AL:aD Tryz.checked.prog T0 6 oo:=br aC (fn:=Tryz.f6) (c:=Tryz.f6.body.getD .skip) oo (.seq .leaf (.seq .leaf (.seq .leaf (.seq (.seq .leaf (.block ⟨[(2,(.pt 2 0)),(3,(.pt 3 0)),(4,(.pt 4 0)),(6,zi),(7,zi)],[(2,z0),(3,.var 30 [zt,zt,(zl 9)]),(4,.var 27 [zo,(.ow 1287300),(.ow 1287301),(.ow 1287302)]),(1287300,.arr 72 1),(1287301,.arr 40 1),(1287302,.arr 38 1)]⟩ (.loop ⟨[(2,(.pt 2 0)),(3,(.pt 3 0)),(4,(.pt 4 0)),(6,zi),(7,zi),(48,(zl 9)),(49,zi),(50,zi)],[(2,z0),(3,.var 30 [zt,zt,(zl 9)]),(4,.var 27 [zo,(.ow 1287300),(.ow 1287301),(.ow 1287302)]),(1287300,.arr 72 1),(1287301,.arr 40 1),(1287302,.arr 38 1)]⟩ .leaf))) .leaf)))) [(10,some 27,iV),(31,some 14,ju),(31,some 58,ju),(32,some 18,gQ),(33,some 43,qe),(34,some 70,xN),(35,some 82,sg)] (.cons px (.cons oM (.cons oM (.cons kD (.cons B7 (.cons F4 (.cons CU .nil))))))) (by kernel_rfl) (by kernel_rfl) (by kernel_rfl) (fun xs=>by kernel_rfl)
end
end Go.Ev
namespace Go.Ev
open Go.Proofs
noncomputable section
def eI.d1 (a b c d e f g h i j k l m n:C):R:=(bif (decide (c.I<(j.L.length:Int))) then (bif (decide (0≤c.I)) then (bif (decide (c.I<(j.L.length:Int))) then (ad (cY [d,e,f,g,((j.L.getD c.I.toNat []).getD 0 .nil)]) fun o=>(bif (decide (0≤o.I)) then (bif (decide (o.I<(g.L.length:Int))) then (bif (!((((g.L.getD o.I.toNat []).getD 11 .nil).S).toList==i.S.toList)) then (some (.ret [.b false,.b false,.l af,.l af,.l af])) else (some (.again [a,b,.i (w64 (c.I+1)),d,e,f,g,h,i,j,k,.l l.L,.l m.L,.l n.L]))) else none) else none)) else none) else none) else (some (.brk 0 [a,b,d,e,f,g,h,i,j,k,.l l.L,.l m.L,.l n.L])))
def eI.d2 (a b c d e f g h i j k l m:C):R:=(call4 (cE [c,d,e,f,i]) fun n o p q=>(bif (decide (0≤a.I)) then (bif (decide (a.I<(f.L.length:Int))) then (bif (decide (0≤b.I)) then (bif (decide (b.I<(d.L.length:Int))) then (ad (cC [n,.l o.L,.l p.L,.l q.L,((f.L.getD a.I.toNat []).getD 0 .nil),((f.L.getD a.I.toNat []).getD 1 .nil),((f.L.getD a.I.toNat []).getD 2 .nil),((f.L.getD a.I.toNat []).getD 3 .nil),((f.L.getD a.I.toNat []).getD 4 .nil),((f.L.getD a.I.toNat []).getD 5 .nil),((f.L.getD a.I.toNat []).getD 6 .nil),((f.L.getD a.I.toNat []).getD 7 .nil),((f.L.getD a.I.toNat []).getD 8 .nil),((f.L.getD a.I.toNat []).getD 9 .nil),((f.L.getD a.I.toNat []).getD 10 .nil),((f.L.getD a.I.toNat []).getD 11 .nil),((d.L.getD b.I.toNat []).getD 0 .nil),((d.L.getD b.I.toNat []).getD 1 .nil),((d.L.getD b.I.toNat []).getD 2 .nil),((d.L.getD b.I.toNat []).getD 3 .nil),((d.L.getD b.I.toNat []).getD 4 .nil),((d.L.getD b.I.toNat []).getD 5 .nil),.b false]) fun r=>(bif (r.I !=0) then (some (.ret [.b false,.b false,.l af,.l af,.l af])) else (bif (decide (0≤a.I)) then (bif (decide (a.I<(q.L.length:Int))) then (some (.ret [n,.b true,.l o.L,.l p.L,.l (q.L.set a.I.toNat (aE (q.L.getD a.I.toNat []) 11 [h]))])) else none) else none))) else none) else none) else none) else none))
def eI.d3 (a b c d e f g:C):R:=(ad (cY [a,b,c,d,e]) fun h=>(ad (cQ [a,b,c,d,f]) fun i=>(ad (ay [a,b,c,d]) fun j=>(bif (!(!j.B)) then (bif (!(decide (h.I<0))) then (bif (!(decide (i.I<0))) then (bif (decide (0≤h.I)) then (bif (decide (h.I<(d.L.length:Int))) then (bif (!(!((((d.L.getD h.I.toNat []).getD 11 .nil).S).toList==(bs #[]).toList))) then (ad (aR [a,b,c,d,g]) fun k=>(bif (!k.B) then (some (.ret [.b false,.b false,.l af,.l af,.l af])) else (ah 0 (lim (apn 14 eI.d1) [h,i,.i 0,a,b,c,d,e,f,g,.b false,.l af,.l af,.l af]) (apn 13 eI.d2)))) else (some (.ret [.b false,.b false,.l af,.l af,.l af]))) else none) else none) else (some (.ret [.b false,.b false,.l af,.l af,.l af]))) else (some (.ret [.b false,.b false,.l af,.l af,.l af]))) else (some (.ret [.b false,.b false,.l af,.l af,.l af]))))))
def eI:List C→Option (List C):=fun xs=>aY (apn 7 eI.d3 xs)
def n9:FS:=⟨2,⟨[(0,z2),(1,(.ag [zt,zt,(zl 9)]))],[]⟩,⟨[(0,(.tu [z16,zo]))],[(3000,.arr 72 1),(3001,.arr 40 1),(3002,.arr 38 1)]⟩,[],eI⟩
theorem Ay:aD Tryz.checked.prog T0 7 n9:=br aC (fn:=Tryz.f7) (c:=Tryz.f7.body.getD .skip) n9 (.seq .leaf (.seq .leaf (.seq .leaf (.seq .leaf (.seq (.seq .leaf (.block ⟨[(2,(.pt 2 0)),(3,(.pt 3 0)),(4,(.pt 4 0)),(6,zi),(7,zi)],[(2,z0),(3,.var 30 [zt,zt,(zl 9)]),(4,.var 27 [zo,(.ow 1413100),(.ow 1413101),(.ow 1413102)]),(1413100,.arr 72 1),(1413101,.arr 40 1),(1413102,.arr 38 1)]⟩ (.loop ⟨[(2,(.pt 2 0)),(3,(.pt 3 0)),(4,(.pt 4 0)),(6,zi),(7,zi),(8,zi)],[(2,z0),(3,.var 30 [zt,zt,(zl 9)]),(4,.var 27 [zo,(.ow 1413100),(.ow 1413101),(.ow 1413102)]),(1413100,.arr 72 1),(1413101,.arr 40 1),(1413102,.arr 38 1)]⟩ .leaf))) .leaf))))) [(36,some 13,eh),(36,some 61,eh),(37,some 17,fh),(38,some 19,eW),(39,some 42,lA),(40,some 72,gv),(41,some 84,jm)] (.cons eT (.cons eT (.cons gH (.cons gO (.cons sI (.cons jL (.cons mD .nil))))))) (by kernel_rfl) (by kernel_rfl) (by kernel_rfl) (fun xs=>by kernel_rfl)
def eF.d1 (a b c:C):R:=(bif (decide (c.I<(a.L.length:Int))) then (bif (decide (0≤c.I)) then (bif (decide (c.I<(a.L.length:Int))) then (bif (decide (0≤c.I)) then (bif (decide (c.I<(b.L.length:Int))) then (bif (!((((a.L.getD c.I.toNat []).getD 0 .nil).S).toList==(((b.L.getD c.I.toNat []).getD 0 .nil).S).toList)) then (some (.ret [.b false])) else (some (.again [a,b,.i (w64 (c.I+1))]))) else none) else none) else none) else none) else (some (.brk 0 [])))
def eF.d2:R:=(some (.ret [.b true]))
def eF.d3 (a b:C):R:=(bif ((a.L.length:Int) !=(b.L.length:Int)) then (some (.ret [.b false])) else (ah 0 (lim (apn 3 eF.d1) [a,b,.i 0]) (fun xs=>eF.d2)))
def eF:List C→Option (List C):=fun xs=>aY (apn 2 eF.d3 xs)
def o0:FS:=⟨2,⟨[(0,(zl 9)),(1,(zl 9))],[]⟩,⟨[(0,zo)],[]⟩,[],eF⟩
theorem zT:aD Tryz.checked.prog T0 14 o0:=br aC (fn:=Tryz.f14) (c:=Tryz.f14.body.getD .skip) o0 (.seq .leaf (.seq .leaf (.seq (.seq .leaf (.block ⟨[],[]⟩ (.loop ⟨[(0,(zl 9)),(1,(zl 9)),(5,zi)],[]⟩ .leaf))) .leaf))) [] .nil (by kernel_rfl) (by kernel_rfl) (by kernel_rfl) (fun xs=>by kernel_rfl)
def ka.d1 (a b c d e f g h i j k l:C):R:=(bif (a.S.toList==g.S.toList) then (bif (b.S.toList==h.S.toList) then (bif (d.I==j.I) then (bif (e.I==k.I) then (bif (f.B==l.B) then (ad (eF [c,i]) fun m=>(some (.ret [.b m.B]))) else (some (.ret [.b false]))) else (some (.ret [.b false]))) else (some (.ret [.b false]))) else (some (.ret [.b false]))) else (some (.ret [.b false])))
def ka:List C→Option (List C):=fun xs=>aY (apn 12 ka.d1 xs)
def oG:FS:=⟨2,⟨[(0,z7),(1,z7)],[]⟩,⟨[(0,zo)],[]⟩,[],ka⟩
theorem Az:aD Tryz.checked.prog T0 42 oG:=br aC (fn:=Tryz.f42) (c:=Tryz.f42.body.getD .skip) oG .leaf [(14,some 43,o0)] (.cons zT .nil) (by kernel_rfl) (by kernel_rfl) (by kernel_rfl) (fun xs=>by kernel_rfl)
def fv.d1 (a b c d e f g h i j k l m n o p q r s t u v w x y:C):R:=(bif (decide (a.I<(i.L.length:Int))) then (bif (decide (0≤a.I)) then (bif (decide (a.I<(i.L.length:Int))) then (bif (decide (0≤a.I)) then (bif (decide (a.I<(u.L.length:Int))) then (bif (!(((((i.L.getD a.I.toNat []).getD 0 .nil).S).toList==(((u.L.getD a.I.toNat []).getD 0 .nil).S).toList)&&((((i.L.getD a.I.toNat []).getD 1 .nil).I==((u.L.getD a.I.toNat []).getD 1 .nil).I)&&true))) then (some (.ret [.b false])) else (some (.again [.i (w64 (a.I+1)),b,c,d,e,f,g,h,i,j,k,l,m,n,o,p,q,r,s,t,u,v,w,x,y]))) else none) else none) else none) else none) else (some (.brk 0 [])))
def fv.d2:R:=(some (.ret [.b true]))
def fv.d3 (a b c d e f g h i j k l m n o p q r s t u v w x:C):R:=(bif (!(!(a.S.toList==m.S.toList))) then (bif (!(!(b.S.toList==n.S.toList))) then (bif (!(c.I !=o.I)) then (bif (!(d.I !=p.I)) then (bif (!(e.I !=q.I)) then (bif (!(f.I !=r.I)) then (bif (!(!(g.S.toList==s.S.toList))) then (bif (!(i.I !=u.I)) then (bif (!(!(j.S.toList==v.S.toList))) then (bif (!(!(k.S.toList==w.S.toList))) then (bif (!(!(l.S.toList==x.S.toList))) then (bif ((h.L.length:Int) !=(t.L.length:Int)) then (some (.ret [.b false])) else (ah 0 (lim (apn 25 fv.d1) [.i 0,a,b,c,d,e,f,g,h,i,j,k,l,m,n,o,p,q,r,s,t,u,v,w,x]) (fun xs=>fv.d2))) else (some (.ret [.b false]))) else (some (.ret [.b false]))) else (some (.ret [.b false]))) else (some (.ret [.b false]))) else (some (.ret [.b false]))) else (some (.ret [.b false]))) else (some (.ret [.b false]))) else (some (.ret [.b false]))) else (some (.ret [.b false]))) else (some (.ret [.b false]))) else (some (.ret [.b false])))
def fv:List C→Option (List C):=fun xs=>aY (apn 24 fv.d3 xs)
def qG:FS:=⟨2,⟨[(0,z5),(1,z5)],[]⟩,⟨[(0,zo)],[]⟩,[],fv⟩
theorem BQ:aD Tryz.checked.prog T0 43 qG:=br aC (fn:=Tryz.f43) (c:=Tryz.f43.body.getD .skip) qG (.seq .leaf (.seq .leaf (.seq (.seq .leaf (.block ⟨[],[]⟩ (.loop ⟨[(2,(.pt 2 0)),(3,(.pt 3 0)),(5,zi)],[(2,z1),(3,z1)]⟩ .leaf))) .leaf))) [] .nil (by kernel_rfl) (by kernel_rfl) (by kernel_rfl) (fun xs=>by kernel_rfl)
def bL.d1 (a b c d e f g h i:C):R:=(bif (decide (a.I<(c.L.length:Int))) then (bif (decide (0≤a.I)) then (bif (decide (a.I<(c.L.length:Int))) then (bif (decide (0≤a.I)) then (bif (decide (a.I<(g.L.length:Int))) then (ad (ka [((c.L.getD a.I.toNat []).getD 0 .nil),((c.L.getD a.I.toNat []).getD 1 .nil),((c.L.getD a.I.toNat []).getD 2 .nil),((c.L.getD a.I.toNat []).getD 3 .nil),((c.L.getD a.I.toNat []).getD 4 .nil),((c.L.getD a.I.toNat []).getD 5 .nil),((g.L.getD a.I.toNat []).getD 0 .nil),((g.L.getD a.I.toNat []).getD 1 .nil),((g.L.getD a.I.toNat []).getD 2 .nil),((g.L.getD a.I.toNat []).getD 3 .nil),((g.L.getD a.I.toNat []).getD 4 .nil),((g.L.getD a.I.toNat []).getD 5 .nil)]) fun j=>(bif (!j.B) then (some (.ret [.b false])) else (some (.again [.i (w64 (a.I+1)),b,c,d,e,f,g,h,i])))) else none) else none) else none) else none) else (some (.brk 0 [b,c,d,e,f,g,h,i])))
def bL.d2 (a b c d e f g h i:C):R:=(bif (decide (a.I<(d.L.length:Int))) then (bif (decide (0≤a.I)) then (bif (decide (a.I<(d.L.length:Int))) then (bif (decide (0≤a.I)) then (bif (decide (a.I<(h.L.length:Int))) then (bif (!(((((d.L.getD a.I.toNat []).getD 0 .nil).S).toList==(((h.L.getD a.I.toNat []).getD 0 .nil).S).toList)&&((((d.L.getD a.I.toNat []).getD 1 .nil).I==((h.L.getD a.I.toNat []).getD 1 .nil).I)&&true))) then (some (.ret [.b false])) else (some (.again [.i (w64 (a.I+1)),b,c,d,e,f,g,h,i]))) else none) else none) else none) else none) else (some (.brk 2 [b,c,d,e,f,g,h,i])))
def bL.d3 (a b c d e f g h i:C):R:=(bif (decide (a.I<(e.L.length:Int))) then (bif (decide (0≤a.I)) then (bif (decide (a.I<(e.L.length:Int))) then (bif (decide (0≤a.I)) then (bif (decide (a.I<(i.L.length:Int))) then (ad (fv [((e.L.getD a.I.toNat []).getD 0 .nil),((e.L.getD a.I.toNat []).getD 1 .nil),((e.L.getD a.I.toNat []).getD 2 .nil),((e.L.getD a.I.toNat []).getD 3 .nil),((e.L.getD a.I.toNat []).getD 4 .nil),((e.L.getD a.I.toNat []).getD 5 .nil),((e.L.getD a.I.toNat []).getD 6 .nil),((e.L.getD a.I.toNat []).getD 7 .nil),((e.L.getD a.I.toNat []).getD 8 .nil),((e.L.getD a.I.toNat []).getD 9 .nil),((e.L.getD a.I.toNat []).getD 10 .nil),((e.L.getD a.I.toNat []).getD 11 .nil),((i.L.getD a.I.toNat []).getD 0 .nil),((i.L.getD a.I.toNat []).getD 1 .nil),((i.L.getD a.I.toNat []).getD 2 .nil),((i.L.getD a.I.toNat []).getD 3 .nil),((i.L.getD a.I.toNat []).getD 4 .nil),((i.L.getD a.I.toNat []).getD 5 .nil),((i.L.getD a.I.toNat []).getD 6 .nil),((i.L.getD a.I.toNat []).getD 7 .nil),((i.L.getD a.I.toNat []).getD 8 .nil),((i.L.getD a.I.toNat []).getD 9 .nil),((i.L.getD a.I.toNat []).getD 10 .nil),((i.L.getD a.I.toNat []).getD 11 .nil)]) fun j=>(bif (!j.B) then (some (.ret [.b false])) else (some (.again [.i (w64 (a.I+1)),b,c,d,e,f,g,h,i])))) else none) else none) else none) else none) else (some (.brk 4 [])))
def bL.d4:R:=(some (.ret [.b true]))
def bL.d5 (a b c d e f g h:C):R:=(ah 4 (lim (apn 9 bL.d3) [.i 0,a,b,c,d,e,f,g,h]) (fun xs=>bL.d4))
def bL.d6 (a b c d e f g h:C):R:=(ah 2 (lim (apn 9 bL.d2) [.i 0,a,b,c,d,e,f,g,h]) (apn 8 bL.d5))
def bL.d7 (a b c d e f g h:C):R:=(bif (!(!(a.B==e.B))) then (bif (!((b.L.length:Int) !=(f.L.length:Int))) then (bif (!((c.L.length:Int) !=(g.L.length:Int))) then (bif ((d.L.length:Int) !=(h.L.length:Int)) then (some (.ret [.b false])) else (ah 0 (lim (apn 9 bL.d1) [.i 0,a,b,c,d,e,f,g,h]) (apn 8 bL.d6))) else (some (.ret [.b false]))) else (some (.ret [.b false]))) else (some (.ret [.b false])))
def bL:List C→Option (List C):=fun xs=>aY (apn 8 bL.d7 xs)
def oi:FS:=⟨2,⟨[(0,z2),(1,z2)],[]⟩,⟨[(0,zo)],[]⟩,[],bL⟩
theorem Ar:aD Tryz.checked.prog T0 8 oi:=br aC (fn:=Tryz.f8) (c:=Tryz.f8.body.getD .skip) oi (.seq .leaf (.seq .leaf (.seq (.seq .leaf (.block ⟨[(2,(.pt 2 0)),(3,(.pt 3 0))],[(2,z0),(3,z0)]⟩ (.loop ⟨[(2,(.pt 2 0)),(3,(.pt 3 0)),(5,zi)],[(2,z0),(3,z0)]⟩ .leaf))) (.seq (.seq .leaf (.block ⟨[(2,(.pt 2 0)),(3,(.pt 3 0))],[(2,z0),(3,z0)]⟩ (.loop ⟨[(2,(.pt 2 0)),(3,(.pt 3 0)),(6,zi)],[(2,z0),(3,z0)]⟩ .leaf))) (.seq (.seq .leaf (.block ⟨[],[]⟩ (.loop ⟨[(2,(.pt 2 0)),(3,(.pt 3 0)),(7,zi)],[(2,z0),(3,z0)]⟩ .leaf))) .leaf))))) [(42,some 57,oG),(43,some 94,qG)] (.cons Az (.cons BQ .nil)) (by kernel_rfl) (by kernel_rfl) (by kernel_rfl) (fun xs=>by kernel_rfl)
def gZ.d1 (a b c:C):R:=(bif (decide (c.I<(a.L.length:Int))) then (bif (decide (0≤c.I)) then (bif (decide (c.I<(a.L.length:Int))) then (bif ((((a.L.getD c.I.toNat []).getD 0 .nil).S).toList==b.S.toList) then (some (.ret [.b true])) else (some (.again [a,b,.i (w64 (c.I+1))]))) else none) else none) else (some (.brk 0 [])))
def gZ.d2:R:=(some (.ret [.b false]))
def gZ.d3 (a b:C):R:=(ah 0 (lim (apn 3 gZ.d1) [a,b,.i 0]) (fun xs=>gZ.d2))
def gZ:List C→Option (List C):=fun xs=>aY (apn 2 gZ.d3 xs)
def q9:FS:=⟨2,⟨[(0,(zl 9)),(1,zt)],[]⟩,⟨[(0,zo)],[]⟩,[],gZ⟩
theorem yT:aD Tryz.checked.prog T0 9 q9:=br aC (fn:=Tryz.f9) (c:=Tryz.f9.body.getD .skip) q9 (.seq .leaf (.seq (.seq .leaf (.block ⟨[],[]⟩ (.loop ⟨[(0,(zl 9)),(1,zt),(5,zi)],[]⟩ .leaf))) .leaf)) [] .nil (by kernel_rfl) (by kernel_rfl) (by kernel_rfl) (fun xs=>by kernel_rfl)
def aH.d1 (a b c d e f g h i j k l m n o p:C):R:=(bif e.B then (some (.again [a,b,.i (w64 (c.I+1)),.i (w64 (d.I+1)),f,g,h,i,j,k,l,m,.l n.L,.l o.L,.l p.L])) else (some (.again [a,b,c,.i (w64 (d.I+1)),f,g,h,i,j,k,l,m,.l n.L,.l o.L,.l p.L])))
def aH.d2 (a b c d e f g h i j k l m n o p:C):R:=(bf (bif e.B then (bif (decide (0≤d.I)) then (bif (decide (d.I<(i.L.length:Int))) then (bif (!((((i.L.getD d.I.toNat []).getD 11 .nil).S).toList==(bs #[]).toList)) then (bif (decide (0≤d.I)) then (bif (decide (d.I<(i.L.length:Int))) then (ad (gZ [l,((i.L.getD d.I.toNat []).getD 0 .nil)]) fun q=>(some (.nrm [a,b,c,d,.b q.B,f,g,h,i,j,k,l,m,.l n.L,.l o.L,.l p.L]))) else none) else none) else (some (.nrm [a,b,c,d,.b true,f,g,h,i,j,k,l,m,.l n.L,.l o.L,.l p.L]))) else none) else none) else (some (.nrm [a,b,c,d,.b false,f,g,h,i,j,k,l,m,.l n.L,.l o.L,.l p.L]))) (apn 16 aH.d1))
def aH.d3 (a b c d e f g h i j k l m n o:C):R:=(bif (decide (d.I<(h.L.length:Int))) then (bif (decide (0≤d.I)) then (bif (decide (d.I<(h.L.length:Int))) then (bif (decide (0≤a.I)) then (bif (decide (a.I<(g.L.length:Int))) then (bf (bif (!b.B) then (bif ((((h.L.getD d.I.toNat []).getD 1 .nil).S).toList==(((g.L.getD a.I.toNat []).getD 0 .nil).S).toList) then (bif (decide (0≤d.I)) then (bif (decide (d.I<(h.L.length:Int))) then (ad (gZ [k,((h.L.getD d.I.toNat []).getD 0 .nil)]) fun p=>(some (.nrm [a,.b p.B,c,d,.b ((((h.L.getD d.I.toNat []).getD 1 .nil).S).toList==(((g.L.getD a.I.toNat []).getD 0 .nil).S).toList),e,f,g,h,i,j,k,l,.l m.L,.l n.L,.l o.L]))) else none) else none) else (some (.nrm [a,.b false,c,d,.b ((((h.L.getD d.I.toNat []).getD 1 .nil).S).toList==(((g.L.getD a.I.toNat []).getD 0 .nil).S).toList),e,f,g,h,i,j,k,l,.l m.L,.l n.L,.l o.L]))) else (some (.nrm [a,.b true,c,d,.b ((((h.L.getD d.I.toNat []).getD 1 .nil).S).toList==(((g.L.getD a.I.toNat []).getD 0 .nil).S).toList),e,f,g,h,i,j,k,l,.l m.L,.l n.L,.l o.L]))) (apn 16 aH.d2)) else none) else none) else none) else none) else (some (.brk 2 [a,b,c,e,f,g,h,i,j,k,l,.l m.L,.l n.L,.l o.L])))
def aH.d4 (a b c d e f g h i j k l m n:C):R:=(bif b.B then (bif (decide (0≤a.I)) then (bif (decide (a.I<(f.L.length:Int))) then (bif (decide (c.I>((f.L.getD a.I.toNat []).getD 1 .nil).I)) then (some (.ret [.b false])) else (some (.again [.i (w64 (a.I+1)),d,e,f,g,h,i,j,k,.l l.L,.l m.L,.l n.L]))) else none) else none) else (some (.again [.i (w64 (a.I+1)),d,e,f,g,h,i,j,k,.l l.L,.l m.L,.l n.L])))
def aH.d5 (a b c d e f g h i j k l:C):R:=(bif (decide (a.I<(d.L.length:Int))) then (ah 2 (lim (apn 15 aH.d3) [a,.b false,.i 0,.i 0,b,c,d,e,f,g,h,i,.l j.L,.l k.L,.l l.L]) (apn 14 aH.d4)) else (some (.brk 0 [i,.l j.L,.l k.L,.l l.L])))
def aH.d6 (a b c d:C):R:=(ad (ar [a,.l b.L,.l c.L,.l d.L]) fun e=>(some (.ret [.b e.B])))
def aH.d7 (a:C):R:=(bif (decide ((a.L.length:Int)>1048576)) then (some (.ret [.b true])) else (call7 (dF [a]) fun b c d e f g h=>(call5 (eE [b,c,d,e,f,g,.l h.L]) fun i j k l m=>(call5 (eI [b,c,d,e,f,g,.l h.L]) fun n o p q r=>(bif (!(!(j.B==o.B))) then (ad (bL [i,.l k.L,.l l.L,.l m.L,n,.l p.L,.l q.L,.l r.L]) fun s=>(bif (!s.B) then (some (.ret [.b false])) else (bif (!j.B) then (some (.ret [.b ((m.L.length:Int)==0)])) else (ah 0 (lim (apn 12 aH.d5) [.i 0,b,c,d,e,f,g,.l h.L,i,.l k.L,.l l.L,.l m.L]) (apn 4 aH.d6))))) else (some (.ret [.b false])))))))
def aH:List C→Option (List C):=fun xs=>aY (apn 1 aH.d7 xs)
def mX:FS:=⟨1,⟨[(0,(zl 5))],[]⟩,⟨[(0,zo)],[]⟩,[],aH⟩
theorem ta:aD Tryz.checked.prog T0 3 mX:=br aC (fn:=Tryz.f3) (c:=Tryz.f3.body.getD .skip) mX (.seq .leaf (.seq .leaf (.seq .leaf (.seq (.frz [84920] .leaf) (.seq .leaf (.seq .leaf (.seq .leaf (.seq (.seq .leaf (.block ⟨[(5,(.pt 5 0))],[(5,z15),(109496,.arr 72 1),(109497,.arr 40 1),(109498,.arr 38 1)]⟩ (.loop ⟨[(3,(.pt 3 0)),(4,(.pt 4 0)),(5,(.pt 5 0)),(9,zi)],[(3,z0),(4,.var 30 [zt,zt,(zl 9)]),(5,z15),(109496,.arr 72 1),(109497,.arr 40 1),(109498,.arr 38 1)]⟩ (.seq .leaf (.seq (.skip (.seq .leaf (.seq .leaf (.seq (.seq .leaf (.block ⟨[(3,(.pt 3 0)),(4,(.pt 4 0)),(5,(.pt 5 0)),(9,zi),(10,zo),(11,zi)],[(3,z0),(4,.var 30 [zt,zt,(zl 9)]),(5,z15),(109496,.arr 72 1),(109497,.arr 40 1),(109498,.arr 38 1)]⟩ (.loop ⟨[(3,(.pt 3 0)),(4,(.pt 4 0)),(5,(.pt 5 0)),(9,zi),(10,zo),(11,zi),(12,zi)],[(3,z0),(4,.var 30 [zt,zt,(zl 9)]),(5,z15),(109496,.arr 72 1),(109497,.arr 40 1),(109498,.arr 38 1)]⟩ (.seq .leaf (.seq (.skip (.seq .leaf (.seq (.join ⟨[(3,(.pt 3 0)),(4,(.pt 4 0)),(5,(.pt 5 0)),(9,zi),(10,zo),(11,zi),(12,zi),(13,zo)],[(3,z0),(4,.var 30 [zt,zt,(zl 9)]),(5,z15),(109496,.arr 72 1),(109497,.arr 40 1),(109498,.arr 38 1)]⟩ .leaf) (.seq (.join ⟨[(3,(.pt 3 0)),(4,(.pt 4 0)),(5,(.pt 5 0)),(9,zi),(10,zo),(11,zi),(12,zi),(111,zo)],[(3,z0),(4,.var 30 [zt,zt,(zl 9)]),(5,z15),(109496,.arr 72 1),(109497,.arr 40 1),(109498,.arr 38 1)]⟩ .leaf) .leaf)))) .leaf))))) .leaf)))) .leaf))))) .leaf)))))))) [(5,some 19,kb),(6,some 25,oo),(7,some 31,n9),(8,some 40,oi),(9,some 88,q9),(9,some 109,q9),(10,some 126,iV)] (.cons uj (.cons AL (.cons Ay (.cons Ar (.cons yT (.cons yT (.cons px .nil))))))) (by kernel_rfl) (by kernel_rfl) (by kernel_rfl) (fun xs=>by kernel_rfl)
end
end Go.Ev
set_option maxRecDepth 8000
namespace Go.Ev
abbrev Str:=ByteArray
structure Lk where
 sel:Str
 w:Int
structure Bt where
 name:Str
 zone:Str
 marks:List Str
 room:Int
 hold:Int
 shut:Bool
structure Sv where
 name:Str
 spare:Int
structure Cp where
 name:Str
 svc:Str
 rank:Int
 born:Int
 room:Int
 hold:Int
 sel:Str
 likes:List Lk
 apart:Int
 near:Str
 fixed:Str
 at_:Str
structure Fl where
 pack:Bool
 bts:List Bt
 svs:List Sv
 cps:List Cp
def sE (s:Str):List C:=[.s s]
def Lk.e (x:Lk):List C:=[.s x.sel,.i x.w]
def Bt.e (b:Bt):List C:=[.s b.name,.s b.zone,.l (b.marks.map sE),.i b.room,.i b.hold,.b b.shut]
def Sv.e (s:Sv):List C:=[.s s.name,.i s.spare]
def Cp.e (c:Cp):List C:=[.s c.name,.s c.svc,.i c.rank,.i c.born,.i c.room,.i c.hold,.s c.sel,.l (c.likes.map Lk.e),.i c.apart,.s c.near,.s c.fixed,.s c.at_]
def Fl.e (f:Fl):List C:=[.b f.pack,.l (f.bts.map Bt.e),.l (f.svs.map Sv.e),.l (f.cps.map Cp.e)]
def Bt.Sz (K:Nat) (b:Bt):Prop:=b.name.size≤K∧b.zone.size≤K∧b.marks.length≤K∧∀m,m∈b.marks→m.size≤K
def Sv.Sz (K:Nat) (s:Sv):Prop:=s.name.size≤K
def Cp.Sz (K:Nat) (c:Cp):Prop:=c.name.size≤K∧c.svc.size≤K∧c.sel.size≤K∧c.near.size≤K∧c.fixed.size≤K∧c.at_.size≤K∧c.likes.length≤K∧∀x,x∈c.likes→x.sel.size≤K
def Fl.Sz (K:Nat) (f:Fl):Prop:=(f.bts.length≤K∧∀b,b∈f.bts→b.Sz K)∧(f.svs.length≤K∧∀s,s∈f.svs→s.Sz K)∧f.cps.length≤K∧∀c,c∈f.cps→c.Sz K
def tJ (K:Nat) (l:List Str):Prop:=l.length≤K∧∀s,s∈l→s.size≤K
theorem getD_map' {α:Type} (e:α→List C) {l:List α} {i:Nat} (h:i<l.length):(l.map e).getD i []=e l[i]:=BE e h []
theorem w1 {i n:Nat} (h:i<n) (hn:n<4611686018427387904):w64 ((i:Int)+1)=((i+1:Nat):Int):=by
 rw[aQ (by omega) (by omega)];rfl
end Go.Ev
namespace Go.Ev
abbrev big:Nat:=4611686018427387904
end Go.Ev
namespace Go.Ev
def Bt.o (b:Bt):List C:=[.s b.name,.s b.zone,.i b.room,.i b.hold,.b b.shut,.l (b.marks.map sE)]
def Cp.o (c:Cp):List C:=[.s c.name,.s c.svc,.i c.rank,.i c.born,.i c.room,.i c.hold,.s c.sel,.i c.apart,.s c.near,.s c.fixed,.s c.at_,.l (c.likes.map Lk.e)]
end Go.Ev
namespace Go.Ev
def within (a b c:Int):Bool:=decide (b≤a)&&decide (a≤c)
theorem fO (a b c:Int):gG [.i a,.i b,.i c]=some [.b (within a b c)]:=by
 simp only[gG,gG.d1,apL,jC,jD,C.I_i,within]
 cases h:decide (a≥b)<;>simp at h<;>simp[h]<;>omega
theorem mO (a b c:Int):fA [.i a,.i b,.i c]=some [.b (within a b c)]:=by
 simp only[fA,fA.d1,apL,jC,jD,C.I_i,within]
 cases h:decide (a≥b)<;>simp at h<;>simp[h]<;>omega
def DW (n:Int):Bool:=(decide (n≥97)&&decide (n≤122))||(decide (n≥48)&&decide (n≤57))||n==45||n==95
def dI (x:UInt8):Bool:=DW (x.toNat:Int)
theorem iK (n:Int):hU [.i n]=some [.b (DW n)]:=by
 simp only[hU,hU.d1,apL,jC,C.I_i,DW]
 cases decide (n≥97)<;>cases decide (n≤122)<;>cases decide (n≥48)<;>cases decide (n≤57)<;>cases n==45<;>simp
theorem oV (n:Int):qV [.i n]=some [.b (DW n)]:=iK n
def bd (s:Str):Bool:=within s.size 1 20&&s.data.toList.all dI
theorem dr (s:Str):s.size=s.data.toList.length:=Array.length_toList.symm
theorem ej {s:Str} {i:Nat} (h:i<s.data.toList.length):s.data.getD i 0=s.data.toList[i]:=by
 have:i<s.data.size:=by simpa using h
 simp only[Array.getD,dif_pos this,Array.getInternal_eq_getElem,Array.getElem_toList]
theorem ug {α:Type} (p:α→Bool) (b:Nat) (ys:List C) (K:List C→R):∀(l:List α) (n:Nat),ah b (some (zm (fun _ s (_:Unit)=>bif p s then .inl () else .inr (.ret [.b false])) (fun _=>.brk b ys) l n ())) K=bif l.all p then K ys else some (.ret [.b false])
 |[],n=>by simp[zm]
 |x::r,n=>by
  simp only[zm,List.all_cons]
  cases p x with
  |true=>simp only[jR,Bool.true_and];exact ug p b ys K r (n+1)
  |false=>simp
theorem cJ (s:Str) (hl:s.size≤1048576):bm [.s s]=some [.b (bd s)]:=by
 have hsz:=dr s
 have h:=xT (l:=s.data.toList) (S:=fun i (_:Unit)=>[.s s,.i (i:Nat)]) (body:=apn 2 bm.d1)
  (fun _ _=>True) (fun i b _=>bif dI b then .inl () else .inr (.ret [.b false])) (fun _=>.brk 0 [])
  (fun i _ hi _=>by
   have hi':i<s.size:=by omega
   cases hb:dI s.data.toList[i]<;>simp only[dI] at hb
   ·exact ⟨by simp only[apL,jC,jD,bm.d1,C.I_i,C.S_s,jY,ej hi,iK,hb,ad];simp[hi'],trivial⟩
   ·exact ⟨by simp only[apL,jC,jD,bm.d1,C.I_i,C.S_s,jY,ej hi,iK,hb,ad,w1 hi' (show s.size<big by simp only[big];omega)];simp[hi'],trivial⟩)
  (fun _ _=>⟨by rw[←hsz];simp[bm.d1],trivial⟩) _ 0 () rfl trivial
 simp only[Int.ofNat_zero,List.drop_zero] at h
 simp only[bm,bm.d3,apL,jC,C.S_s,fO,ad,jI,C.B_b,bd]
 cases hw:within s.size 1 20 with
 |false=>simp
 |true=>
  simp only[jZ,jS]
  erw[h,ug]
  cases (s.data.toList.all dI)<;>simp[bm.d2]
theorem fX (s:Str) (hl:s.size≤1048576):dY [.s s]=some [.b (bd s)]:=by
 have hsz:=dr s
 have h:=xT (l:=s.data.toList) (S:=fun i (_:Unit)=>[.s s,.i (s.size:Nat),.i (i:Nat)]) (body:=apn 3 dY.d1)
  (fun _ _=>True) (fun i b _=>bif dI b then .inl () else .inr (.ret [.b false])) (fun _=>.brk 0 [])
  (fun i _ hi _=>by
   have hi':i<s.size:=by omega
   cases hb:dI s.data.toList[i]<;>simp only[dI] at hb
   ·exact ⟨by simp only[apL,jC,jD,dY.d1,C.I_i,C.S_s,jY,ej hi,oV,hb,ad];simp[hi'],trivial⟩
   ·exact ⟨by simp only[apL,jC,jD,dY.d1,C.I_i,C.S_s,jY,ej hi,oV,hb,ad,w1 hi' (show s.size<big by simp only[big];omega)];simp[hi'],trivial⟩)
  (fun _ _=>⟨by rw[←hsz];simp[dY.d1],trivial⟩) _ 0 () rfl trivial
 simp only[Int.ofNat_zero,List.drop_zero] at h
 simp only[dY,dY.d3,apL,jC,C.S_s,bd,within]
 by_cases q1:(s.size:Int)<1
 ·have:¬(1:Int)≤s.size:=by omega
  simp[q1,this]
 by_cases q2:(s.size:Int)>20
 ·have:¬(s.size:Int)≤20:=by omega
  simp only[q1,q2,this];simp
 ·have e1:(1:Int)≤s.size:=by omega
  have e2:(s.size:Int)≤20:=by omega
  simp only[q1,q2,e1,e2,decide_true,decide_false,ja,jR,jS,Bool.true_and]
  erw[h,ug]
  cases (s.data.toList.all dI)<;>simp[dY.d2]
end Go.Ev
namespace Go.Ev
def mkS (l:List UInt8):Str:=⟨l.toArray⟩
theorem gM (l:List UInt8):(mkS l).data.toList=l:=rfl
theorem nS (l:List UInt8):(mkS l).size=l.length:=rfl
theorem Ji (s:Str):mkS s.data.toList=s:=rfl
theorem lr (s:Str) (i j:Nat):s.extract i j=mkS ((s.data.toList.take j).drop i):=by
 have:(s.extract i j).data=((s.data.toList.take j).drop i).toArray:=by
  rw[ByteArray.data_extract]
  apply Array.toList_inj.1
  simp only[Array.toList_extract,List.extract_eq_take_drop]
  rw[List.drop_take]
 cases h:s.extract i j with
 |mk d=>rw[h] at this;simp only at this;subst this;rfl
def sEq (a b:Str):Bool:=a.toList==b.toList
theorem eL (s:Str):s.toList=s.data.toList:=ByteArray.toList_eq s
theorem cF (a b:Str):sEq a b=true↔a=b:=by
 unfold sEq
 rw[eL,eL,beq_iff_eq]
 constructor
 ·intro h
  cases a;cases b
  simp only at h
  exact congrArg _ (Array.toList_inj.1 h)
 ·rintro rfl;rfl
theorem Jy (a b:List UInt8):sEq (mkS a) (mkS b)=(a==b):=by
 unfold sEq;rw[eL,eL,gM,gM]
theorem pX {α:Type} (p:α→Bool):∀l:List α,l.take (l.takeWhile p).length=l.takeWhile p
 |[]=>rfl
 |x::r=>by
  rw[List.takeWhile_cons]
  cases p x with
  |true=>simp[pX p r]
  |false=>simp
theorem kG {α:Type} (p:α→Bool):∀l:List α,l.drop (l.takeWhile p).length=l.dropWhile p
 |[]=>rfl
 |x::r=>by
  rw[List.takeWhile_cons,List.dropWhile_cons]
  cases p x with
  |true=>simp[kG p r]
  |false=>simp
theorem uf {α:Type} (l:List α) (i k:Nat):(l.take (i+k)).drop i=(l.drop i).take k:=by rw[List.drop_take];congr 1;omega
theorem qN {α:Type} (p:α→Bool) (l:List α):(l.takeWhile p).length≤l.length:=(List.takeWhile_prefix p).length_le
theorem drop_cons {α:Type} {l r:List α} {i:Nat} {c:α} (h:l.drop i=c::r):∃hi:i<l.length,l[i]=c∧l.drop (i+1)=r:=by
 have hi:i<l.length:=by
  rcases Nat.lt_or_ge i l.length with h'|h'
  ·exact h'
  ·rw[List.drop_eq_nil_of_le h'] at h;simp at h
 rw[List.drop_eq_getElem_cons hi] at h
 simp only[List.cons.injEq] at h
 exact ⟨hi,h.1,h.2⟩
def dx:List UInt8→List (List UInt8)
 |[]=>[]
 |c::r=>if c=32 then dx r else if dI c then (c::r.takeWhile dI)::dx (r.dropWhile dI) else [c]::dx r
termination_by l=>l.length
decreasing_by
 ·simp
 ·have:=(List.dropWhile_suffix (l:=r) dI).length_le;simp;omega
 ·simp
def sym (c:UInt8):Bool:=c==124||c==38||c==33||c==40||c==41||c==61
def gV (c:UInt8):Bool:=c==32||dI c||sym c
theorem bn (c x:UInt8) (m:Int) (h:m=(x.toNat:Int)):(((c.toNat:Nat):Int)==m)=(c==x):=by
 subst h
 rw[Bool.eq_iff_iff,beq_iff_eq,beq_iff_eq]
 constructor
 ·intro h
  exact UInt8.toNat_inj.1 (by exact_mod_cast h)
 ·rintro rfl;rfl
theorem GZ (s:Str) (hl:s.size≤1048576) (i:Nat) (o:C):∀(k n:Nat),k=s.data.toList.length-n→n≤s.data.toList.length→
  lim (apn 4 aF.d1) [.s s,.i i,.i n,.l o.L]=some (.brk 2 [.s s,.i i,.i (n+((s.data.toList.drop n).takeWhile dI).length:Nat),.l o.L])
 |0,n,hk,hn=>by
  have e:n=s.size:=by rw[dr];omega
  have e2:s.data.toList.drop n=[]:=List.drop_eq_nil_of_le (by omega)
  rw[e2]
  refine aU ?_
  simp[aF.d1,e]
 |k+1,n,hk,hn=>by
  have hi:n<s.data.toList.length:=by omega
  have hi':n<s.size:=by rw[dr];omega
  have e2:=List.drop_eq_getElem_cons hi
  rw[e2,List.takeWhile_cons]
  cases hb:dI s.data.toList[n] with
  |false=>
   refine aU ?_
   simp only[dI] at hb
   simp only[apL,jC,jD,aF.d1,C.I_i,C.S_s,jY,ej hi,iK,hb,ad]
   simp[hi']
  |true=>
   have h:apn 4 aF.d1 [.s s,.i i,.i n,.l o.L]=some (.again [.s s,.i i,.i (n+1:Nat),.l o.L]):=by
    simp only[dI] at hb
    simp only[apL,jC,jD,aF.d1,C.I_i,C.S_s,jY,ej hi,iK,hb,ad,w1 hi' (show s.size<big by simp only[big];omega)]
    simp[hi']
   rw[aI h,GZ s hl i o k (n+1) (by omega) (by omega)]
   have:n+1+(List.takeWhile dI (s.data.toList.drop (n+1))).length=n+(s.data.toList[n]::List.takeWhile dI (s.data.toList.drop (n+1))).length:=by
    simp only[List.length_cons];omega
   simp only[if_true,this]
def tk (t:List UInt8):List C:=[.s (mkS t)]
theorem Ia (s:Str) (hl:s.size≤1048576):∀(k i:Nat) (out:List (List C)),s.data.toList.length-i≤k→i≤s.data.toList.length→out.length≤i→
  (((s.data.toList.drop i).all gV=true∧lim (apn 3 aF.d5) [.s s,.i i,.l out]=some (.brk 0 [.l (out++(dx (s.data.toList.drop i)).map tk)]))∨
   ((s.data.toList.drop i).all gV=false∧∃o,lim (apn 3 aF.d5) [.s s,.i i,.l out]=some (.ret [.b false,.l o])))
 |k,i,out,hk,hi,ho=>by
  cases hd:s.data.toList.drop i with
  |nil=>
   have:s.data.toList.length≤i:=by simpa using hd
   have e:i=s.size:=by rw[dr];omega
   left
   refine ⟨rfl,aU ?_⟩
   simp[aF.d5,e,dx]
  |cons c r=>
   obtain ⟨hi',hc,hr⟩:=drop_cons hd
   have his:i<s.size:=by rw[dr];exact hi'
   obtain ⟨k,rfl⟩:∃k',k=k'+1:=⟨k-1,by omega⟩
   have hw:=w1 his (show s.size<big by simp only[big];omega)
   have e32:=bn c 32 32 rfl
   by_cases h32:c=32
   ·subst h32
    have h:apn 3 aF.d5 [.s s,.i i,.l out]=some (.again [.s s,.i (i+1:Nat),.l out]):=by
     simp only[apL,jC,jD,aF.d5,C.I_i,C.S_s,C.L_l,jY,ej hi',hc,hw]
     simp[his,aF.d4]
    have ih:=Ia s hl k (i+1) out (by omega) (by omega) (by omega)
    rw[aI h]
    rw[hr] at ih
    simpa [gV,dx] using ih
   ·have hrun:=GZ s hl i (.l out) _ i rfl hi
    rw[hd] at hrun
    simp only[C.L_l] at hrun
    have hne:(((c.toNat:Nat):Int)==32)=false:=by
     rw[e32,beq_eq_false_iff_ne];exact h32
    cases hlt:dI c with
    |true=>
     have hrl:=qN dI r
     have hrlen:r.length=s.data.toList.length-(i+1):=by rw[←hr];simp
     have h:apn 3 aF.d5 [.s s,.i i,.l out]=some (.again [.s s,.i (i+1+(r.takeWhile dI).length:Nat),.l (out++[tk (c::r.takeWhile dI)])]):=by
      have hext:s.extract i (i+1+(r.takeWhile dI).length)=mkS (c::r.takeWhile dI):=by
       rw[lr,Nat.add_assoc,uf,hd,Nat.add_comm 1,List.take_succ_cons,pX]
      have e1:(((i+1+(r.takeWhile dI).length:Nat):Int)==(i:Int))=false:=by
       rw[beq_eq_false_iff_ne];omega
      have e2:(i:Int)≤((i+1+(r.takeWhile dI).length:Nat):Int):=by omega
      have e3:((i+1+(r.takeWhile dI).length:Nat):Int)≤(s.size:Int):=by rw[dr];omega
      have e4:out.length+1≤4294967296:=by omega
      have e0:i+(List.takeWhile dI (c::r)).length=i+1+(r.takeWhile dI).length:=by
       rw[List.takeWhile_cons,hlt];simp;omega
      rw[e0] at hrun
      simp only[apL,jC,jD,aF.d5,C.I_i,C.S_s,C.L_l,jY,ej hi',hc,hne,hrun,au]
      simp only[aF.d3,C.I_i,C.S_s,C.L_l,e1,jY,hext]
      simp only[e2,e3,e4,his,decide_true,jR,jS,jX,rows,List.length_cons,List.length_nil,au,aF.d4,C.L_l,tk]
      simp[his,e4,aF.d4]
     have ih:=Ia s hl k (i+1+(r.takeWhile dI).length) (out++[tk (c::r.takeWhile dI)]) (by omega) (by omega) (by simp;omega)
     rw[aI h]
     have hdr:s.data.toList.drop (i+1+(r.takeWhile dI).length)=r.dropWhile dI:=by
      rw[←List.drop_drop,hr,kG]
     rw[hdr] at ih
     have hall:(c::r).all gV=(r.dropWhile dI).all gV:=by
      have e1:∀r:List UInt8,r.all gV=(r.dropWhile dI).all gV:=by
       intro r
       induction r with
       |nil=>rfl
       |cons x r ih=>
        rw[List.dropWhile_cons]
        cases hx:dI x with
        |true=>simp[gV,hx,←ih]
        |false=>simp
      have:gV c=true:=by simp[gV,hlt]
      rw[List.all_cons,this,Bool.true_and];exact e1 r
     rw[hall]
     have hlex:dx (c::r)=(c::r.takeWhile dI)::dx (r.dropWhile dI):=by
      rw[dx,if_neg h32,if_pos hlt]
     rw[hlex]
     simpa using ih
    |false=>
     have e0:i+(List.takeWhile dI (c::r)).length=i:=by
      rw[List.takeWhile_cons,hlt];simp
     rw[e0] at hrun
     have s1:=bn c 124 124 rfl
     have s2:=bn c 38 38 rfl
     have s3:=bn c 33 33 rfl
     have s4:=bn c 40 40 rfl
     have s5:=bn c 41 41 rfl
     have s6:=bn c 61 61 rfl
     have hsym:aF.d3 (.s s) (.i i) (.i i) (.l out)=aF.d2 (.s s) (.i i) (.i i) (.b (!sym c)) (.l out):=by
      simp only[aF.d3,C.I_i,C.S_s,C.L_l,jY,ej hi',hc,bne,s1,s2,s3,s4,s5,s6,sym]
      cases (c==124)<;>cases (c==38)<;>cases (c==33)<;>cases (c==40)<;>cases (c==41)<;>cases (c==61)<;>simp[his]
     have hd2:aF.d2 (.s s) (.i i) (.i i) (.b (!sym c)) (.l out)=if sym c=true then some (.brk 1 [.s s,.i (i+1:Nat),.l (out++[tk [c]])]) else some (.ret [.b false,.l out]):=by
      have hext:s.extract i (i+1)=mkS [c]:=by
       rw[lr,uf,hd];rfl
      have e2:(i:Int)≤((i+1:Nat):Int):=by omega
      have e3:((i+1:Nat):Int)≤(s.size:Int):=by rw[dr];omega
      have e4:out.length+1≤4294967296:=by omega
      cases hs:sym c with
      |false=>simp[aF.d2]
      |true=>
       simp only[aF.d2,C.I_i,C.S_s,C.L_l,C.B_b,hw,jY,hext,e2,e3,decide_true,jR,jS,jX,rows,List.length_cons,List.length_nil,jZ,if_true,tk]
       simp[e4]
     have h0:apn 3 aF.d5 [.s s,.i i,.l out]=ah 1 (if sym c=true then some (.brk 1 [.s s,.i (i+1:Nat),.l (out++[tk [c]])]) else some (.ret [.b false,.l out])) (apn 3 aF.d4):=by
      rw[←hd2,←hsym]
      simp only[apL,jC,jD,aF.d5,C.I_i,C.S_s,C.L_l,jY,ej hi',hc,hne,hrun,au]
      simp[his]
     cases hs:sym c with
     |false=>
      right
      rw[hs] at h0
      refine ⟨by simp[gV,hlt,hs,h32],out,lH (by rw[h0];simp)⟩
     |true=>
      rw[hs] at h0
      have h:apn 3 aF.d5 [.s s,.i i,.l out]=some (.again [.s s,.i (i+1:Nat),.l (out++[tk [c]])]):=by rw[h0];simp[aF.d4]
      rw[aI h]
      have ih:=Ia s hl k (i+1) (out++[tk [c]]) (by omega) (by omega) (by simp;omega)
      rw[hr] at ih
      have hlex:dx (c::r)=[c]::dx r:=by rw[dx,if_neg h32,if_neg (by rw[hlt];simp)]
      have hall:(c::r).all gV=r.all gV:=by simp[gV,hs]
      rw[hlex,hall]
      simpa using ih
theorem yy (s:Str) (hl:s.size≤1048576):
  (s.data.toList.all gV=true∧aF [.s s]=some [.b true,.l ((dx s.data.toList).map tk)])∨(s.data.toList.all gV=false∧∃o,aF [.s s]=some [.b false,.l o]):=by
 have h:=Ia s hl _ 0 [] (Nat.le_refl _) (by omega) (by simp)
 simp only[List.drop_zero,jB,Int.ofNat_zero] at h
 simp only[aF,aF.d7,apL,jC,af]
 rcases h with ⟨h1,h2⟩|⟨h1,o,h2⟩
 ·exact .inl ⟨h1,by rw[h2];simp[aF.d6]⟩
 ·exact .inr ⟨h1,o,by rw[h2];simp⟩
end Go.Ev
namespace Go.Ev
abbrev Tok:=List UInt8
inductive Tr where
 |lf (k:Nat) (n v:Tok)
 |un (t:Tr)
 |bn (k:Nat) (a b:Tr)
def node (k:Nat) (n v:Tok) (m:Nat):List C:=[.i (k:Nat),.s (mkS n),.s (mkS v),.i (m:Nat)]
def Tr.flat:Tr→List (List C)
 |.lf k n v=>[node k n v 0]
 |.un t=>t.flat++[node 3 [] [] 1]
 |.bn k a b=>a.flat++b.flat++[node k [] [] 2]
def opL (f:List Tok→Option (Tr×List Tok)) (op:Tok) (kd:Nat):Nat→Tr→List Tok→Option (Tr×List Tok)
 |0,t,r=>some (t,r)
 |m+1,t,r=>match r with
  |[]=>some (t,[])
  |x::r'=>if x=op then match f r' with
    |none=>none
    |some (t',r'')=>opL f op kd m (.bn kd t t') r''
   else some (t,x::r')
def prs:Nat→Nat→List Tok→Option (Tr×List Tok)
 |0,_,_=>none
 |k+1,c,l=>match c with
  |0=>match prs k 1 l with
   |none=>none
   |some (t,r)=>opL (prs k 1) [124] 5 r.length t r
  |1=>match prs k 2 l with
   |none=>none
   |some (t,r)=>opL (prs k 2) [38] 4 r.length t r
  |_=>match l with
   |[]=>none
   |x::r=>if x=[33] then match prs k 2 r with
     |none=>none
     |some (t,r')=>some (.un t,r')
    else if x=[40] then match prs k 0 r with
     |some (t,y::r')=>if y=[41] then some (t,r') else none
     |_=>none
    else if bd (mkS x)=true then match r with
     |y::r'=>if y=[61] then match r' with
       |v::r''=>if bd (mkS v)=true then some (.lf 2 x v,r'') else none
       |[]=>none
      else some (.lf 1 x [],r)
     |[]=>some (.lf 1 x [],[])
    else none
theorem eX:bs #[]=mkS []:=rfl
theorem AI (k n:Int) (x y:List (List C)) (h:x.length+y.length≤1048576):
  bN [.i k,.i n,.l [[.l x],[.l y]]]=some [.l [[.l x],[.l y]],.l (x++y++[[.i k,.s (mkS []),.s (mkS []),.i n]])]:=by
 have b1:x.length≤4294967296:=by omega
 have b2:x.length+y.length≤4294967296:=by omega
 have b3:x.length+y.length+1≤4294967296:=by omega
 have b4:x.length+(y.length+1)≤4294967296:=by omega
 have w0:w64 1=1:=aQ (by omega) (by omega)
 have w1:w64 2=2:=aQ (by omega) (by omega)
 have h0:apn 5 bN.d1 [.i k,.i n,.i 0,.l [[.l x],[.l y]],.l []]=some (.again [.i k,.i n,.i 1,.l [[.l x],[.l y]],.l x]):=by
  simp[bN.d1,b1,w0]
 have h1:apn 5 bN.d1 [.i k,.i n,.i 1,.l [[.l x],[.l y]],.l x]=some (.again [.i k,.i n,.i 2,.l [[.l x],[.l y]],.l (x++y)]):=by
  have e:(1:Int)<2:=by omega
  simp[bN.d1,b2,w1,e]
 have h2:apn 5 bN.d1 [.i k,.i n,.i 2,.l [[.l x],[.l y]],.l (x++y)]=some (.brk 0 [.i k,.i n,.l [[.l x],[.l y]],.l (x++y)]):=by
  simp[bN.d1]
 simp only[bN,bN.d3,apL,jC,jD,C.L_l,af]
 rw[aI h0,aI h1,aU h2,au]
 simp[bN.d2,b3,b4,eX]
theorem Ef (k n:Int) (x:List (List C)) (h:x.length≤1048576):
  bN [.i k,.i n,.l [[.l x]]]=some [.l [[.l x]],.l (x++[[.i k,.s (mkS []),.s (mkS []),.i n]])]:=by
 have b1:x.length≤4294967296:=by omega
 have b3:x.length+1≤4294967296:=by omega
 have w0:w64 1=1:=aQ (by omega) (by omega)
 have h0:apn 5 bN.d1 [.i k,.i n,.i 0,.l [[.l x]],.l []]=some (.again [.i k,.i n,.i 1,.l [[.l x]],.l x]):=by
  simp[bN.d1,b1,w0]
 have h2:apn 5 bN.d1 [.i k,.i n,.i 1,.l [[.l x]],.l x]=some (.brk 0 [.i k,.i n,.l [[.l x]],.l x]):=by
  simp[bN.d1]
 simp only[bN,bN.d3,apL,jC,jD,C.L_l,af]
 rw[aI h0,aU h2,au]
 simp[bN.d2,b3,eX]
section
variable {T:List Tok} (hl:T.length≤1048576)
include hl
theorem kn (op:Tok) (a:Nat) (bad:Bool) (ha:a≤T.length):bT [.s (mkS op),.l (T.map tk),.i a,.b bad]=
  match T.drop a with
  |[]=>some [.b false,.l (T.map tk),.i a,.b bad]
  |x::_=>if x=op then some [.b true,.l (T.map tk),.i (a+1:Nat),.b bad] else some [.b false,.l (T.map tk),.i a,.b bad]:=by
 simp only[bT,bT.d1,gR,gR.d1,apL,jC,jD,C.uU,C.P_p,C.I_i,C.L_l,jW,jY,jR]
 cases hd:T.drop a with
 |nil=>
  have:T.length≤a:=by simpa using hd
  have e:a=T.length:=by omega
  subst e
  simp[ad]
 |cons x r=>
  obtain ⟨hi,hx,_⟩:=drop_cons hd
  have hw:=w1 hi (show T.length<big by simp only[big];omega)
  rw[getD_map' tk hi,hx]
  have hq:((mkS x).toList==(mkS op).toList)=(x==op):=Jy x op
  simp only[tk,jC,C.S_s,hq,hw]
  by_cases he:x=op
  ·subst he;simp[hi,ad]
  ·have hb:(x==op)=false:=by rw[beq_eq_false_iff_ne];exact he
   simp[hi,ad,hb,he]
theorem uA (hs:∀t,t∈T→t.length≤1048576) (a:Nat) (bad:Bool) (ha:a≤T.length):ey [.l (T.map tk),.i a,.b bad]=
  match T.drop a with
  |[]=>some [.s (mkS []),.l (T.map tk),.i a,.b true]
  |x::_=>if bd (mkS x)=true then some [.s (mkS x),.l (T.map tk),.i (a+1:Nat),.b bad] else some [.s (mkS []),.l (T.map tk),.i a,.b true]:=by
 simp only[ey,ey.d1,apL,jC,jD,C.I_i,C.L_l,jW,jY]
 cases hd:T.drop a with
 |nil=>
  have:T.length≤a:=by simpa using hd
  have e:a=T.length:=by omega
  subst e
  simp[eX]
 |cons x r=>
  obtain ⟨hi,hx,_⟩:=drop_cons hd
  have hw:=w1 hi (show T.length<big by simp only[big];omega)
  have hw2:w64 (((a+1:Nat):Int)-1)=a:=by rw[aQ (by omega) (by omega)];omega
  rw[getD_map' tk hi,hx]
  have hxs:(mkS x).size≤1048576:=by rw[nS];exact hs x (by rw[←hx];exact List.getElem_mem hi)
  have hge:¬T.length≤a:=by omega
  simp only[tk,jC,cJ _ hxs,ad,jI,C.B_b,hw,hw2,jY,getD_map' tk hi,hx]
  cases hn:bd (mkS x)<;>simp[hi,hge,eX]
end
def Res (T:List Tok) (a:Nat) (p:Option (Tr×List Tok)) (nodes:List (List C)) (a':Nat) (bad:Bool):Prop:=
 a≤a'∧a'≤T.length∧nodes.length≤2*(a'-a)+1∧match p with
  |some (t,r)=>bad=false∧nodes=t.flat∧T.drop a'=r∧a<a'
  |none=>bad=true
def SP (T:List Tok) (G:List C→Option (List C)) (f:List Tok→Option (Tr×List Tok)) (a:Nat):Prop:=
 ∃nodes a' bad,G [.l (T.map tk),.i a,.b false]=some [.l nodes,.l (T.map tk),.i (a':Nat),.b bad]∧Res T a (f (T.drop a)) nodes a' bad
end Go.Ev
namespace Go.Ev
section
variable {T:List Tok} (hl:T.length≤1048576/4) (hs:∀t,t∈T→t.length≤1048576)
include hl
theorem FU (G:List C→Option (List C)) (f:List Tok→Option (Tr×List Tok)) (op:Tok) (kd:Nat) (body:C→C→C→C→R) (lo:Nat)
  (hb:∀a b c d,body a b c d=(bif (!d.B) then (call4 (bT [.s (mkS op),b,c,d]) fun e f g h=>(bif e.B then (call4 (G [f,g,h]) fun i j k l=>(call2 (bN [.i (kd:Nat),.i 2,.l (rows [[a],[i]])]) fun m n=>(some (.again [.l n.L,j,k,l])))) else (some (.brk 0 [a,f,g,h])))) else (some (.brk 0 [a,b,c,d]))))
  (hG:∀a,lo≤a→a≤T.length→SP T G f a):
  ∀(m a:Nat) (t:Tr),T.length-a≤m→lo≤a+1→a≤T.length→t.flat.length≤2*a+1→
   ∃nodes a' bad,lim (apn 4 body) [.l t.flat,.l (T.map tk),.i a,.b false]=some (.brk 0 [.l nodes,.l (T.map tk),.i (a':Nat),.b bad])∧
    a≤a'∧a'≤T.length∧nodes.length≤2*(a'-a)+t.flat.length∧match opL f op kd m t (T.drop a) with
     |some (u,r)=>bad=false∧nodes=u.flat∧T.drop a'=r
     |none=>bad=true
 |0,a,t,hm,hlo,ha,ht=>by
  have hd:T.drop a=[]:=List.drop_eq_nil_of_le (by omega)
  refine ⟨t.flat,a,false,aU ?_,Nat.le_refl _,ha,by omega,?_⟩
  ·simp only[apL,jC,jD,hb,C.B_b,ja,jR]
   rw[kn (by omega) op a false ha,hd]
   simp[call4]
  ·simp[opL]
 |m+1,a,t,hm,hlo,ha,ht=>by
  have hstep:apn 4 body [.l t.flat,.l (T.map tk),.i a,.b false]=(call4 (bT [.s (mkS op),.l (T.map tk),.i a,.b false]) fun e f g h=>(bif e.B then (call4 (G [f,g,h]) fun i j k l=>(call2 (bN [.i (kd:Nat),.i 2,.l (rows [[.l t.flat],[i]])]) fun m n=>(some (.again [.l n.L,j,k,l])))) else (some (.brk 0 [.l t.flat,f,g,h])))):=by
   simp only[apL,jC,jD,hb,C.B_b,ja,jR]
  rw[kn (by omega) op a false ha] at hstep
  cases hd:T.drop a with
  |nil=>
   rw[hd] at hstep
   refine ⟨t.flat,a,false,aU ?_,Nat.le_refl _,ha,by omega,?_⟩
   ·rw[hstep];simp[call4]
   ·simp[opL,hd]
  |cons x r=>
   rw[hd] at hstep
   obtain ⟨hi,hx,hr⟩:=drop_cons hd
   by_cases he:x=op
   ·simp only[if_pos he,call4,jI,jC,jD,C.B_b,jR] at hstep
    obtain ⟨nodes,a',bad,hg,h1,h2,h3,h4⟩:=hG (a+1) (by omega) (by omega)
    rw[hr] at h4
    rw[hg] at hstep
    have hsum:t.flat.length+nodes.length≤1048576:=by omega
    simp only[jI,jC,jD,rows,AI (kd:Nat) 2 t.flat nodes hsum,call2,C.L_l] at hstep
    have hnd:t.flat++nodes++[[C.i (kd:Nat),.s (mkS []),.s (mkS []),.i 2]]=t.flat++nodes++[node kd [] [] 2]:=rfl
    rw[hnd] at hstep
    cases hf:f r with
    |none=>
     rw[hf] at h4
     simp only at h4
     subst h4
     have hend:apn 4 body [.l (t.flat++nodes++[node kd [] [] 2]),.l (T.map tk),.i (a':Nat),.b true]=some (.brk 0 [.l (t.flat++nodes++[node kd [] [] 2]),.l (T.map tk),.i (a':Nat),.b true]):=by
      simp[hb]
     refine ⟨_,a',true,by rw[aI hstep];exact aU hend,by omega,h2,by simp;omega,?_⟩
     simp[opL,hd,he,hf]
    |some p=>
     obtain ⟨u,r'⟩:=p
     rw[hf] at h4
     obtain ⟨rfl,rfl,h5,h6⟩:=h4
     have e:t.flat++u.flat++[node kd [] [] 2]=(Tr.bn kd t u).flat:=rfl
     rw[e] at hstep
     have hlen:(Tr.bn kd t u).flat.length=t.flat.length+u.flat.length+1:=by simp[Tr.flat];omega
     obtain ⟨nodes2,a2,bad2,q1,q2,q3,q4,q5⟩:=FU G f op kd body lo hb hG m a' (.bn kd t u) (by omega) (by omega) h2 (by omega)
     refine ⟨nodes2,a2,bad2,by rw[aI hstep];exact q1,by omega,q3,by omega,?_⟩
     simp only[opL,hd,if_pos he,hf]
     rw[h5] at q5
     exact q5
   ·simp only[if_neg he,call4,jI,jC,jD,C.B_b,jS] at hstep
    refine ⟨t.flat,a,false,aU hstep,Nat.le_refl _,ha,by omega,?_⟩
    simp[opL,hd,he]
end
end Go.Ev
namespace Go.Ev
section
variable {T:List Tok} (hl:T.length≤1048576/4) (hs:∀t,t∈T→t.length≤1048576)
include hl hs
theorem I4 (G:List C→Option (List C)) (f:List Tok→Option (Tr×List Tok)) (op:Tok) (kd:Nat) (body:C→C→C→C→R) (d2:C→C→C→C→R) (a:Nat) (ha:a≤T.length)
  (hb:∀a b c d,body a b c d=(bif (!d.B) then (call4 (bT [.s (mkS op),b,c,d]) fun e f g h=>(bif e.B then (call4 (G [f,g,h]) fun i j k l=>(call2 (bN [.i (kd:Nat),.i 2,.l (rows [[a],[i]])]) fun m n=>(some (.again [.l n.L,j,k,l])))) else (some (.brk 0 [a,f,g,h])))) else (some (.brk 0 [a,b,c,d]))))
  (h2:∀a b c d,d2 a b c d=some (.ret [a,b,c,d])) (hG:∀b,a≤b→b≤T.length→SP T G f b):
  ∃nodes a' bad,aY (call4 (G [.l (T.map tk),.i a,.b false]) fun d e f g=>(ah 0 (lim (apn 4 body) [d,e,f,g]) (apn 4 d2)))=some [.l nodes,.l (T.map tk),.i (a':Nat),.b bad]∧
   Res T a (match f (T.drop a) with
   |none=>none
   |some (t,r)=>opL f op kd r.length t r) nodes a' bad:=by
 obtain ⟨nodes,a',bad,hg,q1,q2,q3,q4⟩:=hG a (Nat.le_refl _) ha
 rw[hg]
 simp only[call4,jI,jC,jD]
 cases hf:f (T.drop a) with
 |none=>
  rw[hf] at q4
  simp only at q4
  subst q4
  refine ⟨nodes,a',true,?_,q1,q2,q3,rfl⟩
  rw[aU (ys:=[.l nodes,.l (T.map tk),.i (a':Nat),.b true]) (i:=0) (by simp[hb])]
  simp[h2]
 |some p=>
  obtain ⟨t,r⟩:=p
  rw[hf] at q4
  obtain ⟨rfl,rfl,q5,q6⟩:=q4
  have hrl:r.length=T.length-a':=by rw[←q5];simp
  obtain ⟨n2,a2,b2,p1,p2,p3,p4,p5⟩:=FU hl G f op kd body a hb (fun b h1 h2=>hG b h1 h2) r.length a' t (by omega) (by omega) q2 (by omega)
  rw[p1]
  rw[q5] at p5
  have hres:Res T a (opL f op kd r.length t r) n2 a2 b2:=by
   refine ⟨by omega,p3,by omega,?_⟩
   cases ho:opL f op kd r.length t r with
   |none=>rw[ho] at p5;exact p5
   |some z=>
    obtain ⟨u,z⟩:=z
    rw[ho] at p5
    exact ⟨p5.1,p5.2.1,p5.2.2,by omega⟩
  exact ⟨n2,a2,b2,by simp[h2],hres⟩
theorem IZ:∀(j c k a:Nat),c≤2→a≤T.length→3*(T.length-a)+(3-c)≤j→j≤k→SP T (ak.g k c) (prs j c) a
 |0,c,k,a,hc,ha,hj,hk=>by omega
 |j+1,c,k,a,hc,ha,hj,hk=>by
  obtain ⟨k,rfl⟩:∃k',k=k'+1:=⟨k-1,by omega⟩
  have ih:=IZ j
  rcases (show c=0∨c=1∨c=2 by omega) with rfl|rfl|rfl
  ·obtain ⟨nodes,a',bad,h1,h2⟩:=I4 hl hs (ak.g k 1) (prs j 1) [124] 5 (ak.d1 (ak.g k 0) (ak.g k 1) (ak.g k 2)) (ak.d2 (ak.g k 0) (ak.g k 1) (ak.g k 2)) a ha
    (fun _ _ _ _=>rfl) (fun _ _ _ _=>rfl) (fun b h1 h2=>ih 1 k b (by omega) h2 (by omega) (by omega))
   exact ⟨nodes,a',bad,h1,h2⟩
  ·obtain ⟨nodes,a',bad,h1,h2⟩:=I4 hl hs (ak.g k 2) (prs j 2) [38] 4 (cW.d1 (ak.g k 0) (ak.g k 1) (ak.g k 2)) (cW.d2 (ak.g k 0) (ak.g k 1) (ak.g k 2)) a ha
    (fun _ _ _ _=>rfl) (fun _ _ _ _=>rfl) (fun b h1 h2=>ih 2 k b (by omega) h2 (by omega) (by omega))
   exact ⟨nodes,a',bad,h1,h2⟩
  ·have hT:T.length≤1048576:=by omega
   have hstep:ak.g (k+1) 2 [.l (T.map tk),.i a,.b false]=aY (eS.d1 (ak.g k 0) (ak.g k 1) (ak.g k 2) (.l (T.map tk)) (.i a) (.b false)):=rfl
   unfold SP
   rw[hstep]
   have e33:bs #[33]=mkS [33]:=rfl
   have e40:bs #[40]=mkS [40]:=rfl
   have e41:bs #[41]=mkS [41]:=rfl
   have e61:bs #[61]=mkS [61]:=rfl
   simp only[eS.d1,C.B_b,jS,e33,e40,e41,e61,kn hT [33] a false ha]
   cases hd:T.drop a with
   |nil=>
    simp only[call4,jI,jC,jD,C.B_b,jS,kn hT [40] a false ha,uA hT hs a false ha,hd]
    simp only[jZ,jS,rows,eX,jV]
    exact ⟨_,a,true,rfl,Nat.le_refl _,ha,by simp,by simp[prs]⟩
   |cons x r=>
    obtain ⟨hi,hx,hr⟩:=drop_cons hd
    have hsx:=hs x (by rw[←hx];exact List.getElem_mem hi)
    by_cases x33:x=[33]
    ·obtain ⟨nodes,a',bad,hg,q1,q2,q3,q4⟩:=ih 2 k (a+1) (by omega) (by omega) (by omega) (by omega)
     rw[hr] at q4
     simp only[if_pos x33,call4,jI,jC,jD,C.B_b,jR,hg,rows,call2]
     rw[show (3:Int)=((3:Nat):Int) from rfl,Ef _ _ nodes (by omega)]
     simp only[jI,jC,jD,C.L_l,jV]
     have hnd:nodes++[[C.i ((3:Nat):Int),.s (mkS []),.s (mkS []),.i 1]]=nodes++[node 3 [] [] 1]:=rfl
     rw[hnd]
     refine ⟨_,a',bad,rfl,by omega,q2,by simp;omega,?_⟩
     simp only[prs,x33,if_true]
     cases hf:prs j 2 r with
     |none=>rw[hf] at q4;exact q4
     |some p=>
      rw[hf] at q4
      obtain ⟨rfl,rfl,q5,q6⟩:=q4
      exact ⟨rfl,rfl,q5,by omega⟩
    simp only[if_neg x33,call4,jI,jC,jD,C.B_b,jS,kn hT [40] a false ha,hd]
    by_cases x40:x=[40]
    ·obtain ⟨nodes,a',bad,hg,q1,q2,q3,q4⟩:=ih 0 k (a+1) (by omega) (by omega) (by omega) (by omega)
     rw[hr] at q4
     simp only[if_pos x40,jI,jC,jD,C.B_b,jR,hg,kn hT [41] a' bad q2]
     have hp:prs (j+1) 2 (x::r)=match prs j 0 r with
       |some (t,y::r')=>if y=[41] then some (t,r') else none
       |_=>none:=by
      simp only[prs,if_neg x33,if_pos x40]<;>rcases prs j 0 r with _|⟨t,_|⟨y,r'⟩⟩<;>rfl
     rw[hp]
     cases hd2:T.drop a' with
     |nil=>
      simp only[jI,jC,jD,C.B_b,ja,jR,jV]
      refine ⟨_,a',true,rfl,by omega,q2,by omega,?_⟩
      cases hf:prs j 0 r with
      |none=>rfl
      |some p=>
       rw[hf] at q4
       obtain ⟨_,_,q5,_⟩:=q4
       obtain ⟨t,r'⟩:=p
       simp only at q5
       rw[hd2] at q5
       subst q5
       rfl
     |cons y r'=>
      obtain ⟨hi2,hx2,hr2⟩:=drop_cons hd2
      by_cases y41:y=[41]
      ·simp only[if_pos y41,jI,jC,jD,C.B_b,jZ,jS,jV]
       refine ⟨_,a'+1,bad,rfl,by omega,by omega,by omega,?_⟩
       cases hf:prs j 0 r with
       |none=>rw[hf] at q4;exact q4
       |some p=>
        rw[hf] at q4
        obtain ⟨q5,q6,q7,_⟩:=q4
        obtain ⟨t,z⟩:=p
        simp only at q7 q6
        rw[hd2] at q7
        subst q7
        simp only[if_pos y41]
        exact ⟨q5,q6,hr2,by omega⟩
      ·simp only[if_neg y41,jI,jC,jD,C.B_b,ja,jR,jV]
       refine ⟨_,a',true,rfl,by omega,q2,by omega,?_⟩
       cases hf:prs j 0 r with
       |none=>rfl
       |some p=>
        rw[hf] at q4
        obtain ⟨_,_,q7,_⟩:=q4
        obtain ⟨t,z⟩:=p
        simp only at q7
        rw[hd2] at q7
        subst q7
        simp only[if_neg y41]
    simp only[if_neg x40,jI,jC,jD,C.B_b,jS,uA hT hs a false ha,hd]
    cases hn:bd (mkS x) with
    |false=>
     simp only[Bool.false_eq_true,if_false,jI,jC,jD,C.B_b,jZ,jS,rows,jV]
     refine ⟨_,a,true,rfl,Nat.le_refl _,ha,by simp,?_⟩
     simp[prs,x33,x40,hn]
    |true=>
     simp only[if_true,jI,jC,jD,C.B_b,ja,jR,kn hT [61] (a+1) false (by omega),hr]
     cases r with
     |nil=>
      simp only[jI,jC,jD,C.B_b,jS,rows,eX,jV]
      refine ⟨_,a+1,false,rfl,by omega,by omega,by simp,?_⟩
      simp only[prs,if_neg x33,if_neg x40,hn,if_true]
      exact ⟨by simp,rfl,hr,by omega⟩
     |cons y r'=>
      obtain ⟨hi2,hx2,hr2⟩:=drop_cons hr
      by_cases y61:y=[61]
      ·simp only[if_pos y61,jI,jC,jD,C.B_b,jR,uA hT hs (a+1+1) false (by omega),hr2]
       cases r' with
       |nil=>
        simp only[jI,jC,jD,rows,jV]
        refine ⟨_,a+1+1,true,rfl,by omega,by omega,by simp,?_⟩
        simp[prs,x33,x40,hn,y61]
       |cons v r''=>
        obtain ⟨hi3,hx3,hr3⟩:=drop_cons hr2
        cases hv:bd (mkS v) with
        |false=>
         simp only[hv,Bool.false_eq_true,if_false,jI,jC,jD,rows,jV]
         refine ⟨_,a+1+1,true,rfl,by omega,by omega,by simp,?_⟩
         simp[prs,x33,x40,hn,y61,hv]
        |true=>
         simp only[hv,if_true,jI,jC,jD,rows,jV]
         refine ⟨_,a+1+1+1,false,rfl,by omega,by omega,by simp,?_⟩
         simp only[prs,if_neg x33,if_neg x40,hn,if_true,y61,hv]
         exact ⟨by simp,rfl,hr3,by omega⟩
      ·simp only[if_neg y61,jI,jC,jD,C.B_b,jS,rows,eX,jV]
       refine ⟨_,a+1,false,rfl,by omega,by omega,by simp,?_⟩
       simp only[prs,if_neg x33,if_neg x40,hn,if_true,if_neg y61]
       exact ⟨by simp,rfl,hr,by omega⟩
end
end Go.Ev
namespace Go.Ev
def sp (c:UInt8):Bool:=c==32
theorem sB:∀l:List UInt8,dx (l.dropWhile sp)=dx l
 |[]=>rfl
 |c::r=>by
  rw[List.dropWhile_cons]
  by_cases h:c=32
  ·subst h
   have:sp 32=true:=rfl
   rw[if_pos this,sB r]
   rw[dx.eq_2,if_pos rfl]
  ·have:sp c=false:=by simp[sp,h]
   rw[this];simp
theorem wQ {l r:List UInt8} {c:UInt8} (h:l.dropWhile sp=c::r):c≠32:=by
 have:=List.head?_dropWhile_not sp l
 rw[h] at this
 simp[sp] at this
 exact this
section
variable {s:Str} (hl:s.size≤1048576)
include hl
theorem Ct:∀(k i:Nat) (ok:Bool),s.data.toList.length-i≤k→i≤s.data.toList.length→
  lim (apn 3 bM.d1) [.s s,.i i,.b ok]=some (.brk 0 [.s s,.i (i+((s.data.toList.drop i).takeWhile sp).length:Nat),.b ok])
 |k,i,ok,hk,hi=>by
  cases hd:s.data.toList.drop i with
  |nil=>
   have:s.data.toList.length≤i:=by simpa using hd
   have e:i=s.size:=by rw[dr];omega
   refine aU ?_
   simp[bM.d1,e]
  |cons c r=>
   obtain ⟨hi',hc,hr⟩:=drop_cons hd
   have his:i<s.size:=by rw[dr];exact hi'
   obtain ⟨k,rfl⟩:∃k',k=k'+1:=⟨k-1,by omega⟩
   have hw:=w1 his (show s.size<big by simp only[big];omega)
   have e32:=bn c 32 32 rfl
   rw[List.takeWhile_cons]
   cases hs:sp c with
   |true=>
    have h:apn 3 bM.d1 [.s s,.i i,.b ok]=some (.again [.s s,.i (i+1:Nat),.b ok]):=by
     simp only[sp] at hs
     simp only[apL,jC,jD,bM.d1,C.I_i,C.S_s,jY,ej hi',hc,e32,hs,hw]
     simp[his]
    rw[aI h,Ct k (i+1) ok (by omega) (by omega),hr]
    simp only[if_true,List.length_cons]
    rw[show i+1+(List.takeWhile sp r).length=i+((List.takeWhile sp r).length+1) by omega]
   |false=>
    refine aU ?_
    simp only[sp] at hs
    simp only[apL,jC,jD,bM.d1,C.I_i,C.S_s,jY,ej hi',hc,e32,hs]
    simp[his]
def gp (s:Str) (i:Nat):Nat:=i+((s.data.toList.drop i).takeWhile sp).length
omit hl in
theorem AS (i:Nat):s.data.toList.drop (gp s i)=(s.data.toList.drop i).dropWhile sp:=by
 rw[gp,←List.drop_drop,kG]
omit hl in
theorem I6 {i:Nat} (hi:i≤s.data.toList.length):gp s i≤s.data.toList.length:=by
 have:=qN sp (s.data.toList.drop i)
 rw[List.length_drop] at this
 unfold gp;omega
theorem GC (i:Nat) (ok:Bool) (hi:i≤s.data.toList.length):bM [.s s,.i i,.b ok]=some [.s s,.i (gp s i:Nat),.b ok]:=by
 simp only[bM,bM.d3,apL,jC,jD,Ct hl _ i ok (Nat.le_refl _) hi]
 simp[bM.d2,gp]
theorem uy (c:UInt8) (hc:dI c=false) (hc2:c≠32) (i:Nat) (ok:Bool) (hi:i≤s.data.toList.length):∃i',i'≤s.data.toList.length∧∃b,bA [.i (c.toNat:Nat),.s s,.i i,.b ok]=some [.b b,.s s,.i (i':Nat),.b ok]∧
  match dx (s.data.toList.drop i) with
  |[]=>b=false∧dx (s.data.toList.drop i')=[]
  |x::r=>if x=[c] then b=true∧dx (s.data.toList.drop i')=r else b=false∧dx (s.data.toList.drop i')=x::r:=by
 have hg:=AS (s:=s) i
 have hle:=I6 hi
 have hlex:=sB (s.data.toList.drop i)
 simp only[bA,bA.d1,apL,jC,jD,GC hl i ok hi,call3,jI,C.I_i,C.S_s,jY]
 rw[←hlex]
 cases hd:(s.data.toList.drop i).dropWhile sp with
 |nil=>
  rw[hd] at hg
  have:s.data.toList.length≤gp s i:=by simpa using hg
  have e:gp s i=s.size:=by rw[dr];omega
  refine ⟨gp s i,hle,false,by simp[e],?_⟩
  rw[hg]
  simp[dx]
 |cons x r=>
  rw[hd] at hg
  obtain ⟨hi',hx,hr⟩:=drop_cons hg
  have his:gp s i<s.size:=by rw[dr];exact hi'
  have hw:=w1 his (show s.size<big by simp only[big];omega)
  have hne:=wQ hd
  simp only[ej hi',hx,bn x c _ rfl,hw]
  by_cases he:x=c
  ·subst he
   refine ⟨gp s i+1,by omega,true,by simp[his],?_⟩
   rw[dx.eq_2,if_neg hne,if_neg (by rw[hc];simp),hr]
   simp
  ·have hb:(x==c)=false:=by rw[beq_eq_false_iff_ne];exact he
   refine ⟨gp s i,hle,false,by simp[his,hb],?_⟩
   rw[hg]
   have hneq:∀y r',dx (x::r)=y::r'→y≠[c]:=by
    intro y r' h1 h2
    subst h2
    rw[dx.eq_2,if_neg hne] at h1
    split at h1
    ·simp at h1;exact he h1.1.1
    ·simp at h1;exact he h1.1
   have hnn:dx (x::r)≠[]:=by
    rw[dx.eq_2,if_neg hne];split<;>simp
   cases hq:dx (x::r) with
   |nil=>exact absurd hq hnn
   |cons y r'=>
    simp only
    rw[if_neg (hneq y r' hq)]
    exact ⟨trivial,trivial⟩
theorem IV (o:Nat) (ok:Bool):∀(k i:Nat),s.data.toList.length-i≤k→i≤s.data.toList.length→
  lim (apn 4 bz.d1) [.i o,.s s,.i i,.b ok]=some (.brk 0 [.i o,.s s,.i (i+((s.data.toList.drop i).takeWhile dI).length:Nat),.b ok])
 |k,i,hk,hi=>by
  cases hd:s.data.toList.drop i with
  |nil=>
   have:s.data.toList.length≤i:=by simpa using hd
   have e:i=s.size:=by rw[dr];omega
   refine aU ?_
   simp[bz.d1,e]
  |cons c r=>
   obtain ⟨hi',hc,hr⟩:=drop_cons hd
   have his:i<s.size:=by rw[dr];exact hi'
   obtain ⟨k,rfl⟩:∃k',k=k'+1:=⟨k-1,by omega⟩
   have hw:=w1 his (show s.size<big by simp only[big];omega)
   rw[List.takeWhile_cons]
   cases hs:dI c with
   |true=>
    have h:apn 4 bz.d1 [.i o,.s s,.i i,.b ok]=some (.again [.i o,.s s,.i (i+1:Nat),.b ok]):=by
     simp only[dI] at hs
     simp only[apL,jC,jD,bz.d1,C.I_i,C.S_s,jY,ej hi',hc,oV,hs,hw,ad]
     simp[his]
    rw[aI h,IV o ok k (i+1) (by omega) (by omega),hr]
    simp only[if_true,List.length_cons]
    rw[show i+1+(List.takeWhile dI r).length=i+((List.takeWhile dI r).length+1) by omega]
   |false=>
    refine aU ?_
    simp only[dI] at hs
    simp only[apL,jC,jD,bz.d1,C.I_i,C.S_s,jY,ej hi',hc,oV,hs,ad]
    simp[his]
theorem DA (i:Nat) (ok:Bool) (hi:i≤s.data.toList.length):∃i',i'≤s.data.toList.length∧∃z b,bz [.s s,.i i,.b ok]=some [.s z,.s s,.i (i':Nat),.b b]∧
  match dx (s.data.toList.drop i) with
  |[]=>b=false
  |x::r=>if bd (mkS x)=true then b=ok∧z=mkS x∧dx (s.data.toList.drop i')=r else b=false:=by
 have hg:=AS (s:=s) i
 have hle:=I6 hi
 have hlex:=sB (s.data.toList.drop i)
 have hrun:=IV hl (gp s i) ok _ (gp s i) (Nat.le_refl _) hle
 rw[hg] at hrun
 have hlen:=qN dI ((s.data.toList.drop i).dropWhile sp)
 rw[←hg,List.length_drop] at hlen
 rw[hg] at hlen
 have hext:s.extract (gp s i) (gp s i+(((s.data.toList.drop i).dropWhile sp).takeWhile dI).length)=mkS (((s.data.toList.drop i).dropWhile sp).takeWhile dI):=by
  rw[lr,uf,hg,pX]
 have hsz:(mkS (((s.data.toList.drop i).dropWhile sp).takeWhile dI)).size≤1048576:=by
  rw[nS];rw[dr] at hl;omega
 have hres:bz [.s s,.i i,.b ok]=some [.s (mkS (((s.data.toList.drop i).dropWhile sp).takeWhile dI)),.s s,.i (gp s i+(((s.data.toList.drop i).dropWhile sp).takeWhile dI).length:Nat),.b (bd (mkS (((s.data.toList.drop i).dropWhile sp).takeWhile dI))&&ok)]:=by
  have e1:gp s i+(((s.data.toList.drop i).dropWhile sp).takeWhile dI).length≤s.size:=by rw[dr];omega
  have e2:(gp s i:Int)≤((gp s i+(((s.data.toList.drop i).dropWhile sp).takeWhile dI).length:Nat):Int):=by omega
  have e3:((gp s i+(((s.data.toList.drop i).dropWhile sp).takeWhile dI).length:Nat):Int)≤(s.size:Int):=by omega
  simp only[bz,bz.d3,apL,jC,jD,GC hl i ok hi,call3,jI,hrun,au]
  simp only[bz.d2,C.I_i,C.S_s,jY,hext,jX,e2,e3,decide_true,jR,fX _ hsz,ad,jI,jC,C.B_b]
  cases bd (mkS (((s.data.toList.drop i).dropWhile sp).takeWhile dI))<;>rfl
 refine ⟨_,by omega,_,_,hres,?_⟩
 rw[←hlex,←List.drop_drop,hg,kG]
 have hnil:bd (mkS [])=false:=rfl
 cases hd:(s.data.toList.drop i).dropWhile sp with
 |nil=>simp[dx,hnil]
 |cons x r=>
  have hne:=wQ hd
  rw[dx.eq_2,if_neg hne]
  cases hs:dI x with
  |true=>
   rw[if_pos rfl,List.takeWhile_cons,hs,List.dropWhile_cons,hs]
   simp only[if_true]
   cases bd (mkS (x::List.takeWhile dI r))<;>simp
  |false=>
   rw[if_neg (by simp),List.takeWhile_cons,hs]
   have h1:bd (mkS [x])=false:=by simp[bd,gM,hs]
   simp[h1,hnil]
end
end Go.Ev
