/- Proved here: the law FnPilotHarmCard of the given program answers true at every input, and leaves the input as it was; no condition. This text: lemmas on the way (an evaluator of the program's code, sound once for all; the functions it prints; plain proofs on these). -/
import Derived.Test.YtephnkjnbnjicaaGreatDoorP2
set_option linter.all false
set_option autoImplicit false
set_option maxRecDepth 100000
namespace Go.Ev
open Go.Proofs
noncomputable section
def aM.d1 (a b c d e f g h i j k l m n o p q r s t u v w x y z a0 a1 a2 a3 a4 a5 a6:C):R:=(bif (decide (a.I<(a4.L.length:Int))) then (bif (decide (0<=a.I)) then (bif (decide (a.I<(a4.L.length:Int))) then (bif (Op.bytesLess (((a4.L.getD a.I.toNat []).getD 0 .nil).S).toList h.S.toList) then (some (.again [.i (w64 (a.I+1)),.l b.L,.l c.L,.l d.L,.l e.L,.l f.L,g,h,i,j,k,l,m,n,o,p,q,r,s,t,u,v,w,x,y,z,a0,.l a1.L,.l a2.L,.l a3.L,.l a4.L,.l a5.L,.l a6.L])) else (some (.brk 1 [a,.l b.L,.l c.L,.l d.L,.l e.L,.l f.L,g,h,i,j,k,l,m,n,o,p,q,r,s,t,u,v,w,x,y,z,a0,.l a1.L,.l a2.L,.l a3.L,.l a4.L,.l a5.L,.l a6.L]))) else none) else none) else (some (.brk 1 [a,.l b.L,.l c.L,.l d.L,.l e.L,.l f.L,g,h,i,j,k,l,m,n,o,p,q,r,s,t,u,v,w,x,y,z,a0,.l a1.L,.l a2.L,.l a3.L,.l a4.L,.l a5.L,.l a6.L])))
def aM.d2 (a b c d e f g h i j k l m n o p q r s t u v w x y z a0 a1 a2 a3 a4 a5 a6 a7:C):R:=(bif (decide (0<=a.I)) then (bif (decide (a.I<=(a2.L.length:Int))) then (bif (decide (af.length+((a2.L.take a.I.toNat).drop 0).length<=4294967296)) then (call7 (kj [i,j,k,l,m,.l f.L]) fun a8 a9 b0 b1 b2 b3 b4=>(bif (decide ((af++((a2.L.take a.I.toNat).drop 0)).length+(rows [[a8,a9,.l b4.L,b0,b1,b2]]).length<=4294967296)) then (bif (decide (((af++((a2.L.take a.I.toNat).drop 0))++(rows [[a8,a9,.l b4.L,b0,b1,b2]])).length+b.L.length<=4294967296)) then (some (.ret [a1,.b true,.l c.L,.l d.L,.l e.L,.l b3.L,.l g.L,.l (((af++((a2.L.take a.I.toNat).drop 0))++(rows [[a8,a9,.l b4.L,b0,b1,b2]]))++b.L),.l a6.L,.l a7.L])) else none) else none)) else none) else none) else none)
def aM.d3 (a b c d e f g h i j k l m n o p q r s t u v w x y z a0 a1 a2 a3 a4 a5 a6:C):R:=(bif (decide (0<=a.I)) then (bif (decide (a.I<=(a4.L.length:Int))) then (bif (decide ((a4.L.length:Int)<=(a4.L.length:Int))) then (aZ (bif (decide ((((a4.L.take (a4.L.length:Int).toNat).drop a.I.toNat).length:Int)>0)) then (bif (decide (0<(((a4.L.take (a4.L.length:Int).toNat).drop a.I.toNat).length:Int))) then (bif ((((((a4.L.take (a4.L.length:Int).toNat).drop a.I.toNat).getD 0 []).getD 0 .nil).S).toList==h.S.toList) then (bif (decide (1<=(((a4.L.take (a4.L.length:Int).toNat).drop a.I.toNat).length:Int))) then (bif (decide ((((a4.L.take (a4.L.length:Int).toNat).drop a.I.toNat).length:Int)<=(((a4.L.take (a4.L.length:Int).toNat).drop a.I.toNat).length:Int))) then (some (.nrm [a,.l ((((a4.L.take (a4.L.length:Int).toNat).drop a.I.toNat).take (((a4.L.take (a4.L.length:Int).toNat).drop a.I.toNat).length:Int).toNat).drop 1),.l b.L,.l c.L,.l d.L,.l e.L,.l f.L,g,h,i,j,k,l,m,n,o,p,q,r,s,t,u,v,w,x,y,z,a0,.l a4.L,.l a1.L,.l a2.L,.l a3.L,.l a5.L,.l a6.L])) else none) else none) else (some (.nrm [a,.l ((a4.L.take (a4.L.length:Int).toNat).drop a.I.toNat),.l b.L,.l c.L,.l d.L,.l e.L,.l f.L,g,h,i,j,k,l,m,n,o,p,q,r,s,t,u,v,w,x,y,z,a0,.l a4.L,.l a1.L,.l a2.L,.l a3.L,.l a5.L,.l a6.L]))) else none) else (some (.nrm [a,.l ((a4.L.take (a4.L.length:Int).toNat).drop a.I.toNat),.l b.L,.l c.L,.l d.L,.l e.L,.l f.L,g,h,i,j,k,l,m,n,o,p,q,r,s,t,u,v,w,x,y,z,a0,.l a4.L,.l a1.L,.l a2.L,.l a3.L,.l a5.L,.l a6.L]))) (apn 34 aM.d2)) else none) else none) else none)
def aM.d4 (a b c d e f g h i j k l m n o p q r s t u v w x y z a0 a1 a2 a3 a4 a5 a6:C):R:=(bif (decide (a.I<(a6.L.length:Int))) then (bif (decide (0<=a.I)) then (bif (decide (a.I<(a6.L.length:Int))) then (bif ((((a6.L.getD a.I.toNat []).getD 11 .nil).S).toList==x.S.toList) then (bif (decide (0<=a.I)) then (bif (decide (a.I<(a6.L.length:Int))) then (some (.again [.i (w64 (a.I+1)),.l b.L,.l c.L,.l d.L,.l e.L,.l f.L,g,h,i,j,k,l,m,n,o,p,q,r,s,t,u,v,w,x,y,z,a0,.l a1.L,.l a2.L,.l a3.L,.l a4.L,.l a5.L,.l (a6.L.set a.I.toNat (aB (a6.L.getD a.I.toNat []) 11 [.s (bs #[])]))])) else none) else none) else (some (.again [.i (w64 (a.I+1)),.l b.L,.l c.L,.l d.L,.l e.L,.l f.L,g,h,i,j,k,l,m,n,o,p,q,r,s,t,u,v,w,x,y,z,a0,.l a1.L,.l a2.L,.l a3.L,.l a4.L,.l a5.L,.l a6.L]))) else none) else none) else (some (.brk 3 [.l b.L,.l c.L,.l d.L,.l e.L,.l f.L,z,a0,.l a1.L,.l a2.L,.l a3.L,.l a4.L,.l a5.L,.l a6.L])))
def aM.d5 (a b c d e f g h i j k l m:C):R:=(some (.ret [g,.b true,.l a.L,.l b.L,.l c.L,.l d.L,.l e.L,.l k.L,.l l.L,.l m.L]))
def aM.d6 (a b c d e f g h i j k l m n o p q r s t u v w x y z a0 a1 a2 a3 a4 a5 a6:C):R:=(bif (decide (a.I<(a6.L.length:Int))) then (bif (decide (0<=a.I)) then (bif (decide (a.I<(a6.L.length:Int))) then (bif (Op.bytesLess (((a6.L.getD a.I.toNat []).getD 0 .nil).S).toList m.S.toList) then (some (.again [.i (w64 (a.I+1)),.l b.L,.l c.L,.l d.L,.l e.L,.l f.L,g,h,i,j,k,l,m,n,o,p,q,r,s,t,u,v,w,x,y,z,a0,.l a1.L,.l a2.L,.l a3.L,.l a4.L,.l a5.L,.l a6.L])) else (some (.brk 5 [a,.l b.L,.l c.L,.l d.L,.l e.L,.l f.L,g,h,i,j,k,l,m,n,o,p,q,r,s,t,u,v,w,x,y,z,a0,.l a1.L,.l a2.L,.l a3.L,.l a4.L,.l a5.L,.l a6.L]))) else none) else none) else (some (.brk 5 [a,.l b.L,.l c.L,.l d.L,.l e.L,.l f.L,g,h,i,j,k,l,m,n,o,p,q,r,s,t,u,v,w,x,y,z,a0,.l a1.L,.l a2.L,.l a3.L,.l a4.L,.l a5.L,.l a6.L])))
def aM.d7 (a b c d e f g h i j k l m n o p q r s t u v w x y z a0 a1 a2 a3 a4 a5 a6 a7:C):R:=(bif (decide (0<=a.I)) then (bif (decide (a.I<=(a2.L.length:Int))) then (bif (decide (af.length+((a2.L.take a.I.toNat).drop 0).length<=4294967296)) then (call13 (gF [n,o,p,q,r,s,t,u,v,w,x,.l g.L]) fun a8 a9 b0 b1 b2 b3 b4 b5 b6 b7 b8 b9 c0=>(bif (decide ((af++((a2.L.take a.I.toNat).drop 0)).length+(rows [[a8,a9,b0,b1,b2,b3,b4,.l c0.L,b5,b6,b7,b8]]).length<=4294967296)) then (bif (decide (((af++((a2.L.take a.I.toNat).drop 0))++(rows [[a8,a9,b0,b1,b2,b3,b4,.l c0.L,b5,b6,b7,b8]])).length+b.L.length<=4294967296)) then (some (.ret [a1,.b true,.l c.L,.l d.L,.l e.L,.l f.L,.l b9.L,.l a6.L,.l a7.L,.l (((af++((a2.L.take a.I.toNat).drop 0))++(rows [[a8,a9,b0,b1,b2,b3,b4,.l c0.L,b5,b6,b7,b8]]))++b.L)])) else none) else none)) else none) else none) else none)
def aM.d8 (a b c d e f g h i j k l m n o p q r s t u v w x y z a0 a1 a2 a3 a4 a5 a6:C):R:=(bif (decide (0<=a.I)) then (bif (decide (a.I<=(a6.L.length:Int))) then (bif (decide ((a6.L.length:Int)<=(a6.L.length:Int))) then (aZ (bif (decide ((((a6.L.take (a6.L.length:Int).toNat).drop a.I.toNat).length:Int)>0)) then (bif (decide (0<(((a6.L.take (a6.L.length:Int).toNat).drop a.I.toNat).length:Int))) then (bif ((((((a6.L.take (a6.L.length:Int).toNat).drop a.I.toNat).getD 0 []).getD 0 .nil).S).toList==m.S.toList) then (bif (decide (1<=(((a6.L.take (a6.L.length:Int).toNat).drop a.I.toNat).length:Int))) then (bif (decide ((((a6.L.take (a6.L.length:Int).toNat).drop a.I.toNat).length:Int)<=(((a6.L.take (a6.L.length:Int).toNat).drop a.I.toNat).length:Int))) then (some (.nrm [a,.l ((((a6.L.take (a6.L.length:Int).toNat).drop a.I.toNat).take (((a6.L.take (a6.L.length:Int).toNat).drop a.I.toNat).length:Int).toNat).drop 1),.l b.L,.l c.L,.l d.L,.l e.L,.l f.L,g,h,i,j,k,l,m,n,o,p,q,r,s,t,u,v,w,x,y,z,a0,.l a6.L,.l a1.L,.l a2.L,.l a3.L,.l a4.L,.l a5.L])) else none) else none) else (some (.nrm [a,.l ((a6.L.take (a6.L.length:Int).toNat).drop a.I.toNat),.l b.L,.l c.L,.l d.L,.l e.L,.l f.L,g,h,i,j,k,l,m,n,o,p,q,r,s,t,u,v,w,x,y,z,a0,.l a6.L,.l a1.L,.l a2.L,.l a3.L,.l a4.L,.l a5.L]))) else none) else (some (.nrm [a,.l ((a6.L.take (a6.L.length:Int).toNat).drop a.I.toNat),.l b.L,.l c.L,.l d.L,.l e.L,.l f.L,g,h,i,j,k,l,m,n,o,p,q,r,s,t,u,v,w,x,y,z,a0,.l a6.L,.l a1.L,.l a2.L,.l a3.L,.l a4.L,.l a5.L]))) (apn 34 aM.d7)) else none) else none) else none)
def aM.d9 (a b c d e f g h i j k l m n o p q r s t u v w x y:C):R:=(call7 (bP [a,.l u.L,.l v.L,.l w.L]) fun z a0 a1 a2 a3 a4 a5=>(bif (b.I==1) then (ah 1 (lim (apn 33 aM.d1) [.i 0,.l a0.L,.l a1.L,.l a2.L,.l x.L,.l y.L,b,c,d,e,f,g,h,i,j,k,l,m,n,o,p,q,r,s,t,.b false,z,.l af,.l af,.l af,.l a3.L,.l a4.L,.l a5.L]) (apn 33 aM.d3)) else (bif (b.I==2) then (ad (di [z,.l a3.L,.l a4.L,.l a5.L,s]) fun a6=>(bif (decide (a6.I<0)) then (some (.ret [z,.b false,.l a0.L,.l a1.L,.l a2.L,.l x.L,.l y.L,.l a3.L,.l a4.L,.l a5.L])) else (bif (decide (0<=a6.I)) then (bif (decide (a6.I<=(a3.L.length:Int))) then (bif (decide (af.length+((a3.L.take a6.I.toNat).drop 0).length<=4294967296)) then (bif (decide (0<=(w64 (a6.I+1)))) then (bif (decide ((w64 (a6.I+1))<=(a3.L.length:Int))) then (bif (decide ((a3.L.length:Int)<=(a3.L.length:Int))) then (bif (decide ((af++((a3.L.take a6.I.toNat).drop 0)).length+((a3.L.take (a3.L.length:Int).toNat).drop (w64 (a6.I+1)).toNat).length<=4294967296)) then (ah 3 (lim (apn 33 aM.d4) [.i 0,.l a0.L,.l a1.L,.l a2.L,.l x.L,.l y.L,b,c,d,e,f,g,h,i,j,k,l,m,n,o,p,q,r,s,t,.b false,z,.l af,.l af,.l af,.l ((af++((a3.L.take a6.I.toNat).drop 0))++((a3.L.take (a3.L.length:Int).toNat).drop (w64 (a6.I+1)).toNat)),.l a4.L,.l a5.L]) (apn 13 aM.d5)) else none) else none) else none) else none) else none) else none) else none))) else (bif (b.I==3) then (ah 5 (lim (apn 33 aM.d6) [.i 0,.l a0.L,.l a1.L,.l a2.L,.l x.L,.l y.L,b,c,d,e,f,g,h,i,j,k,l,m,n,o,p,q,r,s,t,.b false,z,.l af,.l af,.l af,.l a3.L,.l a4.L,.l a5.L]) (apn 33 aM.d8)) else (bif (b.I==4) then (ad (dx [z,.l a3.L,.l a4.L,.l a5.L,s]) fun a7=>(bif (decide (a7.I<0)) then (some (.ret [z,.b false,.l a0.L,.l a1.L,.l a2.L,.l x.L,.l y.L,.l a3.L,.l a4.L,.l a5.L])) else (bif (decide (0<=a7.I)) then (bif (decide (a7.I<=(a5.L.length:Int))) then (bif (decide (af.length+((a5.L.take a7.I.toNat).drop 0).length<=4294967296)) then (bif (decide (0<=(w64 (a7.I+1)))) then (bif (decide ((w64 (a7.I+1))<=(a5.L.length:Int))) then (bif (decide ((a5.L.length:Int)<=(a5.L.length:Int))) then (bif (decide ((af++((a5.L.take a7.I.toNat).drop 0)).length+((a5.L.take (a5.L.length:Int).toNat).drop (w64 (a7.I+1)).toNat).length<=4294967296)) then (some (.ret [z,.b true,.l a0.L,.l a1.L,.l a2.L,.l x.L,.l y.L,.l a3.L,.l a4.L,.l ((af++((a5.L.take a7.I.toNat).drop 0))++((a5.L.take (a5.L.length:Int).toNat).drop (w64 (a7.I+1)).toNat))])) else none) else none) else none) else none) else none) else none) else none))) else (bif (b.I==5) then (ad (dx [z,.l a3.L,.l a4.L,.l a5.L,s]) fun a8=>(bif (!(decide (a8.I<0))) then (bif (!(t.S.toList==(bs #[]).toList)) then (ad (di [z,.l a3.L,.l a4.L,.l a5.L,t]) fun a9=>(bif (decide (a9.I<0)) then (some (.ret [z,.b false,.l a0.L,.l a1.L,.l a2.L,.l x.L,.l y.L,.l a3.L,.l a4.L,.l a5.L])) else (bif (decide (0<=a8.I)) then (bif (decide (a8.I<(a5.L.length:Int))) then (some (.ret [z,.b true,.l a0.L,.l a1.L,.l a2.L,.l x.L,.l y.L,.l a3.L,.l a4.L,.l (a5.L.set a8.I.toNat (aB (a5.L.getD a8.I.toNat []) 11 [t]))])) else none) else none))) else (bif (decide (0<=a8.I)) then (bif (decide (a8.I<(a5.L.length:Int))) then (some (.ret [z,.b true,.l a0.L,.l a1.L,.l a2.L,.l x.L,.l y.L,.l a3.L,.l a4.L,.l (a5.L.set a8.I.toNat (aB (a5.L.getD a8.I.toNat []) 11 [t]))])) else none) else none)) else (some (.ret [z,.b false,.l a0.L,.l a1.L,.l a2.L,.l x.L,.l y.L,.l a3.L,.l a4.L,.l a5.L])))) else (some (.ret [z,.b true,.l a0.L,.l a1.L,.l a2.L,.l x.L,.l y.L,.l a3.L,.l a4.L,.l a5.L]))))))))
def aM:List C->Option (List C):=fun xs=>aU (apn 25 aM.d9 xs)
def nI:FS:=⟨2,⟨[(0,(.ag [zo,(.ow 2000),(.ow 2001),(.ow 2002)])),(1,z18)],[(2000,.arr 72),(2001,.arr 40 1),(2002,.arr 38),(2003,.arr 9 1),(2004,.arr 100 1)]⟩,⟨[(0,(.tu [(.ag [zo,(.ow 3005),(.ow 3006),(.ow 3007)]),zo]))],[(2000,.arr 72),(2001,.arr 40 1),(2002,.arr 38),(2003,.arr 9 1),(2004,.arr 100 1),(3005,.arr 72),(3006,.arr 40 1),(3007,.arr 38)]⟩,[2000,2001,2002,2003,2004],aM⟩
theorem yH:FK 131 nI:=okP [68,165] false Tryz.f131 nI (.seq .leaf (.seq .leaf (.seq (.seq .leaf (.skip (.seq .leaf (.cond (.seq .leaf (.seq (.block ⟨[(3,(.pt 3 0)),(4,(.pt 4 0)),(6,(.pt 6 0)),(7,zi)],[(2000,.arr 72),(2001,.arr 40 1),(2002,.arr 38),(2003,.arr 9 1),(2004,.arr 100 1),(3,z6),(4,.var 27 [zo,(.ow 1152600),(.ow 1152601),(.ow 1152602)]),(6,.var 27 [zo,(.ow 72635),(.ow 72636),(.ow 72637)]),(1152600,.arr 72 1),(1152601,.arr 40 1),(1152602,.arr 38 1),(72635,.arr 72 1),(72636,.arr 40 1),(72637,.arr 38 1)]⟩ (.loop ⟨[(3,(.pt 3 0)),(4,(.pt 4 0)),(6,(.pt 6 0)),(7,zi)],[(2000,.arr 72),(2001,.arr 40 1),(2002,.arr 38),(2003,.arr 9 1),(2004,.arr 100 1),(3,z6),(4,.var 27 [zo,(.ow 1152600),(.ow 1152601),(.ow 1152602)]),(6,.var 27 [zo,(.ow 72635),(.ow 72636),(.ow 72637)]),(1152600,.arr 72 1),(1152601,.arr 40 1),(1152602,.arr 38 1),(72635,.arr 72 1),(72636,.arr 40 1),(72637,.arr 38 1)]⟩ .leaf)) (.seq .leaf (.seq (.join ⟨[(3,(.pt 3 0)),(4,(.pt 4 0)),(6,(.pt 6 0)),(7,zi),(8,(zl 72))],[(2000,.arr 72),(2001,.arr 40 1),(2002,.arr 38),(2003,.arr 9 1),(2004,.arr 100 1),(3,z6),(4,.var 27 [zo,(.ow 1152600),(.ow 1152601),(.ow 1152602)]),(6,.var 27 [zo,(zl 72),(.ow 72636),(.ow 72637)]),(1152600,.arr 72 1),(1152601,.arr 40 1),(1152602,.arr 38 1),(72636,.arr 40 1),(72637,.arr 38 1)]⟩ (.frz [72635] .leaf)) .leaf)))) (.seq .leaf (.cond (.seq .leaf (.seq .leaf (.seq .leaf (.seq .leaf (.block ⟨[(4,(.pt 4 0)),(6,(.pt 6 0))],[(2000,.arr 72),(2001,.arr 40 1),(2002,.arr 38),(2003,.arr 9 1),(2004,.arr 100 1),(4,.var 27 [zo,(.ow 1156200),(.ow 1156201),(.ow 1156202)]),(6,.var 27 [zo,(.ow 82),(.ow 72636),(.ow 72637)]),(1156200,.arr 72 1),(1156201,.arr 40 1),(1156202,.arr 38 1),(82,.arr 72),(72636,.arr 40 1),(72637,.arr 38 1)]⟩ (.loop ⟨[(3,(.pt 3 0)),(4,(.pt 4 0)),(6,(.pt 6 0)),(10,zi)],[(2000,.arr 72),(2001,.arr 40 1),(2002,.arr 38),(2003,.arr 9 1),(2004,.arr 100 1),(3,z6),(4,.var 27 [zo,(.ow 1156200),(.ow 1156201),(.ow 1156202)]),(6,.var 27 [zo,(.ow 82),(.ow 72636),(.ow 72637)]),(1156200,.arr 72 1),(1156201,.arr 40 1),(1156202,.arr 38 1),(82,.arr 72),(72636,.arr 40 1),(72637,.arr 38 1)]⟩ .leaf)))))) (.seq .leaf (.cond (.seq .leaf (.seq (.block ⟨[(3,(.pt 3 0)),(4,(.pt 4 0)),(6,(.pt 6 0)),(11,zi)],[(2000,.arr 72),(2001,.arr 40 1),(2002,.arr 38),(2003,.arr 9 1),(2004,.arr 100 1),(3,z6),(4,.var 27 [zo,(.ow 1158400),(.ow 1158401),(.ow 1158402)]),(6,.var 27 [zo,(.ow 72635),(.ow 72636),(.ow 72637)]),(1158400,.arr 72 1),(1158401,.arr 40 1),(1158402,.arr 38 1),(72635,.arr 72 1),(72636,.arr 40 1),(72637,.arr 38 1)]⟩ (.loop ⟨[(3,(.pt 3 0)),(4,(.pt 4 0)),(6,(.pt 6 0)),(11,zi)],[(2000,.arr 72),(2001,.arr 40 1),(2002,.arr 38),(2003,.arr 9 1),(2004,.arr 100 1),(3,z6),(4,.var 27 [zo,(.ow 1158400),(.ow 1158401),(.ow 1158402)]),(6,.var 27 [zo,(.ow 72635),(.ow 72636),(.ow 72637)]),(1158400,.arr 72 1),(1158401,.arr 40 1),(1158402,.arr 38 1),(72635,.arr 72 1),(72636,.arr 40 1),(72637,.arr 38 1)]⟩ .leaf)) (.seq .leaf (.seq (.join ⟨[(3,(.pt 3 0)),(4,(.pt 4 0)),(6,(.pt 6 0)),(11,zi),(12,(zl 38))],[(2000,.arr 72),(2001,.arr 40 1),(2002,.arr 38),(2003,.arr 9 1),(2004,.arr 100 1),(3,z6),(4,.var 27 [zo,(.ow 1158400),(.ow 1158401),(.ow 1158402)]),(6,.var 27 [zo,(.ow 72635),(.ow 72636),(zl 38)]),(1158400,.arr 72 1),(1158401,.arr 40 1),(1158402,.arr 38 1),(72635,.arr 72 1),(72636,.arr 40 1)]⟩ (.frz [72637] .leaf)) .leaf)))) .leaf)))))))) .leaf))) [(36,some 175,eK),(36,some 197,eK),(37,some 78,gl),(37,some 208,gl),(76,some 16,nH),(104,some 67,km),(105,some 164,kT)] (.cons fC (.cons fC (.cons iT (.cons iT (.cons zn (.cons u6 (.cons wA .nil))))))) (by kernel_rfl) (by kernel_rfl) (fun xs=>by kernel_rfl)
def bV.d1 (a b c d e f g h i j k l m n o p q r s t u v w x y z a0 a1 a2 a3 a4 a5 a6:C):R:=(bif (!a.B) then (some (.ret [.b false,.i 3,.l b.L,.l c.L,.l d.L,.l e.L,.l f.L,.l af,.l af,.l af])) else (ad (hD [g,.i 1,.i 5]) fun a7=>(bif (!a7.B) then (some (.ret [.b false,.i 4,.l b.L,.l c.L,.l d.L,.l e.L,.l f.L,.l af,.l af,.l af])) else (some (.ret [a0,.i 0,.l b.L,.l c.L,.l d.L,.l e.L,.l f.L,.l a4.L,.l a5.L,.l a6.L])))))
def bV.d2 (a b c d e f g h i j k l m n o p q r s t u v w x y:C):R:=(ad (ax [a,.l u.L,.l v.L,.l w.L]) fun z=>(bif (!z.B) then (some (.ret [.b false,.i 1,.l u.L,.l v.L,.l w.L,.l x.L,.l y.L,.l af,.l af,.l af])) else (call10 (aM [a,b,c,d,e,f,g,h,i,j,k,l,m,n,o,p,q,r,s,t,.l u.L,.l v.L,.l w.L,.l x.L,.l y.L]) fun a0 a1 a2 a3 a4 a5 a6 a7 a8 a9=>(aZ (bif a1.B then (ad (ax [a0,.l a7.L,.l a8.L,.l a9.L]) fun b0=>(bif (!b0.B) then (some (.ret [.b false,.i 2,.l a2.L,.l a3.L,.l a4.L,.l a5.L,.l a6.L,.l af,.l af,.l af])) else (some (.nrm [.b a1.B,.l a2.L,.l a3.L,.l a4.L,.l a5.L,.l a6.L,b,c,d,e,f,g,h,i,j,k,l,m,n,o,p,q,r,s,t,.b false,a0,.l af,.l af,.l af,.l a7.L,.l a8.L,.l a9.L])))) else (some (.nrm [.b a1.B,.l a2.L,.l a3.L,.l a4.L,.l a5.L,.l a6.L,b,c,d,e,f,g,h,i,j,k,l,m,n,o,p,q,r,s,t,.b false,a0,.l af,.l af,.l af,.l a7.L,.l a8.L,.l a9.L]))) (apn 33 bV.d1)))))
def bV:List C->Option (List C):=fun xs=>aU (apn 25 bV.d2 xs)
def fI:FS:=⟨2,⟨[(0,(.ag [zo,(.ow 2000),(.ow 2001),(.ow 2002)])),(1,z18)],[(2000,.arr 72),(2001,.arr 40 1),(2002,.arr 38),(2003,.arr 9 1),(2004,.arr 100 1)]⟩,⟨[(0,(.tu [(.ag [zo,(.ow 3005),(.ow 3006),(.ow 3007)]),zi]))],[(2000,.arr 72),(2001,.arr 40 1),(2002,.arr 38),(2003,.arr 9 1),(2004,.arr 100 1),(3005,.arr 72),(3006,.arr 40 1),(3007,.arr 38)]⟩,[2000,2001,2002,2003,2004],bV⟩
theorem jH:FK 93 fI:=okO Tryz.f93 fI (.seq .leaf (.seq .leaf (.seq .leaf (.seq (.join ⟨[(3,(.pt 3 0)),(4,(.pt 4 0)),(6,(.pt 6 0)),(7,zo)],[(2000,.arr 72),(2001,.arr 40 1),(2002,.arr 38),(2003,.arr 9 1),(2004,.arr 100 1),(3,z6),(4,.var 27 [zo,(.ow 1091400),(.ow 1091401),(.ow 1091402)]),(6,.var 27 [zo,(.ow 68541),(.ow 68542),(.ow 68543)]),(1091400,.arr 72 1),(1091401,.arr 40 1),(1091402,.arr 38 1),(68541,.arr 72),(68542,.arr 40 1),(68543,.arr 38)]⟩ .leaf) .leaf)))) [(38,some 9,eh),(38,some 21,eh),(70,some 30,fi),(131,some 15,nI)] (.cons fj (.cons fj (.cons fS (.cons yH .nil)))) (by kernel_rfl) (by kernel_rfl) (fun xs=>by kernel_rfl)
def lh.d1 (a b c d e f:C):R:=(bif (decide (af.length+c.L.length<=4294967296)) then (bif (decide ((bs #[122,111,110,101,61]).size+b.S.size<=4294967296)) then (bif (decide ((af++c.L).length+(rows [[.s ((bs #[122,111,110,101,61])++b.S)]]).length<=4294967296)) then (some (.ret [.l ((af++c.L)++(rows [[.s ((bs #[122,111,110,101,61])++b.S)]]))])) else none) else none) else none)
def lh:List C->Option (List C):=fun xs=>aU (apn 6 lh.d1 xs)
def pJ:FS:=⟨1,⟨[(0,z10)],[]⟩,⟨[(0,(.ow 3000))],[(3000,.arr 9 1)]⟩,[],lh⟩
theorem Cm:FK 108 pJ:=okO Tryz.f108 pJ .leaf [] .nil (by kernel_rfl) (by kernel_rfl) (fun xs=>by kernel_rfl)
def bm.d1 (G0:List C->Option (List C)) (a b c d e f g:C):R:=(bif c.B then (some (.ret [.b true])) else (some (.again [a,.i (w64 (b.I+1)),d,e,f,g])))
def bm.d2 (G0:List C->Option (List C)) (a b c d e f:C):R:=(bif (decide (b.I<(a.L.length:Int))) then (bif (decide (0<=b.I)) then (bif (decide (b.I<(a.L.length:Int))) then (call3 (dZ [((a.L.getD b.I.toNat []).getD 0 .nil)]) fun g h i=>(aZ (bif i.B then (bif (g.S.toList==d.S.toList) then (bif (!(c.I==1)) then (some (.nrm [a,b,.b (h.S.toList==e.S.toList),c,d,e,f])) else (some (.nrm [a,b,.b true,c,d,e,f]))) else (some (.nrm [a,b,.b false,c,d,e,f]))) else (some (.nrm [a,b,.b false,c,d,e,f]))) (apn 7 (bm.d1 G0)))) else none) else none) else (some (.brk 1 [])))
def bm.d3 (G0:List C->Option (List C)):R:=(some (.ret [.b false]))
def bm.d4 (G0:List C->Option (List C)) (a b c d:C):R:=(bif (decide (0<=c.I)) then (bif (decide (c.I<(a.L.length:Int))) then (bif (((a.L.getD c.I.toNat []).getD 0 .nil).I==0) then (some (.ret [.b true])) else (bif (((a.L.getD c.I.toNat []).getD 0 .nil).I==3) then (bif (decide (0<=c.I)) then (bif (decide (c.I<(b.L.length:Int))) then (bif (decide (0<((((b.L.getD c.I.toNat []).getD 0 .nil).L).length:Int))) then (ad (G0 [a,b,(((((b.L.getD c.I.toNat []).getD 0 .nil).L).getD 0 []).getD 0 .nil),d]) fun e=>(some (.ret [.b (!e.B)]))) else none) else none) else none) else (bif (((a.L.getD c.I.toNat []).getD 0 .nil).I==4) then (bif (decide (0<=c.I)) then (bif (decide (c.I<(b.L.length:Int))) then (bif (decide (0<((((b.L.getD c.I.toNat []).getD 0 .nil).L).length:Int))) then (ad (G0 [a,b,(((((b.L.getD c.I.toNat []).getD 0 .nil).L).getD 0 []).getD 0 .nil),d]) fun f=>(bif f.B then (bif (decide (0<=c.I)) then (bif (decide (c.I<(b.L.length:Int))) then (bif (decide (1<((((b.L.getD c.I.toNat []).getD 0 .nil).L).length:Int))) then (ad (G0 [a,b,(((((b.L.getD c.I.toNat []).getD 0 .nil).L).getD 1 []).getD 0 .nil),d]) fun g=>(some (.ret [.b g.B]))) else none) else none) else none) else (some (.ret [.b false])))) else none) else none) else none) else (bif (((a.L.getD c.I.toNat []).getD 0 .nil).I==5) then (bif (decide (0<=c.I)) then (bif (decide (c.I<(b.L.length:Int))) then (bif (decide (0<((((b.L.getD c.I.toNat []).getD 0 .nil).L).length:Int))) then (ad (G0 [a,b,(((((b.L.getD c.I.toNat []).getD 0 .nil).L).getD 0 []).getD 0 .nil),d]) fun h=>(bif (!h.B) then (bif (decide (0<=c.I)) then (bif (decide (c.I<(b.L.length:Int))) then (bif (decide (1<((((b.L.getD c.I.toNat []).getD 0 .nil).L).length:Int))) then (ad (G0 [a,b,(((((b.L.getD c.I.toNat []).getD 0 .nil).L).getD 1 []).getD 0 .nil),d]) fun i=>(some (.ret [.b i.B]))) else none) else none) else none) else (some (.ret [.b true])))) else none) else none) else none) else (ah 1 (lim (apn 6 (bm.d2 G0)) [d,.i 0,((a.L.getD c.I.toNat []).getD 0 .nil),((a.L.getD c.I.toNat []).getD 1 .nil),((a.L.getD c.I.toNat []).getD 2 .nil),((a.L.getD c.I.toNat []).getD 3 .nil)]) (fun xs=>(bm.d3 G0))))))) else none) else none)
def bm.step (G0:List C->Option (List C)):List C->Option (List C):=fun xs=>aU (apn 4 (bm.d4 G0) xs)
def eB (G:List C->Option (List C)):FS:=⟨4,⟨[(0,(.ag [(.d (.sl 170))])),(1,(.d (.sl 55))),(2,(.d (.int .i64))),(3,(.d (.sl 9)))],[]⟩,⟨[(0,(.d .bool))],[]⟩,[],G⟩
theorem B4 {G0:List C->Option (List C)} (h0:FK 140 (eB G0)):FK 140 (eB (bm.step G0)):=okO Tryz.f140 (eB (bm.step G0)) (.seq .leaf (.seq .leaf (.seq .leaf (.seq (.seq .leaf (.block ⟨[],[]⟩ (.loop ⟨[(3,(.d (.sl 9))),(9,(.pt 9 0)),(10,(.d (.int .i64)))],[(9,.var 170 [(.d (.int .i64)),(.d .str),(.d .str),(.d (.int .i64))])]⟩ (.seq .leaf (.seq (.skip (.seq .leaf (.seq (.join ⟨[(3,(.d (.sl 9))),(9,(.pt 9 0)),(10,(.d (.int .i64))),(116,(.d .bool))],[(9,.var 170 [(.d (.int .i64)),(.d .str),(.d .str),(.d (.int .i64))])]⟩ .leaf) .leaf))) .leaf))))) .leaf)))) [(135,some 95,lK),(140,some 34,(eB G0)),(140,some 47,(eB G0)),(140,some 58,(eB G0)),(140,some 71,(eB G0)),(140,some 82,(eB G0))] (.cons qE (.cons h0 (.cons h0 (.cons h0 (.cons h0 (.cons h0 .nil)))))) (by kernel_rfl) (by kernel_rfl) (fun xs=>by kernel_rfl)
def bm.g:Nat->Nat->List C->Option (List C)
 |0,_=>fun _=>none
 |k+1,0=>bm.step (bm.g k 0)
 |_,_=>fun _=>none
theorem sJ:∀k:Nat,FK 140 (eB (bm.g k 0))
 |0=>kX (fn:=Tryz.f140) (c:=Tryz.f140.body.getD .skip) (4) (⟨[(0,(.ag [(.d (.sl 170))])),(1,(.d (.sl 55))),(2,(.d (.int .i64))),(3,(.d (.sl 9)))],[]⟩) (⟨[(0,(.d .bool))],[]⟩) [] (by kernel_rfl) (by kernel_rfl) (by kernel_rfl)
 |k+1=>B4 (sJ k)
def bm:List C->Option (List C):=bm.g jd 0
theorem B6:FK 140 (eB bm):=sJ jd
def gZ.d1 (a b:C):R:=(ad (fW [a]) fun c=>(bif (!c.B) then (some (.ret [.b false])) else (call2 (ec [a]) fun d e=>(ad (bm [a,.l e.L,.i (w64 ((a.L.length:Int)-1)),b]) fun f=>(some (.ret [.b f.B]))))))
def gZ:List C->Option (List C):=fun xs=>aU (apn 2 gZ.d1 xs)
def lT:FS:=⟨2,⟨[(0,(.ag [(zl 170)])),(1,(zl 9))],[]⟩,⟨[(0,zo)],[]⟩,[],gZ⟩
theorem xp:FK 107 lT:=okO Tryz.f107 lT .leaf [(138,some 8,kq),(139,some 12,jT),(140,some 22,(eB bm))] (.cons pW (.cons nZ (.cons B6 .nil))) (by kernel_rfl) (by kernel_rfl) (fun xs=>by kernel_rfl)
def iD.d1 (a b c d e f g:C):R:=(call2 (gh [a]) fun h i=>(bif (i.I==0) then (ad (lh [b,c,d,e,f,g]) fun j=>(ad (gZ [h,.l j.L]) fun k=>(some (.ret [.b k.B])))) else (some (.ret [.b false]))))
def iD:List C->Option (List C):=fun xs=>aU (apn 7 iD.d1 xs)
def lq:FS:=⟨2,⟨[(0,zt),(1,z10)],[]⟩,⟨[(0,zo)],[]⟩,[],iD⟩
theorem sD:FK 77 lq:=okO Tryz.f77 lq .leaf [(106,some 9,ju),(107,some 18,lT),(108,some 17,pJ)] (.cons qm (.cons xp (.cons Cm .nil))) (by kernel_rfl) (by kernel_rfl) (fun xs=>by kernel_rfl)
def hP.d1 (a b c d e:C):R:=(ad (di [a,b,c,d,e]) fun f=>(bif (decide (f.I<0)) then (some (.ret [.s (bs #[])])) else (bif (decide (0<=f.I)) then (bif (decide (f.I<(b.L.length:Int))) then (some (.ret [((b.L.getD f.I.toNat []).getD 1 .nil)])) else none) else none)))
def hP:List C->Option (List C):=fun xs=>aU (apn 5 hP.d1 xs)
def jn:FS:=⟨2,⟨[(0,z2),(1,zt)],[]⟩,⟨[(0,zt)],[]⟩,[],hP⟩
theorem oA:FK 109 jn:=okO Tryz.f109 jn .leaf [(37,some 8,gl)] (.cons iT .nil) (by kernel_rfl) (by kernel_rfl) (fun xs=>by kernel_rfl)
def bz.d1 (a b c d e f g h i j k l m n o p q r s t u v w x y z a0 a1 a2 a3 a4 a5 a6 a7 a8:C):R:=(ad (hP [b,c,d,e,a8]) fun a9=>(bif (a9.S.toList==s.S.toList) then (bif (!(a5.I==2)) then (bif (n.I==2) then (some (.ret [.b true])) else (some (.brk 1 [a,b,c,d,e,f,g,h,i,j,k,l,m,n,o,p,q,r,s,t,u,v,w]))) else (some (.ret [.b true]))) else (some (.brk 1 [a,b,c,d,e,f,g,h,i,j,k,l,m,n,o,p,q,r,s,t,u,v,w]))))
def bz.d2 (a b c d e f g h i j k l m n o p q r s t u v w:C):R:=(some (.again [.i (w64 (a.I+1)),b,c,d,e,f,g,h,i,j,k,l,m,n,o,p,q,r,s,t,u,v,w]))
def bz.d3 (a b c d e f g h i j k l m n o p q r s t u v w:C):R:=(bif (decide (a.I<(e.L.length:Int))) then (ah 1 (bif (decide (0<=a.I)) then (bif (decide (a.I<(e.L.length:Int))) then (bif (!((((e.L.getD a.I.toNat []).getD 0 .nil).S).toList==f.S.toList)) then (bif (!(!((((e.L.getD a.I.toNat []).getD 1 .nil).S).toList==g.S.toList))) then (bif ((((e.L.getD a.I.toNat []).getD 11 .nil).S).toList==(bs #[]).toList) then (some (.brk 1 [a,b,c,d,e,f,g,h,i,j,k,l,m,n,o,p,q,r,s,t,u,v,w])) else (aZ (bif ((((e.L.getD a.I.toNat []).getD 11 .nil).S).toList==r.S.toList) then (bif (!(((e.L.getD a.I.toNat []).getD 8 .nil).I !=0)) then (bif (n.I !=0) then (some (.ret [.b true])) else (some (.nrm [a,b,c,d,e,f,g,h,i,j,k,l,m,n,o,p,q,r,s,t,u,v,w,((e.L.getD a.I.toNat []).getD 0 .nil),((e.L.getD a.I.toNat []).getD 1 .nil),((e.L.getD a.I.toNat []).getD 2 .nil),((e.L.getD a.I.toNat []).getD 3 .nil),((e.L.getD a.I.toNat []).getD 4 .nil),((e.L.getD a.I.toNat []).getD 5 .nil),((e.L.getD a.I.toNat []).getD 6 .nil),((e.L.getD a.I.toNat []).getD 7 .nil),((e.L.getD a.I.toNat []).getD 8 .nil),((e.L.getD a.I.toNat []).getD 9 .nil),((e.L.getD a.I.toNat []).getD 10 .nil),((e.L.getD a.I.toNat []).getD 11 .nil)]))) else (some (.ret [.b true]))) else (some (.nrm [a,b,c,d,e,f,g,h,i,j,k,l,m,n,o,p,q,r,s,t,u,v,w,((e.L.getD a.I.toNat []).getD 0 .nil),((e.L.getD a.I.toNat []).getD 1 .nil),((e.L.getD a.I.toNat []).getD 2 .nil),((e.L.getD a.I.toNat []).getD 3 .nil),((e.L.getD a.I.toNat []).getD 4 .nil),((e.L.getD a.I.toNat []).getD 5 .nil),((e.L.getD a.I.toNat []).getD 6 .nil),((e.L.getD a.I.toNat []).getD 7 .nil),((e.L.getD a.I.toNat []).getD 8 .nil),((e.L.getD a.I.toNat []).getD 9 .nil),((e.L.getD a.I.toNat []).getD 10 .nil),((e.L.getD a.I.toNat []).getD 11 .nil)]))) (apn 35 bz.d1))) else (some (.brk 1 [a,b,c,d,e,f,g,h,i,j,k,l,m,n,o,p,q,r,s,t,u,v,w]))) else (some (.brk 1 [a,b,c,d,e,f,g,h,i,j,k,l,m,n,o,p,q,r,s,t,u,v,w]))) else none) else none) (apn 23 bz.d2)) else (some (.brk 0 [])))
def bz.d4:R:=(some (.ret [.b false]))
def bz.d5 (a b c d e f g h i j k l m n o p q r s t u v:C):R:=(ah 0 (lim (apn 23 bz.d3) [.i 0,a,b,c,d,e,f,g,h,i,j,k,l,m,n,o,p,q,r,s,t,u,v]) (fun xs=>bz.d4))
def bz:List C->Option (List C):=fun xs=>aU (apn 22 bz.d5 xs)
def lW:FS:=⟨3,⟨[(0,z2),(1,z5),(2,z10)],[]⟩,⟨[(0,zo)],[]⟩,[],bz⟩
theorem xA:FK 78 lW:=okO Tryz.f78 lW (.seq .leaf (.seq (.seq .leaf (.block ⟨[],[]⟩ (.loop ⟨[(3,(.pt 3 0)),(4,(.pt 4 0)),(5,(.pt 5 0)),(7,zi)],[(3,z0),(4,z1),(5,z3)]⟩ (.seq .leaf (.seq (.block ⟨[(3,(.pt 3 0)),(4,(.pt 4 0)),(5,(.pt 5 0)),(7,zi)],[(3,z0),(4,z1),(5,z3)]⟩ (.seq .leaf (.seq .leaf (.seq (.join ⟨[(3,(.pt 3 0)),(4,(.pt 4 0)),(5,(.pt 5 0)),(7,zi),(8,(.pt 8 0))],[(3,z0),(4,z1),(5,z3),(8,z1)]⟩ .leaf) .leaf)))) .leaf))))) .leaf)) [(109,some 56,jn)] (.cons oA .nil) (by kernel_rfl) (by kernel_rfl) (fun xs=>by kernel_rfl)
def eU.d1 (a b c d e f g h i j k l m n o p q r s t u v w x:C):R:=(some (.again [a,.i (w64 (b.I+1)),c,d,e,f,g,h,i,j,k,l,m,n,o,p,q,r,s,t,u,v,w,x]))
def eU.d2 (a b c d e f g h i j k l m n o p q r s t u v w x:C):R:=(bif (decide (b.I<(f.L.length:Int))) then (ah 1 (bif (decide (0<=b.I)) then (bif (decide (b.I<(f.L.length:Int))) then (bif (!((((f.L.getD b.I.toNat []).getD 0 .nil).S).toList==g.S.toList)) then (bif (!(!((((f.L.getD b.I.toNat []).getD 1 .nil).S).toList==p.S.toList))) then (bif ((((f.L.getD b.I.toNat []).getD 11 .nil).S).toList==(bs #[]).toList) then (some (.brk 1 [a,b,c,d,e,f,g,h,i,j,k,l,m,n,o,p,q,r,s,t,u,v,w,x])) else (ad (hP [c,d,e,f,((f.L.getD b.I.toNat []).getD 11 .nil)]) fun y=>(bif (y.S.toList==t.S.toList) then (some (.ret [.b false])) else (some (.brk 1 [.b true,b,c,d,e,f,g,h,i,j,k,l,m,n,o,p,q,r,s,t,u,v,w,x]))))) else (some (.brk 1 [a,b,c,d,e,f,g,h,i,j,k,l,m,n,o,p,q,r,s,t,u,v,w,x]))) else (some (.brk 1 [a,b,c,d,e,f,g,h,i,j,k,l,m,n,o,p,q,r,s,t,u,v,w,x]))) else none) else none) (apn 24 eU.d1)) else (some (.brk 0 [a,g,h,i,j,k,l,m,n,o,p,q,r])))
def eU.d3 (a b c d e f g h i j k l m:C):R:=(bif (!a.B) then (some (.ret [.b (!(k.S.toList==c.S.toList))])) else (some (.ret [.b true])))
def eU.d4 (a b c d e f g h i j k l m n o p q r s t u v:C):R:=(bif (n.S.toList==(bs #[]).toList) then (some (.ret [.b false])) else (ah 0 (lim (apn 24 eU.d2) [.b false,.i 0,a,b,c,d,e,f,g,h,i,j,k,l,m,n,o,p,q,r,s,t,u,v]) (apn 13 eU.d3)))
def eU:List C->Option (List C):=fun xs=>aU (apn 22 eU.d4 xs)
def sX:FS:=⟨3,⟨[(0,z2),(1,z5),(2,z10)],[]⟩,⟨[(0,zo)],[]⟩,[],eU⟩
theorem Fg:FK 79 sX:=okO Tryz.f79 sX (.seq .leaf (.seq .leaf (.seq .leaf (.seq (.seq .leaf (.block ⟨[(4,(.pt 4 0)),(7,zo)],[(4,z1)]⟩ (.loop ⟨[(3,(.pt 3 0)),(4,(.pt 4 0)),(5,(.pt 5 0)),(7,zo),(8,zi)],[(3,z0),(4,z1),(5,z3)]⟩ (.seq .leaf (.seq (.block ⟨[(3,(.pt 3 0)),(4,(.pt 4 0)),(5,(.pt 5 0)),(7,zo),(8,zi)],[(3,z0),(4,z1),(5,z3)]⟩ .leaf) .leaf))))) .leaf)))) [(109,some 45,jn)] (.cons oA .nil) (by kernel_rfl) (by kernel_rfl) (fun xs=>by kernel_rfl)
def cF.d1 (a b c d e f g h i j k l m n o p q r s t u v w x y z a0 a1 a2 a3 a4 a5 a6 a7 a8 a9 b0 b1 b2 b3:C):R:=(bif f.B then (some (.again [a,.i (w64 (b.I+a6.I)),.i (w64 (c.I+a7.I)),.i (w64 (d.I+1)),.i (w64 (e.I+1)),g,h,i,j,k,l,m,n,o,p,q,r,s,t,u,v,w,x,y,z,a0,a1])) else (some (.again [a,b,c,d,.i (w64 (e.I+1)),g,h,i,j,k,l,m,n,o,p,q,r,s,t,u,v,w,x,y,z,a0,a1])))
def cF.d2 (a b c d e f g h i j k l m n o p q r s t u v w x y z a0:C):R:=(bif (decide (e.I<(i.L.length:Int))) then (bif (decide (0<=e.I)) then (bif (decide (e.I<(i.L.length:Int))) then (aZ (bif (!((((i.L.getD e.I.toNat []).getD 0 .nil).S).toList==j.S.toList)) then (some (.nrm [a,b,c,d,e,.b ((((i.L.getD e.I.toNat []).getD 11 .nil).S).toList==v.S.toList),f,g,h,i,j,k,l,m,n,o,p,q,r,s,t,u,v,w,x,y,z,a0,((i.L.getD e.I.toNat []).getD 0 .nil),((i.L.getD e.I.toNat []).getD 1 .nil),((i.L.getD e.I.toNat []).getD 2 .nil),((i.L.getD e.I.toNat []).getD 3 .nil),((i.L.getD e.I.toNat []).getD 4 .nil),((i.L.getD e.I.toNat []).getD 5 .nil),((i.L.getD e.I.toNat []).getD 6 .nil),((i.L.getD e.I.toNat []).getD 7 .nil),((i.L.getD e.I.toNat []).getD 8 .nil),((i.L.getD e.I.toNat []).getD 9 .nil),((i.L.getD e.I.toNat []).getD 10 .nil),((i.L.getD e.I.toNat []).getD 11 .nil)])) else (some (.nrm [a,b,c,d,e,.b false,f,g,h,i,j,k,l,m,n,o,p,q,r,s,t,u,v,w,x,y,z,a0,((i.L.getD e.I.toNat []).getD 0 .nil),((i.L.getD e.I.toNat []).getD 1 .nil),((i.L.getD e.I.toNat []).getD 2 .nil),((i.L.getD e.I.toNat []).getD 3 .nil),((i.L.getD e.I.toNat []).getD 4 .nil),((i.L.getD e.I.toNat []).getD 5 .nil),((i.L.getD e.I.toNat []).getD 6 .nil),((i.L.getD e.I.toNat []).getD 7 .nil),((i.L.getD e.I.toNat []).getD 8 .nil),((i.L.getD e.I.toNat []).getD 9 .nil),((i.L.getD e.I.toNat []).getD 10 .nil),((i.L.getD e.I.toNat []).getD 11 .nil)]))) (apn 40 cF.d1)) else none) else none) else (some (.brk 0 [a,b,c,d,f,g,h,i,j,k,l,m,n,o,p,q,r,s,t,u,v,w,x,y,z,a0])))
def cF.d3 (a b c d e f g h i j k l m n o p q r s t u v w x y z:C):R:=(bif d.B then (some (.ret [.i 2])) else (ad (iD [o,u,v,w,x,y,z]) fun a0=>(bif (!a0.B) then (some (.ret [.i 3])) else (ad (bz [e,f,g,h,i,j,k,l,m,n,o,p,q,r,s,t,u,v,w,x,y,z]) fun a1=>(bif a1.B then (some (.ret [.i 4])) else (ad (eU [e,f,g,h,i,j,k,l,m,n,o,p,q,r,s,t,u,v,w,x,y,z]) fun a2=>(bif a2.B then (some (.ret [.i 5])) else (bif (decide (c.I≥10)) then (some (.ret [.i 6])) else (bif (decide (a.I>x.I)) then (some (.ret [.i 7])) else (bif (decide (b.I>y.I)) then (some (.ret [.i 8])) else (some (.ret [.i 0]))))))))))))
def cF.d4 (a b c d e f g h i j k l m n o p q r s t u v w x y z:C):R:=(bif d.B then (some (.ret [.i 1])) else (aZ (bif (!(s.S.toList==(bs #[]).toList)) then (some (.nrm [a,b,c,.b (!(s.S.toList==u.S.toList)),e,f,g,h,i,j,k,l,m,n,o,p,q,r,s,t,u,v,w,x,y,z])) else (some (.nrm [a,b,c,.b false,e,f,g,h,i,j,k,l,m,n,o,p,q,r,s,t,u,v,w,x,y,z]))) (apn 26 cF.d3)))
def cF.d5 (a b c d e f g h i j k l m n o p q r s t u v w x y z:C):R:=(aZ (bif z.B then (some (.nrm [b,c,d,.b (!a.B),e,f,g,h,i,j,k,l,m,n,o,p,q,r,s,t,u,v,w,x,y,z])) else (some (.nrm [b,c,d,.b false,e,f,g,h,i,j,k,l,m,n,o,p,q,r,s,t,u,v,w,x,y,z]))) (apn 26 cF.d4))
def cF.d6 (a b c d e f g h i j k l m n o p q r s t u v w:C):R:=(ah 0 (lim (apn 27 cF.d2) [w,i,j,.i 0,.i 0,a,b,c,d,e,f,g,h,i,j,k,l,m,n,o,p,q,r,s,t,u,v]) (apn 26 cF.d5))
def cF:List C->Option (List C):=fun xs=>aU (apn 23 cF.d6 xs)
def lN:FS:=⟨4,⟨[(0,z2),(1,z5),(2,z10),(3,zo)],[]⟩,⟨[(0,zi)],[]⟩,[],cF⟩
theorem qZ:FK 41 lN:=okO Tryz.f41 lN (.seq .leaf (.seq .leaf (.seq .leaf (.seq .leaf (.seq (.seq .leaf (.block ⟨[(3,zo),(4,(.pt 4 0)),(5,(.pt 5 0)),(6,(.pt 6 0)),(9,zi),(10,zi),(11,zi)],[(4,z0),(5,z1),(6,z3)]⟩ (.loop ⟨[(3,zo),(4,(.pt 4 0)),(5,(.pt 5 0)),(6,(.pt 6 0)),(9,zi),(10,zi),(11,zi),(12,zi)],[(4,z0),(5,z1),(6,z3)]⟩ (.seq .leaf (.seq (.skip (.seq .leaf (.seq (.join ⟨[(3,zo),(4,(.pt 4 0)),(5,(.pt 5 0)),(6,(.pt 6 0)),(9,zi),(10,zi),(11,zi),(12,zi),(13,(.pt 13 0)),(41,zo)],[(4,z0),(5,z1),(6,z3),(13,z1)]⟩ .leaf) .leaf))) .leaf))))) (.seq (.skip (.seq (.join ⟨[(4,(.pt 4 0)),(5,(.pt 5 0)),(6,(.pt 6 0)),(9,zi),(10,zi),(11,zi),(52,zo)],[(4,z0),(5,z1),(6,z3)]⟩ .leaf) (.cond .leaf (.seq (.join ⟨[(4,(.pt 4 0)),(5,(.pt 5 0)),(6,(.pt 6 0)),(9,zi),(10,zi),(11,zi),(59,zo)],[(4,z0),(5,z1),(6,z3)]⟩ .leaf) .leaf)))) .leaf)))))) [(77,some 74,lq),(78,some 80,lW),(79,some 85,sX)] (.cons sD (.cons xA (.cons Fg .nil))) (by kernel_rfl) (by kernel_rfl) (fun xs=>by kernel_rfl)
end
end Go.Ev
namespace Go.Ev
open Go.Proofs
noncomputable section
def aQ.d1 (a b c d e f g h i j k l:C):R:=(bif (decide (b.I<a.I)) then (ad (dX [b]) fun m=>(bif (decide ((bs #[98]).size+m.S.size<=4294967296)) then (call8 (gw [.s ((bs #[98])++m.S),c,d]) fun n o p q r s t u=>(bif (decide (j.L.length+(rows [[n,o,.l u.L,p,q,r]]).length<=4294967296)) then (some (.again [a,.i (w64 (b.I+1)),s,t,e,f,.l g.L,.l h.L,.l i.L,.l (j.L++(rows [[n,o,.l u.L,p,q,r]])),.l k.L,.l l.L])) else none)) else none)) else (some (.brk 0 [c,d,e,f,.l g.L,.l h.L,.l i.L,.l j.L,.l k.L,.l l.L])))
def aQ.d2 (a b c d e f g h i j k:C):R:=(bif (decide (a.I<4)) then (bif (decide (0<=a.I)) then (bif (decide (a.I<((rows [[.s (bs #[99,97,99,104,101])],[.s (bs #[100,98])],[.s (bs #[106,111,98])],[.s (bs #[119,101,98])]]).length:Int))) then (call3 (ae [.i 5,b,c]) fun l m n=>(bif (decide (j.L.length+(rows [[(((rows [[.s (bs #[99,97,99,104,101])],[.s (bs #[100,98])],[.s (bs #[106,111,98])],[.s (bs #[119,101,98])]]).getD a.I.toNat []).getD 0 .nil),l]]).length<=4294967296)) then (some (.again [.i (w64 (a.I+1)),m,n,d,e,.l f.L,.l g.L,.l h.L,.l i.L,.l (j.L++(rows [[(((rows [[.s (bs #[99,97,99,104,101])],[.s (bs #[100,98])],[.s (bs #[106,111,98])],[.s (bs #[119,101,98])]]).getD a.I.toNat []).getD 0 .nil),l]])),.l k.L])) else none)) else none) else none) else (some (.brk 2 [b,c,d,e,.l f.L,.l g.L,.l h.L,.l i.L,.l j.L,.l k.L])))
def aQ.d3 (a b c d e f g h i j k l:C):R:=(bif (decide (b.I>0)) then (call14 (cg [b,c,d]) fun m n o p q r s t u v w x y z=>(call10 (bV [f,.i 3,.s (bs #[]),.s (bs #[]),.i 0,.i 0,.b false,m,n,o,p,q,r,s,t,u,v,w,.s (bs #[]),.s (bs #[]),.l j.L,.l k.L,.l l.L,.l af,.l z.L]) fun a0 a1 a2 a3 a4 a5 a6 a7 a8 a9=>(bif (a1.I==0) then (some (.again [a,.i (w64 (b.I-1)),x,y,e,a0,.l g.L,.l h.L,.l i.L,.l a7.L,.l a8.L,.l a9.L])) else (some (.again [a,.i (w64 (b.I-1)),x,y,e,f,.l g.L,.l h.L,.l i.L,.l a2.L,.l a3.L,.l a4.L]))))) else (some (.brk 4 [a,c,d,e,f,.l g.L,.l h.L,.l i.L,.l j.L,.l k.L,.l l.L])))
def aQ.d4 (a b c d e f g h i j k l m n o p q r s:C):R:=(bif c.B then (bif (decide (0<=b.I)) then (bif (decide (b.I<(s.L.length:Int))) then (call10 (bV [g,.i 5,.s (bs #[]),.s (bs #[]),.i 0,.i 0,.b false,.s (bs #[]),.s (bs #[]),.i 0,.i 0,.i 0,.i 0,.s (bs #[]),.i 0,.s (bs #[]),.s (bs #[]),.s (bs #[]),((s.L.getD b.I.toNat []).getD 0 .nil),h,.l q.L,.l r.L,.l s.L,.l af,.l af]) fun t u v w x y z a0 a1 a2=>(bif (u.I==0) then (some (.again [a,.i (w64 (b.I+1)),d,e,f,t,.l n.L,.l o.L,.l p.L,.l a0.L,.l a1.L,.l a2.L])) else (some (.again [a,.i (w64 (b.I+1)),d,e,f,g,.l n.L,.l o.L,.l p.L,.l v.L,.l w.L,.l x.L])))) else none) else none) else (some (.again [a,.i (w64 (b.I+1)),d,e,f,g,.l n.L,.l o.L,.l p.L,.l q.L,.l r.L,.l s.L])))
def aQ.d5 (a b c d e f g h i j k l:C):R:=(bif (decide (b.I<(l.L.length:Int))) then (call3 (ae [.i 4,c,d]) fun m n o=>(bif (decide (m.I<a.I)) then (call3 (ae [.i (j.L.length:Int),n,o]) fun p q r=>(bif (decide (0<=p.I)) then (bif (decide (p.I<(j.L.length:Int))) then (bif (decide (0<=b.I)) then (bif (decide (b.I<(l.L.length:Int))) then (ad (cF [f,.l j.L,.l k.L,.l l.L,((l.L.getD b.I.toNat []).getD 0 .nil),((l.L.getD b.I.toNat []).getD 1 .nil),((l.L.getD b.I.toNat []).getD 2 .nil),((l.L.getD b.I.toNat []).getD 3 .nil),((l.L.getD b.I.toNat []).getD 4 .nil),((l.L.getD b.I.toNat []).getD 5 .nil),((l.L.getD b.I.toNat []).getD 6 .nil),((l.L.getD b.I.toNat []).getD 7 .nil),((l.L.getD b.I.toNat []).getD 8 .nil),((l.L.getD b.I.toNat []).getD 9 .nil),((l.L.getD b.I.toNat []).getD 10 .nil),((l.L.getD b.I.toNat []).getD 11 .nil),((j.L.getD p.I.toNat []).getD 0 .nil),((j.L.getD p.I.toNat []).getD 1 .nil),((j.L.getD p.I.toNat []).getD 2 .nil),((j.L.getD p.I.toNat []).getD 3 .nil),((j.L.getD p.I.toNat []).getD 4 .nil),((j.L.getD p.I.toNat []).getD 5 .nil),.b true]) fun s=>(aZ (bif (!(s.I==0)) then (bif (decide (s.I<6)) then (call3 (ae [.i 8,q,r]) fun t u v=>(some (.nrm [a,b,.b (t.I==0),u,v,e,f,((j.L.getD p.I.toNat []).getD 0 .nil),((j.L.getD p.I.toNat []).getD 1 .nil),((j.L.getD p.I.toNat []).getD 2 .nil),((j.L.getD p.I.toNat []).getD 3 .nil),((j.L.getD p.I.toNat []).getD 4 .nil),((j.L.getD p.I.toNat []).getD 5 .nil),.l g.L,.l h.L,.l i.L,.l j.L,.l k.L,.l l.L]))) else (some (.nrm [a,b,.b false,q,r,e,f,((j.L.getD p.I.toNat []).getD 0 .nil),((j.L.getD p.I.toNat []).getD 1 .nil),((j.L.getD p.I.toNat []).getD 2 .nil),((j.L.getD p.I.toNat []).getD 3 .nil),((j.L.getD p.I.toNat []).getD 4 .nil),((j.L.getD p.I.toNat []).getD 5 .nil),.l g.L,.l h.L,.l i.L,.l j.L,.l k.L,.l l.L]))) else (some (.nrm [a,b,.b true,q,r,e,f,((j.L.getD p.I.toNat []).getD 0 .nil),((j.L.getD p.I.toNat []).getD 1 .nil),((j.L.getD p.I.toNat []).getD 2 .nil),((j.L.getD p.I.toNat []).getD 3 .nil),((j.L.getD p.I.toNat []).getD 4 .nil),((j.L.getD p.I.toNat []).getD 5 .nil),.l g.L,.l h.L,.l i.L,.l j.L,.l k.L,.l l.L]))) (apn 19 aQ.d4))) else none) else none) else none) else none)) else (some (.again [a,.i (w64 (b.I+1)),n,o,e,f,.l g.L,.l h.L,.l i.L,.l j.L,.l k.L,.l l.L])))) else (some (.brk 6 [c,d,e,f,.l g.L,.l h.L,.l i.L,.l j.L,.l k.L,.l l.L])))
def aQ.d6 (a b c d e f g h i j:C):R:=(some (.ret [d,a,b,.l h.L,.l i.L,.l j.L]))
def aQ.d7 (a b c d e f g h i j k:C):R:=(ah 6 (lim (apn 12 aQ.d5) [a,.i 0,b,c,d,e,.l f.L,.l g.L,.l h.L,.l i.L,.l j.L,.l k.L]) (apn 10 aQ.d6))
def aQ.d8 (a b c d e f g h i j:C):R:=(call3 (ae [.i 4,a,b]) fun k l m=>(call3 (ae [.i 14,l,m]) fun n o p=>(ah 4 (lim (apn 12 aQ.d3) [k,.i (w64 (1+n.I)),o,p,c,d,.l e.L,.l f.L,.l g.L,.l h.L,.l i.L,.l j.L]) (apn 11 aQ.d7))))
def aQ.d9 (a b c d e f g h i j:C):R:=(ah 2 (lim (apn 11 aQ.d2) [.i 0,a,b,c,d,.l e.L,.l f.L,.l g.L,.l h.L,.l i.L,.l j.L]) (apn 10 aQ.d8))
def aQ.d10 (a b:C):R:=(call3 (ae [.i 2,a,b]) fun c d e=>(call3 (ae [.i 5,d,e]) fun f g h=>(ah 0 (lim (apn 12 aQ.d1) [.i (w64 (1+f.I)),.i 0,g,h,.b false,.b (c.I==0),.l af,.l af,.l af,.l af,.l af,.l af]) (apn 10 aQ.d9))))
def aQ:List C->Option (List C):=fun xs=>aU (apn 2 aQ.d10 xs)
def rA:FS:=⟨1,⟨[(0,(.pt 2000 0))],[(2000,z4)]⟩,⟨[(0,(.ag [zo,(.ow 3001),(.ow 3002),(.ow 3003)]))],[(2000,z4),(3001,.arr 72),(3002,.arr 40 1),(3003,.arr 38)]⟩,[2000],aQ⟩
theorem DF:FK 90 rA:=okP [35] false Tryz.f90 rA (.seq .leaf (.seq .leaf (.seq .leaf (.seq (.seq .leaf (.block ⟨[(0,(.pt 2000 0)),(2,(.pt 2 0)),(3,(.pt 3 0))],[(2000,z4),(2,z7),(3,z8),(1036800,.arr 72 1),(1036801,.arr 40 1),(1036802,.arr 38 1),(1036803,.arr 72 1),(1036804,.arr 40 1),(1036805,.arr 38 1)]⟩ (.loop ⟨[(0,(.pt 2000 0)),(2,(.pt 2 0)),(3,(.pt 3 0)),(4,zi),(5,zi)],[(2000,z4),(2,z7),(3,z8),(1036800,.arr 72 1),(1036801,.arr 40 1),(1036802,.arr 38 1),(1036803,.arr 72 1),(1036804,.arr 40 1),(1036805,.arr 38 1)]⟩ .leaf))) (.seq (.seq .leaf (.block ⟨[(0,(.pt 2000 0)),(2,(.pt 2 0)),(3,(.pt 3 0))],[(2000,z4),(2,z7),(3,z8),(1036800,.arr 72 1),(1036801,.arr 40 1),(1036802,.arr 38 1),(1036803,.arr 72 1),(1036804,.arr 40 1),(1036805,.arr 38 1)]⟩ (.loop ⟨[(0,(.pt 2000 0)),(2,(.pt 2 0)),(3,(.pt 3 0)),(6,zi)],[(2000,z4),(2,z7),(3,z8),(1036800,.arr 72 1),(1036801,.arr 40 1),(1036802,.arr 38 1),(1036803,.arr 72 1),(1036804,.arr 40 1),(1036805,.arr 38 1)]⟩ .leaf))) (.seq .leaf (.seq (.seq .leaf (.block ⟨[(0,(.pt 2000 0)),(2,(.pt 2 0)),(3,(.pt 3 0)),(7,zi)],[(2000,z4),(2,z7),(3,z8),(1036800,.arr 72 1),(1036801,.arr 40 1),(1036802,.arr 38 1),(1036803,.arr 72),(1036804,.arr 40 1),(1036805,.arr 38)]⟩ (.loop ⟨[(0,(.pt 2000 0)),(2,(.pt 2 0)),(3,(.pt 3 0)),(7,zi),(8,zi)],[(2000,z4),(2,z7),(3,z8),(1036800,.arr 72 1),(1036801,.arr 40 1),(1036802,.arr 38 1),(1036803,.arr 72),(1036804,.arr 40 1),(1036805,.arr 38)]⟩ .leaf))) (.seq (.seq .leaf (.block ⟨[(2,(.pt 2 0)),(3,(.pt 3 0))],[(2000,z4),(2,z7),(3,z8),(1036800,.arr 72 1),(1036801,.arr 40 1),(1036802,.arr 38 1),(1036803,.arr 72),(1036804,.arr 40 1),(1036805,.arr 38)]⟩ (.loop ⟨[(0,(.pt 2000 0)),(2,(.pt 2 0)),(3,(.pt 3 0)),(7,zi),(11,zi)],[(2000,z4),(2,z7),(3,z8),(1036800,.arr 72 1),(1036801,.arr 40 1),(1036802,.arr 38 1),(1036803,.arr 72),(1036804,.arr 40 1),(1036805,.arr 38)]⟩ (.seq .leaf (.seq (.skip (.seq .leaf (.cond (.seq .leaf (.seq .leaf (.seq (.join ⟨[(0,(.pt 2000 0)),(2,(.pt 2 0)),(3,(.pt 3 0)),(7,zi),(11,zi),(12,(.pt 12 0)),(113,zo)],[(2000,z4),(2,z7),(3,z8),(12,z3),(1036800,.arr 72 1),(1036801,.arr 40 1),(1036802,.arr 38 1),(1036803,.arr 72),(1036804,.arr 40 1),(1036805,.arr 38)]⟩ .leaf) .leaf))) .leaf))) .leaf))))) .leaf)))))))) [(27,some 17,aa),(27,some 21,aa),(27,some 49,aa),(27,some 55,aa),(27,some 57,aa),(27,some 83,aa),(27,some 92,aa),(27,some 110,aa),(41,some 102,lN),(89,some 32,(fD dX)),(92,some 67,jt),(93,some 69,fI),(93,some 125,fI),(129,some 34,kH)] (.cons ab (.cons ab (.cons ab (.cons ab (.cons ab (.cons ab (.cons ab (.cons ab (.cons qZ (.cons pz (.cons qk (.cons jH (.cons jH (.cons vK .nil)))))))))))))) (by kernel_rfl) (by kernel_rfl) (fun xs=>by kernel_rfl)
def cw.d1 (a b c d e f g h i j k l m:C):R:=(bif (decide (a.I<(c.L.length:Int))) then (bif (decide (0<=a.I)) then (bif (decide (a.I<(c.L.length:Int))) then (call6 (gS [((c.L.getD a.I.toNat []).getD 0 .nil),((c.L.getD a.I.toNat []).getD 1 .nil),((c.L.getD a.I.toNat []).getD 2 .nil),((c.L.getD a.I.toNat []).getD 3 .nil),((c.L.getD a.I.toNat []).getD 4 .nil),((c.L.getD a.I.toNat []).getD 5 .nil)]) fun n o p q r s=>(bif (decide (k.L.length+(rows [[n,o,.l s.L,p,q,r]]).length<=4294967296)) then (some (.again [.i (w64 (a.I+1)),b,c,d,e,f,g,.l h.L,.l i.L,.l j.L,.l (k.L++(rows [[n,o,.l s.L,p,q,r]])),.l l.L,.l m.L])) else none)) else none) else none) else (some (.brk 0 [b,c,d,e,f,g,.l h.L,.l i.L,.l j.L,.l k.L,.l l.L,.l m.L])))
def cw.d2 (a b c d e f g h i j k l m:C):R:=(bif (decide (a.I<(e.L.length:Int))) then (bif (decide (0<=a.I)) then (bif (decide (a.I<(e.L.length:Int))) then (call12 (iJ [((e.L.getD a.I.toNat []).getD 0 .nil),((e.L.getD a.I.toNat []).getD 1 .nil),((e.L.getD a.I.toNat []).getD 2 .nil),((e.L.getD a.I.toNat []).getD 3 .nil),((e.L.getD a.I.toNat []).getD 4 .nil),((e.L.getD a.I.toNat []).getD 5 .nil),((e.L.getD a.I.toNat []).getD 6 .nil),((e.L.getD a.I.toNat []).getD 7 .nil),((e.L.getD a.I.toNat []).getD 8 .nil),((e.L.getD a.I.toNat []).getD 9 .nil),((e.L.getD a.I.toNat []).getD 10 .nil),((e.L.getD a.I.toNat []).getD 11 .nil)]) fun n o p q r s t u v w x y=>(bif (decide (m.L.length+(rows [[n,o,p,q,r,s,t,.l y.L,u,v,w,x]]).length<=4294967296)) then (some (.again [.i (w64 (a.I+1)),b,c,d,e,f,g,.l h.L,.l i.L,.l j.L,.l k.L,.l l.L,.l (m.L++(rows [[n,o,p,q,r,s,t,.l y.L,u,v,w,x]]))])) else none)) else none) else none) else (some (.brk 2 [f,g,.l h.L,.l i.L,.l j.L,.l k.L,.l l.L,.l m.L])))
def cw.d3 (a b c d e f g h:C):R:=(some (.ret [b,.l f.L,.l g.L,.l h.L]))
def cw.d4 (a b c d e f g h i j k l:C):R:=(ah 2 (lim (apn 13 cw.d2) [.i 0,a,b,c,d,e,f,.l g.L,.l h.L,.l i.L,.l j.L,.l k.L,.l l.L]) (apn 8 cw.d3))
def cw.d5 (a b c d:C):R:=(bif (decide (af.length+c.L.length<=4294967296)) then (ah 0 (lim (apn 13 cw.d1) [.i 0,a,b,c,d,.b false,.b a.B,.l af,.l af,.l af,.l af,.l (af++c.L),.l af]) (apn 12 cw.d4)) else none)
def cw:List C->Option (List C):=fun xs=>aU (apn 4 cw.d5 xs)
def ky:FS:=⟨1,⟨[(0,z2)],[]⟩,⟨[(0,z15)],[(3000,.arr 72 1),(3001,.arr 40 1),(3002,.arr 38 1)]⟩,[],cw⟩
theorem pC:FK 76 ky:=okP [28,46] false Tryz.f76 ky (.seq .leaf (.seq .leaf (.seq (.seq .leaf (.block ⟨[(1,(.pt 1 0)),(2,(.pt 2 0)),(3,(.pt 3 0))],[(1,z0),(2,z11),(3,z12),(1164200,.arr 72 1),(1164201,.arr 40 1),(1164202,.arr 38 1),(1164203,.arr 72 1),(8,.arr 40 1),(1164204,.arr 38 1)]⟩ (.loop ⟨[(1,(.pt 1 0)),(2,(.pt 2 0)),(3,(.pt 3 0)),(4,zi)],[(1,z0),(2,z11),(3,z12),(1164200,.arr 72 1),(1164201,.arr 40 1),(1164202,.arr 38 1),(1164203,.arr 72 1),(8,.arr 40 1),(1164204,.arr 38 1)]⟩ .leaf))) (.seq (.seq .leaf (.block ⟨[(2,(.pt 2 0)),(3,(.pt 3 0))],[(2,z11),(3,z12),(1164200,.arr 72 1),(1164201,.arr 40 1),(1164202,.arr 38 1),(1164203,.arr 72 1),(8,.arr 40 1),(1164204,.arr 38 1)]⟩ (.loop ⟨[(1,(.pt 1 0)),(2,(.pt 2 0)),(3,(.pt 3 0)),(5,zi)],[(1,z0),(2,z11),(3,z12),(1164200,.arr 72 1),(1164201,.arr 40 1),(1164202,.arr 38 1),(1164203,.arr 72 1),(8,.arr 40 1),(1164204,.arr 38 1)]⟩ .leaf))) .leaf)))) [(104,some 27,kx),(105,some 45,lx)] (.cons qU (.cons sH .nil)) (by kernel_rfl) (by kernel_rfl) (fun xs=>by kernel_rfl)
def jO.d1 (a b c d e f g h i j k l m n o p q r s t u v w x:C):R:=(bif (c.I !=o.I) then (some (.ret [.b (decide (c.I>o.I))])) else (bif (d.I !=p.I) then (some (.ret [.b (decide (d.I<p.I))])) else (some (.ret [.b (Op.bytesLess a.S.toList m.S.toList)]))))
def jO:List C->Option (List C):=fun xs=>aU (apn 24 jO.d1 xs)
def py:FS:=⟨2,⟨[(0,z5),(1,z5)],[]⟩,⟨[(0,zo)],[]⟩,[],jO⟩
theorem BC:FK 115 py:=okO Tryz.f115 py .leaf [] .nil (by kernel_rfl) (by kernel_rfl) (fun xs=>by kernel_rfl)
def bp.d1 (a b c d e f g:C):R:=(bif (decide (b.I<(g.L.length:Int))) then (bif (decide (0<=b.I)) then (bif (decide (b.I<(g.L.length:Int))) then (bif (decide (0<=a.I)) then (bif (decide (a.I<(f.L.length:Int))) then (ad (jO [((g.L.getD b.I.toNat []).getD 0 .nil),((g.L.getD b.I.toNat []).getD 1 .nil),((g.L.getD b.I.toNat []).getD 2 .nil),((g.L.getD b.I.toNat []).getD 3 .nil),((g.L.getD b.I.toNat []).getD 4 .nil),((g.L.getD b.I.toNat []).getD 5 .nil),((g.L.getD b.I.toNat []).getD 6 .nil),((g.L.getD b.I.toNat []).getD 7 .nil),((g.L.getD b.I.toNat []).getD 8 .nil),((g.L.getD b.I.toNat []).getD 9 .nil),((g.L.getD b.I.toNat []).getD 10 .nil),((g.L.getD b.I.toNat []).getD 11 .nil),((f.L.getD a.I.toNat []).getD 0 .nil),((f.L.getD a.I.toNat []).getD 1 .nil),((f.L.getD a.I.toNat []).getD 2 .nil),((f.L.getD a.I.toNat []).getD 3 .nil),((f.L.getD a.I.toNat []).getD 4 .nil),((f.L.getD a.I.toNat []).getD 5 .nil),((f.L.getD a.I.toNat []).getD 6 .nil),((f.L.getD a.I.toNat []).getD 7 .nil),((f.L.getD a.I.toNat []).getD 8 .nil),((f.L.getD a.I.toNat []).getD 9 .nil),((f.L.getD a.I.toNat []).getD 10 .nil),((f.L.getD a.I.toNat []).getD 11 .nil)]) fun h=>(bif h.B then (some (.again [a,.i (w64 (b.I+1)),c,d,e,f,.l g.L])) else (some (.brk 2 [a,b,c,d,e,f,.l g.L])))) else none) else none) else none) else none) else (some (.brk 2 [a,b,c,d,e,f,.l g.L])))
def bp.d2 (a b c d e f g:C):R:=(bif (decide (0<=b.I)) then (bif (decide (b.I<=(g.L.length:Int))) then (bif (decide (af.length+((g.L.take b.I.toNat).drop 0).length<=4294967296)) then (bif (decide (0<=a.I)) then (bif (decide (a.I<(f.L.length:Int))) then (bif (decide ((af++((g.L.take b.I.toNat).drop 0)).length+(rows [[((f.L.getD a.I.toNat []).getD 0 .nil),((f.L.getD a.I.toNat []).getD 1 .nil),((f.L.getD a.I.toNat []).getD 2 .nil),((f.L.getD a.I.toNat []).getD 3 .nil),((f.L.getD a.I.toNat []).getD 4 .nil),((f.L.getD a.I.toNat []).getD 5 .nil),((f.L.getD a.I.toNat []).getD 6 .nil),((f.L.getD a.I.toNat []).getD 7 .nil),((f.L.getD a.I.toNat []).getD 8 .nil),((f.L.getD a.I.toNat []).getD 9 .nil),((f.L.getD a.I.toNat []).getD 10 .nil),((f.L.getD a.I.toNat []).getD 11 .nil)]]).length<=4294967296)) then (bif (decide (0<=b.I)) then (bif (decide (b.I<=(g.L.length:Int))) then (bif (decide ((g.L.length:Int)<=(g.L.length:Int))) then (bif (decide (((af++((g.L.take b.I.toNat).drop 0))++(rows [[((f.L.getD a.I.toNat []).getD 0 .nil),((f.L.getD a.I.toNat []).getD 1 .nil),((f.L.getD a.I.toNat []).getD 2 .nil),((f.L.getD a.I.toNat []).getD 3 .nil),((f.L.getD a.I.toNat []).getD 4 .nil),((f.L.getD a.I.toNat []).getD 5 .nil),((f.L.getD a.I.toNat []).getD 6 .nil),((f.L.getD a.I.toNat []).getD 7 .nil),((f.L.getD a.I.toNat []).getD 8 .nil),((f.L.getD a.I.toNat []).getD 9 .nil),((f.L.getD a.I.toNat []).getD 10 .nil),((f.L.getD a.I.toNat []).getD 11 .nil)]])).length+((g.L.take (g.L.length:Int).toNat).drop b.I.toNat).length<=4294967296)) then (some (.brk 1 [a,c,d,e,f,.l (((af++((g.L.take b.I.toNat).drop 0))++(rows [[((f.L.getD a.I.toNat []).getD 0 .nil),((f.L.getD a.I.toNat []).getD 1 .nil),((f.L.getD a.I.toNat []).getD 2 .nil),((f.L.getD a.I.toNat []).getD 3 .nil),((f.L.getD a.I.toNat []).getD 4 .nil),((f.L.getD a.I.toNat []).getD 5 .nil),((f.L.getD a.I.toNat []).getD 6 .nil),((f.L.getD a.I.toNat []).getD 7 .nil),((f.L.getD a.I.toNat []).getD 8 .nil),((f.L.getD a.I.toNat []).getD 9 .nil),((f.L.getD a.I.toNat []).getD 10 .nil),((f.L.getD a.I.toNat []).getD 11 .nil)]]))++((g.L.take (g.L.length:Int).toNat).drop b.I.toNat))])) else none) else none) else none) else none) else none) else none) else none) else none) else none) else none)
def bp.d3 (a b c d e f:C):R:=(some (.again [.i (w64 (a.I+1)),b,c,d,e,.l f.L]))
def bp.d4 (a b c d e f:C):R:=(bif (decide (a.I<(e.L.length:Int))) then (ah 1 (bif (decide (0<=a.I)) then (bif (decide (a.I<(e.L.length:Int))) then (bif (!((((e.L.getD a.I.toNat []).getD 11 .nil).S).toList==(bs #[]).toList)) then (some (.brk 1 [a,b,c,d,e,.l f.L])) else (ah 2 (lim (apn 7 bp.d1) [a,.i 0,b,c,d,e,.l f.L]) (apn 7 bp.d2))) else none) else none) (apn 6 bp.d3)) else (some (.brk 0 [.l f.L])))
def bp.d5 (a b c:C):R:=(bif (decide (a.I<(b.L.length:Int))) then (bif (decide (0<=a.I)) then (bif (decide (a.I<(b.L.length:Int))) then (bif (decide (c.L.length+(rows [[((b.L.getD a.I.toNat []).getD 0 .nil)]]).length<=4294967296)) then (some (.again [.i (w64 (a.I+1)),.l b.L,.l (c.L++(rows [[((b.L.getD a.I.toNat []).getD 0 .nil)]]))])) else none) else none) else none) else (some (.brk 4 [.l c.L])))
def bp.d6 (a:C):R:=(some (.ret [.l a.L]))
def bp.d7 (a:C):R:=(ah 4 (lim (apn 3 bp.d5) [.i 0,.l a.L,.l af]) (apn 1 bp.d6))
def bp.d8 (a b c d:C):R:=(ah 0 (lim (apn 6 bp.d4) [.i 0,a,b,c,d,.l af]) (apn 1 bp.d7))
def bp:List C->Option (List C):=fun xs=>aU (apn 4 bp.d8 xs)
def mn:FS:=⟨1,⟨[(0,z2)],[]⟩,⟨[(0,(.ow 3000))],[(3000,.arr 9 1)]⟩,[],bp⟩
theorem tN:FK 83 mn:=okP [51] false Tryz.f83 mn (.seq .leaf (.seq .leaf (.seq (.seq .leaf (.block ⟨[(3,(.ow 8))],[(8,.arr 38)]⟩ (.loop ⟨[(1,(.pt 1 0)),(3,(.ow 8)),(4,zi)],[(1,z0),(8,.arr 38)]⟩ (.seq .leaf (.seq (.block ⟨[(1,(.pt 1 0)),(3,(.ow 8)),(4,zi)],[(1,z0),(8,.arr 38)]⟩ (.seq .leaf (.seq .leaf (.seq (.block ⟨[(1,(.pt 1 0)),(3,(.ow 8)),(4,zi),(5,zi)],[(1,z0),(8,.arr 38)]⟩ (.loop ⟨[(1,(.pt 1 0)),(3,(.ow 8)),(4,zi),(5,zi)],[(1,z0),(8,.arr 38)]⟩ .leaf)) .leaf)))) .leaf))))) (.seq .leaf (.seq (.seq .leaf (.block ⟨[(6,(.ow 57))],[(57,.arr 9 1)]⟩ (.loop ⟨[(3,(.ow 8)),(6,(.ow 57)),(7,zi)],[(8,.arr 38),(57,.arr 9 1)]⟩ .leaf))) .leaf))))) [(115,some 37,py)] (.cons BC .nil) (by kernel_rfl) (by kernel_rfl) (fun xs=>by kernel_rfl)
def bq.d1 (a b c d e f g h i j k l m n o p q r s t u v w x y z a0 a1 a2 a3 a4:C):R:=(bif (decide (a.I<(m.L.length:Int))) then (bif (decide (0<=a.I)) then (bif (decide (a.I<(m.L.length:Int))) then (ad (iD [((m.L.getD a.I.toNat []).getD 0 .nil),r,s,t,u,v,w]) fun a5=>(bif a5.B then (bif (decide (0<=a.I)) then (bif (decide (a.I<(m.L.length:Int))) then (some (.again [.i (w64 (a.I+1)),b,c,d,e,f,g,h,i,j,k,l,m,n,o,p,q,r,s,t,u,v,w,x,y,z,a0,.i (w64 (a1.I+((m.L.getD a.I.toNat []).getD 1 .nil).I)),a2,a3,a4])) else none) else none) else (some (.again [.i (w64 (a.I+1)),b,c,d,e,f,g,h,i,j,k,l,m,n,o,p,q,r,s,t,u,v,w,x,y,z,a0,a1,a2,a3,a4])))) else none) else none) else (some (.brk 0 [b,c,d,e,f,g,h,i,j,k,l,m,n,o,p,q,r,s,t,u,v,w,x,y,z,a0,a1,a2,a3,a4])))
def bq.d2 (a b c d e f g h i j k l m n o p q r s t u v w x y z a0 a1 a2 a3 a4 a5 a6 a7 a8 a9 b0 b1 b2 b3 b4 b5 b6:C):R:=(bif (a6.S.toList==g.S.toList) then (ad (hP [b,c,d,e,b6]) fun b7=>(bif (b7.S.toList==s.S.toList) then (some (.brk 3 [a,b,c,d,e,f,g,h,i,j,k,l,m,n,o,p,q,r,s,t,u,v,w,x,y,z,a0,a1,.i (w64 (a2.I+1)),a3,a4])) else (some (.brk 3 [a,b,c,d,e,f,g,h,i,j,k,l,m,n,o,p,q,r,s,t,u,v,w,x,y,z,a0,a1,a2,a3,a4])))) else (some (.brk 3 [a,b,c,d,e,f,g,h,i,j,k,l,m,n,o,p,q,r,s,t,u,v,w,x,y,z,a0,a1,a2,a3,a4])))
def bq.d3 (a b c d e f g h i j k l m n o p q r s t u v w x y z a0 a1 a2 a3 a4 a5 a6 a7 a8 a9 b0 b1 b2 b3 b4 b5 b6:C):R:=(aZ (bif (a6.S.toList==g.S.toList) then (bif (b6.S.toList==r.S.toList) then (some (.nrm [a,b,c,d,e,f,g,h,i,j,k,l,m,n,o,p,q,r,s,t,u,v,w,x,y,z,a0,a1,a2,.i (w64 (a3.I+1)),a4,a5,a6,a7,a8,a9,b0,b1,b2,b3,b4,b5,b6])) else (some (.nrm [a,b,c,d,e,f,g,h,i,j,k,l,m,n,o,p,q,r,s,t,u,v,w,x,y,z,a0,a1,a2,a3,a4,a5,a6,a7,a8,a9,b0,b1,b2,b3,b4,b5,b6]))) else (some (.nrm [a,b,c,d,e,f,g,h,i,j,k,l,m,n,o,p,q,r,s,t,u,v,w,x,y,z,a0,a1,a2,a3,a4,a5,a6,a7,a8,a9,b0,b1,b2,b3,b4,b5,b6]))) (fun xs=>bq.d2 (xs.getD 0 .nil) (xs.getD 1 .nil) (xs.getD 2 .nil) (xs.getD 3 .nil) (xs.getD 4 .nil) (xs.getD 5 .nil) (xs.getD 6 .nil) (xs.getD 7 .nil) (xs.getD 8 .nil) (xs.getD 9 .nil) (xs.getD 10 .nil) (xs.getD 11 .nil) (xs.getD 12 .nil) (xs.getD 13 .nil) (xs.getD 14 .nil) (xs.getD 15 .nil) (xs.getD 16 .nil) (xs.getD 17 .nil) (xs.getD 18 .nil) (xs.getD 19 .nil) (xs.getD 20 .nil) (xs.getD 21 .nil) (xs.getD 22 .nil) (xs.getD 23 .nil) (xs.getD 24 .nil) (xs.getD 25 .nil) (xs.getD 26 .nil) (xs.getD 27 .nil) (xs.getD 28 .nil) (xs.getD 29 .nil) (xs.getD 30 .nil) (xs.getD 31 .nil) (xs.getD 32 .nil) (xs.getD 33 .nil) (xs.getD 34 .nil) (xs.getD 35 .nil) (xs.getD 36 .nil) (xs.getD 37 .nil) (xs.getD 38 .nil) (xs.getD 39 .nil) (xs.getD 40 .nil) (xs.getD 41 .nil) (xs.getD 42 .nil)))
def bq.d4 (a b c d e f g h i j k l m n o p q r s t u v w x y z a0 a1 a2 a3 a4:C):R:=(some (.again [.i (w64 (a.I+1)),b,c,d,e,f,g,h,i,j,k,l,m,n,o,p,q,r,s,t,u,v,w,x,y,z,a0,a1,a2,a3,a4]))
def bq.d5 (a b c d e f g h i j k l m n o p q r s t u v w x y z a0 a1 a2 a3 a4:C):R:=(bif (decide (a.I<(e.L.length:Int))) then (ah 3 (bif (decide (0<=a.I)) then (bif (decide (a.I<(e.L.length:Int))) then (bif (!((((e.L.getD a.I.toNat []).getD 0 .nil).S).toList==f.S.toList)) then (bif ((((e.L.getD a.I.toNat []).getD 11 .nil).S).toList==(bs #[]).toList) then (some (.brk 3 [a,b,c,d,e,f,g,h,i,j,k,l,m,n,o,p,q,r,s,t,u,v,w,x,y,z,a0,a1,a2,a3,a4])) else (aZ (bif ((((e.L.getD a.I.toNat []).getD 11 .nil).S).toList==r.S.toList) then (some (.nrm [a,b,c,d,e,f,g,h,i,j,k,l,m,n,o,p,q,r,s,t,u,v,w,x,y,z,a0,a1,a2,a3,.i (w64 (a4.I-((e.L.getD a.I.toNat []).getD 4 .nil).I)),((e.L.getD a.I.toNat []).getD 0 .nil),((e.L.getD a.I.toNat []).getD 1 .nil),((e.L.getD a.I.toNat []).getD 2 .nil),((e.L.getD a.I.toNat []).getD 3 .nil),((e.L.getD a.I.toNat []).getD 4 .nil),((e.L.getD a.I.toNat []).getD 5 .nil),((e.L.getD a.I.toNat []).getD 6 .nil),((e.L.getD a.I.toNat []).getD 7 .nil),((e.L.getD a.I.toNat []).getD 8 .nil),((e.L.getD a.I.toNat []).getD 9 .nil),((e.L.getD a.I.toNat []).getD 10 .nil),((e.L.getD a.I.toNat []).getD 11 .nil)])) else (some (.nrm [a,b,c,d,e,f,g,h,i,j,k,l,m,n,o,p,q,r,s,t,u,v,w,x,y,z,a0,a1,a2,a3,a4,((e.L.getD a.I.toNat []).getD 0 .nil),((e.L.getD a.I.toNat []).getD 1 .nil),((e.L.getD a.I.toNat []).getD 2 .nil),((e.L.getD a.I.toNat []).getD 3 .nil),((e.L.getD a.I.toNat []).getD 4 .nil),((e.L.getD a.I.toNat []).getD 5 .nil),((e.L.getD a.I.toNat []).getD 6 .nil),((e.L.getD a.I.toNat []).getD 7 .nil),((e.L.getD a.I.toNat []).getD 8 .nil),((e.L.getD a.I.toNat []).getD 9 .nil),((e.L.getD a.I.toNat []).getD 10 .nil),((e.L.getD a.I.toNat []).getD 11 .nil)]))) (fun xs=>bq.d3 (xs.getD 0 .nil) (xs.getD 1 .nil) (xs.getD 2 .nil) (xs.getD 3 .nil) (xs.getD 4 .nil) (xs.getD 5 .nil) (xs.getD 6 .nil) (xs.getD 7 .nil) (xs.getD 8 .nil) (xs.getD 9 .nil) (xs.getD 10 .nil) (xs.getD 11 .nil) (xs.getD 12 .nil) (xs.getD 13 .nil) (xs.getD 14 .nil) (xs.getD 15 .nil) (xs.getD 16 .nil) (xs.getD 17 .nil) (xs.getD 18 .nil) (xs.getD 19 .nil) (xs.getD 20 .nil) (xs.getD 21 .nil) (xs.getD 22 .nil) (xs.getD 23 .nil) (xs.getD 24 .nil) (xs.getD 25 .nil) (xs.getD 26 .nil) (xs.getD 27 .nil) (xs.getD 28 .nil) (xs.getD 29 .nil) (xs.getD 30 .nil) (xs.getD 31 .nil) (xs.getD 32 .nil) (xs.getD 33 .nil) (xs.getD 34 .nil) (xs.getD 35 .nil) (xs.getD 36 .nil) (xs.getD 37 .nil) (xs.getD 38 .nil) (xs.getD 39 .nil) (xs.getD 40 .nil) (xs.getD 41 .nil) (xs.getD 42 .nil)))) else (some (.brk 3 [a,b,c,d,e,f,g,h,i,j,k,l,m,n,o,p,q,r,s,t,u,v,w,x,y,z,a0,a1,a2,a3,a4]))) else none) else none) (apn 31 bq.d4)) else (some (.brk 2 [x,y,z,a0,a1,a2,a3,a4])))
def bq.d6 (a b c d e f g h:C):R:=(some (.ret [e,f,g,h]))
def bq.d7 (a b c d e f g h i j k l m n o p q r s t u v w x y z a0 a1 a2 a3:C):R:=(ah 2 (lim (apn 31 bq.d5) [.i 0,a,b,c,d,e,f,g,h,i,j,k,l,m,n,o,p,q,r,s,t,u,v,w,x,y,z,a0,a1,a2,a3]) (apn 8 bq.d6))
def bq.d8 (a b c d e f g h i j k l m n o p q r s t u v:C):R:=(ah 0 (lim (apn 31 bq.d1) [.i 0,a,b,c,d,e,f,g,h,i,j,k,l,m,n,o,p,q,r,s,t,u,v,.i 0,.i 0,.i 0,.i 0,.i 0,.i 0,.i 0,.i (w64 (t.I-i.I))]) (apn 30 bq.d7))
def bq:List C->Option (List C):=fun xs=>aU (apn 22 bq.d8 xs)
def mu:FS:=⟨3,⟨[(0,z2),(1,z5),(2,z10)],[]⟩,⟨[(0,(.ag [zi,zi,zi,zi]))],[]⟩,[],bq⟩
theorem ve:FK 133 mu:=okO Tryz.f133 mu (.seq .leaf (.seq .leaf (.seq (.seq .leaf (.block ⟨[(3,(.pt 3 0)),(4,(.pt 4 0)),(5,(.pt 5 0)),(6,(.pt 6 0)),(7,(.pt 7 0))],[(3,z0),(4,z1),(5,z3),(6,z13),(7,z13)]⟩ (.loop ⟨[(3,(.pt 3 0)),(4,(.pt 4 0)),(5,(.pt 5 0)),(6,(.pt 6 0)),(7,(.pt 7 0)),(8,zi)],[(3,z0),(4,z1),(5,z3),(6,z13),(7,z13)]⟩ .leaf))) (.seq (.seq .leaf (.block ⟨[(6,(.pt 6 0)),(7,(.pt 7 0))],[(6,z13),(7,z13)]⟩ (.loop ⟨[(3,(.pt 3 0)),(4,(.pt 4 0)),(5,(.pt 5 0)),(6,(.pt 6 0)),(7,(.pt 7 0)),(9,zi)],[(3,z0),(4,z1),(5,z3),(6,z13),(7,z13)]⟩ (.seq .leaf (.seq (.block ⟨[(3,(.pt 3 0)),(4,(.pt 4 0)),(5,(.pt 5 0)),(6,(.pt 6 0)),(7,(.pt 7 0)),(9,zi)],[(3,z0),(4,z1),(5,z3),(6,z13),(7,z13)]⟩ (.seq .leaf (.seq .leaf (.seq (.join ⟨[(3,(.pt 3 0)),(4,(.pt 4 0)),(5,(.pt 5 0)),(6,(.pt 6 0)),(7,(.pt 7 0)),(9,zi),(10,(.pt 10 0))],[(3,z0),(4,z1),(5,z3),(6,z13),(7,z13),(10,z1)]⟩ .leaf) (.seq (.join ⟨[(3,(.pt 3 0)),(4,(.pt 4 0)),(5,(.pt 5 0)),(6,(.pt 6 0)),(7,(.pt 7 0)),(9,zi),(10,(.pt 10 0))],[(3,z0),(4,z1),(5,z3),(6,z13),(7,z13),(10,z1)]⟩ .leaf) .leaf))))) .leaf))))) .leaf)))) [(77,some 31,lq),(109,some 100,jn)] (.cons sD (.cons oA .nil)) (by kernel_rfl) (by kernel_rfl) (fun xs=>by kernel_rfl)
def gA.d1 (a b c d e f g h i:C):R:=(bif (a.I !=e.I) then (some (.ret [.b (decide (a.I>e.I))])) else (bif (b.I !=f.I) then (some (.ret [.b (decide (b.I<f.I))])) else (bif (c.I !=g.I) then (some (.ret [.b (decide (c.I<g.I))])) else (bif i.B then (some (.ret [.b (decide (d.I<h.I))])) else (some (.ret [.b (decide (d.I>h.I))]))))))
def gA:List C->Option (List C):=fun xs=>aU (apn 9 gA.d1 xs)
def k9:FS:=⟨3,⟨[(0,(.ag [zi,zi,zi,zi])),(1,(.ag [zi,zi,zi,zi])),(2,zo)],[]⟩,⟨[(0,zo)],[]⟩,[],gA⟩
theorem wh:FK 134 k9:=okO Tryz.f134 k9 .leaf [] .nil (by kernel_rfl) (by kernel_rfl) (fun xs=>by kernel_rfl)
def cI.d1 (a b c d e f g h i j k l m n o p q r s:C):R:=(bif c.B then (some (.again [b,.i (w64 (b.I+1)),d,e,f,g,h,i,j,k,l,m,n,o,p,q,r,s])) else (some (.again [a,.i (w64 (b.I+1)),d,e,f,g,h,i,j,k,l,m,n,o,p,q,r,s])))
def cI.d2 (a b c d e f g h i j k l m n o p q r:C):R:=(bif (decide (b.I<(d.L.length:Int))) then (aZ (bif (decide (0<=b.I)) then (bif (decide (b.I<(d.L.length:Int))) then (ad (cF [c,d,e,f,g,h,i,j,k,l,m,n,o,p,q,r,((d.L.getD b.I.toNat []).getD 0 .nil),((d.L.getD b.I.toNat []).getD 1 .nil),((d.L.getD b.I.toNat []).getD 2 .nil),((d.L.getD b.I.toNat []).getD 3 .nil),((d.L.getD b.I.toNat []).getD 4 .nil),((d.L.getD b.I.toNat []).getD 5 .nil),.b false]) fun s=>(bif (s.I==0) then (bif (!(decide (a.I<0))) then (bif (decide (0<=b.I)) then (bif (decide (b.I<(d.L.length:Int))) then (call4 (bq [c,d,e,f,g,h,i,j,k,l,m,n,o,p,q,r,((d.L.getD b.I.toNat []).getD 0 .nil),((d.L.getD b.I.toNat []).getD 1 .nil),((d.L.getD b.I.toNat []).getD 2 .nil),((d.L.getD b.I.toNat []).getD 3 .nil),((d.L.getD b.I.toNat []).getD 4 .nil),((d.L.getD b.I.toNat []).getD 5 .nil)]) fun t u v w=>(bif (decide (0<=a.I)) then (bif (decide (a.I<(d.L.length:Int))) then (call4 (bq [c,d,e,f,g,h,i,j,k,l,m,n,o,p,q,r,((d.L.getD a.I.toNat []).getD 0 .nil),((d.L.getD a.I.toNat []).getD 1 .nil),((d.L.getD a.I.toNat []).getD 2 .nil),((d.L.getD a.I.toNat []).getD 3 .nil),((d.L.getD a.I.toNat []).getD 4 .nil),((d.L.getD a.I.toNat []).getD 5 .nil)]) fun x y z a0=>(ad (gA [t,u,v,w,x,y,z,a0,.b c.B]) fun a1=>(some (.nrm [a,b,.b a1.B,c,d,e,f,g,h,i,j,k,l,m,n,o,p,q,r])))) else none) else none)) else none) else none) else (some (.nrm [a,b,.b true,c,d,e,f,g,h,i,j,k,l,m,n,o,p,q,r]))) else (some (.nrm [a,b,.b false,c,d,e,f,g,h,i,j,k,l,m,n,o,p,q,r])))) else none) else none) (apn 19 cI.d1)) else (some (.brk 0 [a,c,d,e,f])))
def cI.d3 (a b c d e:C):R:=(bif (decide (a.I<0)) then (some (.ret [.s (bs #[])])) else (bif (decide (0<=a.I)) then (bif (decide (a.I<(c.L.length:Int))) then (some (.ret [((c.L.getD a.I.toNat []).getD 0 .nil)])) else none) else none))
def cI.d4 (a b c d e f g h i j k l m n o p:C):R:=(ah 0 (lim (apn 18 cI.d2) [.i (-1),.i 0,a,b,c,d,e,f,g,h,i,j,k,l,m,n,o,p]) (apn 5 cI.d3))
def cI:List C->Option (List C):=fun xs=>aU (apn 16 cI.d4 xs)
def oI:FS:=⟨2,⟨[(0,z2),(1,z5)],[]⟩,⟨[(0,zt)],[]⟩,[],cI⟩
theorem Ax:FK 132 oI:=okO Tryz.f132 oI (.seq .leaf (.seq .leaf (.seq (.seq .leaf (.block ⟨[(2,(.pt 2 0)),(5,zi)],[(2,z0)]⟩ (.loop ⟨[(2,(.pt 2 0)),(3,(.pt 3 0)),(5,zi),(6,zi)],[(2,z0),(3,z1)]⟩ (.seq .leaf (.seq (.skip (.seq (.join ⟨[(2,(.pt 2 0)),(3,(.pt 3 0)),(5,zi),(6,zi),(47,zo)],[(2,z0),(3,z1)]⟩ .leaf) .leaf)) .leaf))))) .leaf))) [(41,some 21,lN),(133,some 34,mu),(133,some 42,mu),(134,some 45,k9)] (.cons qZ (.cons ve (.cons ve (.cons wh .nil)))) (by kernel_rfl) (by kernel_rfl) (fun xs=>by kernel_rfl)
def eH.d1 (a b c d e f g h i:C):R:=(bif (decide (a.I<(h.L.length:Int))) then (bif (decide (0<=a.I)) then (bif (decide (a.I<(h.L.length:Int))) then (ad (dx [b,c,d,e,((h.L.getD a.I.toNat []).getD 0 .nil)]) fun j=>(bif (decide (0<=j.I)) then (bif (decide (j.I<(e.L.length:Int))) then (ad (cI [b,c,d,e,((e.L.getD j.I.toNat []).getD 0 .nil),((e.L.getD j.I.toNat []).getD 1 .nil),((e.L.getD j.I.toNat []).getD 2 .nil),((e.L.getD j.I.toNat []).getD 3 .nil),((e.L.getD j.I.toNat []).getD 4 .nil),((e.L.getD j.I.toNat []).getD 5 .nil),((e.L.getD j.I.toNat []).getD 6 .nil),((e.L.getD j.I.toNat []).getD 7 .nil),((e.L.getD j.I.toNat []).getD 8 .nil),((e.L.getD j.I.toNat []).getD 9 .nil),((e.L.getD j.I.toNat []).getD 10 .nil),((e.L.getD j.I.toNat []).getD 11 .nil)]) fun k=>(bif (!(k.S.toList==(bs #[]).toList)) then (bif (decide (0<=a.I)) then (bif (decide (a.I<(h.L.length:Int))) then (some (.ret [((h.L.getD a.I.toNat []).getD 0 .nil),k,.b true,.l af])) else none) else none) else (some (.again [.i (w64 (a.I+1)),b,c,d,e,f,g,.l h.L,.l i.L])))) else none) else none)) else none) else none) else (some (.brk 0 [f,g,.l i.L])))
def eH.d2 (a b c:C):R:=(some (.ret [.s (bs #[]),.s (bs #[]),.b false,.l af]))
def eH.d3 (a b c d:C):R:=(ad (bp [a,b,c,d]) fun e=>(ah 0 (lim (apn 9 eH.d1) [.i 0,a,b,c,d,.s (bs #[]),.s (bs #[]),.l e.L,.l af]) (apn 3 eH.d2)))
def eH:List C->Option (List C):=fun xs=>aU (apn 4 eH.d3 xs)
def mG:FS:=⟨1,⟨[(0,z2)],[]⟩,⟨[(0,(.tu [(.ag [zt,zt,(.ow 3000)]),zo]))],[(3000,.arr 9 1)]⟩,[],eH⟩
theorem uX:FK 95 mG:=okO Tryz.f95 mG (.seq .leaf (.seq .leaf (.seq (.seq .leaf (.block ⟨[(2,(.pt 2 0))],[(2,.var 30 [zt,zt,(.ow 1203300)]),(1203300,.arr 9 1)]⟩ (.loop ⟨[(1,(.pt 1 0)),(2,(.pt 2 0)),(4,(.ow 39864)),(5,zi)],[(1,z0),(2,.var 30 [zt,zt,(.ow 1203300)]),(39864,.arr 9 1),(1203300,.arr 9 1)]⟩ .leaf))) .leaf))) [(36,some 23,eK),(83,some 8,mn),(132,some 26,oI)] (.cons fC (.cons tN (.cons Ax .nil))) (by kernel_rfl) (by kernel_rfl) (fun xs=>by kernel_rfl)
def cx.d1 (a b c d e f g h i j k l m:C):R:=(bif a.B then (ad (dx [d,.l j.L,.l k.L,.l l.L,e]) fun n=>(bif (decide (0<=n.I)) then (bif (decide (n.I<(l.L.length:Int))) then (bif (decide (c.L.length+(rows [[e,f,.l m.L]]).length<=4294967296)) then (call4 (eH [d,.l j.L,.l k.L,.l (l.L.set n.I.toNat (aB (l.L.getD n.I.toNat []) 11 [f]))]) fun o p q r=>(some (.again [.b q.B,b,.l (c.L++(rows [[e,f,.l m.L]])),d,o,p,.l g.L,.l h.L,.l i.L,.l j.L,.l k.L,.l (l.L.set n.I.toNat (aB (l.L.getD n.I.toNat []) 11 [f])),.l r.L]))) else none) else none) else none)) else (some (.brk 0 [b,.l c.L,d,.l g.L,.l h.L,.l i.L,.l j.L,.l k.L,.l l.L])))
def cx.d2 (a b c d e f g h i:C):R:=(some (.ret [c,.l g.L,.l h.L,.l i.L,.l b.L]))
def cx.d3 (a b c d:C):R:=(ad (ax [a,b,c,d]) fun e=>(bif (!e.B) then (some (.ret [.b false,.l af,.l af,.l af,.l af])) else (call4 (cw [a,b,c,d]) fun f g h i=>(call4 (eH [f,.l g.L,.l h.L,.l i.L]) fun j k l m=>(ah 0 (lim (apn 13 cx.d1) [.b l.B,.b false,.l af,f,j,k,.l af,.l af,.l af,.l g.L,.l h.L,.l i.L,.l m.L]) (apn 9 cx.d2))))))
def cx:List C->Option (List C):=fun xs=>aU (apn 4 cx.d3 xs)
def l5:FS:=⟨1,⟨[(0,z2)],[]⟩,⟨[(0,(.tu [z15,(.ow 3003)]))],[(3000,.arr 72 1),(3001,.arr 40 1),(3002,.arr 38 1),(3003,.arr 30 1)]⟩,[],cx⟩
theorem xv:FK 91 l5:=okP [39] false Tryz.f91 l5 (.seq .leaf (.seq .leaf (.seq .leaf (.seq .leaf (.seq (.seq .leaf (.block ⟨[(2,(.pt 2 0)),(4,(.ow 8)),(5,(.pt 5 0))],[(2,.var 27 [zo,(.ow 1200500),(.ow 1200501),(.ow 1200502)]),(8,.arr 30 1),(5,.var 27 [zo,(.ow 68536),(.ow 68537),(.ow 68538)]),(1200500,.arr 72 1),(1200501,.arr 40 1),(1200502,.arr 38 1),(68536,.arr 72 1),(68537,.arr 40 1),(68538,.arr 38 1)]⟩ (.loop ⟨[(2,(.pt 2 0)),(4,(.ow 8)),(5,(.pt 5 0)),(6,(.pt 6 0)),(7,zo)],[(2,.var 27 [zo,(.ow 1200500),(.ow 1200501),(.ow 1200502)]),(8,.arr 30 1),(5,.var 27 [zo,(.ow 68536),(.ow 68537),(.ow 68538)]),(6,.var 30 [zt,zt,(.ow 80824)]),(1200500,.arr 72 1),(1200501,.arr 40 1),(1200502,.arr 38 1),(68536,.arr 72 1),(68537,.arr 40 1),(68538,.arr 38 1),(80824,.arr 9 1)]⟩ .leaf))) .leaf))))) [(36,some 32,eK),(38,some 10,eh),(76,some 15,ky),(95,some 18,mG),(95,some 24,mG)] (.cons fC (.cons fj (.cons pC (.cons uX (.cons uX .nil))))) (by kernel_rfl) (by kernel_rfl) (fun xs=>by kernel_rfl)
def aL.d1 (a b c d e f g h i j k:C):R:=(some (.again [.i (w64 (a.I+1)),b,c,d,e,.l f.L,.l g.L,.l h.L,.l i.L,.l j.L,.l k.L]))
def aL.d2 (a b c d e f g h i j k:C):R:=(bif (decide (a.I<(k.L.length:Int))) then (aZ (bif (decide (0<=a.I)) then (bif (decide (a.I<(k.L.length:Int))) then (bif (!((((k.L.getD a.I.toNat []).getD 11 .nil).S).toList==(bs #[]).toList)) then (call3 (ae [.i 4,b,c]) fun l m n=>(bif (decide (0<=a.I)) then (bif (decide (a.I<(k.L.length:Int))) then (some (.nrm [a,m,n,d,e,.l f.L,.l g.L,.l h.L,.l i.L,.l j.L,.l (k.L.set a.I.toNat (aB (k.L.getD a.I.toNat []) 2 [l]))])) else none) else none)) else (call3 (ae [.i 6,b,c]) fun o p q=>(bif (decide (0<=a.I)) then (bif (decide (a.I<(k.L.length:Int))) then (call3 (ae [.i 2,p,q]) fun r s t=>(bif (r.I==0) then (bif (decide (0<=a.I)) then (bif (decide (a.I<((k.L.set a.I.toNat (aB (k.L.getD a.I.toNat []) 2 [.i (w64 (2+o.I))])).length:Int))) then (bif (decide (0<=a.I)) then (bif (decide (a.I<(((k.L.set a.I.toNat (aB (k.L.getD a.I.toNat []) 2 [.i (w64 (2+o.I))])).set a.I.toNat (aB ((k.L.set a.I.toNat (aB (k.L.getD a.I.toNat []) 2 [.i (w64 (2+o.I))])).getD a.I.toNat []) 6 [.s (bs #[])])).length:Int))) then (some (.nrm [a,s,t,d,e,.l f.L,.l g.L,.l h.L,.l i.L,.l j.L,.l (((k.L.set a.I.toNat (aB (k.L.getD a.I.toNat []) 2 [.i (w64 (2+o.I))])).set a.I.toNat (aB ((k.L.set a.I.toNat (aB (k.L.getD a.I.toNat []) 2 [.i (w64 (2+o.I))])).getD a.I.toNat []) 6 [.s (bs #[])])).set a.I.toNat (aB (((k.L.set a.I.toNat (aB (k.L.getD a.I.toNat []) 2 [.i (w64 (2+o.I))])).set a.I.toNat (aB ((k.L.set a.I.toNat (aB (k.L.getD a.I.toNat []) 2 [.i (w64 (2+o.I))])).getD a.I.toNat []) 6 [.s (bs #[])])).getD a.I.toNat []) 9 [.s (bs #[])]))])) else none) else none) else none) else none) else (some (.nrm [a,s,t,d,e,.l f.L,.l g.L,.l h.L,.l i.L,.l j.L,.l (k.L.set a.I.toNat (aB (k.L.getD a.I.toNat []) 2 [.i (w64 (2+o.I))]))])))) else none) else none))) else none) else none) (apn 11 aL.d1)) else (some (.brk 0 [b,c,d,e,.l f.L,.l g.L,.l h.L,.l i.L,.l j.L,.l k.L])))
def aL.d3 (a b c d e f g h i j k l m n o p q r s t u v w:C):R:=(call10 (bV [e,.i 3,.s (bs #[]),.s (bs #[]),.i 0,.i 0,.b false,f,g,h,i,j,k,l,m,n,o,p,.s (bs #[]),.s (bs #[]),.l t.L,.l u.L,.l v.L,.l af,.l w.L]) fun x y z a0 a1 a2 a3 a4 a5 a6=>(bif (y.I==0) then (some (.again [.i (w64 (a.I+1)),b,c,d,x,.l q.L,.l r.L,.l s.L,.l a4.L,.l a5.L,.l a6.L])) else (some (.again [.i (w64 (a.I+1)),b,c,d,e,.l q.L,.l r.L,.l s.L,.l z.L,.l a0.L,.l a1.L]))))
def aL.d4 (a b c d e f g h i j k:C):R:=(bif (decide (a.I<3)) then (call14 (cg [.i (w64 (40+a.I)),b,c]) fun l m n o p q r s t u v w x y=>(call3 (ae [.i 30,w,x]) fun z a0 a1=>(call3 (ae [.i 8,a0,a1]) fun a2 a3 a4=>(aZ (call3 (ae [.i 3,a3,a4]) fun a5 a6 a7=>(bif (decide (a5.I>0)) then (some (.nrm [a,a6,a7,d,e,l,m,.i (w64 (3+z.I)),o,.i (w64 (2+a2.I)),q,.s (bs #[]),s,.s (bs #[]),u,v,.l f.L,.l g.L,.l h.L,.l i.L,.l j.L,.l k.L,.l y.L])) else (some (.nrm [a,a6,a7,d,e,l,m,.i (w64 (3+z.I)),o,.i (w64 (2+a2.I)),q,r,s,t,u,v,.l f.L,.l g.L,.l h.L,.l i.L,.l j.L,.l k.L,.l y.L])))) (apn 23 aL.d3))))) else (some (.brk 2 [b,c,d,e,.l f.L,.l g.L,.l h.L,.l i.L,.l j.L,.l k.L])))
def aL.d5 (a b c d e f g h i j:C):R:=(some (.nrm [a,b,c,d,.l e.L,.l f.L,.l g.L,.l h.L,.l i.L,.l j.L]))
def aL.d6 (a b c d e f g h i j k:C):R:=(bif (decide (a.I<(j.L.length:Int))) then (bif (decide (0<=a.I)) then (bif (decide (a.I<(j.L.length:Int))) then (call3 (ae [.i 6,b,c]) fun l m n=>(bif (decide (0<=a.I)) then (bif (decide (a.I<(j.L.length:Int))) then (some (.again [.i (w64 (a.I+1)),m,n,d,e,.l f.L,.l g.L,.l h.L,.l i.L,.l (j.L.set a.I.toNat (aB (j.L.getD a.I.toNat []) 1 [.i (w64 (((j.L.getD a.I.toNat []).getD 1 .nil).I+l.I))])),.l k.L])) else none) else none)) else none) else none) else (some (.brk 4 [b,c,d,e,.l f.L,.l g.L,.l h.L,.l i.L,.l j.L,.l k.L])))
def aL.d7 (a b c d e f g h i j:C):R:=(some (.ret [d,a,b,.l h.L,.l i.L,.l j.L]))
def aL.d8 (a b c d e f g h i j:C):R:=(ah 4 (lim (apn 11 aL.d6) [.i 0,a,b,c,d,.l e.L,.l f.L,.l g.L,.l h.L,.l i.L,.l j.L]) (apn 10 aL.d7))
def aL.d9 (a b c d e f g h i j:C):R:=(aZ (call3 (ae [.i 3,a,b]) fun k l m=>(bif (decide (k.I>0)) then (call5 (cx [d,.l h.L,.l i.L,.l j.L]) fun n o p q r=>(ah 2 (lim (apn 11 aL.d4) [.i 0,l,m,c,n,.l e.L,.l f.L,.l g.L,.l o.L,.l p.L,.l q.L]) (apn 10 aL.d5))) else (some (.nrm [l,m,c,d,.l e.L,.l f.L,.l g.L,.l h.L,.l i.L,.l j.L])))) (apn 10 aL.d8))
def aL.d10 (a b:C):R:=(call6 (aQ [a,b]) fun c d e f g h=>(ah 0 (lim (apn 11 aL.d2) [.i 0,d,e,.b false,c,.l af,.l af,.l af,.l f.L,.l g.L,.l h.L]) (apn 10 aL.d9)))
def aL:List C->Option (List C):=fun xs=>aU (apn 2 aL.d10 xs)
def po:FS:=⟨1,⟨[(0,(.pt 2000 0))],[(2000,z4)]⟩,⟨[(0,(.ag [zo,(.ow 3001),(.ow 3002),(.ow 3003)]))],[(2000,z4),(3001,.arr 72),(3002,.arr 40 1),(3003,.arr 38)]⟩,[2000],aL⟩
theorem BQ:FK 57 po:=okO Tryz.f57 po (.seq .leaf (.seq .leaf (.seq (.seq .leaf (.block ⟨[(0,(.pt 2000 0)),(2,(.pt 2 0)),(3,(.pt 3 0))],[(2000,z4),(2,z9),(3,.var 27 [zo,(.ow 52153),(.ow 52154),(.ow 52155)]),(1027600,.arr 72 1),(1027601,.arr 40 1),(1027602,.arr 38 1),(52153,.arr 72),(52154,.arr 40 1),(52155,.arr 38)]⟩ (.loop ⟨[(0,(.pt 2000 0)),(2,(.pt 2 0)),(3,(.pt 3 0)),(4,zi)],[(2000,z4),(2,z9),(3,.var 27 [zo,(.ow 52153),(.ow 52154),(.ow 52155)]),(1027600,.arr 72 1),(1027601,.arr 40 1),(1027602,.arr 38 1),(52153,.arr 72),(52154,.arr 40 1),(52155,.arr 38)]⟩ (.seq .leaf (.seq (.join ⟨[(0,(.pt 2000 0)),(2,(.pt 2 0)),(3,(.pt 3 0)),(4,zi)],[(2000,z4),(2,z9),(3,.var 27 [zo,(.ow 52153),(.ow 52154),(.ow 52155)]),(1027600,.arr 72 1),(1027601,.arr 40 1),(1027602,.arr 38 1),(52153,.arr 72),(52154,.arr 40 1),(52155,.arr 38)]⟩ .leaf) .leaf))))) (.seq (.join ⟨[(0,(.pt 2000 0)),(2,(.pt 2 0)),(3,(.pt 3 0))],[(2000,z4),(2,z9),(3,z14),(1027600,.arr 72 1),(1027601,.arr 40 1),(1027602,.arr 38 1),(248760,.arr 72),(248761,.arr 40 1),(248762,.arr 38)]⟩ (.seq .leaf (.cond (.seq (.frz [52153,52154,52155] .leaf) (.seq .leaf (.block ⟨[(0,(.pt 2000 0)),(2,(.pt 2 0)),(3,(.pt 3 0))],[(2000,z4),(2,z9),(3,z14),(1027600,.arr 72 1),(1027601,.arr 40 1),(1027602,.arr 38 1),(248760,.arr 72),(248761,.arr 40 1),(248762,.arr 38)]⟩ (.loop ⟨[(0,(.pt 2000 0)),(2,(.pt 2 0)),(3,(.pt 3 0)),(5,zi)],[(2000,z4),(2,z9),(3,z14),(1027600,.arr 72 1),(1027601,.arr 40 1),(1027602,.arr 38 1),(248760,.arr 72),(248761,.arr 40 1),(248762,.arr 38)]⟩ (.seq .leaf (.seq (.skip (.seq .leaf (.seq .leaf (.seq .leaf (.seq (.join ⟨[(0,(.pt 2000 0)),(2,(.pt 2 0)),(3,(.pt 3 0)),(5,zi),(6,(.pt 6 0))],[(2000,z4),(2,z9),(3,z14),(6,.var 38 [zt,zt,zi,zi,zi,zi,zt,(.ow 289721),zi,zt,zt,zt]),(1027600,.arr 72 1),(1027601,.arr 40 1),(1027602,.arr 38 1),(248760,.arr 72),(248761,.arr 40 1),(248762,.arr 38),(289721,.arr 100 1)]⟩ .leaf) .leaf))))) .leaf)))))) .leaf))) (.seq (.seq .leaf (.block ⟨[(2,(.pt 2 0)),(3,(.pt 3 0))],[(2000,z4),(2,z9),(3,z14),(1027600,.arr 72 1),(1027601,.arr 40 1),(1027602,.arr 38 1),(248760,.arr 72),(248761,.arr 40 1),(248762,.arr 38)]⟩ (.loop ⟨[(0,(.pt 2000 0)),(2,(.pt 2 0)),(3,(.pt 3 0)),(9,zi)],[(2000,z4),(2,z9),(3,z14),(1027600,.arr 72 1),(1027601,.arr 40 1),(1027602,.arr 38 1),(248760,.arr 72),(248761,.arr 40 1),(248762,.arr 38)]⟩ .leaf))) .leaf))))) [(27,some 30,aa),(27,some 37,aa),(27,some 42,aa),(27,some 55,aa),(27,some 71,aa),(27,some 75,aa),(27,some 79,aa),(27,some 110,aa),(90,some 11,rA),(91,some 59,l5),(92,some 69,jt),(93,some 87,fI)] (.cons ab (.cons ab (.cons ab (.cons ab (.cons ab (.cons ab (.cons ab (.cons ab (.cons DF (.cons xv (.cons qk (.cons jH .nil)))))))))))) (by kernel_rfl) (by kernel_rfl) (fun xs=>by kernel_rfl)
end
end Go.Ev
namespace Go.Ev
open Go.Proofs
noncomputable section
def fc.d1 (a b c:C):R:=(bif (decide (b.I>0)) then (bif ((b.I.tmod 2)==1) then (bif (decide (c.S.size+a.S.size<=4294967296)) then (bif (decide (a.S.size+a.S.size<=4294967296)) then (some (.again [.s (a.S++a.S),.i (w64 (b.I.tdiv 2)),.s (c.S++a.S)])) else none) else none) else (bif (decide (a.S.size+a.S.size<=4294967296)) then (some (.again [.s (a.S++a.S),.i (w64 (b.I.tdiv 2)),c])) else none)) else (some (.brk 0 [c])))
def fc.d2 (a:C):R:=(some (.ret [a]))
def fc.d3 (a b:C):R:=(ah 0 (lim (apn 3 fc.d1) [a,b,.s (bs #[])]) (apn 1 fc.d2))
def fc:List C->Option (List C):=fun xs=>aU (apn 2 fc.d3 xs)
def oe:FS:=⟨2,⟨[(0,zt),(1,zi)],[]⟩,⟨[(0,zt)],[]⟩,[],fc⟩
theorem xc:FK 94 oe:=okO Tryz.f94 oe (.seq .leaf (.seq .leaf (.seq (.block ⟨[(5,zt)],[]⟩ (.loop ⟨[(0,zt),(1,zi),(5,zt)],[]⟩ .leaf)) .leaf))) [] .nil (by kernel_rfl) (by kernel_rfl) (fun xs=>by kernel_rfl)
def bK.d1 (a b c d e f g h i j k l:C):R:=(bif (decide (0<=a.I)) then (bif (decide (a.I<(l.L.length:Int))) then (bif (decide ((((l.L.getD a.I.toNat []).getD 7 .nil).L.length:Int)<b.I)) then (bif (decide (0<=a.I)) then (bif (decide (a.I<(l.L.length:Int))) then (call3 (ae [.i 2,c,d]) fun m n o=>(call3 (ae [.i 2,n,o]) fun p q r=>(bif (decide (((l.L.getD a.I.toNat []).getD 7 .nil).L.length+(rows [[.s (bs #[]),.i (w64 (9+(w64 (m.I*p.I))))]]).length<=4294967296)) then (bif (decide (0<=a.I)) then (bif (decide (a.I<((l.L.set a.I.toNat (aB (l.L.getD a.I.toNat []) 7 [.nil])).length:Int))) then (bif (List.all ((l.L.set a.I.toNat (aB (l.L.getD a.I.toNat []) 7 [.nil])).set a.I.toNat (aB ((l.L.set a.I.toNat (aB (l.L.getD a.I.toNat []) 7 [.nil])).getD a.I.toNat []) 7 [.l (((l.L.getD a.I.toNat []).getD 7 .nil).L++(rows [[.s (bs #[]),.i (w64 (9+(w64 (m.I*p.I))))]]))])) (rQ [.str,.str,(.int .i64),(.int .i64),(.int .i64),(.int .i64),.str,(.sl 100),(.int .i64),.str,.str,.str])) then (some (.again [a,b,q,r,e,f,.l g.L,.l h.L,.l i.L,.l j.L,.l k.L,.l ((l.L.set a.I.toNat (aB (l.L.getD a.I.toNat []) 7 [.nil])).set a.I.toNat (aB ((l.L.set a.I.toNat (aB (l.L.getD a.I.toNat []) 7 [.nil])).getD a.I.toNat []) 7 [.l (((l.L.getD a.I.toNat []).getD 7 .nil).L++(rows [[.s (bs #[]),.i (w64 (9+(w64 (m.I*p.I))))]]))]))])) else none) else none) else none) else none))) else none) else none) else (some (.brk 1 [c,d,e,f,.l g.L,.l h.L,.l i.L,.l j.L,.l k.L,.l l.L]))) else none) else none)
def bK.d2 (a b c d e f g h i j:C):R:=(some (.nrm [a,b,c,d,.l j.L,.l e.L,.l f.L,.l g.L,.l h.L,.l i.L]))
def bK.d3 (a b c d e f g h i j k l m:C):R:=(bif (decide (c.I<b.I)) then (bif (decide ((bs #[99]).size+(lJ (rows [[.i (IntKind.wrap .u8 (w64 (97+c.I)))]])).size<=4294967296)) then (bif (decide (0<=a.I)) then (bif (decide (a.I<(k.L.length:Int))) then (bif (decide (m.L.length+(rows [[.s ((bs #[99])++(lJ (rows [[.i (IntKind.wrap .u8 (w64 (97+c.I)))]]))),.s (bs #[119,101,98]),.i 0,.i 0,.i 0,.i 0,.s (bs #[]),.l af,.i 0,.s (bs #[]),.s (bs #[]),((k.L.getD a.I.toNat []).getD 0 .nil)]]).length<=4294967296)) then (some (.again [a,b,.i (w64 (c.I+1)),d,e,f,g,.l h.L,.l i.L,.l j.L,.l k.L,.l l.L,.l (m.L++(rows [[.s ((bs #[99])++(lJ (rows [[.i (IntKind.wrap .u8 (w64 (97+c.I)))]]))),.s (bs #[119,101,98]),.i 0,.i 0,.i 0,.i 0,.s (bs #[]),.l af,.i 0,.s (bs #[]),.s (bs #[]),((k.L.getD a.I.toNat []).getD 0 .nil)]]))])) else none) else none) else none) else none) else (some (.brk 3 [d,e,f,g,.l h.L,.l i.L,.l j.L,.l k.L,.l l.L,.l m.L])))
def bK.d4 (a b c d e f g h i j:C):R:=(some (.ret [d,e,a,b,.l i.L,.l j.L]))
def bK.d5 (a b c d e f:C):R:=(call4 (cw [a,b,c,d]) fun g h i j=>(call3 (ae [.i (h.L.length:Int),e,f]) fun k l m=>(call3 (ae [.i (j.L.length:Int),l,m]) fun n o p=>(bif (!((h.L.length:Int)==0)) then (bif ((j.L.length:Int)==0) then (some (.ret [.b false,.l af,o,p,.l af,.l (rows [[.s (bs #[]),.i 0]])])) else (aZ (call3 (ae [.i 16,o,p]) fun q r s=>(bif (q.I==0) then (call3 (ae [.i 2,r,s]) fun t u v=>(ad (fc [.s (bs #[110]),.i (w64 (20+t.I))]) fun w=>(call3 (ae [.i 4,u,v]) fun x y z=>(bif (decide (0<=x.I)) then (bif (decide (x.I<((rows [[.s (bs #[])],[.s (bs #[65])],[.s (bs #[122,122])],[w]]).length:Int))) then (bif (decide (0<=k.I)) then (bif (decide (k.I<(h.L.length:Int))) then (some (.nrm [y,z,.b false,g,.l j.L,.l af,.l af,.l af,.l (h.L.set k.I.toNat (aB (h.L.getD k.I.toNat []) 0 [(((rows [[.s (bs #[])],[.s (bs #[65])],[.s (bs #[122,122])],[w]]).getD x.I.toNat []).getD 0 .nil)])),.l i.L])) else none) else none) else none) else none)))) else (bif (q.I==1) then (call3 (ae [.i 2,r,s]) fun a0 a1 a2=>(bif (decide (0<=a0.I)) then (bif (decide (a0.I<((rows [[.s (bs #[])],[.s (bs #[120,32,121])]]).length:Int))) then (bif (decide (0<=k.I)) then (bif (decide (k.I<(h.L.length:Int))) then (some (.nrm [a1,a2,.b false,g,.l j.L,.l af,.l af,.l af,.l (h.L.set k.I.toNat (aB (h.L.getD k.I.toNat []) 1 [(((rows [[.s (bs #[])],[.s (bs #[120,32,121])]]).getD a0.I.toNat []).getD 0 .nil)])),.l i.L])) else none) else none) else none) else none)) else (bif (q.I==2) then (call3 (ae [.i 6,r,s]) fun a3 a4 a5=>(bif (decide (0<=a3.I)) then (bif (decide (a3.I<((rows [[.l (rows [[.s (bs #[98])],[.s (bs #[97])]])],[.l (rows [[.s (bs #[97])],[.s (bs #[97,61,98])]])],[.l (rows [[.s (bs #[97,61,98])],[.s (bs #[97,61,99])]])],[.l (rows [[.s (bs #[65])]])],[.l (rows [[.s (bs #[97])],[.s (bs #[97,45,120])],[.s (bs #[97,61,98])]])],[.l (rows [[.s (bs #[49])],[.s (bs #[50])],[.s (bs #[51])],[.s (bs #[52])],[.s (bs #[53])],[.s (bs #[54])],[.s (bs #[55])],[.s (bs #[56])],[.s (bs #[57])],[.s (bs #[97])],[.s (bs #[98])]])]]).length:Int))) then (bif (decide (0<=k.I)) then (bif (decide (k.I<(h.L.length:Int))) then (some (.nrm [a4,a5,.b false,g,.l j.L,.l af,.l af,.l af,.l (h.L.set k.I.toNat (aB (h.L.getD k.I.toNat []) 2 [(((rows [[.l (rows [[.s (bs #[98])],[.s (bs #[97])]])],[.l (rows [[.s (bs #[97])],[.s (bs #[97,61,98])]])],[.l (rows [[.s (bs #[97,61,98])],[.s (bs #[97,61,99])]])],[.l (rows [[.s (bs #[65])]])],[.l (rows [[.s (bs #[97])],[.s (bs #[97,45,120])],[.s (bs #[97,61,98])]])],[.l (rows [[.s (bs #[49])],[.s (bs #[50])],[.s (bs #[51])],[.s (bs #[52])],[.s (bs #[53])],[.s (bs #[54])],[.s (bs #[55])],[.s (bs #[56])],[.s (bs #[57])],[.s (bs #[97])],[.s (bs #[98])]])]]).getD a3.I.toNat []).getD 0 .nil)])),.l i.L])) else none) else none) else none) else none)) else (bif (q.I==3) then (call3 (ae [.i 4,r,s]) fun a6 a7 a8=>(bif (decide (0<=a6.I)) then (bif (decide (a6.I<((rows [[.i (-1)],[.i 0],[.i 1000],[.i 1001]]).length:Int))) then (bif (decide (0<=k.I)) then (bif (decide (k.I<(h.L.length:Int))) then (some (.nrm [a7,a8,.b false,g,.l j.L,.l af,.l af,.l af,.l (h.L.set k.I.toNat (aB (h.L.getD k.I.toNat []) 3 [(((rows [[.i (-1)],[.i 0],[.i 1000],[.i 1001]]).getD a6.I.toNat []).getD 0 .nil)])),.l i.L])) else none) else none) else none) else none)) else (bif (q.I==4) then (bif (decide (0<=k.I)) then (bif (decide (k.I<(h.L.length:Int))) then (bif (decide (h.L.length+(rows [[((h.L.getD k.I.toNat []).getD 0 .nil),((h.L.getD k.I.toNat []).getD 1 .nil),((h.L.getD k.I.toNat []).getD 2 .nil),((h.L.getD k.I.toNat []).getD 3 .nil),((h.L.getD k.I.toNat []).getD 4 .nil),((h.L.getD k.I.toNat []).getD 5 .nil)]]).length<=4294967296)) then (some (.nrm [r,s,.b false,g,.l j.L,.l af,.l af,.l af,.l (h.L++(rows [[((h.L.getD k.I.toNat []).getD 0 .nil),((h.L.getD k.I.toNat []).getD 1 .nil),((h.L.getD k.I.toNat []).getD 2 .nil),((h.L.getD k.I.toNat []).getD 3 .nil),((h.L.getD k.I.toNat []).getD 4 .nil),((h.L.getD k.I.toNat []).getD 5 .nil)]])),.l i.L])) else none) else none) else none) else (bif (q.I==5) then (call3 (ae [.i 4,r,s]) fun a9 b0 b1=>(call3 (ae [.i 3,b0,b1]) fun b2 b3 b4=>(bif (decide (0<=b2.I)) then (bif (decide (b2.I<((rows [[.i (-1)],[.i 60],[.i 61]]).length:Int))) then (bif (decide (0<=a9.I)) then (bif (decide (a9.I<(i.L.length:Int))) then (some (.nrm [b3,b4,.b false,g,.l j.L,.l af,.l af,.l af,.l h.L,.l (i.L.set a9.I.toNat (aB (i.L.getD a9.I.toNat []) 1 [(((rows [[.i (-1)],[.i 60],[.i 61]]).getD b2.I.toNat []).getD 0 .nil)]))])) else none) else none) else none) else none))) else (bif (q.I==6) then (call3 (ae [.i 3,r,s]) fun b5 b6 b7=>(bif (decide (0<=b5.I)) then (bif (decide (b5.I<((rows [[.i (-1)],[.i 100],[.i 101]]).length:Int))) then (bif (decide (0<=n.I)) then (bif (decide (n.I<(j.L.length:Int))) then (some (.nrm [b6,b7,.b false,g,.l (j.L.set n.I.toNat (aB (j.L.getD n.I.toNat []) 2 [(((rows [[.i (-1)],[.i 100],[.i 101]]).getD b5.I.toNat []).getD 0 .nil)])),.l af,.l af,.l af,.l h.L,.l i.L])) else none) else none) else none) else none)) else (bif (q.I==7) then (call3 (ae [.i 3,r,s]) fun b8 b9 c0=>(bif (decide (0<=b8.I)) then (bif (decide (b8.I<((rows [[.i (-1)],[.i 1000000],[.i 1000001]]).length:Int))) then (bif (decide (0<=n.I)) then (bif (decide (n.I<(j.L.length:Int))) then (some (.nrm [b9,c0,.b false,g,.l (j.L.set n.I.toNat (aB (j.L.getD n.I.toNat []) 3 [(((rows [[.i (-1)],[.i 1000000],[.i 1000001]]).getD b8.I.toNat []).getD 0 .nil)])),.l af,.l af,.l af,.l h.L,.l i.L])) else none) else none) else none) else none)) else (bif (q.I==8) then (call3 (ae [.i 3,r,s]) fun c1 c2 c3=>(bif (decide (0<=c1.I)) then (bif (decide (c1.I<((rows [[.i (-1)],[.i 1000],[.i 1001]]).length:Int))) then (bif (decide (0<=n.I)) then (bif (decide (n.I<(j.L.length:Int))) then (some (.nrm [c2,c3,.b false,g,.l (j.L.set n.I.toNat (aB (j.L.getD n.I.toNat []) 4 [(((rows [[.i (-1)],[.i 1000],[.i 1001]]).getD c1.I.toNat []).getD 0 .nil)])),.l af,.l af,.l af,.l h.L,.l i.L])) else none) else none) else none) else none)) else (bif (q.I==9) then (ad (fc [.s (bs #[97]),.i 201]) fun c4=>(call3 (ae [.i 4,r,s]) fun c5 c6 c7=>(bif (decide (0<=c5.I)) then (bif (decide (c5.I<((rows [[.s (bs #[97,32,98])],[.s (bs #[33])],[c4],[.s (bs #[120])]]).length:Int))) then (bif (decide (0<=n.I)) then (bif (decide (n.I<(j.L.length:Int))) then (some (.nrm [c6,c7,.b false,g,.l (j.L.set n.I.toNat (aB (j.L.getD n.I.toNat []) 6 [(((rows [[.s (bs #[97,32,98])],[.s (bs #[33])],[c4],[.s (bs #[120])]]).getD c5.I.toNat []).getD 0 .nil)])),.l af,.l af,.l af,.l h.L,.l i.L])) else none) else none) else none) else none))) else (bif (q.I==10) then (call3 (ae [.i 2,r,s]) fun c8 c9 d0=>(ah 1 (lim (apn 12 bK.d1) [n,.i (w64 (5+c8.I)),c9,d0,.b false,g,.l af,.l af,.l af,.l h.L,.l i.L,.l j.L]) (apn 10 bK.d2))) else (bif (q.I==11) then (call3 (ae [.i 2,r,s]) fun d1 d2 d3=>(bif (decide (0<=d1.I)) then (bif (decide (d1.I<((rows [[.i (-1)],[.i 3]]).length:Int))) then (bif (decide (0<=n.I)) then (bif (decide (n.I<(j.L.length:Int))) then (some (.nrm [d2,d3,.b false,g,.l (j.L.set n.I.toNat (aB (j.L.getD n.I.toNat []) 8 [(((rows [[.i (-1)],[.i 3]]).getD d1.I.toNat []).getD 0 .nil)])),.l af,.l af,.l af,.l h.L,.l i.L])) else none) else none) else none) else none)) else (bif (q.I==12) then (call3 (ae [.i 3,r,s]) fun d4 d5 d6=>(bif (decide (0<=d4.I)) then (bif (decide (d4.I<((rows [[.s (bs #[103,111,110,101])],[.s (bs #[98,48])],[.s (bs #[98,49])]]).length:Int))) then (bif (decide (0<=n.I)) then (bif (decide (n.I<(j.L.length:Int))) then (some (.nrm [d5,d6,.b false,g,.l (j.L.set n.I.toNat (aB (j.L.getD n.I.toNat []) 11 [(((rows [[.s (bs #[103,111,110,101])],[.s (bs #[98,48])],[.s (bs #[98,49])]]).getD d4.I.toNat []).getD 0 .nil)])),.l af,.l af,.l af,.l h.L,.l i.L])) else none) else none) else none) else none)) else (bif (q.I==13) then (call3 (ae [.i 2,r,s]) fun d7 d8 d9=>(bif (decide (0<=d7.I)) then (bif (decide (d7.I<((rows [[.s (bs #[110,111,110,101])],[.s (bs #[])]]).length:Int))) then (bif (decide (0<=n.I)) then (bif (decide (n.I<(j.L.length:Int))) then (some (.nrm [d8,d9,.b false,g,.l (j.L.set n.I.toNat (aB (j.L.getD n.I.toNat []) 1 [(((rows [[.s (bs #[110,111,110,101])],[.s (bs #[])]]).getD d7.I.toNat []).getD 0 .nil)])),.l af,.l af,.l af,.l h.L,.l i.L])) else none) else none) else none) else none)) else (bif (q.I==14) then (call3 (ae [.i 2,r,s]) fun e0 e1 e2=>(ah 3 (lim (apn 13 bK.d3) [k,.i (w64 (10+e0.I)),.i 0,e1,e2,.b false,g,.l af,.l af,.l af,.l h.L,.l i.L,.l af]) (apn 10 bK.d2))) else (call3 (ae [.i 2,r,s]) fun e3 e4 e5=>(bif (decide (0<=e3.I)) then (bif (decide (e3.I<((rows [[.s (bs #[65])],[.s (bs #[119,101,98])]]).length:Int))) then (bif (decide (0<=n.I)) then (bif (decide (n.I<(j.L.length:Int))) then (call3 (ae [.i 2,e4,e5]) fun e6 e7 e8=>(bif (decide (0<=e6.I)) then (bif (decide (e6.I<((rows [[.s (bs #[120,32,121])],[.s (bs #[98,48])]]).length:Int))) then (bif (decide (0<=n.I)) then (bif (decide (n.I<((j.L.set n.I.toNat (aB (j.L.getD n.I.toNat []) 9 [(((rows [[.s (bs #[65])],[.s (bs #[119,101,98])]]).getD e3.I.toNat []).getD 0 .nil)])).length:Int))) then (some (.nrm [e7,e8,.b false,g,.l ((j.L.set n.I.toNat (aB (j.L.getD n.I.toNat []) 9 [(((rows [[.s (bs #[65])],[.s (bs #[119,101,98])]]).getD e3.I.toNat []).getD 0 .nil)])).set n.I.toNat (aB ((j.L.set n.I.toNat (aB (j.L.getD n.I.toNat []) 9 [(((rows [[.s (bs #[65])],[.s (bs #[119,101,98])]]).getD e3.I.toNat []).getD 0 .nil)])).getD n.I.toNat []) 10 [(((rows [[.s (bs #[120,32,121])],[.s (bs #[98,48])]]).getD e6.I.toNat []).getD 0 .nil)])),.l af,.l af,.l af,.l h.L,.l i.L])) else none) else none) else none) else none)) else none) else none) else none) else none)))))))))))))))))) (apn 10 bK.d4))) else (some (.ret [.b false,.l af,o,p,.l af,.l (rows [[.s (bs #[]),.i 0]])]))))))
def bK:List C->Option (List C):=fun xs=>aU (apn 6 bK.d5 xs)
def p9:FS:=⟨2,⟨[(0,(.pt 2000 0)),(1,z2)],[(2000,z4)]⟩,⟨[(0,(.ag [zo,(.ow 3001),(.ow 3002),(zl 38)]))],[(2000,z4),(3001,.arr 72),(3002,.arr 40 1)]⟩,[2000],bK⟩
theorem B0:FK 58 p9:=Kk HM [125,287] true [40,72] (fn:=Tryz.f58) (c:=Tryz.f58.body.getD .skip) p9 (.seq .leaf (.seq .leaf (.seq .leaf (.seq .leaf (.seq .leaf (.seq (.join ⟨[(4,(.pt 4 0)),(5,(.pt 5 0))],[(2000,z4),(4,.var 27 [zo,(.ow 1233600),(.ow 1233601),(.ow 1233602)]),(5,.var 27 [zo,(.ow 56248),(.ow 56249),(zl 38)]),(1233600,.arr 72 1),(1233601,.arr 40 1),(1233602,.arr 38 1),(56248,.arr 72),(56249,.arr 40 1)]⟩ (.seq .leaf (.skip (.seq .leaf (.cond .leaf (.seq .leaf (.cond .leaf (.seq .leaf (.cond .leaf (.seq .leaf (.cond .leaf (.seq .leaf (.cond .leaf (.seq .leaf (.cond .leaf (.seq .leaf (.cond .leaf (.seq .leaf (.cond .leaf (.seq .leaf (.cond .leaf (.seq .leaf (.cond .leaf (.seq .leaf (.cond (.seq .leaf (.block ⟨[(4,(.pt 4 0)),(5,(.pt 5 0))],[(2000,z4),(4,.var 27 [zo,(.ow 1233600),(.ow 1233601),(.ow 1233602)]),(5,.var 27 [zo,(.ow 56248),(.ow 56249),(.ow 56250)]),(1233600,.arr 72 1),(1233601,.arr 40 1),(1233602,.arr 38 1),(56248,.arr 72 1),(56249,.arr 40 1),(56250,.arr 38 2)]⟩ (.loop ⟨[(0,(.pt 2000 0)),(4,(.pt 4 0)),(5,(.pt 5 0)),(7,zi),(8,zi)],[(2000,z4),(4,.var 27 [zo,(.ow 1233600),(.ow 1233601),(.ow 1233602)]),(5,.var 27 [zo,(.ow 56248),(.ow 56249),(.ow 56250)]),(1233600,.arr 72 1),(1233601,.arr 40 1),(1233602,.arr 38 1),(56248,.arr 72 1),(56249,.arr 40 1),(56250,.arr 38 2)]⟩ .leaf))) (.seq .leaf (.cond .leaf (.seq .leaf (.cond .leaf (.seq .leaf (.cond .leaf (.seq .leaf (.cond (.seq .leaf (.seq .leaf (.seq .leaf (.block ⟨[(4,(.pt 4 0)),(5,(.pt 5 0))],[(2000,z4),(4,.var 27 [zo,(.ow 1236700),(.ow 1236701),(.ow 1236702)]),(5,.var 27 [zo,(.ow 56248),(.ow 56249),(.ow 265)]),(1236700,.arr 72 1),(1236701,.arr 40 1),(1236702,.arr 38 1),(56248,.arr 72 1),(56249,.arr 40 1),(265,.arr 38 1)]⟩ (.loop ⟨[(4,(.pt 4 0)),(5,(.pt 5 0)),(6,zi),(9,zi),(10,zi)],[(2000,z4),(4,.var 27 [zo,(.ow 1236700),(.ow 1236701),(.ow 1236702)]),(5,.var 27 [zo,(.ow 56248),(.ow 56249),(.ow 265)]),(1236700,.arr 72 1),(1236701,.arr 40 1),(1236702,.arr 38 1),(56248,.arr 72 1),(56249,.arr 40 1),(265,.arr 38 1)]⟩ .leaf))))) .leaf))))))))))))))))))))))))))))))))) .leaf)))))) [(27,some 17,aa),(27,some 22,aa),(27,some 37,aa),(27,some 43,aa),(27,some 53,aa),(27,some 64,aa),(27,some 69,aa),(27,some 81,aa),(27,some 99,aa),(27,some 111,aa),(27,some 133,aa),(27,some 136,aa),(27,some 148,aa),(27,some 160,aa),(27,some 172,aa),(27,some 185,aa),(27,some 193,aa),(27,some 214,aa),(27,some 216,aa),(27,some 231,aa),(27,some 243,aa),(27,some 255,aa),(27,some 263,aa),(76,some 12,ky),(94,some 66,oe),(94,some 182,oe)] (.cons ab (.cons ab (.cons ab (.cons ab (.cons ab (.cons ab (.cons ab (.cons ab (.cons ab (.cons ab (.cons ab (.cons ab (.cons ab (.cons ab (.cons ab (.cons ab (.cons ab (.cons ab (.cons ab (.cons ab (.cons ab (.cons ab (.cons ab (.cons pC (.cons xc (.cons xc .nil)))))))))))))))))))))))))) (by kernel_rfl) (by kernel_rfl) (by kernel_rfl) (fun xs=>by kernel_rfl)
def nV.d1 (a b:C):R:=(call3 (ae [.i 12,a,b]) fun c d e=>(bif (c.I==0) then (call6 (cQ [d,e]) fun f g h i j k=>(some (.ret [f,.l k.L,g,h,.l i.L,.l j.L]))) else (call6 (aL [d,e]) fun l m n o p q=>(call3 (ae [.i 16,m,n]) fun r s t=>(bif (r.I==0) then (call6 (bK [l,.l o.L,.l p.L,.l q.L,s,t]) fun u v w x y z=>(some (.ret [u,v,w,x,.l y.L,.l z.L]))) else (some (.ret [l,.l q.L,s,t,.l o.L,.l p.L])))))))
def nV:List C->Option (List C):=fun xs=>aU (apn 2 nV.d1 xs)
def pD:FS:=⟨1,⟨[(0,(.pt 2000 0))],[(2000,z4)]⟩,⟨[(0,(.ag [zo,(.ow 3001),(.ow 3002),(zl 38)]))],[(2000,z4),(3001,.arr 72),(3002,.arr 40 1)]⟩,[2000],nV⟩
theorem yx:FK 25 pD:=okO Tryz.f25 pD (.seq .leaf (.seq (.seq .leaf (.cond (.seq .leaf (.frz [39867] .leaf)) .leaf)) (.seq .leaf (.seq (.seq .leaf (.cond (.seq (.frz [48057,48058,48059] .leaf) .leaf) .leaf)) (.seq .leaf (.frz [48059] .leaf)))))) [(27,some 5,aa),(27,some 12,aa),(56,some 8,qV),(57,some 10,po),(58,some 16,p9)] (.cons ab (.cons ab (.cons DY (.cons BQ (.cons B0 .nil))))) (by kernel_rfl) (by kernel_rfl) (fun xs=>by kernel_rfl)
def hU.d1 (a b c d:C):R:=(ad (ax [a,b,c,d]) fun e=>(bif (!e.B) then (some (.ret [.l af])) else (ad (bp [a,b,c,d]) fun f=>(some (.ret [.l f.L])))))
def hU:List C->Option (List C):=fun xs=>aU (apn 4 hU.d1 xs)
def lU:FS:=⟨1,⟨[(0,z2)],[]⟩,⟨[(0,(.ow 3000))],[(3000,.arr 9 1)]⟩,[],hU⟩
theorem xE:FK 49 lU:=okO Tryz.f49 lU .leaf [(38,some 4,eh),(83,some 8,mn)] (.cons fj (.cons tN .nil)) (by kernel_rfl) (by kernel_rfl) (fun xs=>by kernel_rfl)
def j4.d1 (a b c d e f:C):R:=(bif (!((b.L.length:Int)==0)) then (call3 (ae [.i 16,e,f]) fun g h i=>(bif (g.I==0) then (call3 (ae [.i 2,h,i]) fun j k l=>(bif (decide (0<=j.I)) then (bif (decide (j.I<((rows [[.s (bs #[])],[.s (bs #[103,111,110,101])]]).length:Int))) then (some (.ret [(((rows [[.s (bs #[])],[.s (bs #[103,111,110,101])]]).getD j.I.toNat []).getD 0 .nil),k,l])) else none) else none)) else (call3 (ae [.i (b.L.length:Int),h,i]) fun m n o=>(bif (decide (0<=m.I)) then (bif (decide (m.I<(b.L.length:Int))) then (some (.ret [((b.L.getD m.I.toNat []).getD 0 .nil),n,o])) else none) else none)))) else (call3 (ae [.i 2,e,f]) fun p q r=>(bif (decide (0<=p.I)) then (bif (decide (p.I<((rows [[.s (bs #[])],[.s (bs #[103,111,110,101])]]).length:Int))) then (some (.ret [(((rows [[.s (bs #[])],[.s (bs #[103,111,110,101])]]).getD p.I.toNat []).getD 0 .nil),q,r])) else none) else none)))
def j4:List C->Option (List C):=fun xs=>aU (apn 6 j4.d1 xs)
def mC:FS:=⟨2,⟨[(0,(.pt 2000 0)),(1,z2)],[(2000,z4)]⟩,⟨[(0,zt)],[(2000,z4)]⟩,[2000],j4⟩
theorem vt:FK 29 mC:=okO Tryz.f29 mC .leaf [(27,some 11,aa),(27,some 16,aa),(27,some 25,aa)] (.cons ab (.cons ab (.cons ab .nil))) (by kernel_rfl) (by kernel_rfl) (fun xs=>by kernel_rfl)
def lB.d1 (a b c d e f:C):R:=(bif (!((d.L.length:Int)==0)) then (call3 (ae [.i 16,e,f]) fun g h i=>(bif (g.I==0) then (call3 (ae [.i 2,h,i]) fun j k l=>(bif (decide (0<=j.I)) then (bif (decide (j.I<((rows [[.s (bs #[])],[.s (bs #[103,111,110,101])]]).length:Int))) then (some (.ret [(((rows [[.s (bs #[])],[.s (bs #[103,111,110,101])]]).getD j.I.toNat []).getD 0 .nil),k,l])) else none) else none)) else (call3 (ae [.i (d.L.length:Int),h,i]) fun m n o=>(bif (decide (0<=m.I)) then (bif (decide (m.I<(d.L.length:Int))) then (some (.ret [((d.L.getD m.I.toNat []).getD 0 .nil),n,o])) else none) else none)))) else (call3 (ae [.i 2,e,f]) fun p q r=>(bif (decide (0<=p.I)) then (bif (decide (p.I<((rows [[.s (bs #[])],[.s (bs #[103,111,110,101])]]).length:Int))) then (some (.ret [(((rows [[.s (bs #[])],[.s (bs #[103,111,110,101])]]).getD p.I.toNat []).getD 0 .nil),q,r])) else none) else none)))
def lB:List C->Option (List C):=fun xs=>aU (apn 6 lB.d1 xs)
def nS:FS:=⟨2,⟨[(0,(.pt 2000 0)),(1,z2)],[(2000,z4)]⟩,⟨[(0,zt)],[(2000,z4)]⟩,[2000],lB⟩
theorem wZ:FK 28 nS:=okO Tryz.f28 nS .leaf [(27,some 11,aa),(27,some 16,aa),(27,some 25,aa)] (.cons ab (.cons ab (.cons ab .nil))) (by kernel_rfl) (by kernel_rfl) (fun xs=>by kernel_rfl)
def bW.d1 (a b c d e f g h i j k l:C):R:=(bif a.B then (call3 (ae [.i (i.L.length:Int),c,d]) fun m n o=>(bif (decide (0<=m.I)) then (bif (decide (m.I<(i.L.length:Int))) then (call3 (j4 [e,f,g,h,n,o]) fun p q r=>(some (.ret [e,f,g,h,((i.L.getD m.I.toNat []).getD 0 .nil),p]))) else none) else none)) else (call3 (lB [e,f,g,h,c,d]) fun s t u=>(call3 (j4 [e,f,g,h,t,u]) fun v w x=>(some (.ret [e,f,g,h,s,v])))))
def bW.d2 (a:C):R:=(call2 (kg [a]) fun b c=>(call6 (nV [b,c]) fun d e f g h i=>(ad (hU [d,.l h.L,.l i.L,e]) fun j=>(aZ (bif (decide ((j.L.length:Int)>0)) then (call3 (ae [.i 8,f,g]) fun k l m=>(some (.nrm [.b (decide (k.I>0)),.b false,l,m,d,.l h.L,.l i.L,e,.l j.L,.l af,.l af,.l af]))) else (some (.nrm [.b false,.b false,f,g,d,.l h.L,.l i.L,e,.l j.L,.l af,.l af,.l af]))) (apn 12 bW.d1)))))
def bW:List C->Option (List C):=fun xs=>aU (apn 1 bW.d2 xs)
def ik:FS:=⟨1,⟨[(0,(zl 5))],[]⟩,⟨[(0,(.tu [z2,zt,zt]))],[]⟩,[],bW⟩
theorem qv:FK 11 ik:=okO Tryz.f11 ik (.seq .leaf (.seq .leaf (.seq .leaf (.seq (.frz [52153,52154] .leaf) (.seq (.seq (.join ⟨[(2,(.pt 2 0)),(5,(.pt 43960 0)),(6,(.pt 6 0)),(7,(.ow 60344)),(21,zo)],[(2,.var 27 [zo,(.ow 1012200),(.ow 1012201),(.ow 1012202)]),(43960,z4),(6,z0),(60344,.arr 9 1),(1012200,.arr 72 1),(1012201,.arr 40 1),(1012202,.arr 38 1)]⟩ .leaf) .leaf) .leaf))))) [(24,some 9,lM),(25,some 11,pD),(27,some 19,aa),(27,some 27,aa),(28,some 36,nS),(29,some 32,mC),(29,some 39,mC),(49,some 13,lU)] (.cons qS (.cons yx (.cons ab (.cons ab (.cons wZ (.cons vt (.cons vt (.cons xE .nil)))))))) (by kernel_rfl) (by kernel_rfl) (fun xs=>by kernel_rfl)
def jP.d1 (a b c d e f g h i j k l m:C):R:=(bif m.isP then (some (.ret [.b (a.S.toList==((m.P.getD 0 .nil).S).toList)])) else none)
def jP:List C->Option (List C):=fun xs=>aU (apn 13 jP.d1 xs)
def mU:FS:=⟨2,⟨[(0,z5),(1,(.d (.pt 9)))],[]⟩,⟨[(0,zo)],[]⟩,[],jP⟩
theorem yR:FK 61 mU:=okO Tryz.f61 mU .leaf [] .nil (by kernel_rfl) (by kernel_rfl) (fun xs=>by kernel_rfl)
def aK.d1 (a b c d:C):R:=(bif (decide (d.I<c.I)) then (bif (decide (0<=d.I)) then (bif (decide (d.I<(a.L.length:Int))) then (ad (jP [((a.L.getD d.I.toNat []).getD 0 .nil),((a.L.getD d.I.toNat []).getD 1 .nil),((a.L.getD d.I.toNat []).getD 2 .nil),((a.L.getD d.I.toNat []).getD 3 .nil),((a.L.getD d.I.toNat []).getD 4 .nil),((a.L.getD d.I.toNat []).getD 5 .nil),((a.L.getD d.I.toNat []).getD 6 .nil),((a.L.getD d.I.toNat []).getD 7 .nil),((a.L.getD d.I.toNat []).getD 8 .nil),((a.L.getD d.I.toNat []).getD 9 .nil),((a.L.getD d.I.toNat []).getD 10 .nil),((a.L.getD d.I.toNat []).getD 11 .nil),b]) fun e=>(bif e.B then (some (.ret [d])) else (some (.again [a,b,c,.i (w64 (d.I+1))])))) else none) else none) else (some (.brk 0 [])))
def aK.d2:R:=(some (.ret [.i (-1)]))
def aK.d3 (a b:C):R:=(ah 0 (lim (apn 4 aK.d1) [a,b,.i (a.L.length:Int),.i 0]) (fun xs=>aK.d2))
def aK:List C->Option (List C):=fun xs=>aU (apn 2 aK.d3 xs)
def fg:FS:=⟨2,⟨[(0,(zl 38)),(1,(.fn 61 [(.d (.pt 9))]))],[]⟩,⟨[(0,zi)],[]⟩,[],aK⟩
theorem lR:FK 60 fg:=okO Tryz.f60 fg (.seq .leaf (.seq (.seq .leaf (.block ⟨[],[]⟩ (.loop ⟨[(0,(zl 38)),(1,(.fn 61 [(.d (.pt 9))])),(7,zi),(8,zi)],[]⟩ .leaf))) .leaf)) [(61,some 16,mU)] (.cons yR .nil) (by kernel_rfl) (by kernel_rfl) (fun xs=>by kernel_rfl)
def gM.d1 (a b c d e:C):R:=(ad (aK [d,.p [e]]) fun f=>(some (.ret [f])))
def gM:List C->Option (List C):=fun xs=>aU (apn 5 gM.d1 xs)
def gT:FS:=⟨2,⟨[(0,z2),(1,zt)],[]⟩,⟨[(0,zi)],[]⟩,[],gM⟩
theorem ka:FK 31 gT:=okO Tryz.f31 gT .leaf [(60,some 8,fg)] (.cons lR .nil) (by kernel_rfl) (by kernel_rfl) (fun xs=>by kernel_rfl)
def iS.d1 (a b c d e f g:C):R:=(bif g.isP then (some (.ret [.b (a.S.toList==((g.P.getD 0 .nil).S).toList)])) else none)
def iS:List C->Option (List C):=fun xs=>aU (apn 7 iS.d1 xs)
def l7:FS:=⟨2,⟨[(0,z10),(1,(.d (.pt 9)))],[]⟩,⟨[(0,zo)],[]⟩,[],iS⟩
theorem xy:FK 63 l7:=okO Tryz.f63 l7 .leaf [] .nil (by kernel_rfl) (by kernel_rfl) (fun xs=>by kernel_rfl)
def aJ.d1 (a b c d:C):R:=(bif (decide (d.I<c.I)) then (bif (decide (0<=d.I)) then (bif (decide (d.I<(a.L.length:Int))) then (ad (iS [((a.L.getD d.I.toNat []).getD 0 .nil),((a.L.getD d.I.toNat []).getD 1 .nil),((a.L.getD d.I.toNat []).getD 2 .nil),((a.L.getD d.I.toNat []).getD 3 .nil),((a.L.getD d.I.toNat []).getD 4 .nil),((a.L.getD d.I.toNat []).getD 5 .nil),b]) fun e=>(bif e.B then (some (.ret [d])) else (some (.again [a,b,c,.i (w64 (d.I+1))])))) else none) else none) else (some (.brk 0 [])))
def aJ.d2:R:=(some (.ret [.i (-1)]))
def aJ.d3 (a b:C):R:=(ah 0 (lim (apn 4 aJ.d1) [a,b,.i (a.L.length:Int),.i 0]) (fun xs=>aJ.d2))
def aJ:List C->Option (List C):=fun xs=>aU (apn 2 aJ.d3 xs)
def eP:FS:=⟨2,⟨[(0,(zl 72)),(1,(.fn 63 [(.d (.pt 9))]))],[]⟩,⟨[(0,zi)],[]⟩,[],aJ⟩
theorem kM:FK 62 eP:=okO Tryz.f62 eP (.seq .leaf (.seq (.seq .leaf (.block ⟨[],[]⟩ (.loop ⟨[(0,(zl 72)),(1,(.fn 63 [(.d (.pt 9))])),(7,zi),(8,zi)],[]⟩ .leaf))) .leaf)) [(63,some 16,l7)] (.cons xy .nil) (by kernel_rfl) (by kernel_rfl) (fun xs=>by kernel_rfl)
def ft.d1 (a b c d e:C):R:=(ad (aJ [b,.p [e]]) fun f=>(some (.ret [f])))
def ft:List C->Option (List C):=fun xs=>aU (apn 5 ft.d1 xs)
def gu:FS:=⟨2,⟨[(0,z2),(1,zt)],[]⟩,⟨[(0,zi)],[]⟩,[],ft⟩
theorem jk:FK 32 gu:=okO Tryz.f32 gu .leaf [(62,some 8,eP)] (.cons kM .nil) (by kernel_rfl) (by kernel_rfl) (fun xs=>by kernel_rfl)
def sg.d1 (a:C):R:=(bif (decide (a.I≥97)) then (bif (!(decide (a.I<=122))) then (bif (decide (a.I≥48)) then (bif (!(decide (a.I<=57))) then (bif (!(a.I==45)) then (some (.ret [.b (a.I==95)])) else (some (.ret [.b true]))) else (some (.ret [.b true]))) else (bif (!(a.I==45)) then (some (.ret [.b (a.I==95)])) else (some (.ret [.b true])))) else (some (.ret [.b true]))) else (bif (decide (a.I≥48)) then (bif (!(decide (a.I<=57))) then (bif (!(a.I==45)) then (some (.ret [.b (a.I==95)])) else (some (.ret [.b true]))) else (some (.ret [.b true]))) else (bif (!(a.I==45)) then (some (.ret [.b (a.I==95)])) else (some (.ret [.b true])))))
def sg:List C->Option (List C):=fun xs=>aU (apn 1 sg.d1 xs)
def pK:FS:=⟨1,⟨[(0,(.d (.int .u8)))],[]⟩,⟨[(0,zo)],[]⟩,[],sg⟩
theorem yA:FK 81 pK:=okO Tryz.f81 pK .leaf [] .nil (by kernel_rfl) (by kernel_rfl) (fun xs=>by kernel_rfl)
def eg.d1 (a b c:C):R:=(bif (decide (c.I<b.I)) then (bif (decide (0<=c.I)) then (bif (decide (c.I<(a.S.size:Int))) then (ad (sg [.i ((a.S.data.getD c.I.toNat 0).toNat:Int)]) fun d=>(bif (!d.B) then (some (.ret [.b false])) else (some (.again [a,b,.i (w64 (c.I+1))])))) else none) else none) else (some (.brk 0 [])))
def eg.d2:R:=(some (.ret [.b true]))
def eg.d3 (a:C):R:=(bif (!(decide ((a.S.size:Int)<1))) then (bif (decide ((a.S.size:Int)>20)) then (some (.ret [.b false])) else (ah 0 (lim (apn 3 eg.d1) [a,.i (a.S.size:Int),.i 0]) (fun xs=>eg.d2))) else (some (.ret [.b false])))
def eg:List C->Option (List C):=fun xs=>aU (apn 1 eg.d3 xs)
def fH:FS:=⟨1,⟨[(0,zt)],[]⟩,⟨[(0,zo)],[]⟩,[],eg⟩
theorem hJ:FK 45 fH:=okO Tryz.f45 fH (.seq .leaf (.seq .leaf (.seq (.seq .leaf (.block ⟨[],[]⟩ (.loop ⟨[(0,zt),(13,zi),(14,zi)],[]⟩ .leaf))) .leaf))) [(81,some 20,pK)] (.cons yA .nil) (by kernel_rfl) (by kernel_rfl) (fun xs=>by kernel_rfl)
def fF.d1 (a b c:C):R:=(bif (decide (a.I≥b.I)) then (some (.ret [.b (decide (a.I<=c.I))])) else (some (.ret [.b false])))
def fF:List C->Option (List C):=fun xs=>aU (apn 3 fF.d1 xs)
def eZ:FS:=⟨3,⟨[(0,zi),(1,zi),(2,zi)],[]⟩,⟨[(0,zo)],[]⟩,[],fF⟩
theorem fX:FK 46 eZ:=okO Tryz.f46 eZ .leaf [] .nil (by kernel_rfl) (by kernel_rfl) (fun xs=>by kernel_rfl)
def eT:List C->Option (List C):=ibF
def fO:FS:=⟨2,⟨[(0,.d .str),(1,.d (.int .u8))],[]⟩,⟨[(0,.d (.int .i64))],[]⟩,[],eT⟩
theorem j8:FK 176 fO:=LC
def bc.d1 (a b c d:C):R:=(bif d.B then (some (.ret [.i 0])) else (bif (c.I==1) then (bif (decide (0<(b.S.size:Int))) then (ad (eT [a,.i ((b.S.data.getD 0 0).toNat:Int)]) fun e=>(some (.ret [e]))) else none) else (bif (decide (c.I≥(a.S.size:Int))) then (some (.ret [.i (-1)])) else none)))
def bc.d2 (a b:C):R:=(aZ (bif (!((b.S.size:Int)==0)) then (some (.nrm [a,b,.i (b.S.size:Int),.b (b.S.toList==a.S.toList)])) else (some (.nrm [a,b,.i (b.S.size:Int),.b true]))) (apn 4 bc.d1))
def bc:List C->Option (List C):=fun xs=>aU (apn 2 bc.d2 xs)
def eX:FS:=⟨2,⟨[(0,zt),(1,zt)],[]⟩,⟨[(0,zi)],[]⟩,[],bc⟩
theorem lS:FK 165 eX:=okO Tryz.f165 eX (.seq .leaf (.seq .leaf (.seq (.skip (.seq (.join ⟨[(0,zt),(1,zt),(5,zi),(16,zo)],[]⟩ .leaf) .leaf)) .leaf))) [(176,some 30,fO)] (.cons j8 .nil) (by kernel_rfl) (by kernel_rfl) (fun xs=>by kernel_rfl)
def dh.d1 (a b:C):R:=(ad (bc [a,b]) fun c=>(bif (decide (c.I≥0)) then (bif (decide (0<=c.I)) then (bif (decide (c.I<=(a.S.size:Int))) then (bif (decide (0<=(w64 (c.I+(b.S.size:Int))))) then (bif (decide ((w64 (c.I+(b.S.size:Int)))<=(a.S.size:Int))) then (bif (decide ((a.S.size:Int)<=(a.S.size:Int))) then (some (.ret [.s (a.S.extract 0 c.I.toNat),.s (a.S.extract (w64 (c.I+(b.S.size:Int))).toNat (a.S.size:Int).toNat),.b true])) else none) else none) else none) else none) else none) else (some (.ret [a,.s (bs #[]),.b false]))))
def dh:List C->Option (List C):=fun xs=>aU (apn 2 dh.d1 xs)
def fv:FS:=⟨2,⟨[(0,zt),(1,zt)],[]⟩,⟨[(0,(.tu [zt,zt,zo]))],[]⟩,[],dh⟩
theorem mB:FK 141 fv:=okO Tryz.f141 fv .leaf [(165,some 10,eX)] (.cons lS .nil) (by kernel_rfl) (by kernel_rfl) (fun xs=>by kernel_rfl)
def j5.d1 (a b:C):R:=(call3 (dh [a,b]) fun c d e=>(some (.ret [c,d,.b e.B])))
def j5:List C->Option (List C):=fun xs=>aU (apn 2 j5.d1 xs)
def mQ:FS:=⟨2,⟨[(0,zt),(1,zt)],[]⟩,⟨[(0,(.tu [zt,zt,zo]))],[]⟩,[],j5⟩
theorem zy:FK 110 mQ:=okO Tryz.f110 mQ .leaf [(141,some 9,fv)] (.cons mB .nil) (by kernel_rfl) (by kernel_rfl) (fun xs=>by kernel_rfl)
def nM.d1 (a:C):R:=(call3 (j5 [a,.s (bs #[61])]) fun b c d=>(ad (eg [b]) fun e=>(bif e.B then (bif (!(!d.B)) then (ad (eg [c]) fun f=>(some (.ret [b,c,.b f.B]))) else (some (.ret [b,c,.b true]))) else (some (.ret [b,c,.b false])))))
def nM:List C->Option (List C):=fun xs=>aU (apn 1 nM.d1 xs)
def pv:FS:=⟨1,⟨[(0,zt)],[]⟩,⟨[(0,(.tu [zt,zt,zo]))],[]⟩,[],nM⟩
theorem zk:FK 80 pv:=okO Tryz.f80 pv .leaf [(45,some 17,fH),(45,some 23,fH),(110,some 10,mQ)] (.cons hJ (.cons hJ (.cons zy .nil))) (by kernel_rfl) (by kernel_rfl) (fun xs=>by kernel_rfl)
def dS.d1 (a b c d e f g h i j:C):R:=(bif (decide (c.I<b.I)) then (bif (decide (0<=c.I)) then (bif (decide (c.I<(a.L.length:Int))) then (call3 (nM [((a.L.getD c.I.toNat []).getD 0 .nil)]) fun k l m=>(bif (!(!m.B)) then (bif (!((j7 (.b false) k.S j.L).B)) then (bif (decide (c.I>0)) then (bif (decide (0<=(w64 (c.I-1)))) then (bif (decide ((w64 (c.I-1))<(f.L.length:Int))) then (bif ((Op.bytesLess (((a.L.getD c.I.toNat []).getD 0 .nil).S).toList (((f.L.getD (w64 (c.I-1)).toNat []).getD 0 .nil).S).toList)||((((a.L.getD c.I.toNat []).getD 0 .nil).S).toList==(((f.L.getD (w64 (c.I-1)).toNat []).getD 0 .nil).S).toList)) then (some (.ret [.b false])) else (some (.again [a,b,.i (w64 (c.I+1)),d,e,f,g,h,i,.l (l8 k.S (.b true) j.L)]))) else none) else none) else (some (.again [a,b,.i (w64 (c.I+1)),d,e,f,g,h,i,.l (l8 k.S (.b true) j.L)]))) else (some (.ret [.b false]))) else (some (.ret [.b false])))) else none) else none) else (some (.brk 0 [])))
def dS.d2:R:=(some (.ret [.b true]))
def dS.d3 (a b c d e f:C):R:=(ad (eg [a]) fun g=>(bif (!(!g.B)) then (ad (eg [b]) fun h=>(bif (!(!h.B)) then (bif (!(decide ((c.L.length:Int)>10))) then (ad (fF [d,.i 0,.i 1000]) fun i=>(bif (!(!i.B)) then (ad (fF [e,.i 0,.i 1000]) fun j=>(bif (!j.B) then (some (.ret [.b false])) else (ah 0 (lim (apn 10 dS.d1) [c,.i (c.L.length:Int),.i 0,a,b,c,d,e,f,.l af]) (fun xs=>dS.d2)))) else (some (.ret [.b false])))) else (some (.ret [.b false]))) else (some (.ret [.b false])))) else (some (.ret [.b false]))))
def dS:List C->Option (List C):=fun xs=>aU (apn 6 dS.d3 xs)
def oj:FS:=⟨1,⟨[(0,z10)],[]⟩,⟨[(0,zo)],[]⟩,[],dS⟩
theorem Al:FK 44 oj:=okO Tryz.f44 oj (.seq .leaf (.seq .leaf (.seq .leaf (.seq (.seq .leaf (.block ⟨[],[]⟩ (.loop ⟨[(1,(.pt 1 0)),(3,(.mp 37)),(39,(zl 9)),(40,zi),(41,zi)],[(1,z3),(37,.mp 4)]⟩ .leaf))) .leaf)))) [(45,some 11,fH),(45,some 16,fH),(46,some 28,eZ),(46,some 34,eZ),(80,some 48,pv)] (.cons hJ (.cons hJ (.cons fX (.cons fX (.cons zk .nil))))) (by kernel_rfl) (by kernel_rfl) (fun xs=>by kernel_rfl)
def aS.d1 (a b:C):R:=(bif (decide ((a.S.size:Int)>0)) then (bif (decide (0<=(w64 ((a.S.size:Int)-1)))) then (bif (decide ((w64 ((a.S.size:Int)-1))<(a.S.size:Int))) then (bif (((a.S.data.getD (w64 ((a.S.size:Int)-1)).toNat 0).toNat:Int)==b.I) then (bif (decide (0<=(w64 ((a.S.size:Int)-1)))) then (bif (decide ((w64 ((a.S.size:Int)-1))<=(a.S.size:Int))) then (some (.again [.s (a.S.extract 0 (w64 ((a.S.size:Int)-1)).toNat),b])) else none) else none) else (some (.brk 0 [a]))) else none) else none) else (some (.brk 0 [a])))
def aS.d2 (a:C):R:=(some (.ret [a]))
def aS.d3 (a b:C):R:=(ah 0 (lim (apn 2 aS.d1) [a,b]) (apn 1 aS.d2))
def aS:List C->Option (List C):=fun xs=>aU (apn 2 aS.d3 xs)
def gE:FS:=⟨2,⟨[(0,zt),(1,(.d (.int .u8)))],[]⟩,⟨[(0,zt)],[]⟩,[],aS⟩
theorem oF:FK 143 gE:=okO Tryz.f143 gE (.seq .leaf (.seq (.block ⟨[(0,zt)],[]⟩ (.loop ⟨[(0,zt),(1,(.d (.int .u8)))],[]⟩ .leaf)) .leaf)) [] .nil (by kernel_rfl) (by kernel_rfl) (fun xs=>by kernel_rfl)
def aW.d1 (a b:C):R:=(bif (decide ((a.S.size:Int)>0)) then (bif (decide (0<(a.S.size:Int))) then (bif (((a.S.data.getD 0 0).toNat:Int)==b.I) then (bif (decide (1<=(a.S.size:Int))) then (bif (decide ((a.S.size:Int)<=(a.S.size:Int))) then (some (.again [.s (a.S.extract 1 (a.S.size:Int).toNat),b])) else none) else none) else (some (.brk 0 [a]))) else none) else (some (.brk 0 [a])))
def aW.d2 (a:C):R:=(some (.ret [a]))
def aW.d3 (a b:C):R:=(ah 0 (lim (apn 2 aW.d1) [a,b]) (apn 1 aW.d2))
def aW:List C->Option (List C):=fun xs=>aU (apn 2 aW.d3 xs)
def gO:FS:=⟨2,⟨[(0,zt),(1,(.d (.int .u8)))],[]⟩,⟨[(0,zt)],[]⟩,[],aW⟩
theorem oZ:FK 142 gO:=okO Tryz.f142 gO (.seq .leaf (.seq (.block ⟨[(0,zt)],[]⟩ (.loop ⟨[(0,zt),(1,(.d (.int .u8)))],[]⟩ .leaf)) .leaf)) [] .nil (by kernel_rfl) (by kernel_rfl) (fun xs=>by kernel_rfl)
def gq.d1 (a:C):R:=none
def gq:List C->Option (List C):=fun xs=>aU (apn 1 gq.d1 xs)
def gN:FS:=⟨1,⟨[(0,zt)],[]⟩,⟨[],[]⟩,[],gq⟩
theorem o9:FK 144 gN:=okO Tryz.f144 gN .leaf [] .nil (by kernel_rfl) (by kernel_rfl) (fun xs=>by kernel_rfl)
def fw.d1 (a b:C):R:=(im (gq [b]) fun _=>none)
def fw.d2 (a b:C):R:=(bif (!(a.S.toList==(bs #[]).toList)) then (bif (b.S.toList==(bs #[]).toList) then (some (.ret [a])) else (aZ (bif ((b.S.size:Int)==1) then (bif (decide (0<(b.S.size:Int))) then (bif (decide (((b.S.data.getD 0 0).toNat:Int)<128)) then (bif (decide (0<(b.S.size:Int))) then (ad (aS [a,.i ((b.S.data.getD 0 0).toNat:Int)]) fun c=>(bif (decide (0<(b.S.size:Int))) then (ad (aW [c,.i ((b.S.data.getD 0 0).toNat:Int)]) fun d=>(some (.ret [d]))) else none)) else none) else (some (.nrm [a,b]))) else none) else (some (.nrm [a,b]))) (apn 2 fw.d1))) else (some (.ret [a])))
def fw:List C->Option (List C):=fun xs=>aU (apn 2 fw.d2 xs)
def lY:FS:=⟨2,⟨[(0,zt),(1,zt)],[]⟩,⟨[(0,zt)],[]⟩,[],fw⟩
theorem xm:FK 111 lY:=okO Tryz.f111 lY (.seq .leaf (.seq .leaf (.seq (.join ⟨[(0,zt),(1,zt)],[]⟩ .leaf) .leaf))) [(142,some 28,gO),(143,some 25,gE),(144,some 31,gN)] (.cons oZ (.cons oF (.cons o9 .nil))) (by kernel_rfl) (by kernel_rfl) (fun xs=>by kernel_rfl)
def bN.d1 (a b c:C):R:=(bif (decide (b.I<(a.S.size:Int))) then (bif (decide (0<=b.I)) then (bif (decide (b.I<(a.S.size:Int))) then (bif (((a.S.data.getD b.I.toNat 0).toNat:Int)==32) then (some (.again [a,.i (w64 (b.I+1)),c])) else (some (.brk 0 [a,b,c]))) else none) else none) else (some (.brk 0 [a,b,c])))
def bN.d2 (a b c:C):R:=(some (.ret [a,b,c]))
def bN.d3 (a b c:C):R:=(ah 0 (lim (apn 3 bN.d1) [a,b,c]) (apn 3 bN.d2))
def bN:List C->Option (List C):=fun xs=>aU (apn 3 bN.d3 xs)
def gQ:FS:=⟨1,⟨[(0,(.pt 2000 0))],[(2000,.var 142 [zt,zi,zo])]⟩,⟨[(0,(.tu []))],[(2000,.var 142 [zt,zi,zo])]⟩,[2000],bN⟩
theorem kQ:FK 113 gQ:=okO Tryz.f113 gQ (.block ⟨[],[(2000,.var 142 [zt,zi,zo])]⟩ (.loop ⟨[(0,(.pt 2000 0))],[(2000,.var 142 [zt,zi,zo])]⟩ .leaf)) [] .nil (by kernel_rfl) (by kernel_rfl) (fun xs=>by kernel_rfl)
def bC.d1 (a b c d:C):R:=(call3 (bN [b,c,d]) fun e f g=>(bif (decide (f.I<(e.S.size:Int))) then (bif (decide (0<=f.I)) then (bif (decide (f.I<(e.S.size:Int))) then (bif (((e.S.data.getD f.I.toNat 0).toNat:Int)==a.I) then (some (.ret [.b true,e,.i (w64 (f.I+1)),g])) else (some (.ret [.b false,e,f,g]))) else none) else none) else (some (.ret [.b false,e,f,g]))))
def bC:List C->Option (List C):=fun xs=>aU (apn 4 bC.d1 xs)
def dU:FS:=⟨2,⟨[(0,(.pt 2000 0)),(1,(.d (.int .u8)))],[(2000,.var 142 [zt,zi,zo])]⟩,⟨[(0,zo)],[(2000,.var 142 [zt,zi,zo])]⟩,[2000],bC⟩
theorem fh:FK 150 dU:=okO Tryz.f150 dU .leaf [(113,some 6,gQ)] (.cons kQ .nil) (by kernel_rfl) (by kernel_rfl) (fun xs=>by kernel_rfl)
def bB.d1 (a b c d:C):R:=(bif (decide (c.I<(b.S.size:Int))) then (bif (decide (0<=c.I)) then (bif (decide (c.I<(b.S.size:Int))) then (ad (sg [.i ((b.S.data.getD c.I.toNat 0).toNat:Int)]) fun e=>(bif e.B then (some (.again [a,b,.i (w64 (c.I+1)),d])) else (some (.brk 0 [a,b,c,d])))) else none) else none) else (some (.brk 0 [a,b,c,d])))
def bB.d2 (a b c d:C):R:=(bif (decide (0<=a.I)) then (bif (decide (a.I<=c.I)) then (bif (decide (c.I<=(b.S.size:Int))) then (ad (eg [.s (b.S.extract a.I.toNat c.I.toNat)]) fun e=>(bif (!e.B) then (bif (decide (0<=a.I)) then (bif (decide (a.I<=c.I)) then (bif (decide (c.I<=(b.S.size:Int))) then (some (.ret [.s (b.S.extract a.I.toNat c.I.toNat),b,c,.b false])) else none) else none) else none) else (bif (decide (0<=a.I)) then (bif (decide (a.I<=c.I)) then (bif (decide (c.I<=(b.S.size:Int))) then (some (.ret [.s (b.S.extract a.I.toNat c.I.toNat),b,c,d])) else none) else none) else none))) else none) else none) else none)
def bB.d3 (a b c:C):R:=(call3 (bN [a,b,c]) fun d e f=>(ah 0 (lim (apn 4 bB.d1) [e,d,e,f]) (apn 4 bB.d2)))
def bB:List C->Option (List C):=fun xs=>aU (apn 3 bB.d3 xs)
def iv:FS:=⟨1,⟨[(0,(.pt 2000 0))],[(2000,.var 142 [zt,zi,zo])]⟩,⟨[(0,zt)],[(2000,.var 142 [zt,zi,zo])]⟩,[2000],bB⟩
theorem nY:FK 183 iv:=okO Tryz.f183 iv (.seq .leaf (.seq .leaf (.seq .leaf (.seq (.block ⟨[(0,(.pt 2000 0)),(3,zi)],[(2000,.var 142 [zt,zi,zo])]⟩ (.loop ⟨[(0,(.pt 2000 0)),(3,zi)],[(2000,.var 142 [zt,zi,zo])]⟩ .leaf)) .leaf)))) [(45,some 49,fH),(81,some 30,pK),(113,some 5,gQ)] (.cons hJ (.cons yA (.cons kQ .nil))) (by kernel_rfl) (by kernel_rfl) (fun xs=>by kernel_rfl)
end
end Go.Ev
namespace Go.Ev
open Go.Proofs
noncomputable section
def av.d1 (G0 G1 G2:List C->Option (List C)) (a b c d:C):R:=(bif d.B then (call4 (bC [.i 124,b,c,d]) fun e f g h=>(bif e.B then (call4 (G1 [f,g,h]) fun i j k l=>(some (.again [.p [.i 5,.s (bs #[]),.s (bs #[]),.l (rows [[a],[i]])],j,k,l]))) else (some (.brk 0 [a,f,g,h])))) else (some (.brk 0 [a,b,c,d])))
def av.d2 (G0 G1 G2:List C->Option (List C)) (a b c d:C):R:=(some (.ret [a,b,c,d]))
def av.d3 (G0 G1 G2:List C->Option (List C)) (a b c:C):R:=(call4 (G1 [a,b,c]) fun d e f g=>(ah 0 (lim (apn 4 (av.d1 G0 G1 G2)) [d,e,f,g]) (apn 4 (av.d2 G0 G1 G2))))
def av.step (G0 G1 G2:List C->Option (List C)):List C->Option (List C):=fun xs=>aU (apn 3 (av.d3 G0 G1 G2) xs)
def ed (G:List C->Option (List C)):FS:=⟨1,⟨[(0,(.pt 2000 0))],[(2000,.var 142 [(.d .str),(.d (.int .i64)),(.d .bool)])]⟩,⟨[(0,(.d (.pt 139)))],[(2000,.var 142 [(.d .str),(.d (.int .i64)),(.d .bool)])]⟩,[2000],G⟩
def dK.d1 (G0 G1 G2:List C->Option (List C)) (a b c d:C):R:=(bif d.B then (call4 (bC [.i 38,b,c,d]) fun e f g h=>(bif e.B then (call4 (G2 [f,g,h]) fun i j k l=>(some (.again [.p [.i 4,.s (bs #[]),.s (bs #[]),.l (rows [[a],[i]])],j,k,l]))) else (some (.brk 0 [a,f,g,h])))) else (some (.brk 0 [a,b,c,d])))
def dK.d2 (G0 G1 G2:List C->Option (List C)) (a b c d:C):R:=(some (.ret [a,b,c,d]))
def dK.d3 (G0 G1 G2:List C->Option (List C)) (a b c:C):R:=(call4 (G2 [a,b,c]) fun d e f g=>(ah 0 (lim (apn 4 (dK.d1 G0 G1 G2)) [d,e,f,g]) (apn 4 (dK.d2 G0 G1 G2))))
def dK.step (G0 G1 G2:List C->Option (List C)):List C->Option (List C):=fun xs=>aU (apn 3 (dK.d3 G0 G1 G2) xs)
def ek (G:List C->Option (List C)):FS:=⟨1,⟨[(0,(.pt 2000 0))],[(2000,.var 142 [(.d .str),(.d (.int .i64)),(.d .bool)])]⟩,⟨[(0,(.d (.pt 139)))],[(2000,.var 142 [(.d .str),(.d (.int .i64)),(.d .bool)])]⟩,[2000],G⟩
def fA.d1 (G0 G1 G2:List C->Option (List C)) (a b c:C):R:=(bif (!c.B) then (some (.ret [.p [.i 0,.s (bs #[]),.s (bs #[]),.l af],a,b,c])) else (call4 (bC [.i 33,a,b,c]) fun d e f g=>(bif d.B then (call4 (G2 [e,f,g]) fun h i j k=>(some (.ret [.p [.i 3,.s (bs #[]),.s (bs #[]),.l (rows [[h]])],i,j,k]))) else (call4 (bC [.i 40,e,f,g]) fun l m n o=>(bif l.B then (call4 (G0 [m,n,o]) fun p q r s=>(bif s.B then (call4 (bC [.i 41,q,r,s]) fun t u v w=>(some (.ret [p,u,v,.b t.B]))) else (some (.ret [p,q,r,.b false])))) else (call4 (bB [m,n,o]) fun x y z a0=>(bif a0.B then (call4 (bC [.i 61,y,z,a0]) fun a1 a2 a3 a4=>(bif a1.B then (call4 (bB [a2,a3,a4]) fun a5 a6 a7 a8=>(some (.ret [.p [.i 2,x,a5,.l af],a6,a7,a8]))) else (some (.ret [.p [.i 1,x,.s (bs #[]),.l af],a2,a3,a4])))) else (some (.ret [.p [.i 1,x,.s (bs #[]),.l af],y,z,a0])))))))))
def fA.step (G0 G1 G2:List C->Option (List C)):List C->Option (List C):=fun xs=>aU (apn 3 (fA.d1 G0 G1 G2) xs)
def dQ (G:List C->Option (List C)):FS:=⟨1,⟨[(0,(.pt 2000 0))],[(2000,.var 142 [(.d .str),(.d (.int .i64)),(.d .bool)])]⟩,⟨[(0,(.d (.pt 139)))],[(2000,.var 142 [(.d .str),(.d (.int .i64)),(.d .bool)])]⟩,[2000],G⟩
theorem xu {G0 G1 G2:List C->Option (List C)} (h0:FK 112 (ed G0)) (h1:FK 149 (ek G1)) (h2:FK 170 (dQ G2)):FK 112 (ed (av.step G0 G1 G2)):=okO Tryz.f112 (ed (av.step G0 G1 G2)) (.seq .leaf (.seq .leaf (.seq (.block ⟨[(3,(.d (.pt 139)))],[(2000,.var 142 [(.d .str),(.d (.int .i64)),(.d .bool)])]⟩ (.loop ⟨[(0,(.pt 2000 0)),(3,(.d (.pt 139)))],[(2000,.var 142 [(.d .str),(.d (.int .i64)),(.d .bool)])]⟩ .leaf)) .leaf))) [(149,some 5,(ek G1)),(149,some 16,(ek G1)),(150,some 12,dU)] (.cons h1 (.cons h1 (.cons fh .nil))) (by kernel_rfl) (by kernel_rfl) (fun xs=>by kernel_rfl)
theorem vV {G0 G1 G2:List C->Option (List C)} (h0:FK 112 (ed G0)) (h1:FK 149 (ek G1)) (h2:FK 170 (dQ G2)):FK 149 (ek (dK.step G0 G1 G2)):=okO Tryz.f149 (ek (dK.step G0 G1 G2)) (.seq .leaf (.seq .leaf (.seq (.block ⟨[(3,(.d (.pt 139)))],[(2000,.var 142 [(.d .str),(.d (.int .i64)),(.d .bool)])]⟩ (.loop ⟨[(0,(.pt 2000 0)),(3,(.d (.pt 139)))],[(2000,.var 142 [(.d .str),(.d (.int .i64)),(.d .bool)])]⟩ .leaf)) .leaf))) [(150,some 12,dU),(170,some 5,(dQ G2)),(170,some 16,(dQ G2))] (.cons fh (.cons h2 (.cons h2 .nil))) (by kernel_rfl) (by kernel_rfl) (fun xs=>by kernel_rfl)
theorem vS {G0 G1 G2:List C->Option (List C)} (h0:FK 112 (ed G0)) (h1:FK 149 (ek G1)) (h2:FK 170 (dQ G2)):FK 170 (dQ (fA.step G0 G1 G2)):=okO Tryz.f170 (dQ (fA.step G0 G1 G2)) (.seq .leaf (.seq (.skip (.seq .leaf (.cond (.seq .leaf (.frz [12] .leaf)) (.seq .leaf (.cond (.seq .leaf (.frz [18,20] .leaf)) .leaf))))) (.seq .leaf (.seq .leaf (.seq .leaf (.frz [41] .leaf)))))) [(112,some 25,(ed G0)),(150,some 15,dU),(150,some 23,dU),(150,some 33,dU),(150,some 48,dU),(170,some 17,(dQ G2)),(183,some 39,iv),(183,some 53,iv)] (.cons h0 (.cons fh (.cons fh (.cons fh (.cons fh (.cons h2 (.cons nY (.cons nY .nil)))))))) (by kernel_rfl) (by kernel_rfl) (fun xs=>by kernel_rfl)
def av.g:Nat->Nat->List C->Option (List C)
 |0,_=>fun _=>none
 |k+1,0=>av.step (av.g k 0) (av.g k 1) (av.g k 2)
 |k+1,1=>dK.step (av.g k 0) (av.g k 1) (av.g k 2)
 |k+1,2=>fA.step (av.g k 0) (av.g k 1) (av.g k 2)
 |_,_=>fun _=>none
theorem dk:∀k:Nat,FK 112 (ed (av.g k 0))/\FK 149 (ek (av.g k 1))/\FK 170 (dQ (av.g k 2))
 |0=>⟨kX (fn:=Tryz.f112) (c:=Tryz.f112.body.getD .skip) (1) (⟨[(0,(.pt 2000 0))],[(2000,.var 142 [(.d .str),(.d (.int .i64)),(.d .bool)])]⟩) (⟨[(0,(.d (.pt 139)))],[(2000,.var 142 [(.d .str),(.d (.int .i64)),(.d .bool)])]⟩) [2000] (by kernel_rfl) (by kernel_rfl) (by kernel_rfl),kX (fn:=Tryz.f149) (c:=Tryz.f149.body.getD .skip) (1) (⟨[(0,(.pt 2000 0))],[(2000,.var 142 [(.d .str),(.d (.int .i64)),(.d .bool)])]⟩) (⟨[(0,(.d (.pt 139)))],[(2000,.var 142 [(.d .str),(.d (.int .i64)),(.d .bool)])]⟩) [2000] (by kernel_rfl) (by kernel_rfl) (by kernel_rfl),kX (fn:=Tryz.f170) (c:=Tryz.f170.body.getD .skip) (1) (⟨[(0,(.pt 2000 0))],[(2000,.var 142 [(.d .str),(.d (.int .i64)),(.d .bool)])]⟩) (⟨[(0,(.d (.pt 139)))],[(2000,.var 142 [(.d .str),(.d (.int .i64)),(.d .bool)])]⟩) [2000] (by kernel_rfl) (by kernel_rfl) (by kernel_rfl)⟩
 |k+1=>⟨xu (dk k).1 (dk k).2.1 (dk k).2.2,vV (dk k).1 (dk k).2.1 (dk k).2.2,vS (dk k).1 (dk k).2.1 (dk k).2.2⟩
def av:List C->Option (List C):=av.g jd 0
theorem xw:FK 112 (ed av):=(dk jd).1
def dK:List C->Option (List C):=av.g jd 1
def fA:List C->Option (List C):=av.g jd 2
def aw.d1 (G0:List C->Option (List C)) (a b c d:C):R:=(bif (decide (d.I<c.I)) then (bif (decide (0<=d.I)) then (bif (decide (d.I<(b.L.length:Int))) then (ad (G0 [((b.L.getD d.I.toNat []).getD 0 .nil)]) fun e=>(some (.again [.i (if (w64 (e.I+1))>a.I then (w64 (e.I+1)) else a.I),b,c,.i (w64 (d.I+1))]))) else none) else none) else (some (.brk 0 [a])))
def aw.d2 (G0:List C->Option (List C)) (a:C):R:=(some (.ret [a]))
def aw.d3 (G0:List C->Option (List C)) (a:C):R:=(bif a.isP then (ah 0 (lim (apn 4 (aw.d1 G0)) [.i 0,(a.P.getD 3 .nil),.i (((a.P.getD 3 .nil).L).length:Int),.i 0]) (apn 1 (aw.d2 G0))) else none)
def aw.step (G0:List C->Option (List C)):List C->Option (List C):=fun xs=>aU (apn 1 (aw.d3 G0) xs)
def fk (G:List C->Option (List C)):FS:=⟨1,⟨[(0,(.d (.pt 139)))],[]⟩,⟨[(0,(.d (.int .i64)))],[]⟩,[],G⟩
theorem xq {G0:List C->Option (List C)} (h0:FK 114 (fk G0)):FK 114 (fk (aw.step G0)):=okO Tryz.f114 (fk (aw.step G0)) (.seq .leaf (.seq .leaf (.seq (.seq .leaf (.block ⟨[(3,(.d (.int .i64)))],[]⟩ (.loop ⟨[(3,(.d (.int .i64))),(9,(.d (.sl 104))),(10,(.d (.int .i64))),(11,(.d (.int .i64)))],[]⟩ .leaf))) .leaf))) [(114,some 17,(fk G0))] (.cons h0 .nil) (by kernel_rfl) (by kernel_rfl) (fun xs=>by kernel_rfl)
def aw.g:Nat->Nat->List C->Option (List C)
 |0,_=>fun _=>none
 |k+1,0=>aw.step (aw.g k 0)
 |_,_=>fun _=>none
theorem o7:∀k:Nat,FK 114 (fk (aw.g k 0))
 |0=>kX (fn:=Tryz.f114) (c:=Tryz.f114.body.getD .skip) (1) (⟨[(0,(.d (.pt 139)))],[]⟩) (⟨[(0,(.d (.int .i64)))],[]⟩) [] (by kernel_rfl) (by kernel_rfl) (by kernel_rfl)
 |k+1=>xq (o7 k)
def aw:List C->Option (List C):=aw.g jd 0
theorem xi:FK 114 (fk aw):=o7 jd
def kr.d1 (a:C):R:=(bif (decide ((a.S.size:Int)>200)) then (some (.ret [.nil,.i 1])) else (ad (fw [a,.s (bs #[32])]) fun b=>(bif (b.S.toList==(bs #[]).toList) then (some (.ret [.p [.i 0,.s (bs #[]),.s (bs #[]),.l af],.i 0])) else (call4 (av [a,.i 0,.b true]) fun c d e f=>(call3 (bN [d,e,f]) fun g h i=>(bif (!(!i.B)) then (bif (decide (h.I<(a.S.size:Int))) then (some (.ret [.nil,.i 2])) else (ad (aw [c]) fun j=>(bif (decide (j.I>20)) then (some (.ret [.nil,.i 3])) else (some (.ret [c,.i 0]))))) else (some (.ret [.nil,.i 2]))))))))
def kr:List C->Option (List C):=fun xs=>aU (apn 1 kr.d1 xs)
def lA:FS:=⟨1,⟨[(0,zt)],[]⟩,⟨[(0,(.tu [(.d (.pt 139)),zi]))],[]⟩,[],kr⟩
theorem rr:FK 82 lA:=okO Tryz.f82 lA (.seq .leaf (.seq .leaf (.seq (.seq .leaf (.cond (.seq .leaf (.frz [13] .leaf)) .leaf)) .leaf))) [(111,some 10,lY),(112,some 18,(ed av)),(113,some 20,gQ),(114,some 36,(fk aw))] (.cons xm (.cons xw (.cons kQ (.cons xi .nil)))) (by kernel_rfl) (by kernel_rfl) (fun xs=>by kernel_rfl)
def dg.d1 (a b c:C):R:=(bif (decide (c.I<b.I)) then (bif (decide (0<=c.I)) then (bif (decide (c.I<(a.L.length:Int))) then (call2 (kr [((a.L.getD c.I.toNat []).getD 0 .nil)]) fun d e=>(bif (!(e.I !=0)) then (ad (fF [((a.L.getD c.I.toNat []).getD 1 .nil),.i (-9),.i 9]) fun f=>(bif (!f.B) then (some (.ret [.b false])) else (some (.again [a,b,.i (w64 (c.I+1))])))) else (some (.ret [.b false])))) else none) else none) else (some (.brk 0 [])))
def dg.d2:R:=(some (.ret [.b true]))
def dg.d3 (a b c d e f g h i j k l m:C):R:=(bif a.B then (some (.ret [.b false])) else (call2 (kr [h]) fun n o=>(bif (o.I !=0) then (some (.ret [.b false])) else (ah 0 (lim (apn 3 dg.d1) [i,.i (i.L.length:Int),.i 0]) (fun xs=>dg.d2)))))
def dg.d4 (a b c d e f g h i j k l:C):R:=(aZ (ad (eg [a]) fun m=>(bif (!(!m.B)) then (ad (fF [c,.i 0,.i 100]) fun n=>(bif (!(!n.B)) then (ad (fF [d,.i 0,.i 1000000]) fun o=>(bif (!(!o.B)) then (ad (fF [e,.i 0,.i 1000]) fun p=>(bif (!(!p.B)) then (ad (fF [f,.i 0,.i 1000]) fun q=>(bif (!(!q.B)) then (bif (!(decide ((h.L.length:Int)>5))) then (ad (fF [i,.i 0,.i 2]) fun r=>(bif (!(!r.B)) then (bif (!(j.S.toList==(bs #[]).toList)) then (ad (eg [j]) fun s=>(bif (!(!s.B)) then (bif (!(k.S.toList==(bs #[]).toList)) then (ad (eg [k]) fun t=>(some (.nrm [.b (!t.B),a,b,c,d,e,f,g,h,i,j,k,l]))) else (some (.nrm [.b false,a,b,c,d,e,f,g,h,i,j,k,l]))) else (some (.nrm [.b true,a,b,c,d,e,f,g,h,i,j,k,l])))) else (bif (!(k.S.toList==(bs #[]).toList)) then (ad (eg [k]) fun u=>(some (.nrm [.b (!u.B),a,b,c,d,e,f,g,h,i,j,k,l]))) else (some (.nrm [.b false,a,b,c,d,e,f,g,h,i,j,k,l])))) else (some (.nrm [.b true,a,b,c,d,e,f,g,h,i,j,k,l])))) else (some (.nrm [.b true,a,b,c,d,e,f,g,h,i,j,k,l]))) else (some (.nrm [.b true,a,b,c,d,e,f,g,h,i,j,k,l])))) else (some (.nrm [.b true,a,b,c,d,e,f,g,h,i,j,k,l])))) else (some (.nrm [.b true,a,b,c,d,e,f,g,h,i,j,k,l])))) else (some (.nrm [.b true,a,b,c,d,e,f,g,h,i,j,k,l])))) else (some (.nrm [.b true,a,b,c,d,e,f,g,h,i,j,k,l])))) (apn 13 dg.d3))
def dg:List C->Option (List C):=fun xs=>aU (apn 12 dg.d4 xs)
def pR:FS:=⟨1,⟨[(0,z5)],[]⟩,⟨[(0,zo)],[]⟩,[],dg⟩
theorem BF:FK 47 pR:=okO Tryz.f47 pR (.seq .leaf (.seq (.seq (.join ⟨[(1,(.pt 1 0)),(70,zo)],[(1,z1)]⟩ .leaf) .leaf) (.seq .leaf (.seq (.seq .leaf (.block ⟨[],[]⟩ (.loop ⟨[(80,(zl 100)),(81,zi),(82,zi)],[]⟩ .leaf))) .leaf)))) [(45,some 11,fH),(45,some 56,fH),(45,some 67,fH),(46,some 16,eZ),(46,some 22,eZ),(46,some 28,eZ),(46,some 34,eZ),(46,some 46,eZ),(46,some 97,eZ),(82,some 74,lA),(82,some 89,lA)] (.cons hJ (.cons hJ (.cons hJ (.cons fX (.cons fX (.cons fX (.cons fX (.cons fX (.cons fX (.cons rr (.cons rr .nil))))))))))) (by kernel_rfl) (by kernel_rfl) (fun xs=>by kernel_rfl)
def dF.d1 (a b c d e f:C):R:=(bif (decide (f.I<e.I)) then (bif (decide (0<=f.I)) then (bif (decide (f.I<(d.L.length:Int))) then (bif ((((d.L.getD f.I.toNat []).getD 11 .nil).S).toList==a.S.toList) then (some (.again [a,.i (w64 (b.I+((d.L.getD f.I.toNat []).getD 4 .nil).I)),.i (w64 (c.I+((d.L.getD f.I.toNat []).getD 5 .nil).I)),d,e,.i (w64 (f.I+1))])) else (some (.again [a,b,c,d,e,.i (w64 (f.I+1))]))) else none) else none) else (some (.brk 0 [b,c])))
def dF.d2 (a b:C):R:=(some (.ret [a,b]))
def dF.d3 (a b c d e:C):R:=(bif (!(e.S.toList==(bs #[]).toList)) then (ad (ft [a,b,c,d,e]) fun f=>(bif (decide (f.I<0)) then (some (.ret [.i 0,.i 0])) else (ah 0 (lim (apn 6 dF.d1) [e,.i 0,.i 0,d,.i (d.L.length:Int),.i 0]) (apn 2 dF.d2)))) else (some (.ret [.i 0,.i 0])))
def dF:List C->Option (List C):=fun xs=>aU (apn 5 dF.d3 xs)
def nf:FS:=⟨2,⟨[(0,z2),(1,zt)],[]⟩,⟨[(0,(.tu [zi,zi]))],[]⟩,[],dF⟩
theorem zZ:FK 48 nf:=okO Tryz.f48 nf (.seq .leaf (.seq .leaf (.seq .leaf (.seq (.seq .leaf (.block ⟨[(6,zi),(7,zi)],[]⟩ (.loop ⟨[(1,zt),(6,zi),(7,zi),(19,(zl 38)),(20,zi),(21,zi)],[]⟩ .leaf))) .leaf)))) [(32,some 15,gu)] (.cons jk .nil) (by kernel_rfl) (by kernel_rfl) (fun xs=>by kernel_rfl)
def au.d1 (a b c d e f g:C):R:=(bif (decide (c.I<b.I)) then (bif (decide (0<=c.I)) then (bif (decide (c.I<(a.L.length:Int))) then (ad (dS [((a.L.getD c.I.toNat []).getD 0 .nil),((a.L.getD c.I.toNat []).getD 1 .nil),((a.L.getD c.I.toNat []).getD 2 .nil),((a.L.getD c.I.toNat []).getD 3 .nil),((a.L.getD c.I.toNat []).getD 4 .nil),((a.L.getD c.I.toNat []).getD 5 .nil)]) fun h=>(bif (!(!h.B)) then (bif (decide (c.I>0)) then (bif (decide (0<=(w64 (c.I-1)))) then (bif (decide ((w64 (c.I-1))<(e.L.length:Int))) then (bif ((Op.bytesLess (((a.L.getD c.I.toNat []).getD 0 .nil).S).toList (((e.L.getD (w64 (c.I-1)).toNat []).getD 0 .nil).S).toList)||((((a.L.getD c.I.toNat []).getD 0 .nil).S).toList==(((e.L.getD (w64 (c.I-1)).toNat []).getD 0 .nil).S).toList)) then (some (.ret [.b false])) else (some (.again [a,b,.i (w64 (c.I+1)),d,e,f,g]))) else none) else none) else (some (.again [a,b,.i (w64 (c.I+1)),d,e,f,g]))) else (some (.ret [.b false])))) else none) else none) else (some (.brk 0 [d,e,f,g])))
def au.d2 (a b c d e f g h:C):R:=(bif (decide (c.I<b.I)) then (bif (decide (0<=c.I)) then (bif (decide (c.I<(a.L.length:Int))) then (ad (eg [((a.L.getD c.I.toNat []).getD 0 .nil)]) fun i=>(bif (!(!i.B)) then (ad (fF [((a.L.getD c.I.toNat []).getD 1 .nil),.i 0,.i 60]) fun j=>(bif (!(!j.B)) then (bif (decide (c.I>0)) then (bif (decide (0<=(w64 (c.I-1)))) then (bif (decide ((w64 (c.I-1))<(f.L.length:Int))) then (bif ((Op.bytesLess (((a.L.getD c.I.toNat []).getD 0 .nil).S).toList (((f.L.getD (w64 (c.I-1)).toNat []).getD 0 .nil).S).toList)||((((a.L.getD c.I.toNat []).getD 0 .nil).S).toList==(((f.L.getD (w64 (c.I-1)).toNat []).getD 0 .nil).S).toList)) then (some (.ret [.b false])) else (some (.again [a,b,.i (w64 (c.I+1)),d,e,f,g,.l (l8 (((a.L.getD c.I.toNat []).getD 0 .nil).S) (.b true) h.L)]))) else none) else none) else (some (.again [a,b,.i (w64 (c.I+1)),d,e,f,g,.l (l8 (((a.L.getD c.I.toNat []).getD 0 .nil).S) (.b true) h.L)]))) else (some (.ret [.b false])))) else (some (.ret [.b false])))) else none) else none) else (some (.brk 2 [d,e,f,g,.l h.L])))
def au.d3 (a b c d e f g h i j k l m n o p q r s t u v:C):R:=(bif d.B then (some (.ret [.b false])) else (some (.again [a,b,.i (w64 (c.I+1)),e,f,g,h,.l i.L,.l (l8 v.S (.i (w64 ((j7 (.i 0) v.S j.L).I+1))) j.L)])))
def au.d4 (a b c d e f g h i:C):R:=(bif (decide (c.I<b.I)) then (bif (decide (0<=c.I)) then (bif (decide (c.I<(a.L.length:Int))) then (aZ (ad (dg [((a.L.getD c.I.toNat []).getD 0 .nil),((a.L.getD c.I.toNat []).getD 1 .nil),((a.L.getD c.I.toNat []).getD 2 .nil),((a.L.getD c.I.toNat []).getD 3 .nil),((a.L.getD c.I.toNat []).getD 4 .nil),((a.L.getD c.I.toNat []).getD 5 .nil),((a.L.getD c.I.toNat []).getD 6 .nil),((a.L.getD c.I.toNat []).getD 7 .nil),((a.L.getD c.I.toNat []).getD 8 .nil),((a.L.getD c.I.toNat []).getD 9 .nil),((a.L.getD c.I.toNat []).getD 10 .nil),((a.L.getD c.I.toNat []).getD 11 .nil)]) fun j=>(bif (!(!j.B)) then (bif (!(!((j7 (.b false) (((a.L.getD c.I.toNat []).getD 1 .nil).S) h.L).B))) then (bif (decide (c.I>0)) then (bif (decide (0<=(w64 (c.I-1)))) then (bif (decide ((w64 (c.I-1))<(g.L.length:Int))) then (bif (!((Op.bytesLess (((a.L.getD c.I.toNat []).getD 0 .nil).S).toList (((g.L.getD (w64 (c.I-1)).toNat []).getD 0 .nil).S).toList)||((((a.L.getD c.I.toNat []).getD 0 .nil).S).toList==(((g.L.getD (w64 (c.I-1)).toNat []).getD 0 .nil).S).toList))) then (bif (!((((a.L.getD c.I.toNat []).getD 11 .nil).S).toList==(bs #[]).toList)) then (ad (ft [d,e,f,g,((a.L.getD c.I.toNat []).getD 11 .nil)]) fun k=>(some (.nrm [a,b,c,.b (decide (k.I<0)),d,e,f,g,.l h.L,.l i.L,((a.L.getD c.I.toNat []).getD 0 .nil),((a.L.getD c.I.toNat []).getD 1 .nil),((a.L.getD c.I.toNat []).getD 2 .nil),((a.L.getD c.I.toNat []).getD 3 .nil),((a.L.getD c.I.toNat []).getD 4 .nil),((a.L.getD c.I.toNat []).getD 5 .nil),((a.L.getD c.I.toNat []).getD 6 .nil),((a.L.getD c.I.toNat []).getD 7 .nil),((a.L.getD c.I.toNat []).getD 8 .nil),((a.L.getD c.I.toNat []).getD 9 .nil),((a.L.getD c.I.toNat []).getD 10 .nil),((a.L.getD c.I.toNat []).getD 11 .nil)]))) else (some (.nrm [a,b,c,.b false,d,e,f,g,.l h.L,.l i.L,((a.L.getD c.I.toNat []).getD 0 .nil),((a.L.getD c.I.toNat []).getD 1 .nil),((a.L.getD c.I.toNat []).getD 2 .nil),((a.L.getD c.I.toNat []).getD 3 .nil),((a.L.getD c.I.toNat []).getD 4 .nil),((a.L.getD c.I.toNat []).getD 5 .nil),((a.L.getD c.I.toNat []).getD 6 .nil),((a.L.getD c.I.toNat []).getD 7 .nil),((a.L.getD c.I.toNat []).getD 8 .nil),((a.L.getD c.I.toNat []).getD 9 .nil),((a.L.getD c.I.toNat []).getD 10 .nil),((a.L.getD c.I.toNat []).getD 11 .nil)]))) else (some (.nrm [a,b,c,.b true,d,e,f,g,.l h.L,.l i.L,((a.L.getD c.I.toNat []).getD 0 .nil),((a.L.getD c.I.toNat []).getD 1 .nil),((a.L.getD c.I.toNat []).getD 2 .nil),((a.L.getD c.I.toNat []).getD 3 .nil),((a.L.getD c.I.toNat []).getD 4 .nil),((a.L.getD c.I.toNat []).getD 5 .nil),((a.L.getD c.I.toNat []).getD 6 .nil),((a.L.getD c.I.toNat []).getD 7 .nil),((a.L.getD c.I.toNat []).getD 8 .nil),((a.L.getD c.I.toNat []).getD 9 .nil),((a.L.getD c.I.toNat []).getD 10 .nil),((a.L.getD c.I.toNat []).getD 11 .nil)]))) else none) else none) else (bif (!((((a.L.getD c.I.toNat []).getD 11 .nil).S).toList==(bs #[]).toList)) then (ad (ft [d,e,f,g,((a.L.getD c.I.toNat []).getD 11 .nil)]) fun l=>(some (.nrm [a,b,c,.b (decide (l.I<0)),d,e,f,g,.l h.L,.l i.L,((a.L.getD c.I.toNat []).getD 0 .nil),((a.L.getD c.I.toNat []).getD 1 .nil),((a.L.getD c.I.toNat []).getD 2 .nil),((a.L.getD c.I.toNat []).getD 3 .nil),((a.L.getD c.I.toNat []).getD 4 .nil),((a.L.getD c.I.toNat []).getD 5 .nil),((a.L.getD c.I.toNat []).getD 6 .nil),((a.L.getD c.I.toNat []).getD 7 .nil),((a.L.getD c.I.toNat []).getD 8 .nil),((a.L.getD c.I.toNat []).getD 9 .nil),((a.L.getD c.I.toNat []).getD 10 .nil),((a.L.getD c.I.toNat []).getD 11 .nil)]))) else (some (.nrm [a,b,c,.b false,d,e,f,g,.l h.L,.l i.L,((a.L.getD c.I.toNat []).getD 0 .nil),((a.L.getD c.I.toNat []).getD 1 .nil),((a.L.getD c.I.toNat []).getD 2 .nil),((a.L.getD c.I.toNat []).getD 3 .nil),((a.L.getD c.I.toNat []).getD 4 .nil),((a.L.getD c.I.toNat []).getD 5 .nil),((a.L.getD c.I.toNat []).getD 6 .nil),((a.L.getD c.I.toNat []).getD 7 .nil),((a.L.getD c.I.toNat []).getD 8 .nil),((a.L.getD c.I.toNat []).getD 9 .nil),((a.L.getD c.I.toNat []).getD 10 .nil),((a.L.getD c.I.toNat []).getD 11 .nil)])))) else (some (.nrm [a,b,c,.b true,d,e,f,g,.l h.L,.l i.L,((a.L.getD c.I.toNat []).getD 0 .nil),((a.L.getD c.I.toNat []).getD 1 .nil),((a.L.getD c.I.toNat []).getD 2 .nil),((a.L.getD c.I.toNat []).getD 3 .nil),((a.L.getD c.I.toNat []).getD 4 .nil),((a.L.getD c.I.toNat []).getD 5 .nil),((a.L.getD c.I.toNat []).getD 6 .nil),((a.L.getD c.I.toNat []).getD 7 .nil),((a.L.getD c.I.toNat []).getD 8 .nil),((a.L.getD c.I.toNat []).getD 9 .nil),((a.L.getD c.I.toNat []).getD 10 .nil),((a.L.getD c.I.toNat []).getD 11 .nil)]))) else (some (.nrm [a,b,c,.b true,d,e,f,g,.l h.L,.l i.L,((a.L.getD c.I.toNat []).getD 0 .nil),((a.L.getD c.I.toNat []).getD 1 .nil),((a.L.getD c.I.toNat []).getD 2 .nil),((a.L.getD c.I.toNat []).getD 3 .nil),((a.L.getD c.I.toNat []).getD 4 .nil),((a.L.getD c.I.toNat []).getD 5 .nil),((a.L.getD c.I.toNat []).getD 6 .nil),((a.L.getD c.I.toNat []).getD 7 .nil),((a.L.getD c.I.toNat []).getD 8 .nil),((a.L.getD c.I.toNat []).getD 9 .nil),((a.L.getD c.I.toNat []).getD 10 .nil),((a.L.getD c.I.toNat []).getD 11 .nil)])))) (apn 22 au.d3)) else none) else none) else (some (.brk 4 [d,e,f,g,.l i.L])))
def au.d5 (a b c d e f g h:C):R:=(bif (decide (c.I<b.I)) then (bif (decide (0<=c.I)) then (bif (decide (c.I<(a.L.length:Int))) then (call2 (dF [d,e,f,g,((a.L.getD c.I.toNat []).getD 0 .nil)]) fun i j=>(bif (!(decide ((j7 (.i 0) (((a.L.getD c.I.toNat []).getD 0 .nil).S) h.L).I>10))) then (bif (!(decide (i.I>((a.L.getD c.I.toNat []).getD 3 .nil).I))) then (bif (decide (j.I>((a.L.getD c.I.toNat []).getD 4 .nil).I)) then (some (.ret [.b false])) else (some (.again [a,b,.i (w64 (c.I+1)),d,e,f,g,.l h.L]))) else (some (.ret [.b false]))) else (some (.ret [.b false])))) else none) else none) else (some (.brk 6 [])))
def au.d6:R:=(some (.ret [.b true]))
def au.d7 (a b c d e:C):R:=(ah 6 (lim (apn 8 au.d5) [b,.i (b.L.length:Int),.i 0,a,b,c,d,.l e.L]) (fun xs=>au.d6))
def au.d8 (a b c d e:C):R:=(ah 4 (lim (apn 9 au.d4) [d,.i (d.L.length:Int),.i 0,a,b,c,d,.l e.L,.l af]) (apn 5 au.d7))
def au.d9 (a b c d:C):R:=(ah 2 (lim (apn 8 au.d2) [c,.i (c.L.length:Int),.i 0,a,b,c,d,.l af]) (apn 5 au.d8))
def au.d10 (a b c d:C):R:=(bif (!(decide ((b.L.length:Int)>12))) then (bif (!(decide ((c.L.length:Int)>30))) then (bif (decide ((d.L.length:Int)>60)) then (some (.ret [.b false])) else (ah 0 (lim (apn 7 au.d1) [b,.i (b.L.length:Int),.i 0,a,b,c,d]) (apn 4 au.d9))) else (some (.ret [.b false]))) else (some (.ret [.b false])))
def au:List C->Option (List C):=fun xs=>aU (apn 4 au.d10 xs)
def fT:FS:=⟨1,⟨[(0,z2)],[]⟩,⟨[(0,zo)],[]⟩,[],au⟩
theorem jz:FK 10 fT:=okO Tryz.f10 fT (.seq .leaf (.seq .leaf (.seq (.seq .leaf (.block ⟨[(1,(.pt 1 0))],[(1,z0)]⟩ (.loop ⟨[(1,(.pt 1 0)),(32,(zl 72)),(33,zi),(34,zi)],[(1,z0)]⟩ .leaf))) (.seq .leaf (.seq (.seq .leaf (.block ⟨[(1,(.pt 1 0)),(5,(.mp 59))],[(1,z0),(59,.mp 4)]⟩ (.loop ⟨[(1,(.pt 1 0)),(5,(.mp 59)),(61,(zl 40)),(62,zi),(63,zi)],[(1,z0),(59,.mp 4)]⟩ .leaf))) (.seq .leaf (.seq (.seq .leaf (.block ⟨[(1,(.pt 1 0)),(8,(.mp 98))],[(1,z0),(98,.mp 3)]⟩ (.loop ⟨[(1,(.pt 1 0)),(5,(.mp 59)),(8,(.mp 98)),(100,(zl 38)),(101,zi),(102,zi)],[(1,z0),(59,.mp 4),(98,.mp 3)]⟩ (.seq .leaf (.seq .leaf (.seq (.skip (.seq .leaf (.seq (.seq (.join ⟨[(1,(.pt 1 0)),(5,(.mp 59)),(8,(.mp 98)),(10,(.pt 10 0)),(100,(zl 38)),(101,zi),(102,zi),(144,zo)],[(1,z0),(59,.mp 4),(98,.mp 3),(10,z1)]⟩ .leaf) .leaf) .leaf))) .leaf)))))) (.seq (.seq .leaf (.block ⟨[],[]⟩ (.loop ⟨[(1,(.pt 1 0)),(8,(.mp 98)),(152,(zl 72)),(153,zi),(154,zi)],[(1,z0),(98,.mp 3)]⟩ .leaf))) .leaf)))))))) [(32,some 141,gu),(44,some 40,oj),(45,some 70,fH),(46,some 75,eZ),(47,some 108,pR),(48,some 162,nf)] (.cons jk (.cons Al (.cons hJ (.cons fX (.cons BF (.cons zZ .nil)))))) (by kernel_rfl) (by kernel_rfl) (fun xs=>by kernel_rfl)
def slices_Sort_int:List C->Option (List C):=x9
def jK:FS:=⟨1,⟨[(0,.ow 2000)],[(2000,.arr 3 1)]⟩,⟨[(0,.tu [])],[(2000,.arr 3 1)]⟩,[2000],slices_Sort_int⟩
theorem mS:FK 53 jK:=Iq
def bg.d1 (a b c:C):R:=(bif (decide (a.I<b.I)) then (bif (decide (0<=b.I)) then (bif (decide (b.I<(c.L.length:Int))) then (bif (decide (0<=a.I)) then (bif (decide (a.I<(c.L.length:Int))) then (bif (decide (0<=a.I)) then (bif (decide (a.I<(c.L.length:Int))) then (bif (decide (0<=b.I)) then (bif (decide (b.I<((c.L.set a.I.toNat (aB (c.L.getD a.I.toNat []) 0 [((c.L.getD b.I.toNat []).getD 0 .nil)])).length:Int))) then (some (.again [.i (w64 (a.I+1)),.i (w64 (b.I-1)),.l ((c.L.set a.I.toNat (aB (c.L.getD a.I.toNat []) 0 [((c.L.getD b.I.toNat []).getD 0 .nil)])).set b.I.toNat (aB ((c.L.set a.I.toNat (aB (c.L.getD a.I.toNat []) 0 [((c.L.getD b.I.toNat []).getD 0 .nil)])).getD b.I.toNat []) 0 [((c.L.getD a.I.toNat []).getD 0 .nil)]))])) else none) else none) else none) else none) else none) else none) else none) else none) else (some (.brk 0 [.l c.L])))
def bg.d2 (a:C):R:=(some (.ret [.l a.L]))
def bg.d3 (a:C):R:=(ah 0 (lim (apn 3 bg.d1) [.i 0,.i (w64 ((a.L.length:Int)-1)),.l a.L]) (apn 1 bg.d2))
def bg:List C->Option (List C):=fun xs=>aU (apn 1 bg.d3 xs)
def fM:FS:=⟨1,⟨[(0,(.ow 2000))],[(2000,.arr 3 1)]⟩,⟨[(0,(.tu []))],[(2000,.arr 3 1)]⟩,[2000],bg⟩
theorem kD:FK 54 fM:=okO Tryz.f54 fM (.seq .leaf (.block ⟨[],[(2000,.arr 3 1)]⟩ (.loop ⟨[(0,(.ow 2000)),(2,zi),(3,zi)],[(2000,.arr 3 1)]⟩ .leaf))) [] .nil (by kernel_rfl) (by kernel_rfl) (fun xs=>by kernel_rfl)
def cmp_isNaN_int.d1 (a:C):R:=(some (.ret [.b (a.I !=a.I)]))
def cmp_isNaN_int:List C->Option (List C):=fun xs=>aU (apn 1 cmp_isNaN_int.d1 xs)
def iV:FS:=⟨1,⟨[(0,zi)],[]⟩,⟨[(0,zo)],[]⟩,[],cmp_isNaN_int⟩
theorem o8:FK 117 iV:=okO Tryz.f117 iV .leaf [] .nil (by kernel_rfl) (by kernel_rfl) (fun xs=>by kernel_rfl)
def fp.d1 (a b:C):R:=(ad (cmp_isNaN_int [a]) fun c=>(ad (cmp_isNaN_int [b]) fun d=>(bif c.B then (bif d.B then (some (.ret [.i 0])) else (some (.ret [.i (-1)]))) else (bif d.B then (some (.ret [.i 1])) else (bif (decide (a.I<b.I)) then (some (.ret [.i (-1)])) else (bif (decide (a.I>b.I)) then (some (.ret [.i 1])) else (some (.ret [.i 0]))))))))
def fp:List C->Option (List C):=fun xs=>aU (apn 2 fp.d1 xs)
def jF:FS:=⟨2,⟨[(0,zi),(1,zi)],[]⟩,⟨[(0,zi)],[]⟩,[],fp⟩
theorem tp:FK 86 jF:=okO Tryz.f86 jF .leaf [(117,some 8,iV),(117,some 10,iV)] (.cons o8 (.cons o8 .nil)) (by kernel_rfl) (by kernel_rfl) (fun xs=>by kernel_rfl)
def aP.d1 (a b c d e:C):R:=(bif (decide (e.I<d.I)) then (bif (decide (0<=e.I)) then (bif (decide (e.I<(c.L.length:Int))) then (bif (decide (e.I≥(b.L.length:Int))) then (some (.ret [.i 1])) else (bif (decide (0<=e.I)) then (bif (decide (e.I<(b.L.length:Int))) then (ad (fp [((c.L.getD e.I.toNat []).getD 0 .nil),((b.L.getD e.I.toNat []).getD 0 .nil)]) fun f=>(bif (f.I !=0) then (some (.ret [f])) else (some (.again [a,b,c,d,.i (w64 (e.I+1))])))) else none) else none)) else none) else none) else (some (.brk 0 [a,b])))
def aP.d2 (a b:C):R:=(bif (decide ((a.L.length:Int)<(b.L.length:Int))) then (some (.ret [.i (-1)])) else (some (.ret [.i 0])))
def aP.d3 (a b:C):R:=(ah 0 (lim (apn 5 aP.d1) [a,b,a,.i (a.L.length:Int),.i 0]) (apn 2 aP.d2))
def aP:List C->Option (List C):=fun xs=>aU (apn 2 aP.d3 xs)
def fL:FS:=⟨2,⟨[(0,(zl 3)),(1,(zl 3))],[]⟩,⟨[(0,zi)],[]⟩,[],aP⟩
theorem kE:FK 52 fL:=okO Tryz.f52 fL (.seq .leaf (.seq (.seq .leaf (.block ⟨[(0,(zl 3)),(1,(zl 3))],[]⟩ (.loop ⟨[(0,(zl 3)),(1,(zl 3)),(9,(zl 3)),(10,zi),(11,zi)],[]⟩ .leaf))) .leaf)) [(86,some 26,jF)] (.cons tp .nil) (by kernel_rfl) (by kernel_rfl) (fun xs=>by kernel_rfl)
def cmp_isNaN_string.d1 (a:C):R:=(some (.ret [.b (!(a.S.toList==a.S.toList))]))
def cmp_isNaN_string:List C->Option (List C):=fun xs=>aU (apn 1 cmp_isNaN_string.d1 xs)
def gL:FS:=⟨1,⟨[(0,zt)],[]⟩,⟨[(0,zo)],[]⟩,[],cmp_isNaN_string⟩
theorem ml:FK 151 gL:=okO Tryz.f151 gL .leaf [] .nil (by kernel_rfl) (by kernel_rfl) (fun xs=>by kernel_rfl)
def ei.d1 (a b:C):R:=(ad (cmp_isNaN_string [a]) fun c=>(ad (cmp_isNaN_string [b]) fun d=>(bif c.B then (bif d.B then (some (.ret [.i 0])) else (some (.ret [.i (-1)]))) else (bif d.B then (some (.ret [.i 1])) else (bif (Op.bytesLess a.S.toList b.S.toList) then (some (.ret [.i (-1)])) else (bif (!((Op.bytesLess a.S.toList b.S.toList)||(a.S.toList==b.S.toList))) then (some (.ret [.i 1])) else (some (.ret [.i 0]))))))))
def ei:List C->Option (List C):=fun xs=>aU (apn 2 ei.d1 xs)
def ig:FS:=⟨2,⟨[(0,zt),(1,zt)],[]⟩,⟨[(0,zi)],[]⟩,[],ei⟩
theorem qy:FK 116 ig:=okO Tryz.f116 ig .leaf [(151,some 8,gL),(151,some 10,gL)] (.cons ml (.cons ml .nil)) (by kernel_rfl) (by kernel_rfl) (fun xs=>by kernel_rfl)
def aH.d1 (a b c d e:C):R:=(bif (decide (e.I<d.I)) then (bif (decide (0<=e.I)) then (bif (decide (e.I<(c.L.length:Int))) then (bif (decide (e.I≥(b.L.length:Int))) then (some (.ret [.i 1])) else (bif (decide (0<=e.I)) then (bif (decide (e.I<(b.L.length:Int))) then (ad (ei [((c.L.getD e.I.toNat []).getD 0 .nil),((b.L.getD e.I.toNat []).getD 0 .nil)]) fun f=>(bif (f.I !=0) then (some (.ret [f])) else (some (.again [a,b,c,d,.i (w64 (e.I+1))])))) else none) else none)) else none) else none) else (some (.brk 0 [a,b])))
def aH.d2 (a b:C):R:=(bif (decide ((a.L.length:Int)<(b.L.length:Int))) then (some (.ret [.i (-1)])) else (some (.ret [.i 0])))
def aH.d3 (a b:C):R:=(ah 0 (lim (apn 5 aH.d1) [a,b,a,.i (a.L.length:Int),.i 0]) (apn 2 aH.d2))
def aH:List C->Option (List C):=fun xs=>aU (apn 2 aH.d3 xs)
def gy:FS:=⟨2,⟨[(0,(zl 9)),(1,(zl 9))],[]⟩,⟨[(0,zi)],[]⟩,[],aH⟩
theorem oH:FK 84 gy:=okO Tryz.f84 gy (.seq .leaf (.seq (.seq .leaf (.block ⟨[(0,(zl 9)),(1,(zl 9))],[]⟩ (.loop ⟨[(0,(zl 9)),(1,(zl 9)),(9,(zl 9)),(10,zi),(11,zi)],[]⟩ .leaf))) .leaf)) [(116,some 26,ig)] (.cons qy .nil) (by kernel_rfl) (by kernel_rfl) (fun xs=>by kernel_rfl)
def A7.d1 (a:C):R:=(bif a.B then (some (.ret [.i 1])) else (some (.ret [.i 0])))
def A7:List C->Option (List C):=fun xs=>aU (apn 1 A7.d1 xs)
def zO:FS:=⟨1,⟨[(0,zo)],[]⟩,⟨[(0,zi)],[]⟩,[],A7⟩
theorem Ik:FK 64 zO:=okO Tryz.f64 zO .leaf [] .nil (by kernel_rfl) (by kernel_rfl) (fun xs=>by kernel_rfl)
def bw.d1 (a b c d e f g h i:C):R:=(bif (decide (d.I<c.I)) then (bif (decide (0<=d.I)) then (bif (decide (d.I<(b.L.length:Int))) then (ad (gM [e,f,g,h,((b.L.getD d.I.toNat []).getD 0 .nil)]) fun j=>(bif (!(decide (j.I<0))) then (bif (decide (0<=j.I)) then (bif (decide (j.I<(h.L.length:Int))) then (bif (!((((h.L.getD j.I.toNat []).getD 11 .nil).S).toList==(bs #[]).toList)) then (bif (decide (d.I>0)) then (bif (decide (0<=(w64 (d.I-1)))) then (bif (decide ((w64 (d.I-1))<(a.L.length:Int))) then (bif ((Op.bytesLess (((b.L.getD d.I.toNat []).getD 0 .nil).S).toList (((a.L.getD (w64 (d.I-1)).toNat []).getD 0 .nil).S).toList)||((((b.L.getD d.I.toNat []).getD 0 .nil).S).toList==(((a.L.getD (w64 (d.I-1)).toNat []).getD 0 .nil).S).toList)) then (some (.ret [.b false])) else (bif (decide (0<=j.I)) then (bif (decide (j.I<(h.L.length:Int))) then (some (.again [a,b,c,.i (w64 (d.I+1)),e,f,g,h,.l (l8 (((h.L.getD j.I.toNat []).getD 1 .nil).S) (.i (w64 ((j7 (.i 0) (((h.L.getD j.I.toNat []).getD 1 .nil).S) i.L).I+1))) i.L)])) else none) else none)) else none) else none) else (bif (decide (0<=j.I)) then (bif (decide (j.I<(h.L.length:Int))) then (some (.again [a,b,c,.i (w64 (d.I+1)),e,f,g,h,.l (l8 (((h.L.getD j.I.toNat []).getD 1 .nil).S) (.i (w64 ((j7 (.i 0) (((h.L.getD j.I.toNat []).getD 1 .nil).S) i.L).I+1))) i.L)])) else none) else none)) else (some (.ret [.b false]))) else none) else none) else (some (.ret [.b false])))) else none) else none) else (some (.brk 0 [e,f,g,h,.l i.L])))
def bw.d2 (a b c d e f g h i j k l m n:C):R:=(bif (decide (g.I<f.I)) then (bif (decide (0<=g.I)) then (bif (decide (g.I<(e.L.length:Int))) then (bif ((((e.L.getD g.I.toNat []).getD 1 .nil).S).toList==m.S.toList) then (ad (A7 [.b ((((e.L.getD g.I.toNat []).getD 11 .nil).S).toList==(bs #[]).toList)]) fun o=>(some (.again [.i (w64 (a.I+o.I)),b,c,d,e,f,.i (w64 (g.I+1)),h,i,j,k,.l l.L,m,n]))) else (ad (A7 [.b false]) fun p=>(some (.again [.i (w64 (a.I+p.I)),b,c,d,e,f,.i (w64 (g.I+1)),h,i,j,k,.l l.L,m,n])))) else none) else none) else (some (.brk 4 [a,b,c,d,h,i,j,k,.l l.L,m,n])))
def bw.d3 (a b c d e f g h i j k:C):R:=(bif (decide ((j7 (.i 0) j.S i.L).I>(w64 (k.I-a.I)))) then (some (.ret [.b false])) else (some (.brk 3 [b,c,d,e,f,g,h,.l i.L])))
def bw.d4 (a b c d e f g h:C):R:=(some (.again [a,b,.i (w64 (c.I+1)),d,e,f,g,.l h.L]))
def bw.d5 (a b c d e f g h:C):R:=(bif (decide (c.I<b.I)) then (ah 3 (bif (decide (0<=c.I)) then (bif (decide (c.I<(a.L.length:Int))) then (bif ((j7 (.i 0) (((a.L.getD c.I.toNat []).getD 0 .nil).S) h.L).I==0) then (some (.brk 3 [a,b,c,d,e,f,g,.l h.L])) else (ah 4 (lim (apn 14 bw.d2) [.i 0,a,b,c,g,.i (g.L.length:Int),.i 0,d,e,f,g,.l h.L,((a.L.getD c.I.toNat []).getD 0 .nil),((a.L.getD c.I.toNat []).getD 1 .nil)]) (apn 11 bw.d3))) else none) else none) (apn 8 bw.d4)) else (some (.brk 2 [])))
def bw.d6:R:=(some (.ret [.b true]))
def bw.d7 (a b c d e:C):R:=(ah 2 (lim (apn 8 bw.d5) [c,.i (c.L.length:Int),.i 0,a,b,c,d,.l e.L]) (fun xs=>bw.d6))
def bw.d8 (a b c d e:C):R:=(ah 0 (lim (apn 9 bw.d1) [e,e,.i (e.L.length:Int),.i 0,a,b,c,d,.l af]) (apn 5 bw.d7))
def bw:List C->Option (List C):=fun xs=>aU (apn 5 bw.d8 xs)
def lL:FS:=⟨2,⟨[(0,z2),(1,(zl 9))],[]⟩,⟨[(0,zo)],[]⟩,[],bw⟩
theorem qN:FK 33 lL:=okO Tryz.f33 lL (.seq .leaf (.seq .leaf (.seq (.seq .leaf (.block ⟨[(2,(.pt 2 0)),(5,(.mp 14))],[(2,z0),(14,.mp 3)]⟩ (.loop ⟨[(1,(zl 9)),(2,(.pt 2 0)),(5,(.mp 14)),(15,(zl 9)),(16,zi),(17,zi)],[(2,z0),(14,.mp 3)]⟩ .leaf))) (.seq (.seq .leaf (.block ⟨[],[]⟩ (.loop ⟨[(2,(.pt 2 0)),(5,(.mp 14)),(60,(zl 40)),(61,zi),(62,zi)],[(2,z0),(14,.mp 3)]⟩ (.seq .leaf (.seq .leaf (.seq (.block ⟨[(2,(.pt 2 0)),(5,(.mp 14)),(60,(zl 40)),(61,zi),(62,zi)],[(2,z0),(14,.mp 3)]⟩ (.seq .leaf (.seq .leaf (.seq .leaf (.seq (.seq .leaf (.block ⟨[(2,(.pt 2 0)),(5,(.mp 14)),(10,(.pt 10 0)),(11,zi),(60,(zl 40)),(61,zi),(62,zi)],[(2,z0),(14,.mp 3),(10,.var 40 [zt,zi])]⟩ (.loop ⟨[(2,(.pt 2 0)),(5,(.mp 14)),(10,(.pt 10 0)),(11,zi),(60,(zl 40)),(61,zi),(62,zi),(72,(zl 38)),(73,zi),(74,zi)],[(2,z0),(14,.mp 3),(10,.var 40 [zt,zi])]⟩ .leaf))) .leaf))))) .leaf)))))) .leaf)))) [(31,some 24,gT),(64,some 89,zO)] (.cons ka (.cons Ik .nil)) (by kernel_rfl) (by kernel_rfl) (fun xs=>by kernel_rfl)
def gB.d1 (a b c d e f:C):R:=(bif (decide (c.L.length<=4294967296)) then (some (.ret [a,b,d,e,f,.l c.L])) else none)
def gB:List C->Option (List C):=fun xs=>aU (apn 6 gB.d1 xs)
def kW:FS:=⟨1,⟨[(0,z10)],[]⟩,⟨[(0,(.ag [zt,zt,(.ow 3000),zi,zi,zo]))],[(3000,.arr 9 1)]⟩,[],gB⟩
theorem wa:FK 97 kW:=okO Tryz.f97 kW .leaf [] .nil (by kernel_rfl) (by kernel_rfl) (fun xs=>by kernel_rfl)
def gU.d1 (a b c d e f g h i j k l:C):R:=(bif (decide (h.L.length<=4294967296)) then (some (.ret [a,b,c,d,e,f,g,i,j,k,l,.l h.L])) else none)
def gU:List C->Option (List C):=fun xs=>aU (apn 12 gU.d1 xs)
def ma:FS:=⟨1,⟨[(0,z5)],[]⟩,⟨[(0,(.ag [zt,zt,zi,zi,zi,zi,zt,(.ow 3000),zi,zt,zt,zt]))],[(3000,.arr 100 1)]⟩,[],gU⟩
theorem xF:FK 98 ma:=okO Tryz.f98 ma .leaf [] .nil (by kernel_rfl) (by kernel_rfl) (fun xs=>by kernel_rfl)
def dH.d1 (a b c d e f g h i j k l m n o:C):R:=(bif (decide (c.I<b.I)) then (bif (decide (0<=c.I)) then (bif (decide (c.I<(a.L.length:Int))) then (call6 (gB [((a.L.getD c.I.toNat []).getD 0 .nil),((a.L.getD c.I.toNat []).getD 1 .nil),((a.L.getD c.I.toNat []).getD 2 .nil),((a.L.getD c.I.toNat []).getD 3 .nil),((a.L.getD c.I.toNat []).getD 4 .nil),((a.L.getD c.I.toNat []).getD 5 .nil)]) fun p q r s t u=>(bif (decide (m.L.length+(rows [[p,q,.l u.L,r,s,t]]).length<=4294967296)) then (some (.again [a,b,.i (w64 (c.I+1)),d,e,f,g,h,i,.l j.L,.l k.L,.l l.L,.l (m.L++(rows [[p,q,.l u.L,r,s,t]])),.l n.L,.l o.L])) else none)) else none) else none) else (some (.brk 0 [d,e,f,g,h,i,.l j.L,.l k.L,.l l.L,.l m.L,.l n.L,.l o.L])))
def dH.d2 (a b c d e f g h i j k:C):R:=(bif (decide (c.I<b.I)) then (bif (decide (0<=c.I)) then (bif (decide (c.I<(a.L.length:Int))) then (call12 (gU [((a.L.getD c.I.toNat []).getD 0 .nil),((a.L.getD c.I.toNat []).getD 1 .nil),((a.L.getD c.I.toNat []).getD 2 .nil),((a.L.getD c.I.toNat []).getD 3 .nil),((a.L.getD c.I.toNat []).getD 4 .nil),((a.L.getD c.I.toNat []).getD 5 .nil),((a.L.getD c.I.toNat []).getD 6 .nil),((a.L.getD c.I.toNat []).getD 7 .nil),((a.L.getD c.I.toNat []).getD 8 .nil),((a.L.getD c.I.toNat []).getD 9 .nil),((a.L.getD c.I.toNat []).getD 10 .nil),((a.L.getD c.I.toNat []).getD 11 .nil)]) fun l m n o p q r s t u v w=>(bif (decide (k.L.length+(rows [[l,m,n,o,p,q,r,.l w.L,s,t,u,v]]).length<=4294967296)) then (some (.again [a,b,.i (w64 (c.I+1)),d,e,.l f.L,.l g.L,.l h.L,.l i.L,.l j.L,.l (k.L++(rows [[l,m,n,o,p,q,r,.l w.L,s,t,u,v]]))])) else none)) else none) else none) else (some (.brk 2 [d,e,.l f.L,.l g.L,.l h.L,.l i.L,.l j.L,.l k.L])))
def dH.d3 (a b c d e f g h:C):R:=(some (.ret [b,.l f.L,.l g.L,.l h.L]))
def dH.d4 (a b c d e f g h i j k l:C):R:=(ah 2 (lim (apn 11 dH.d2) [d,.i (d.L.length:Int),.i 0,e,f,.l g.L,.l h.L,.l i.L,.l j.L,.l k.L,.l l.L]) (apn 8 dH.d3))
def dH.d5 (a b c d:C):R:=(bif (decide (c.L.length<=4294967296)) then (ah 0 (lim (apn 15 dH.d1) [b,.i (b.L.length:Int),.i 0,a,b,c,d,.b false,.b a.B,.l af,.l af,.l af,.l af,.l c.L,.l af]) (apn 12 dH.d4)) else none)
def dH:List C->Option (List C):=fun xs=>aU (apn 4 dH.d5 xs)
def qA:FS:=⟨1,⟨[(0,z2)],[]⟩,⟨[(0,z15)],[(3000,.arr 72 1),(3001,.arr 40 1),(3002,.arr 38 1)]⟩,[],dH⟩
theorem DR:FK 65 qA:=okP [25,40] false Tryz.f65 qA (.seq .leaf (.seq .leaf (.seq (.seq .leaf (.block ⟨[(1,(.pt 1 0)),(2,(.pt 2 0)),(3,(.pt 3 0))],[(1,z0),(2,z17),(3,.var 27 [zo,(.ow 1371703),(.ow 12),(.ow 1371704)]),(1371700,.arr 72 1),(1371701,.arr 40 1),(1371702,.arr 38 1),(1371703,.arr 72 1),(12,.arr 40 1),(1371704,.arr 38 1)]⟩ (.loop ⟨[(1,(.pt 1 0)),(2,(.pt 2 0)),(3,(.pt 3 0)),(15,(zl 72)),(16,zi),(17,zi)],[(1,z0),(2,z17),(3,.var 27 [zo,(.ow 1371703),(.ow 12),(.ow 1371704)]),(1371700,.arr 72 1),(1371701,.arr 40 1),(1371702,.arr 38 1),(1371703,.arr 72 1),(12,.arr 40 1),(1371704,.arr 38 1)]⟩ .leaf))) (.seq (.seq .leaf (.block ⟨[(2,(.pt 2 0)),(3,(.pt 3 0))],[(2,z17),(3,.var 27 [zo,(.ow 1371703),(.ow 12),(.ow 1371704)]),(1371700,.arr 72 1),(1371701,.arr 40 1),(1371702,.arr 38 1),(1371703,.arr 72 1),(12,.arr 40 1),(1371704,.arr 38 1)]⟩ (.loop ⟨[(2,(.pt 2 0)),(3,(.pt 3 0)),(30,(zl 38)),(31,zi),(32,zi)],[(2,z17),(3,.var 27 [zo,(.ow 1371703),(.ow 12),(.ow 1371704)]),(1371700,.arr 72 1),(1371701,.arr 40 1),(1371702,.arr 38 1),(1371703,.arr 72 1),(12,.arr 40 1),(1371704,.arr 38 1)]⟩ .leaf))) .leaf)))) [(97,some 24,kW),(98,some 39,ma)] (.cons wa (.cons xF .nil)) (by kernel_rfl) (by kernel_rfl) (fun xs=>by kernel_rfl)
def bh.d1 (a b c d:C):R:=(bif (decide (d.I<c.I)) then (bif (decide (0<=d.I)) then (bif (decide (d.I<(a.L.length:Int))) then (bif (b.S.toList==(((a.L.getD d.I.toNat []).getD 0 .nil).S).toList) then (some (.ret [d])) else (some (.again [a,b,c,.i (w64 (d.I+1))]))) else none) else none) else (some (.brk 0 [])))
def bh.d2:R:=(some (.ret [.i (-1)]))
def bh.d3 (a b:C):R:=(ah 0 (lim (apn 4 bh.d1) [a,b,.i (a.L.length:Int),.i 0]) (fun xs=>bh.d2))
def bh:List C->Option (List C):=fun xs=>aU (apn 2 bh.d3 xs)
def gY:FS:=⟨2,⟨[(0,(zl 9)),(1,zt)],[]⟩,⟨[(0,zi)],[]⟩,[],bh⟩
theorem p8:FK 99 gY:=okO Tryz.f99 gY (.seq .leaf (.seq (.seq .leaf (.block ⟨[],[]⟩ (.loop ⟨[(0,(zl 9)),(1,zt),(7,zi),(8,zi)],[]⟩ .leaf))) .leaf)) [] .nil (by kernel_rfl) (by kernel_rfl) (fun xs=>by kernel_rfl)
def cW.d1 (a b:C):R:=(ad (bh [a,b]) fun c=>(some (.ret [.b (decide (c.I≥0))])))
def cW:List C->Option (List C):=fun xs=>aU (apn 2 cW.d1 xs)
def fQ:FS:=⟨2,⟨[(0,(zl 9)),(1,zt)],[]⟩,⟨[(0,zo)],[]⟩,[],cW⟩
theorem nK:FK 66 fQ:=okO Tryz.f66 fQ .leaf [(99,some 7,gY)] (.cons p8 .nil) (by kernel_rfl) (by kernel_rfl) (fun xs=>by kernel_rfl)
def mh.d1 (a b c d e f g h i j k:C):R:=(bif (decide (c.I<b.I)) then (bif (decide (0<=c.I)) then (bif (decide (c.I<(k.L.length:Int))) then (ad (cW [a,((k.L.getD c.I.toNat []).getD 0 .nil)]) fun l=>(bif l.B then (bif (decide (0<=c.I)) then (bif (decide (c.I<(k.L.length:Int))) then (some (.again [a,b,.i (w64 (c.I+1)),d,e,.l f.L,.l g.L,.l h.L,.l i.L,.l j.L,.l (k.L.set c.I.toNat (aB (k.L.getD c.I.toNat []) 11 [.s (bs #[])]))])) else none) else none) else (some (.again [a,b,.i (w64 (c.I+1)),d,e,.l f.L,.l g.L,.l h.L,.l i.L,.l j.L,.l k.L])))) else none) else none) else (some (.brk 0 [d,e,.l f.L,.l g.L,.l h.L,.l i.L,.l j.L,.l k.L])))
def mh.d2 (a b c d e f g h:C):R:=(some (.ret [b,.l f.L,.l g.L,.l h.L]))
def mh.d3 (a b c d e:C):R:=(call4 (dH [a,b,c,d]) fun f g h i=>(ah 0 (lim (apn 11 mh.d1) [e,.i (i.L.length:Int),.i 0,.b false,f,.l af,.l af,.l af,.l g.L,.l h.L,.l i.L]) (apn 8 mh.d2)))
def mh:List C->Option (List C):=fun xs=>aU (apn 5 mh.d3 xs)
def uI:FS:=⟨2,⟨[(0,z2),(1,(zl 9))],[]⟩,⟨[(0,z15)],[(3000,.arr 72 1),(3001,.arr 40 1),(3002,.arr 38 1)]⟩,[],mh⟩
theorem D4:FK 34 uI:=okO Tryz.f34 uI (.seq .leaf (.seq .leaf (.seq (.seq .leaf (.block ⟨[(4,(.pt 4 0)),(5,(.pt 5 0))],[(4,.var 27 [zo,(.ow 1368900),(.ow 1368901),(.ow 1368902)]),(5,.var 27 [zo,(.ow 39864),(.ow 39865),(.ow 39866)]),(1368900,.arr 72 1),(1368901,.arr 40 1),(1368902,.arr 38 1),(39864,.arr 72 1),(39865,.arr 40 1),(39866,.arr 38 1)]⟩ (.loop ⟨[(1,(zl 9)),(4,(.pt 4 0)),(5,(.pt 5 0)),(11,zi),(12,zi)],[(4,.var 27 [zo,(.ow 1368900),(.ow 1368901),(.ow 1368902)]),(5,.var 27 [zo,(.ow 39864),(.ow 39865),(.ow 39866)]),(1368900,.arr 72 1),(1368901,.arr 40 1),(1368902,.arr 38 1),(39864,.arr 72 1),(39865,.arr 40 1),(39866,.arr 38 1)]⟩ .leaf))) .leaf))) [(65,some 8,qA),(66,some 22,fQ)] (.cons DR (.cons nK .nil)) (by kernel_rfl) (by kernel_rfl) (fun xs=>by kernel_rfl)
end
end Go.Ev
namespace Go.Ev
open Go.Proofs
noncomputable section
def ay.d1 (G0:List C->Option (List C)) (a b c d e:C):R:=(bif e.B then (some (.ret [.b true])) else (some (.again [a,b,c,.i (w64 (d.I+1))])))
def ay.d2 (G0:List C->Option (List C)) (a b c d:C):R:=(bif (decide (d.I<c.I)) then (bif (decide (0<=d.I)) then (bif (decide (d.I<(b.L.length:Int))) then (call3 (nM [((b.L.getD d.I.toNat []).getD 0 .nil)]) fun e f g=>(aZ (bif g.B then (bif a.isP then (bif (e.S.toList==((a.P.getD 1 .nil).S).toList) then (bif a.isP then (bif (!((a.P.getD 0 .nil).I==1)) then (bif a.isP then (some (.nrm [a,b,c,d,.b (f.S.toList==((a.P.getD 2 .nil).S).toList)])) else none) else (some (.nrm [a,b,c,d,.b true]))) else none) else (some (.nrm [a,b,c,d,.b false]))) else none) else (some (.nrm [a,b,c,d,.b false]))) (apn 5 (ay.d1 G0)))) else none) else none) else (some (.brk 1 [])))
def ay.d3 (G0:List C->Option (List C)):R:=(some (.ret [.b false]))
def ay.d4 (G0:List C->Option (List C)) (a b c d:C):R:=(bif d.B then (ah 1 (lim (apn 4 (ay.d2 G0)) [a,b,.i (b.L.length:Int),.i 0]) (fun xs=>(ay.d3 G0))) else (bif (c.I==3) then (bif a.isP then (bif (decide (0<(((a.P.getD 3 .nil).L).length:Int))) then (ad (G0 [((((a.P.getD 3 .nil).L).getD 0 []).getD 0 .nil),b]) fun e=>(some (.ret [.b (!e.B)]))) else none) else none) else (bif (c.I==4) then (bif a.isP then (bif (decide (0<(((a.P.getD 3 .nil).L).length:Int))) then (ad (G0 [((((a.P.getD 3 .nil).L).getD 0 []).getD 0 .nil),b]) fun f=>(bif f.B then (bif a.isP then (bif (decide (1<(((a.P.getD 3 .nil).L).length:Int))) then (ad (G0 [((((a.P.getD 3 .nil).L).getD 1 []).getD 0 .nil),b]) fun g=>(some (.ret [.b g.B]))) else none) else none) else (some (.ret [.b false])))) else none) else none) else (bif (c.I==5) then (bif a.isP then (bif (decide (0<(((a.P.getD 3 .nil).L).length:Int))) then (ad (G0 [((((a.P.getD 3 .nil).L).getD 0 []).getD 0 .nil),b]) fun h=>(bif (!h.B) then (bif a.isP then (bif (decide (1<(((a.P.getD 3 .nil).L).length:Int))) then (ad (G0 [((((a.P.getD 3 .nil).L).getD 1 []).getD 0 .nil),b]) fun i=>(some (.ret [.b i.B]))) else none) else none) else (some (.ret [.b true])))) else none) else none) else (some (.ret [.b true]))))))
def ay.d5 (G0:List C->Option (List C)) (a b:C):R:=(bif a.isP then (aZ (bif ((a.P.getD 0 .nil).I==1) then (some (.nrm [a,b,(a.P.getD 0 .nil),.b ((a.P.getD 0 .nil).I==1)])) else (some (.nrm [a,b,(a.P.getD 0 .nil),.b ((a.P.getD 0 .nil).I==2)]))) (apn 4 (ay.d4 G0))) else none)
def ay.step (G0:List C->Option (List C)):List C->Option (List C):=fun xs=>aU (apn 2 (ay.d5 G0) xs)
def cY (G:List C->Option (List C)):FS:=⟨2,⟨[(0,(.d (.pt 139))),(1,(.d (.sl 9)))],[]⟩,⟨[(0,(.d .bool))],[]⟩,[],G⟩
theorem xo {G0:List C->Option (List C)} (h0:FK 100 (cY G0)):FK 100 (cY (ay.step G0)):=okO Tryz.f100 (cY (ay.step G0)) (.seq .leaf (.seq (.seq .leaf (.skip (.seq (.join ⟨[(0,(.d (.pt 139))),(1,(.d (.sl 9))),(13,(.d (.int .i64))),(14,(.d .bool))],[]⟩ .leaf) (.cond (.seq (.seq .leaf (.block ⟨[],[]⟩ (.loop ⟨[(0,(.d (.pt 139))),(17,(.d (.sl 9))),(18,(.d (.int .i64))),(19,(.d (.int .i64)))],[]⟩ (.seq .leaf (.seq .leaf (.seq (.skip (.seq .leaf (.seq .leaf (.seq (.join ⟨[(0,(.d (.pt 139))),(17,(.d (.sl 9))),(18,(.d (.int .i64))),(19,(.d (.int .i64))),(52,(.d .bool))],[]⟩ .leaf) .leaf)))) .leaf)))))) .leaf) .leaf)))) .leaf)) [(80,some 25,pv),(100,some 63,(cY G0)),(100,some 74,(cY G0)),(100,some 83,(cY G0)),(100,some 94,(cY G0)),(100,some 103,(cY G0))] (.cons zk (.cons h0 (.cons h0 (.cons h0 (.cons h0 (.cons h0 .nil)))))) (by kernel_rfl) (by kernel_rfl) (fun xs=>by kernel_rfl)
def ay.g:Nat->Nat->List C->Option (List C)
 |0,_=>fun _=>none
 |k+1,0=>ay.step (ay.g k 0)
 |_,_=>fun _=>none
theorem pc:∀k:Nat,FK 100 (cY (ay.g k 0))
 |0=>kX (fn:=Tryz.f100) (c:=Tryz.f100.body.getD .skip) (2) (⟨[(0,(.d (.pt 139))),(1,(.d (.sl 9)))],[]⟩) (⟨[(0,(.d .bool))],[]⟩) [] (by kernel_rfl) (by kernel_rfl) (by kernel_rfl)
 |k+1=>xo (pc k)
def ay:List C->Option (List C):=ay.g jd 0
theorem xj:FK 100 (cY ay):=pc jd
def nx.d1 (a b c d e f g:C):R:=(call2 (kr [a]) fun h i=>(bif (i.I==0) then (bif (decide (d.L.length<=4294967296)) then (bif (decide ((bs #[122,111,110,101,61]).size+c.S.size<=4294967296)) then (bif (decide (d.L.length+(rows [[.s ((bs #[122,111,110,101,61])++c.S)]]).length<=4294967296)) then (ad (ay [h,.l (d.L++(rows [[.s ((bs #[122,111,110,101,61])++c.S)]]))]) fun j=>(some (.ret [.b j.B]))) else none) else none) else none) else (some (.ret [.b false]))))
def nx:List C->Option (List C):=fun xs=>aU (apn 7 nx.d1 xs)
def rG:FS:=⟨2,⟨[(0,zt),(1,z10)],[]⟩,⟨[(0,zo)],[]⟩,[],nx⟩
theorem CM:FK 67 rG:=okO Tryz.f67 rG .leaf [(82,some 9,lA),(100,some 24,(cY ay))] (.cons rr (.cons xj .nil)) (by kernel_rfl) (by kernel_rfl) (fun xs=>by kernel_rfl)
def qc.d1 (a b c d e:C):R:=(ad (ft [a,b,c,d,e]) fun f=>(bif (decide (f.I≥0)) then (bif (decide (0<=f.I)) then (bif (decide (f.I<(b.L.length:Int))) then (some (.ret [((b.L.getD f.I.toNat []).getD 1 .nil)])) else none) else none) else (some (.ret [.s (bs #[])]))))
def qc:List C->Option (List C):=fun xs=>aU (apn 5 qc.d1 xs)
def tF:FS:=⟨2,⟨[(0,z2),(1,zt)],[]⟩,⟨[(0,zt)],[]⟩,[],qc⟩
theorem E1:FK 68 tF:=okO Tryz.f68 tF .leaf [(32,some 8,gu)] (.cons jk .nil) (by kernel_rfl) (by kernel_rfl) (fun xs=>by kernel_rfl)
def bT.d1 (a b c d e f g h i j k l m n o p q r s t u v w x y z a0 a1 a2 a3 a4 a5 a6 a7 a8 a9 b0 b1 b2 b3 b4 b5 b6:C):R:=(bif (b6.S.toList==z.S.toList) then (some (.brk 1 [a,b,.i (w64 (c.I+1)),.i (w64 (d.I+a9.I)),.i (w64 (e.I+b0.I)),f,g,h,i,j,k,l,m,n,o,p,q,r,s,t,u,v,w,x,y,z,a0,a1,a2,a3,a4])) else (some (.brk 1 [a,b,c,d,e,f,g,h,i,j,k,l,m,n,o,p,q,r,s,t,u,v,w,x,y,z,a0,a1,a2,a3,a4])))
def bT.d2 (a b c d e f g h i j k l m n o p q r s t u v w x y z a0 a1 a2 a3 a4 a5 a6 a7 a8 a9 b0 b1 b2 b3 b4 b5 b6 b7:C):R:=(aZ (bif (!a.B) then (bif (a7.S.toList==x.S.toList) then (some (.nrm [.b g.B,b,c,d,e,f,h,i,j,k,l,m,n,o,p,q,r,s,t,u,v,w,x,y,z,a0,a1,a2,a3,a4,a5,a6,a7,a8,a9,b0,b1,b2,b3,b4,b5,b6,b7])) else (some (.nrm [.b false,b,c,d,e,f,h,i,j,k,l,m,n,o,p,q,r,s,t,u,v,w,x,y,z,a0,a1,a2,a3,a4,a5,a6,a7,a8,a9,b0,b1,b2,b3,b4,b5,b6,b7]))) else (some (.nrm [.b true,b,c,d,e,f,h,i,j,k,l,m,n,o,p,q,r,s,t,u,v,w,x,y,z,a0,a1,a2,a3,a4,a5,a6,a7,a8,a9,b0,b1,b2,b3,b4,b5,b6,b7]))) (fun xs=>bT.d1 (xs.getD 0 .nil) (xs.getD 1 .nil) (xs.getD 2 .nil) (xs.getD 3 .nil) (xs.getD 4 .nil) (xs.getD 5 .nil) (xs.getD 6 .nil) (xs.getD 7 .nil) (xs.getD 8 .nil) (xs.getD 9 .nil) (xs.getD 10 .nil) (xs.getD 11 .nil) (xs.getD 12 .nil) (xs.getD 13 .nil) (xs.getD 14 .nil) (xs.getD 15 .nil) (xs.getD 16 .nil) (xs.getD 17 .nil) (xs.getD 18 .nil) (xs.getD 19 .nil) (xs.getD 20 .nil) (xs.getD 21 .nil) (xs.getD 22 .nil) (xs.getD 23 .nil) (xs.getD 24 .nil) (xs.getD 25 .nil) (xs.getD 26 .nil) (xs.getD 27 .nil) (xs.getD 28 .nil) (xs.getD 29 .nil) (xs.getD 30 .nil) (xs.getD 31 .nil) (xs.getD 32 .nil) (xs.getD 33 .nil) (xs.getD 34 .nil) (xs.getD 35 .nil) (xs.getD 36 .nil) (xs.getD 37 .nil) (xs.getD 38 .nil) (xs.getD 39 .nil) (xs.getD 40 .nil) (xs.getD 41 .nil) (xs.getD 42 .nil)))
def bT.d3 (a b c d e f g h i j k l m n o p q r s t u v w x y z a0 a1 a2 a3 a4:C):R:=(some (.again [a,b,c,d,e,f,g,h,.i (w64 (i.I+1)),j,k,l,m,n,o,p,q,r,s,t,u,v,w,x,y,z,a0,a1,a2,a3,a4]))
def bT.d4 (a b c d e f g h i j k l m n o p q r s t u v w x y z a0 a1 a2 a3 a4:C):R:=(bif (decide (i.I<h.I)) then (ah 1 (bif (decide (0<=i.I)) then (bif (decide (i.I<(g.L.length:Int))) then (bif (!((((g.L.getD i.I.toNat []).getD 0 .nil).S).toList==n.S.toList)) then (bif ((((g.L.getD i.I.toNat []).getD 11 .nil).S).toList==(bs #[]).toList) then (some (.brk 1 [a,b,c,d,e,f,g,h,i,j,k,l,m,n,o,p,q,r,s,t,u,v,w,x,y,z,a0,a1,a2,a3,a4])) else (ad (qc [j,k,l,m,((g.L.getD i.I.toNat []).getD 11 .nil)]) fun a5=>(aZ (bif ((((g.L.getD i.I.toNat []).getD 1 .nil).S).toList==o.S.toList) then (bif (!f.B) then (bif ((((g.L.getD i.I.toNat []).getD 11 .nil).S).toList==z.S.toList) then (bif (!(decide ((w64 (v.I+((g.L.getD i.I.toNat []).getD 8 .nil).I))>0))) then (bif (a5.S.toList==a0.S.toList) then (bif (!(v.I==2)) then (some (.nrm [a,.b true,c,d,e,.b (((g.L.getD i.I.toNat []).getD 8 .nil).I==2),.b (a5.S.toList==a0.S.toList),g,h,i,j,k,l,m,n,o,p,q,r,s,t,u,v,w,x,y,z,a0,a1,a2,a3,a4,((g.L.getD i.I.toNat []).getD 0 .nil),((g.L.getD i.I.toNat []).getD 1 .nil),((g.L.getD i.I.toNat []).getD 2 .nil),((g.L.getD i.I.toNat []).getD 3 .nil),((g.L.getD i.I.toNat []).getD 4 .nil),((g.L.getD i.I.toNat []).getD 5 .nil),((g.L.getD i.I.toNat []).getD 6 .nil),((g.L.getD i.I.toNat []).getD 7 .nil),((g.L.getD i.I.toNat []).getD 8 .nil),((g.L.getD i.I.toNat []).getD 9 .nil),((g.L.getD i.I.toNat []).getD 10 .nil),((g.L.getD i.I.toNat []).getD 11 .nil)])) else (some (.nrm [a,.b true,c,d,e,.b true,.b (a5.S.toList==a0.S.toList),g,h,i,j,k,l,m,n,o,p,q,r,s,t,u,v,w,x,y,z,a0,a1,a2,a3,a4,((g.L.getD i.I.toNat []).getD 0 .nil),((g.L.getD i.I.toNat []).getD 1 .nil),((g.L.getD i.I.toNat []).getD 2 .nil),((g.L.getD i.I.toNat []).getD 3 .nil),((g.L.getD i.I.toNat []).getD 4 .nil),((g.L.getD i.I.toNat []).getD 5 .nil),((g.L.getD i.I.toNat []).getD 6 .nil),((g.L.getD i.I.toNat []).getD 7 .nil),((g.L.getD i.I.toNat []).getD 8 .nil),((g.L.getD i.I.toNat []).getD 9 .nil),((g.L.getD i.I.toNat []).getD 10 .nil),((g.L.getD i.I.toNat []).getD 11 .nil)]))) else (some (.nrm [a,.b true,c,d,e,.b false,.b (a5.S.toList==a0.S.toList),g,h,i,j,k,l,m,n,o,p,q,r,s,t,u,v,w,x,y,z,a0,a1,a2,a3,a4,((g.L.getD i.I.toNat []).getD 0 .nil),((g.L.getD i.I.toNat []).getD 1 .nil),((g.L.getD i.I.toNat []).getD 2 .nil),((g.L.getD i.I.toNat []).getD 3 .nil),((g.L.getD i.I.toNat []).getD 4 .nil),((g.L.getD i.I.toNat []).getD 5 .nil),((g.L.getD i.I.toNat []).getD 6 .nil),((g.L.getD i.I.toNat []).getD 7 .nil),((g.L.getD i.I.toNat []).getD 8 .nil),((g.L.getD i.I.toNat []).getD 9 .nil),((g.L.getD i.I.toNat []).getD 10 .nil),((g.L.getD i.I.toNat []).getD 11 .nil)]))) else (some (.nrm [a,.b true,c,d,e,.b true,.b (a5.S.toList==a0.S.toList),g,h,i,j,k,l,m,n,o,p,q,r,s,t,u,v,w,x,y,z,a0,a1,a2,a3,a4,((g.L.getD i.I.toNat []).getD 0 .nil),((g.L.getD i.I.toNat []).getD 1 .nil),((g.L.getD i.I.toNat []).getD 2 .nil),((g.L.getD i.I.toNat []).getD 3 .nil),((g.L.getD i.I.toNat []).getD 4 .nil),((g.L.getD i.I.toNat []).getD 5 .nil),((g.L.getD i.I.toNat []).getD 6 .nil),((g.L.getD i.I.toNat []).getD 7 .nil),((g.L.getD i.I.toNat []).getD 8 .nil),((g.L.getD i.I.toNat []).getD 9 .nil),((g.L.getD i.I.toNat []).getD 10 .nil),((g.L.getD i.I.toNat []).getD 11 .nil)]))) else (bif (a5.S.toList==a0.S.toList) then (bif (!(v.I==2)) then (some (.nrm [a,.b true,c,d,e,.b (((g.L.getD i.I.toNat []).getD 8 .nil).I==2),.b (a5.S.toList==a0.S.toList),g,h,i,j,k,l,m,n,o,p,q,r,s,t,u,v,w,x,y,z,a0,a1,a2,a3,a4,((g.L.getD i.I.toNat []).getD 0 .nil),((g.L.getD i.I.toNat []).getD 1 .nil),((g.L.getD i.I.toNat []).getD 2 .nil),((g.L.getD i.I.toNat []).getD 3 .nil),((g.L.getD i.I.toNat []).getD 4 .nil),((g.L.getD i.I.toNat []).getD 5 .nil),((g.L.getD i.I.toNat []).getD 6 .nil),((g.L.getD i.I.toNat []).getD 7 .nil),((g.L.getD i.I.toNat []).getD 8 .nil),((g.L.getD i.I.toNat []).getD 9 .nil),((g.L.getD i.I.toNat []).getD 10 .nil),((g.L.getD i.I.toNat []).getD 11 .nil)])) else (some (.nrm [a,.b true,c,d,e,.b true,.b (a5.S.toList==a0.S.toList),g,h,i,j,k,l,m,n,o,p,q,r,s,t,u,v,w,x,y,z,a0,a1,a2,a3,a4,((g.L.getD i.I.toNat []).getD 0 .nil),((g.L.getD i.I.toNat []).getD 1 .nil),((g.L.getD i.I.toNat []).getD 2 .nil),((g.L.getD i.I.toNat []).getD 3 .nil),((g.L.getD i.I.toNat []).getD 4 .nil),((g.L.getD i.I.toNat []).getD 5 .nil),((g.L.getD i.I.toNat []).getD 6 .nil),((g.L.getD i.I.toNat []).getD 7 .nil),((g.L.getD i.I.toNat []).getD 8 .nil),((g.L.getD i.I.toNat []).getD 9 .nil),((g.L.getD i.I.toNat []).getD 10 .nil),((g.L.getD i.I.toNat []).getD 11 .nil)]))) else (some (.nrm [a,.b true,c,d,e,.b false,.b (a5.S.toList==a0.S.toList),g,h,i,j,k,l,m,n,o,p,q,r,s,t,u,v,w,x,y,z,a0,a1,a2,a3,a4,((g.L.getD i.I.toNat []).getD 0 .nil),((g.L.getD i.I.toNat []).getD 1 .nil),((g.L.getD i.I.toNat []).getD 2 .nil),((g.L.getD i.I.toNat []).getD 3 .nil),((g.L.getD i.I.toNat []).getD 4 .nil),((g.L.getD i.I.toNat []).getD 5 .nil),((g.L.getD i.I.toNat []).getD 6 .nil),((g.L.getD i.I.toNat []).getD 7 .nil),((g.L.getD i.I.toNat []).getD 8 .nil),((g.L.getD i.I.toNat []).getD 9 .nil),((g.L.getD i.I.toNat []).getD 10 .nil),((g.L.getD i.I.toNat []).getD 11 .nil)])))) else (some (.nrm [a,.b true,c,d,e,.b true,.b (a5.S.toList==a0.S.toList),g,h,i,j,k,l,m,n,o,p,q,r,s,t,u,v,w,x,y,z,a0,a1,a2,a3,a4,((g.L.getD i.I.toNat []).getD 0 .nil),((g.L.getD i.I.toNat []).getD 1 .nil),((g.L.getD i.I.toNat []).getD 2 .nil),((g.L.getD i.I.toNat []).getD 3 .nil),((g.L.getD i.I.toNat []).getD 4 .nil),((g.L.getD i.I.toNat []).getD 5 .nil),((g.L.getD i.I.toNat []).getD 6 .nil),((g.L.getD i.I.toNat []).getD 7 .nil),((g.L.getD i.I.toNat []).getD 8 .nil),((g.L.getD i.I.toNat []).getD 9 .nil),((g.L.getD i.I.toNat []).getD 10 .nil),((g.L.getD i.I.toNat []).getD 11 .nil)]))) else (some (.nrm [a,b,c,d,e,f,.b (a5.S.toList==a0.S.toList),g,h,i,j,k,l,m,n,o,p,q,r,s,t,u,v,w,x,y,z,a0,a1,a2,a3,a4,((g.L.getD i.I.toNat []).getD 0 .nil),((g.L.getD i.I.toNat []).getD 1 .nil),((g.L.getD i.I.toNat []).getD 2 .nil),((g.L.getD i.I.toNat []).getD 3 .nil),((g.L.getD i.I.toNat []).getD 4 .nil),((g.L.getD i.I.toNat []).getD 5 .nil),((g.L.getD i.I.toNat []).getD 6 .nil),((g.L.getD i.I.toNat []).getD 7 .nil),((g.L.getD i.I.toNat []).getD 8 .nil),((g.L.getD i.I.toNat []).getD 9 .nil),((g.L.getD i.I.toNat []).getD 10 .nil),((g.L.getD i.I.toNat []).getD 11 .nil)]))) (fun xs=>bT.d2 (xs.getD 0 .nil) (xs.getD 1 .nil) (xs.getD 2 .nil) (xs.getD 3 .nil) (xs.getD 4 .nil) (xs.getD 5 .nil) (xs.getD 6 .nil) (xs.getD 7 .nil) (xs.getD 8 .nil) (xs.getD 9 .nil) (xs.getD 10 .nil) (xs.getD 11 .nil) (xs.getD 12 .nil) (xs.getD 13 .nil) (xs.getD 14 .nil) (xs.getD 15 .nil) (xs.getD 16 .nil) (xs.getD 17 .nil) (xs.getD 18 .nil) (xs.getD 19 .nil) (xs.getD 20 .nil) (xs.getD 21 .nil) (xs.getD 22 .nil) (xs.getD 23 .nil) (xs.getD 24 .nil) (xs.getD 25 .nil) (xs.getD 26 .nil) (xs.getD 27 .nil) (xs.getD 28 .nil) (xs.getD 29 .nil) (xs.getD 30 .nil) (xs.getD 31 .nil) (xs.getD 32 .nil) (xs.getD 33 .nil) (xs.getD 34 .nil) (xs.getD 35 .nil) (xs.getD 36 .nil) (xs.getD 37 .nil) (xs.getD 38 .nil) (xs.getD 39 .nil) (xs.getD 40 .nil) (xs.getD 41 .nil) (xs.getD 42 .nil) (xs.getD 43 .nil))))) else (some (.brk 1 [a,b,c,d,e,f,g,h,i,j,k,l,m,n,o,p,q,r,s,t,u,v,w,x,y,z,a0,a1,a2,a3,a4]))) else none) else none) (apn 31 bT.d3)) else (some (.brk 0 [a,b,c,d,e,f,n,o,p,q,r,s,t,u,v,w,x,y,z,a0,a1,a2,a3,a4])))
def bT.d5 (a b c d e f g h i j k l m n o p q r s t u v:C):R:=(bif d.B then (some (.ret [.i 5])) else (bif (decide (a.I≥10)) then (some (.ret [.i 6])) else (bif (decide ((w64 (b.I+i.I))>t.I)) then (some (.ret [.i 7])) else (bif (decide ((w64 (c.I+j.I))>u.I)) then (some (.ret [.i 8])) else (some (.ret [.i 0]))))))
def bT.d6 (a b c d e f g h i j k l m n o p q r s t u v w x:C):R:=(bif f.B then (some (.ret [.i 4])) else (aZ (bif (!(p.S.toList==(bs #[]).toList)) then (bif (!a.B) then (bif (p.S.toList==h.S.toList) then (some (.nrm [c,d,e,.b (!(!b.B)),g,h,i,j,k,l,m,n,o,p,q,r,s,t,u,v,w,x])) else (some (.nrm [c,d,e,.b true,g,h,i,j,k,l,m,n,o,p,q,r,s,t,u,v,w,x]))) else (some (.nrm [c,d,e,.b false,g,h,i,j,k,l,m,n,o,p,q,r,s,t,u,v,w,x]))) else (some (.nrm [c,d,e,.b false,g,h,i,j,k,l,m,n,o,p,q,r,s,t,u,v,w,x]))) (apn 22 bT.d5)))
def bT.d7 (a b c d e f g h i j k l m n o p q r s t u v:C):R:=(ad (nx [k,q,r,s,t,u,v]) fun w=>(bif (!w.B) then (some (.ret [.i 3])) else (ah 0 (lim (apn 31 bT.d4) [.b false,.b false,.i 0,.i 0,.i 0,.b false,d,.i (d.L.length:Int),.i 0,a,b,c,d,e,f,g,h,i,j,k,l,m,n,o,p,q,r,s,t,u,v]) (apn 24 bT.d6))))
def bT.d8 (a b c d e f g h i j k l m n o p q r s t u v:C):R:=(aZ (bif (!(o.S.toList==(bs #[]).toList)) then (bif (!(o.S.toList==q.S.toList)) then (some (.ret [.i 2])) else (some (.nrm [a,b,c,d,e,f,g,h,i,j,k,l,m,n,o,p,q,r,s,t,u,v]))) else (some (.nrm [a,b,c,d,e,f,g,h,i,j,k,l,m,n,o,p,q,r,s,t,u,v]))) (apn 22 bT.d7))
def bT.d9 (a b c d e f g h i j k l m n o p q r s t u v w:C):R:=(aZ (bif w.B then (bif v.B then (some (.ret [.i 1])) else (some (.nrm [a,b,c,d,e,f,g,h,i,j,k,l,m,n,o,p,q,r,s,t,u,v]))) else (some (.nrm [a,b,c,d,e,f,g,h,i,j,k,l,m,n,o,p,q,r,s,t,u,v]))) (apn 22 bT.d8))
def bT:List C->Option (List C):=fun xs=>aU (apn 23 bT.d9 xs)
def pU:FS:=⟨4,⟨[(0,z2),(1,z5),(2,z10),(3,zo)],[]⟩,⟨[(0,zi)],[]⟩,[],bT⟩
theorem yz:FK 35 pU:=okO Tryz.f35 pU (.seq .leaf (.seq (.join ⟨[(4,(.pt 4 0)),(5,(.pt 5 0)),(6,(.pt 6 0))],[(4,z0),(5,z1),(6,z3)]⟩ .leaf) (.seq (.join ⟨[(4,(.pt 4 0)),(5,(.pt 5 0)),(6,(.pt 6 0))],[(4,z0),(5,z1),(6,z3)]⟩ .leaf) (.seq .leaf (.seq .leaf (.seq .leaf (.seq .leaf (.seq (.seq .leaf (.block ⟨[(5,(.pt 5 0)),(6,(.pt 6 0)),(9,zo),(10,zo),(11,zi),(12,zi),(13,zi),(14,zo)],[(5,z1),(6,z3)]⟩ (.loop ⟨[(4,(.pt 4 0)),(5,(.pt 5 0)),(6,(.pt 6 0)),(9,zo),(10,zo),(11,zi),(12,zi),(13,zi),(14,zo),(39,(zl 38)),(40,zi),(41,zi)],[(4,z0),(5,z1),(6,z3)]⟩ (.seq .leaf (.seq .leaf (.seq (.block ⟨[(4,(.pt 4 0)),(5,(.pt 5 0)),(6,(.pt 6 0)),(9,zo),(10,zo),(11,zi),(12,zi),(13,zi),(14,zo),(39,(zl 38)),(40,zi),(41,zi)],[(4,z0),(5,z1),(6,z3)]⟩ (.seq .leaf (.seq .leaf (.seq .leaf (.seq (.join ⟨[(4,(.pt 4 0)),(5,(.pt 5 0)),(6,(.pt 6 0)),(9,zo),(10,zo),(11,zi),(12,zi),(13,zi),(14,zo),(16,(.pt 16 0)),(17,zo),(39,(zl 38)),(40,zi),(41,zi)],[(4,z0),(5,z1),(6,z3),(16,z1)]⟩ .leaf) (.seq (.join ⟨[(4,(.pt 4 0)),(5,(.pt 5 0)),(6,(.pt 6 0)),(9,zo),(10,zo),(11,zi),(12,zi),(13,zi),(14,zo),(16,(.pt 16 0)),(39,(zl 38)),(40,zi),(41,zi)],[(4,z0),(5,z1),(6,z3),(16,z1)]⟩ .leaf) .leaf)))))) .leaf)))))) (.seq (.skip (.seq .leaf (.cond .leaf (.seq (.join ⟨[(5,(.pt 5 0)),(6,(.pt 6 0)),(11,zi),(12,zi),(13,zi),(125,zo)],[(5,z1),(6,z3)]⟩ .leaf) .leaf)))) .leaf))))))))) [(67,some 36,rG),(68,some 58,tF)] (.cons CM (.cons E1 .nil)) (by kernel_rfl) (by kernel_rfl) (fun xs=>by kernel_rfl)
def aI.d1 (a b c d e f g h i j k l m n o p q r s t u v w x y z:C):R:=(some (.again [a,b,.i (w64 (c.I+1)),d,e,f,g,h,i,j,k,l,m,n,o,p,q,r,s,t,u,v,w,x,y,.l z.L]))
def aI.d2 (a b c d e f g h i j k l m n o p q r s t u v w x y z:C):R:=(bif (decide (c.I<b.I)) then (aZ (bif (decide (0<=c.I)) then (bif (decide (c.I<(a.L.length:Int))) then (bif ((((a.L.getD c.I.toNat []).getD 11 .nil).S).toList==t.S.toList) then (bif (decide (((a.L.getD c.I.toNat []).getD 2 .nil).I<j.I)) then (bif (decide (z.L.length+(rows [[((a.L.getD c.I.toNat []).getD 0 .nil),((a.L.getD c.I.toNat []).getD 1 .nil),((a.L.getD c.I.toNat []).getD 2 .nil),((a.L.getD c.I.toNat []).getD 3 .nil),((a.L.getD c.I.toNat []).getD 4 .nil),((a.L.getD c.I.toNat []).getD 5 .nil),((a.L.getD c.I.toNat []).getD 6 .nil),((a.L.getD c.I.toNat []).getD 7 .nil),((a.L.getD c.I.toNat []).getD 8 .nil),((a.L.getD c.I.toNat []).getD 9 .nil),((a.L.getD c.I.toNat []).getD 10 .nil),((a.L.getD c.I.toNat []).getD 11 .nil)]]).length<=4294967296)) then (some (.nrm [a,b,c,d,e,f,g,h,i,j,k,l,m,n,o,p,q,r,s,t,u,v,w,x,y,.l (z.L++(rows [[((a.L.getD c.I.toNat []).getD 0 .nil),((a.L.getD c.I.toNat []).getD 1 .nil),((a.L.getD c.I.toNat []).getD 2 .nil),((a.L.getD c.I.toNat []).getD 3 .nil),((a.L.getD c.I.toNat []).getD 4 .nil),((a.L.getD c.I.toNat []).getD 5 .nil),((a.L.getD c.I.toNat []).getD 6 .nil),((a.L.getD c.I.toNat []).getD 7 .nil),((a.L.getD c.I.toNat []).getD 8 .nil),((a.L.getD c.I.toNat []).getD 9 .nil),((a.L.getD c.I.toNat []).getD 10 .nil),((a.L.getD c.I.toNat []).getD 11 .nil)]]))])) else none) else (some (.nrm [a,b,c,d,e,f,g,h,i,j,k,l,m,n,o,p,q,r,s,t,u,v,w,x,y,.l z.L]))) else (some (.nrm [a,b,c,d,e,f,g,h,i,j,k,l,m,n,o,p,q,r,s,t,u,v,w,x,y,.l z.L]))) else none) else none) (apn 26 aI.d1)) else (some (.brk 0 [d,e,f,g,h,i,j,k,l,m,n,o,p,q,r,s,t,u,v,w,x,y,.l z.L])))
def aI.d3 (a b c d e f g h i j k l m n o p q r s t u v w x y z a0 a1 a2 a3 a4 a5 a6:C):R:=(bif (decide (f.I<e.I)) then (bif (decide (0<=f.I)) then (bif (decide (f.I<(a2.L.length:Int))) then (bif (decide (0<=f.I)) then (bif ((w64 ((BitVec.ofInt (IntKind.bits .i64) (b.I.fdiv (2^(min f.I.toNat 64)))&&& BitVec.ofInt (IntKind.bits .i64) 1).toNat:Int))==1) then (bif (decide (a5.L.length+(rows [[((a2.L.getD f.I.toNat []).getD 0 .nil)]]).length<=4294967296)) then (bif (decide (a6.L.length+(rows [[((a2.L.getD f.I.toNat []).getD 2 .nil)]]).length<=4294967296)) then (some (.again [a,b,c,d,e,.i (w64 (f.I+1)),g,h,i,j,k,l,m,n,o,p,q,r,s,t,u,v,w,x,y,z,a0,a1,.l a2.L,.l a3.L,.l a4.L,.l (a5.L++(rows [[((a2.L.getD f.I.toNat []).getD 0 .nil)]])),.l (a6.L++(rows [[((a2.L.getD f.I.toNat []).getD 2 .nil)]]))])) else none) else none) else (some (.again [a,b,c,d,e,.i (w64 (f.I+1)),g,h,i,j,k,l,m,n,o,p,q,r,s,t,u,v,w,x,y,z,a0,a1,.l a2.L,.l a3.L,.l a4.L,.l a5.L,.l a6.L]))) else none) else none) else none) else (some (.brk 4 [a,c,d,g,h,i,j,k,l,m,n,o,p,q,r,s,t,u,v,w,x,y,z,a0,a1,.l a2.L,.l a3.L,.l a4.L,.l a5.L,.l a6.L])))
def aI.d4 (a b c d e f g h i j k l m n o p q r s t u v w x y z a0 a1 a2 a3:C):R:=(ad (bw [d,e,f,g,.l a2.L]) fun a4=>(bif (!(!a4.B)) then (call4 (mh [d,e,f,g,.l a2.L]) fun a5 a6 a7 a8=>(ad (bT [a5,.l a6.L,.l a7.L,.l a8.L,h,i,j,k,l,m,n,o,p,q,r,s,t,u,v,w,x,y,.b true]) fun a9=>(bif (a9.I !=0) then (some (.brk 3 [a,b,c,d,e,f,g,h,i,j,k,l,m,n,o,p,q,r,s,t,u,v,w,x,y,.l z.L,.l a0.L,.l a1.L])) else (some (.brk 3 [.b true,b,c,d,e,f,g,h,i,j,k,l,m,n,o,p,q,r,s,t,u,v,w,x,y,.l z.L,.l a2.L,.l a3.L]))))) else (some (.brk 3 [a,b,c,d,e,f,g,h,i,j,k,l,m,n,o,p,q,r,s,t,u,v,w,x,y,.l z.L,.l a0.L,.l a1.L]))))
def aI.d5 (a b c d e f g h i j k l m n o p q r s t u v w x y z a0 a1 a2 a3:C):R:=(ad (slices_Sort_int [.l a3.L]) fun a4=>(ad (bg [.l a4.L]) fun a5=>(aZ (bif a.B then (ad (aP [.l a5.L,.l a1.L]) fun a6=>(bif (!(decide (a6.I>0))) then (bif (a6.I==0) then (ad (aH [.l a2.L,.l a0.L]) fun a7=>(bif (decide (a7.I≥0)) then (some (.brk 3 [a,b,c,d,e,f,g,h,i,j,k,l,m,n,o,p,q,r,s,t,u,v,w,x,y,.l z.L,.l a0.L,.l a1.L])) else (some (.nrm [a,b,c,d,e,f,g,h,i,j,k,l,m,n,o,p,q,r,s,t,u,v,w,x,y,.l z.L,.l a0.L,.l a1.L,.l a2.L,.l a5.L])))) else (some (.nrm [a,b,c,d,e,f,g,h,i,j,k,l,m,n,o,p,q,r,s,t,u,v,w,x,y,.l z.L,.l a0.L,.l a1.L,.l a2.L,.l a5.L]))) else (some (.brk 3 [a,b,c,d,e,f,g,h,i,j,k,l,m,n,o,p,q,r,s,t,u,v,w,x,y,.l z.L,.l a0.L,.l a1.L])))) else (some (.nrm [a,b,c,d,e,f,g,h,i,j,k,l,m,n,o,p,q,r,s,t,u,v,w,x,y,.l z.L,.l a0.L,.l a1.L,.l a2.L,.l a5.L]))) (apn 30 aI.d4))))
def aI.d6 (a b c d e f g h i j k l m n o p q r s t u v w x y z a0 a1:C):R:=(some (.again [a,b,.i (w64 (c.I+1)),d,e,f,g,h,i,j,k,l,m,n,o,p,q,r,s,t,u,v,w,x,y,.l z.L,.l a0.L,.l a1.L]))
def aI.d7 (a b c d e f g h i j k l m n o p q r s t u v w x y z a0 a1:C):R:=(bif (decide (c.I<b.I)) then (ah 3 (ah 4 (lim (apn 33 aI.d3) [a,c,b,c,.i (z.L.length:Int),.i 0,d,e,f,g,h,i,j,k,l,m,n,o,p,q,r,s,t,u,v,w,x,y,.l z.L,.l a0.L,.l a1.L,.l af,.l af]) (apn 30 aI.d5)) (apn 28 aI.d6)) else (some (.brk 2 [a,.l a0.L,.l a1.L])))
def aI.d8 (a b c:C):R:=(some (.ret [.b a.B,.l b.L,.l c.L]))
def aI.d9 (a b c d e f g h i j k l m n o p q r s t u v w:C):R:=(bif (decide (0<=(w.L.length:Int))) then (ah 2 (lim (apn 28 aI.d7) [.b false,.i (w64 (1*2^(min (w.L.length:Int).toNat 64))),.i 0,a,b,c,d,e,f,g,h,i,j,k,l,m,n,o,p,q,r,s,t,u,v,.l w.L,.l af,.l af]) (apn 3 aI.d8)) else none)
def aI.d10 (a b c d e f g h i j k l m n o p q r s t u v:C):R:=(ah 0 (lim (apn 26 aI.d2) [d,.i (d.L.length:Int),.i 0,a,b,c,d,e,f,g,h,i,j,k,l,m,n,o,p,q,r,s,t,u,v,.l af]) (apn 23 aI.d9))
def aI:List C->Option (List C):=fun xs=>aU (apn 22 aI.d10 xs)
def om:FS:=⟨3,⟨[(0,z2),(1,z5),(2,z10)],[]⟩,⟨[(0,(.tu [(.ow 3000),(.ow 3001),zo]))],[(3000,.arr 9 1),(3001,.arr 3 1)]⟩,[],aI⟩
theorem Ao:FK 50 om:=okP [42] false Tryz.f50 om (.seq .leaf (.seq .leaf (.seq (.seq .leaf (.block ⟨[(3,(.pt 3 0)),(4,(.pt 4 0)),(5,(.pt 5 0)),(9,(.ow 1327300))],[(3,z0),(4,z1),(5,z3),(1327300,.arr 38)]⟩ (.loop ⟨[(3,(.pt 3 0)),(4,(.pt 4 0)),(5,(.pt 5 0)),(9,(.ow 1327300)),(22,(zl 38)),(23,zi),(24,zi)],[(3,z0),(4,z1),(5,z3),(1327300,.arr 38)]⟩ (.seq .leaf (.seq .leaf (.seq (.join ⟨[(3,(.pt 3 0)),(4,(.pt 4 0)),(5,(.pt 5 0)),(9,(.ow 1327300)),(22,(zl 38)),(23,zi),(24,zi)],[(3,z0),(4,z1),(5,z3),(1327300,.arr 38)]⟩ .leaf) .leaf)))))) (.seq .leaf (.seq .leaf (.seq .leaf (.seq (.seq .leaf (.block ⟨[(12,(.ow 1330000)),(13,(.ow 1330001)),(14,zo)],[(1330000,.arr 9 1),(1330001,.arr 3 1)]⟩ (.loop ⟨[(3,(.pt 3 0)),(4,(.pt 4 0)),(5,(.pt 5 0)),(9,(.ow 1327300)),(12,(.ow 1330000)),(13,(.ow 1330001)),(14,zo),(47,zi),(48,zi)],[(3,z0),(4,z1),(5,z3),(1327300,.arr 38),(1330000,.arr 9 1),(1330001,.arr 3 1)]⟩ (.seq .leaf (.seq .leaf (.seq (.block ⟨[(3,(.pt 3 0)),(4,(.pt 4 0)),(5,(.pt 5 0)),(9,(.ow 1327300)),(12,(.ow 1330000)),(13,(.ow 1330001)),(14,zo),(47,zi),(48,zi)],[(3,z0),(4,z1),(5,z3),(1327300,.arr 38),(1330000,.arr 9 1),(1330001,.arr 3 1)]⟩ (.seq .leaf (.seq .leaf (.seq .leaf (.seq (.seq .leaf (.block ⟨[(3,(.pt 3 0)),(4,(.pt 4 0)),(5,(.pt 5 0)),(9,(.ow 1327300)),(12,(.ow 1330000)),(13,(.ow 1330001)),(14,zo),(16,(.ow 1331900)),(17,(.ow 1331901)),(47,zi),(48,zi)],[(3,z0),(4,z1),(5,z3),(1327300,.arr 38),(1330000,.arr 9 1),(1330001,.arr 3 1),(1331900,.arr 9 1),(1331901,.arr 3 1)]⟩ (.loop ⟨[(3,(.pt 3 0)),(4,(.pt 4 0)),(5,(.pt 5 0)),(9,(.ow 1327300)),(12,(.ow 1330000)),(13,(.ow 1330001)),(14,zo),(15,zi),(16,(.ow 1331900)),(17,(.ow 1331901)),(47,zi),(48,zi),(51,(.ow 1327300)),(52,zi),(53,zi)],[(3,z0),(4,z1),(5,z3),(1327300,.arr 38),(1330000,.arr 9 1),(1330001,.arr 3 1),(1331900,.arr 9 1),(1331901,.arr 3 1)]⟩ .leaf))) (.seq .leaf (.seq .leaf (.seq (.join ⟨[(3,(.pt 3 0)),(4,(.pt 4 0)),(5,(.pt 5 0)),(9,(.ow 1327300)),(12,(.ow 1330000)),(13,(.ow 1330001)),(14,zo),(16,(.ow 1331900)),(17,(.ow 1331901)),(47,zi),(48,zi)],[(3,z0),(4,z1),(5,z3),(1327300,.arr 38),(1330000,.arr 9 1),(1330001,.arr 3 1),(1331900,.arr 9 1),(1331901,.arr 3 1)]⟩ .leaf) .leaf)))))))) .leaf)))))) .leaf))))))) [(33,some 96,lL),(34,some 101,uI),(35,some 104,pU),(52,some 81,fL),(53,some 75,jK),(54,some 77,fM),(84,some 90,gy)] (.cons qN (.cons D4 (.cons yz (.cons kE (.cons mS (.cons kD (.cons oH .nil))))))) (by kernel_rfl) (by kernel_rfl) (fun xs=>by kernel_rfl)
def fG.d1 (a b c d e f:C):R:=(ad (gM [a,b,c,d,e]) fun g=>(ad (ft [a,b,c,d,f]) fun h=>(bif (!(decide (g.I<0))) then (bif (!(decide (h.I<0))) then (bif (decide (0<=g.I)) then (bif (decide (g.I<(d.L.length:Int))) then (bif (!(!((((d.L.getD g.I.toNat []).getD 11 .nil).S).toList==(bs #[]).toList))) then (ad (au [a,b,c,d]) fun i=>(bif (!i.B) then (some (.ret [.b false,.l af])) else (bif (decide (0<=g.I)) then (bif (decide (g.I<(d.L.length:Int))) then (bif (decide (0<=h.I)) then (bif (decide (h.I<(b.L.length:Int))) then (call3 (aI [a,b,c,d,((d.L.getD g.I.toNat []).getD 0 .nil),((d.L.getD g.I.toNat []).getD 1 .nil),((d.L.getD g.I.toNat []).getD 2 .nil),((d.L.getD g.I.toNat []).getD 3 .nil),((d.L.getD g.I.toNat []).getD 4 .nil),((d.L.getD g.I.toNat []).getD 5 .nil),((d.L.getD g.I.toNat []).getD 6 .nil),((d.L.getD g.I.toNat []).getD 7 .nil),((d.L.getD g.I.toNat []).getD 8 .nil),((d.L.getD g.I.toNat []).getD 9 .nil),((d.L.getD g.I.toNat []).getD 10 .nil),((d.L.getD g.I.toNat []).getD 11 .nil),((b.L.getD h.I.toNat []).getD 0 .nil),((b.L.getD h.I.toNat []).getD 1 .nil),((b.L.getD h.I.toNat []).getD 2 .nil),((b.L.getD h.I.toNat []).getD 3 .nil),((b.L.getD h.I.toNat []).getD 4 .nil),((b.L.getD h.I.toNat []).getD 5 .nil)]) fun j k l=>(some (.ret [.b j.B,.l k.L]))) else none) else none) else none) else none))) else (some (.ret [.b false,.l af]))) else none) else none) else (some (.ret [.b false,.l af]))) else (some (.ret [.b false,.l af])))))
def fG:List C->Option (List C):=fun xs=>aU (apn 6 fG.d1 xs)
def kc:FS:=⟨3,⟨[(0,z2),(1,zt),(2,zt)],[]⟩,⟨[(0,(.tu [(.ow 3000),zo]))],[(3000,.arr 9 1)]⟩,[],fG⟩
theorem uO:FK 12 kc:=okO Tryz.f12 kc .leaf [(10,some 36,fT),(31,some 15,gT),(32,some 18,gu),(50,some 51,om)] (.cons jz (.cons ka (.cons jk (.cons Ao .nil)))) (by kernel_rfl) (by kernel_rfl) (fun xs=>by kernel_rfl)
def cO.d1 (a b c d e f g h i:C):R:=(bif (decide (d.I<(i.L.length:Int))) then (bif (decide (0<=d.I)) then (bif (decide (d.I<(i.L.length:Int))) then (bif (decide (((i.L.getD d.I.toNat []).getD 0 .nil).I≥c.I)) then (some (.again [a,b,c,.i (w64 (d.I+1)),e,f,g,h,.l i.L])) else (some (.brk 2 [a,b,c,d,e,f,g,h,.l i.L]))) else none) else none) else (some (.brk 2 [a,b,c,d,e,f,g,h,.l i.L])))
def cO.d2 (a b c d e f g h i:C):R:=(bif (decide (0<=d.I)) then (bif (decide (d.I<=(i.L.length:Int))) then (bif (decide (af.length+((i.L.take d.I.toNat).drop 0).length<=4294967296)) then (bif (decide ((af++((i.L.take d.I.toNat).drop 0)).length+(rows [[c]]).length<=4294967296)) then (bif (decide (0<=d.I)) then (bif (decide (d.I<=(i.L.length:Int))) then (bif (decide ((i.L.length:Int)<=(i.L.length:Int))) then (bif (decide (((af++((i.L.take d.I.toNat).drop 0))++(rows [[c]])).length+((i.L.take (i.L.length:Int).toNat).drop d.I.toNat).length<=4294967296)) then (some (.again [a,.i (w64 (b.I+1)),e,f,g,h,.l (((af++((i.L.take d.I.toNat).drop 0))++(rows [[c]]))++((i.L.take (i.L.length:Int).toNat).drop d.I.toNat))])) else none) else none) else none) else none) else none) else none) else none) else none)
def cO.d3 (a b c d e f g:C):R:=(bif (decide (b.I<(a.L.length:Int))) then (bif (decide (0<=b.I)) then (bif (decide (b.I<(a.L.length:Int))) then (ad (dx [c,d,e,f,((a.L.getD b.I.toNat []).getD 0 .nil)]) fun h=>(bif (decide (0<=h.I)) then (bif (decide (h.I<(f.L.length:Int))) then (ah 2 (lim (apn 9 cO.d1) [a,b,((f.L.getD h.I.toNat []).getD 2 .nil),.i 0,c,d,e,f,.l g.L]) (apn 9 cO.d2)) else none) else none)) else none) else none) else (some (.brk 0 [.l g.L])))
def cO.d4 (a:C):R:=(some (.ret [.l a.L]))
def cO.d5 (a b c d e:C):R:=(ah 0 (lim (apn 7 cO.d3) [e,.i 0,a,b,c,d,.l af]) (apn 1 cO.d4))
def cO:List C->Option (List C):=fun xs=>aU (apn 5 cO.d5 xs)
def lF:FS:=⟨2,⟨[(0,z2),(1,(zl 9))],[]⟩,⟨[(0,(.ow 3000))],[(3000,.arr 3 1)]⟩,[],cO⟩
theorem rR:FK 55 lF:=okO Tryz.f55 lF (.seq .leaf (.seq .leaf (.seq (.seq .leaf (.block ⟨[(5,(.ow 9))],[(9,.arr 3 1)]⟩ (.loop ⟨[(1,(zl 9)),(2,(.pt 2 0)),(5,(.ow 9)),(6,zi)],[(2,z0),(9,.arr 3 1)]⟩ (.seq .leaf (.seq (.skip (.seq .leaf (.seq .leaf (.seq (.block ⟨[(1,(zl 9)),(2,(.pt 2 0)),(5,(.ow 9)),(6,zi),(7,zi),(8,zi)],[(2,z0),(9,.arr 3 1)]⟩ (.loop ⟨[(1,(zl 9)),(2,(.pt 2 0)),(5,(.ow 9)),(6,zi),(7,zi),(8,zi)],[(2,z0),(9,.arr 3 1)]⟩ .leaf)) .leaf)))) .leaf))))) .leaf))) [(36,some 23,eK)] (.cons fC .nil) (by kernel_rfl) (by kernel_rfl) (fun xs=>by kernel_rfl)
def cA.d1 (a b c:C):R:=(bif (decide (c.I<(a.L.length:Int))) then (bif (decide (c.I<(b.L.length:Int))) then (bif (decide (0<=c.I)) then (bif (decide (c.I<(a.L.length:Int))) then (bif (decide (0<=c.I)) then (bif (decide (c.I<(b.L.length:Int))) then (bif (((a.L.getD c.I.toNat []).getD 0 .nil).I !=((b.L.getD c.I.toNat []).getD 0 .nil).I) then (bif (decide (0<=c.I)) then (bif (decide (c.I<(a.L.length:Int))) then (bif (decide (0<=c.I)) then (bif (decide (c.I<(b.L.length:Int))) then (some (.ret [.b (decide (((a.L.getD c.I.toNat []).getD 0 .nil).I<((b.L.getD c.I.toNat []).getD 0 .nil).I))])) else none) else none) else none) else none) else (some (.again [a,b,.i (w64 (c.I+1))]))) else none) else none) else none) else none) else (some (.brk 0 [a,b]))) else (some (.brk 0 [a,b])))
def cA.d2 (a b:C):R:=(some (.ret [.b (decide ((a.L.length:Int)<(b.L.length:Int)))]))
def cA.d3 (a b:C):R:=(ah 0 (lim (apn 3 cA.d1) [a,b,.i 0]) (apn 2 cA.d2))
def cA:List C->Option (List C):=fun xs=>aU (apn 2 cA.d3 xs)
def iw:FS:=⟨2,⟨[(0,(zl 3)),(1,(zl 3))],[]⟩,⟨[(0,zo)],[]⟩,[],cA⟩
theorem mN:FK 23 iw:=okO Tryz.f23 iw (.seq .leaf (.seq (.seq .leaf (.block ⟨[(0,(zl 3)),(1,(zl 3))],[]⟩ (.loop ⟨[(0,(zl 3)),(1,(zl 3)),(5,zi)],[]⟩ .leaf))) .leaf)) [] .nil (by kernel_rfl) (by kernel_rfl) (fun xs=>by kernel_rfl)
def er.d1 (a b c:C):R:=(bif (decide (c.I<(a.L.length:Int))) then (bif (decide (c.I<(b.L.length:Int))) then (bif (decide (0<=c.I)) then (bif (decide (c.I<(a.L.length:Int))) then (bif (decide (0<=c.I)) then (bif (decide (c.I<(b.L.length:Int))) then (bif (!((((a.L.getD c.I.toNat []).getD 0 .nil).S).toList==(((b.L.getD c.I.toNat []).getD 0 .nil).S).toList)) then (bif (decide (0<=c.I)) then (bif (decide (c.I<(a.L.length:Int))) then (bif (decide (0<=c.I)) then (bif (decide (c.I<(b.L.length:Int))) then (some (.ret [.b (Op.bytesLess (((a.L.getD c.I.toNat []).getD 0 .nil).S).toList (((b.L.getD c.I.toNat []).getD 0 .nil).S).toList)])) else none) else none) else none) else none) else (some (.again [a,b,.i (w64 (c.I+1))]))) else none) else none) else none) else none) else (some (.brk 0 [a,b]))) else (some (.brk 0 [a,b])))
def er.d2 (a b:C):R:=(some (.ret [.b (decide ((a.L.length:Int)<(b.L.length:Int)))]))
def er.d3 (a b:C):R:=(ah 0 (lim (apn 3 er.d1) [a,b,.i 0]) (apn 2 er.d2))
def er:List C->Option (List C):=fun xs=>aU (apn 2 er.d3 xs)
def pO:FS:=⟨2,⟨[(0,(zl 9)),(1,(zl 9))],[]⟩,⟨[(0,zo)],[]⟩,[],er⟩
theorem B2:FK 85 pO:=okO Tryz.f85 pO (.seq .leaf (.seq (.seq .leaf (.block ⟨[(0,(zl 9)),(1,(zl 9))],[]⟩ (.loop ⟨[(0,(zl 9)),(1,(zl 9)),(5,zi)],[]⟩ .leaf))) .leaf)) [] .nil (by kernel_rfl) (by kernel_rfl) (fun xs=>by kernel_rfl)
def aV.d1 (a b c d e f:C):R:=(bif (decide (b.I<(a.L.length:Int))) then (bif (decide (0<=b.I)) then (bif (decide (b.I<(a.L.length:Int))) then (ad (dx [c,d,e,f,((a.L.getD b.I.toNat []).getD 0 .nil)]) fun g=>(bif (!(decide (g.I<0))) then (bif (decide (0<=g.I)) then (bif (decide (g.I<(f.L.length:Int))) then (bif (!((((f.L.getD g.I.toNat []).getD 11 .nil).S).toList==(bs #[]).toList)) then (bif (decide (b.I>0)) then (bif (decide (0<=(w64 (b.I-1)))) then (bif (decide ((w64 (b.I-1))<(a.L.length:Int))) then (bif (decide (0<=b.I)) then (bif (decide (b.I<(a.L.length:Int))) then (bif (!(Op.bytesLess (((a.L.getD (w64 (b.I-1)).toNat []).getD 0 .nil).S).toList (((a.L.getD b.I.toNat []).getD 0 .nil).S).toList)) then (some (.ret [.b false])) else (some (.again [a,.i (w64 (b.I+1)),c,d,e,f]))) else none) else none) else none) else none) else (some (.again [a,.i (w64 (b.I+1)),c,d,e,f]))) else (some (.ret [.b false]))) else none) else none) else (some (.ret [.b false])))) else none) else none) else (some (.brk 0 [a,c,d,e,f])))
def aV.d2 (a b c d e f g h i:C):R:=(bif (decide (e.I<(i.L.length:Int))) then (bif (decide (0<=e.I)) then (bif (decide (e.I<(i.L.length:Int))) then (bif (decide (0<=b.I)) then (bif (decide (b.I<(h.L.length:Int))) then (bif ((((i.L.getD e.I.toNat []).getD 1 .nil).S).toList==(((h.L.getD b.I.toNat []).getD 0 .nil).S).toList) then (bif (decide (0<=e.I)) then (bif (decide (e.I<(i.L.length:Int))) then (bif ((((i.L.getD e.I.toNat []).getD 11 .nil).S).toList==(bs #[]).toList) then (some (.again [a,b,.i (w64 (c.I-1)),d,.i (w64 (e.I+1)),f,g,h,i])) else (some (.again [a,b,c,d,.i (w64 (e.I+1)),f,g,h,i]))) else none) else none) else (some (.again [a,b,c,d,.i (w64 (e.I+1)),f,g,h,i]))) else none) else none) else none) else none) else (some (.brk 4 [a,b,c,d,f,g,h,i])))
def aV.d3 (a b c d e f g h i:C):R:=(bif (decide (e.I<(a.L.length:Int))) then (bif (decide (0<=e.I)) then (bif (decide (e.I<(a.L.length:Int))) then (ad (dx [f,g,h,i,((a.L.getD e.I.toNat []).getD 0 .nil)]) fun j=>(bif (decide (0<=j.I)) then (bif (decide (j.I<(i.L.length:Int))) then (bif (decide (0<=b.I)) then (bif (decide (b.I<(h.L.length:Int))) then (bif ((((i.L.getD j.I.toNat []).getD 1 .nil).S).toList==(((h.L.getD b.I.toNat []).getD 0 .nil).S).toList) then (some (.again [a,b,c,.i (w64 (d.I+1)),.i (w64 (e.I+1)),f,g,h,i])) else (some (.again [a,b,c,d,.i (w64 (e.I+1)),f,g,h,i]))) else none) else none) else none) else none)) else none) else none) else (some (.brk 6 [a,b,c,d,f,g,h,i])))
def aV.d4 (a b c d e f g h:C):R:=(bif (decide (d.I>0)) then (bif (decide (d.I>c.I)) then (some (.ret [.b false])) else (some (.again [a,.i (w64 (b.I+1)),e,f,g,h]))) else (some (.again [a,.i (w64 (b.I+1)),e,f,g,h])))
def aV.d5 (a b c d e f g h:C):R:=(ah 6 (lim (apn 9 aV.d3) [a,b,c,d,.i 0,e,f,g,h]) (apn 8 aV.d4))
def aV.d6 (a b c d e f:C):R:=(bif (decide (b.I<(e.L.length:Int))) then (bif (decide (0<=b.I)) then (bif (decide (b.I<(e.L.length:Int))) then (ah 4 (lim (apn 9 aV.d2) [a,b,((e.L.getD b.I.toNat []).getD 1 .nil),.i 0,.i 0,c,d,e,f]) (apn 8 aV.d5)) else none) else none) else (some (.brk 2 [])))
def aV.d7:R:=(some (.ret [.b true]))
def aV.d8 (a b c d e:C):R:=(ah 2 (lim (apn 6 aV.d6) [a,.i 0,b,c,d,e]) (fun xs=>aV.d7))
def aV.d9 (a b c d e:C):R:=(ah 0 (lim (apn 6 aV.d1) [e,.i 0,a,b,c,d]) (apn 5 aV.d8))
def aV:List C->Option (List C):=fun xs=>aU (apn 5 aV.d9 xs)
def mo:FS:=⟨2,⟨[(0,z2),(1,(zl 9))],[]⟩,⟨[(0,zo)],[]⟩,[],aV⟩
theorem tX:FK 39 mo:=okO Tryz.f39 mo (.seq .leaf (.seq (.seq .leaf (.block ⟨[(1,(zl 9)),(2,(.pt 2 0))],[(2,z0)]⟩ (.loop ⟨[(1,(zl 9)),(2,(.pt 2 0)),(5,zi)],[(2,z0)]⟩ .leaf))) (.seq (.seq .leaf (.block ⟨[],[]⟩ (.loop ⟨[(1,(zl 9)),(2,(.pt 2 0)),(7,zi)],[(2,z0)]⟩ (.seq .leaf (.seq (.skip (.seq .leaf (.seq .leaf (.seq (.seq .leaf (.block ⟨[(1,(zl 9)),(2,(.pt 2 0)),(7,zi),(8,zi),(9,zi)],[(2,z0)]⟩ (.loop ⟨[(1,(zl 9)),(2,(.pt 2 0)),(7,zi),(8,zi),(9,zi),(10,zi)],[(2,z0)]⟩ .leaf))) (.seq (.seq .leaf (.block ⟨[(1,(zl 9)),(2,(.pt 2 0)),(7,zi),(8,zi),(9,zi)],[(2,z0)]⟩ (.loop ⟨[(1,(zl 9)),(2,(.pt 2 0)),(7,zi),(8,zi),(9,zi),(11,zi)],[(2,z0)]⟩ .leaf))) .leaf))))) .leaf))))) .leaf))) [(36,some 23,eK),(36,some 108,eK)] (.cons fC (.cons fC .nil)) (by kernel_rfl) (by kernel_rfl) (fun xs=>by kernel_rfl)
def dI.d1 (a b c d e f g h i j:C):R:=(bif (decide (b.I<(a.L.length:Int))) then (bif (decide (0<=b.I)) then (bif (decide (b.I<(a.L.length:Int))) then (ad (dx [d,.l h.L,.l i.L,.l j.L,((a.L.getD b.I.toNat []).getD 0 .nil)]) fun k=>(bif (decide (0<=k.I)) then (bif (decide (k.I<(j.L.length:Int))) then (some (.again [a,.i (w64 (b.I+1)),c,d,.l e.L,.l f.L,.l g.L,.l h.L,.l i.L,.l (j.L.set k.I.toNat (aB (j.L.getD k.I.toNat []) 11 [.s (bs #[])]))])) else none) else none)) else none) else none) else (some (.brk 0 [c,d,.l e.L,.l f.L,.l g.L,.l h.L,.l i.L,.l j.L])))
def dI.d2 (a b c d e f g h:C):R:=(some (.ret [b,.l f.L,.l g.L,.l h.L]))
def dI.d3 (a b c d e:C):R:=(call4 (cw [a,b,c,d]) fun f g h i=>(ah 0 (lim (apn 10 dI.d1) [e,.i 0,.b false,f,.l af,.l af,.l af,.l g.L,.l h.L,.l i.L]) (apn 8 dI.d2)))
def dI:List C->Option (List C):=fun xs=>aU (apn 5 dI.d3 xs)
def nv:FS:=⟨2,⟨[(0,z2),(1,(zl 9))],[]⟩,⟨[(0,z15)],[(3000,.arr 72 1),(3001,.arr 40 1),(3002,.arr 38 1)]⟩,[],dI⟩
theorem yT:FK 40 nv:=okO Tryz.f40 nv (.seq .leaf (.seq .leaf (.seq (.seq .leaf (.block ⟨[(4,(.pt 4 0)),(5,(.pt 5 0))],[(4,.var 27 [zo,(.ow 1428400),(.ow 1428401),(.ow 1428402)]),(5,.var 27 [zo,(.ow 39864),(.ow 39865),(.ow 39866)]),(1428400,.arr 72 1),(1428401,.arr 40 1),(1428402,.arr 38 1),(39864,.arr 72 1),(39865,.arr 40 1),(39866,.arr 38 1)]⟩ (.loop ⟨[(1,(zl 9)),(4,(.pt 4 0)),(5,(.pt 5 0)),(6,zi)],[(4,.var 27 [zo,(.ow 1428400),(.ow 1428401),(.ow 1428402)]),(5,.var 27 [zo,(.ow 39864),(.ow 39865),(.ow 39866)]),(1428400,.arr 72 1),(1428401,.arr 40 1),(1428402,.arr 38 1),(39864,.arr 72 1),(39865,.arr 40 1),(39866,.arr 38 1)]⟩ .leaf))) .leaf))) [(36,some 22,eK),(76,some 8,ky)] (.cons fC (.cons pC .nil)) (by kernel_rfl) (by kernel_rfl) (fun xs=>by kernel_rfl)
end
end Go.Ev
namespace Go.Ev
open Go.Proofs
noncomputable section
def aG.d1 (a b c d e f g h i j k l m n o p q r s t u v w x:C):R:=(bif (decide (a.I<(e.L.length:Int))) then (bif (decide (0<=a.I)) then (bif (decide (a.I<(e.L.length:Int))) then (bif ((((e.L.getD a.I.toNat []).getD 11 .nil).S).toList==r.S.toList) then (bif (decide (0<=a.I)) then (bif (decide (a.I<(e.L.length:Int))) then (bif (decide (((e.L.getD a.I.toNat []).getD 2 .nil).I<h.I)) then (bif (decide (0<=a.I)) then (bif (decide (a.I<(e.L.length:Int))) then (bif (decide (x.L.length+(rows [[((e.L.getD a.I.toNat []).getD 0 .nil)]]).length<=4294967296)) then (some (.again [.i (w64 (a.I+1)),b,c,d,e,f,g,h,i,j,k,l,m,n,o,p,q,r,s,t,u,v,w,.l (x.L++(rows [[((e.L.getD a.I.toNat []).getD 0 .nil)]]))])) else none) else none) else none) else (some (.again [.i (w64 (a.I+1)),b,c,d,e,f,g,h,i,j,k,l,m,n,o,p,q,r,s,t,u,v,w,.l x.L]))) else none) else none) else (some (.again [.i (w64 (a.I+1)),b,c,d,e,f,g,h,i,j,k,l,m,n,o,p,q,r,s,t,u,v,w,.l x.L]))) else none) else none) else (some (.brk 0 [b,c,d,e,f,g,h,i,j,k,l,m,n,o,p,q,r,s,t,u,v,w,.l x.L])))
def aG.d2 (a b c d e f g h i j k l m n o p q r s t u v w x y z a0 a1:C):R:=(bif (decide (c.I<(z.L.length:Int))) then (bif (decide (0<=c.I)) then (bif (((b.I.fdiv (2^(min c.I.toNat 64))).tmod 2)==1) then (bif (decide (0<=c.I)) then (bif (decide (c.I<(z.L.length:Int))) then (bif (decide (a1.L.length+(rows [[((z.L.getD c.I.toNat []).getD 0 .nil)]]).length<=4294967296)) then (some (.again [a,b,.i (w64 (c.I+1)),d,e,f,g,h,i,j,k,l,m,n,o,p,q,r,s,t,u,v,w,x,y,.l z.L,.l a0.L,.l (a1.L++(rows [[((z.L.getD c.I.toNat []).getD 0 .nil)]]))])) else none) else none) else none) else (some (.again [a,b,.i (w64 (c.I+1)),d,e,f,g,h,i,j,k,l,m,n,o,p,q,r,s,t,u,v,w,x,y,.l z.L,.l a0.L,.l a1.L]))) else none) else (some (.brk 4 [a,b,d,e,f,g,h,i,j,k,l,m,n,o,p,q,r,s,t,u,v,w,x,y,.l z.L,.l a0.L,.l a1.L])))
def aG.d3 (a b c d e f g h i j k l m n o p q r s t u v w x y z a0:C):R:=(ad (aV [c,d,e,f,.l a0.L]) fun a1=>(bif a1.B then (call4 (dI [c,d,e,f,.l a0.L]) fun a2 a3 a4 a5=>(ad (cF [a2,.l a3.L,.l a4.L,.l a5.L,g,h,i,j,k,l,m,n,o,p,q,r,s,t,u,v,w,x,.b false]) fun a6=>(bif (a6.I==0) then (some (.brk 3 [.b true,b,c,d,e,f,g,h,i,j,k,l,m,n,o,p,q,r,s,t,u,v,w,x,.l y.L,.l a0.L])) else (some (.brk 3 [a,b,c,d,e,f,g,h,i,j,k,l,m,n,o,p,q,r,s,t,u,v,w,x,.l y.L,.l z.L]))))) else (some (.brk 3 [a,b,c,d,e,f,g,h,i,j,k,l,m,n,o,p,q,r,s,t,u,v,w,x,.l y.L,.l z.L]))))
def aG.d4 (a b c d e f g h i j k l m n o p q r s t u v w x y z a0:C):R:=(aZ (bif a.B then (ad (cO [c,d,e,f,.l a0.L]) fun a1=>(ad (cO [c,d,e,f,.l z.L]) fun a2=>(ad (cA [.l a2.L,.l a1.L]) fun a3=>(bif (!a3.B) then (ad (cA [.l a1.L,.l a2.L]) fun a4=>(bif (!a4.B) then (ad (er [.l a0.L,.l z.L]) fun a5=>(bif (!a5.B) then (some (.brk 3 [a,b,c,d,e,f,g,h,i,j,k,l,m,n,o,p,q,r,s,t,u,v,w,x,.l y.L,.l z.L])) else (some (.nrm [a,b,c,d,e,f,g,h,i,j,k,l,m,n,o,p,q,r,s,t,u,v,w,x,.l y.L,.l z.L,.l a0.L])))) else (some (.nrm [a,b,c,d,e,f,g,h,i,j,k,l,m,n,o,p,q,r,s,t,u,v,w,x,.l y.L,.l z.L,.l a0.L])))) else (some (.brk 3 [a,b,c,d,e,f,g,h,i,j,k,l,m,n,o,p,q,r,s,t,u,v,w,x,.l y.L,.l z.L])))))) else (some (.nrm [a,b,c,d,e,f,g,h,i,j,k,l,m,n,o,p,q,r,s,t,u,v,w,x,.l y.L,.l z.L,.l a0.L]))) (apn 27 aG.d3))
def aG.d5 (a b c d e f g h i j k l m n o p q r s t u v w x y z:C):R:=(some (.again [a,.i (w64 (b.I+1)),c,d,e,f,g,h,i,j,k,l,m,n,o,p,q,r,s,t,u,v,w,x,.l y.L,.l z.L]))
def aG.d6 (a b c d e f g h i j k l m n o p q r s t u v w x y z:C):R:=(bif (decide (0<=(y.L.length:Int))) then (bif (decide (b.I<(w64 (1*2^(min (y.L.length:Int).toNat 64))))) then (ah 3 (ah 4 (lim (apn 28 aG.d2) [a,b,.i 0,c,d,e,f,g,h,i,j,k,l,m,n,o,p,q,r,s,t,u,v,w,x,.l y.L,.l z.L,.l af]) (apn 27 aG.d4)) (apn 26 aG.d5)) else (some (.brk 2 [a,.l z.L]))) else none)
def aG.d7 (a b:C):R:=(some (.ret [.b a.B,.l b.L]))
def aG.d8 (a b c d e f g h i j k l m n o p q r s t u v w:C):R:=(ah 2 (lim (apn 26 aG.d6) [.b false,.i 0,a,b,c,d,e,f,g,h,i,j,k,l,m,n,o,p,q,r,s,t,u,v,.l w.L,.l af]) (apn 2 aG.d7))
def aG.d9 (a b c d e f g h i j k l m n o p q r s t u v:C):R:=(ah 0 (lim (apn 24 aG.d1) [.i 0,a,b,c,d,e,f,g,h,i,j,k,l,m,n,o,p,q,r,s,t,u,v,.l af]) (apn 23 aG.d8))
def aG:List C->Option (List C):=fun xs=>aU (apn 22 aG.d9 xs)
def nF:FS:=⟨3,⟨[(0,z2),(1,z5),(2,z10)],[]⟩,⟨[(0,(.tu [(.ow 3000),zo]))],[(3000,.arr 9 1)]⟩,[],aG⟩
theorem zW:FK 51 nF:=okO Tryz.f51 nF (.seq .leaf (.seq .leaf (.seq (.seq .leaf (.block ⟨[(3,(.pt 3 0)),(4,(.pt 4 0)),(5,(.pt 5 0)),(8,(.ow 17))],[(3,z0),(4,z1),(5,z3),(17,.arr 9 1)]⟩ (.loop ⟨[(3,(.pt 3 0)),(4,(.pt 4 0)),(5,(.pt 5 0)),(8,(.ow 17)),(9,zi)],[(3,z0),(4,z1),(5,z3),(17,.arr 9 1)]⟩ .leaf))) (.seq .leaf (.seq .leaf (.seq (.seq .leaf (.block ⟨[(10,(.ow 54)),(11,zo)],[(54,.arr 9 1)]⟩ (.loop ⟨[(3,(.pt 3 0)),(4,(.pt 4 0)),(5,(.pt 5 0)),(8,(.ow 17)),(10,(.ow 54)),(11,zo),(12,zi)],[(3,z0),(4,z1),(5,z3),(17,.arr 9 1),(54,.arr 9 1)]⟩ (.seq .leaf (.seq (.block ⟨[(3,(.pt 3 0)),(4,(.pt 4 0)),(5,(.pt 5 0)),(8,(.ow 17)),(10,(.ow 54)),(11,zo),(12,zi)],[(3,z0),(4,z1),(5,z3),(17,.arr 9 1),(54,.arr 9 1)]⟩ (.seq .leaf (.seq (.seq .leaf (.block ⟨[(3,(.pt 3 0)),(4,(.pt 4 0)),(5,(.pt 5 0)),(8,(.ow 17)),(10,(.ow 54)),(11,zo),(12,zi),(13,(.ow 62))],[(3,z0),(4,z1),(5,z3),(17,.arr 9 1),(54,.arr 9 1),(62,.arr 9 1)]⟩ (.loop ⟨[(3,(.pt 3 0)),(4,(.pt 4 0)),(5,(.pt 5 0)),(8,(.ow 17)),(10,(.ow 54)),(11,zo),(12,zi),(13,(.ow 62)),(14,zi)],[(3,z0),(4,z1),(5,z3),(17,.arr 9 1),(54,.arr 9 1),(62,.arr 9 1)]⟩ .leaf))) (.seq (.join ⟨[(3,(.pt 3 0)),(4,(.pt 4 0)),(5,(.pt 5 0)),(8,(.ow 17)),(10,(.ow 54)),(11,zo),(12,zi),(13,(.ow 62))],[(3,z0),(4,z1),(5,z3),(17,.arr 9 1),(54,.arr 9 1),(62,.arr 9 1)]⟩ .leaf) .leaf)))) .leaf))))) .leaf)))))) [(23,some 90,iw),(23,some 94,iw),(39,some 105,mo),(40,some 109,nv),(41,some 112,lN),(55,some 84,lF),(55,some 87,lF),(85,some 99,pO)] (.cons mN (.cons mN (.cons tX (.cons yT (.cons qZ (.cons rR (.cons rR (.cons B2 .nil)))))))) (by kernel_rfl) (by kernel_rfl) (fun xs=>by kernel_rfl)
def fK.d1 (a b c d e f:C):R:=(ad (dx [a,b,c,d,e]) fun g=>(ad (di [a,b,c,d,f]) fun h=>(ad (ax [a,b,c,d]) fun i=>(bif (!(!i.B)) then (bif (!(decide (g.I<0))) then (bif (!(decide (h.I<0))) then (bif (decide (0<=g.I)) then (bif (decide (g.I<(d.L.length:Int))) then (bif (!((((d.L.getD g.I.toNat []).getD 11 .nil).S).toList==(bs #[]).toList)) then (some (.ret [.b false,.l af])) else (bif (decide (0<=g.I)) then (bif (decide (g.I<(d.L.length:Int))) then (bif (decide (0<=h.I)) then (bif (decide (h.I<(b.L.length:Int))) then (call2 (aG [a,b,c,d,((d.L.getD g.I.toNat []).getD 0 .nil),((d.L.getD g.I.toNat []).getD 1 .nil),((d.L.getD g.I.toNat []).getD 2 .nil),((d.L.getD g.I.toNat []).getD 3 .nil),((d.L.getD g.I.toNat []).getD 4 .nil),((d.L.getD g.I.toNat []).getD 5 .nil),((d.L.getD g.I.toNat []).getD 6 .nil),((d.L.getD g.I.toNat []).getD 7 .nil),((d.L.getD g.I.toNat []).getD 8 .nil),((d.L.getD g.I.toNat []).getD 9 .nil),((d.L.getD g.I.toNat []).getD 10 .nil),((d.L.getD g.I.toNat []).getD 11 .nil),((b.L.getD h.I.toNat []).getD 0 .nil),((b.L.getD h.I.toNat []).getD 1 .nil),((b.L.getD h.I.toNat []).getD 2 .nil),((b.L.getD h.I.toNat []).getD 3 .nil),((b.L.getD h.I.toNat []).getD 4 .nil),((b.L.getD h.I.toNat []).getD 5 .nil)]) fun j k=>(some (.ret [.b j.B,.l k.L]))) else none) else none) else none) else none)) else none) else none) else (some (.ret [.b false,.l af]))) else (some (.ret [.b false,.l af]))) else (some (.ret [.b false,.l af]))))))
def fK:List C->Option (List C):=fun xs=>aU (apn 6 fK.d1 xs)
def kf:FS:=⟨3,⟨[(0,z2),(1,zt),(2,zt)],[]⟩,⟨[(0,(.tu [(.ow 3000),zo]))],[(3000,.arr 9 1)]⟩,[],fK⟩
theorem vf:FK 13 kf:=okO Tryz.f13 kf .leaf [(36,some 12,eK),(37,some 15,gl),(38,some 17,eh),(51,some 48,nF)] (.cons fC (.cons iT (.cons fj (.cons zW .nil)))) (by kernel_rfl) (by kernel_rfl) (fun xs=>by kernel_rfl)
def eS.d1 (a b c:C):R:=(bif (decide (c.I<(a.L.length:Int))) then (bif (decide (0<=c.I)) then (bif (decide (c.I<(a.L.length:Int))) then (bif (decide (0<=c.I)) then (bif (decide (c.I<(b.L.length:Int))) then (bif (!((((a.L.getD c.I.toNat []).getD 0 .nil).S).toList==(((b.L.getD c.I.toNat []).getD 0 .nil).S).toList)) then (some (.ret [.b false])) else (some (.again [a,b,.i (w64 (c.I+1))]))) else none) else none) else none) else none) else (some (.brk 0 [])))
def eS.d2:R:=(some (.ret [.b true]))
def eS.d3 (a b:C):R:=(bif ((a.L.length:Int) !=(b.L.length:Int)) then (some (.ret [.b false])) else (ah 0 (lim (apn 3 eS.d1) [a,b,.i 0]) (fun xs=>eS.d2)))
def eS:List C->Option (List C):=fun xs=>aU (apn 2 eS.d3 xs)
def pw:FS:=⟨2,⟨[(0,(zl 9)),(1,(zl 9))],[]⟩,⟨[(0,zo)],[]⟩,[],eS⟩
theorem B7:FK 14 pw:=okO Tryz.f14 pw (.seq .leaf (.seq .leaf (.seq (.seq .leaf (.block ⟨[],[]⟩ (.loop ⟨[(0,(zl 9)),(1,(zl 9)),(5,zi)],[]⟩ .leaf))) .leaf))) [] .nil (by kernel_rfl) (by kernel_rfl) (fun xs=>by kernel_rfl)
def ez.d1 (a b c d e f g h i j k l m n o p q r:C):R:=(bif (decide (b.I<(f.L.length:Int))) then (bif (decide (0<=b.I)) then (bif (decide (b.I<(f.L.length:Int))) then (bif ((((f.L.getD b.I.toNat []).getD 0 .nil).S).toList==a.S.toList) then (bif (decide (0<=b.I)) then (bif (decide (b.I<(f.L.length:Int))) then (some (.ret [((f.L.getD b.I.toNat []).getD 0 .nil),((f.L.getD b.I.toNat []).getD 1 .nil),((f.L.getD b.I.toNat []).getD 2 .nil),((f.L.getD b.I.toNat []).getD 3 .nil),((f.L.getD b.I.toNat []).getD 4 .nil),((f.L.getD b.I.toNat []).getD 5 .nil),((f.L.getD b.I.toNat []).getD 6 .nil),((f.L.getD b.I.toNat []).getD 7 .nil),((f.L.getD b.I.toNat []).getD 8 .nil),((f.L.getD b.I.toNat []).getD 9 .nil),((f.L.getD b.I.toNat []).getD 10 .nil),((f.L.getD b.I.toNat []).getD 11 .nil),.b true])) else none) else none) else (some (.again [a,.i (w64 (b.I+1)),c,d,e,f,g,h,i,j,k,l,m,n,o,p,q,.l r.L]))) else none) else none) else (some (.brk 0 [g,h,i,j,k,l,m,n,o,p,q,.l r.L])))
def ez.d2 (a b c d e f g h i j k l:C):R:=(some (.ret [.s (bs #[]),.s (bs #[]),.i 0,.i 0,.i 0,.i 0,.s (bs #[]),.l af,.i 0,.s (bs #[]),.s (bs #[]),.s (bs #[]),.b false]))
def ez.d3 (a b c d e:C):R:=(ah 0 (lim (apn 18 ez.d1) [e,.i 0,a,b,c,d,.s (bs #[]),.s (bs #[]),.i 0,.i 0,.i 0,.i 0,.s (bs #[]),.i 0,.s (bs #[]),.s (bs #[]),.s (bs #[]),.l af]) (apn 12 ez.d2))
def ez:List C->Option (List C):=fun xs=>aU (apn 5 ez.d3 xs)
def rq:FS:=⟨2,⟨[(0,z2),(1,zt)],[]⟩,⟨[(0,(.tu [z5,zo]))],[]⟩,[],ez⟩
theorem Dh:FK 15 rq:=okO Tryz.f15 rq (.seq .leaf (.seq (.seq .leaf (.block ⟨[(4,(.pt 4 0))],[(4,.var 38 [zt,zt,zi,zi,zi,zi,zt,(.ow 1433800),zi,zt,zt,zt]),(1433800,.arr 100 1)]⟩ (.loop ⟨[(1,zt),(2,(.pt 2 0)),(4,(.pt 4 0)),(6,zi)],[(2,z0),(4,.var 38 [zt,zt,zi,zi,zi,zi,zt,(.ow 1433800),zi,zt,zt,zt]),(1433800,.arr 100 1)]⟩ .leaf))) .leaf)) [] .nil (by kernel_rfl) (by kernel_rfl) (fun xs=>by kernel_rfl)
def eG.d1 (a b c d e f g h i j k l m n o p:C):R:=(bif (decide (e.I<d.I)) then (bif (decide (0<=e.I)) then (bif (decide (e.I<(c.L.length:Int))) then (ad (gM [f,g,h,i,((c.L.getD e.I.toNat []).getD 0 .nil)]) fun q=>(bif (decide (0<=q.I)) then (bif (decide (q.I<(i.L.length:Int))) then (bif (!((((i.L.getD q.I.toNat []).getD 11 .nil).S).toList==k.S.toList)) then (some (.ret [.b false,.b false,.l af,.l af,.l af])) else (some (.again [a,b,c,d,.i (w64 (e.I+1)),f,g,h,i,j,k,l,m,.l n.L,.l o.L,.l p.L]))) else none) else none)) else none) else none) else (some (.brk 0 [a,b,f,g,h,i,j,k,l,m,.l n.L,.l o.L,.l p.L])))
def eG.d2 (a b c d e f g h i j k l m:C):R:=(call4 (mh [c,d,e,f,i]) fun n o p q=>(bif (decide (0<=a.I)) then (bif (decide (a.I<(q.L.length:Int))) then (bif (decide (0<=b.I)) then (bif (decide (b.I<(o.L.length:Int))) then (ad (bT [n,.l o.L,.l p.L,.l q.L,((q.L.getD a.I.toNat []).getD 0 .nil),((q.L.getD a.I.toNat []).getD 1 .nil),((q.L.getD a.I.toNat []).getD 2 .nil),((q.L.getD a.I.toNat []).getD 3 .nil),((q.L.getD a.I.toNat []).getD 4 .nil),((q.L.getD a.I.toNat []).getD 5 .nil),((q.L.getD a.I.toNat []).getD 6 .nil),((q.L.getD a.I.toNat []).getD 7 .nil),((q.L.getD a.I.toNat []).getD 8 .nil),((q.L.getD a.I.toNat []).getD 9 .nil),((q.L.getD a.I.toNat []).getD 10 .nil),((q.L.getD a.I.toNat []).getD 11 .nil),((o.L.getD b.I.toNat []).getD 0 .nil),((o.L.getD b.I.toNat []).getD 1 .nil),((o.L.getD b.I.toNat []).getD 2 .nil),((o.L.getD b.I.toNat []).getD 3 .nil),((o.L.getD b.I.toNat []).getD 4 .nil),((o.L.getD b.I.toNat []).getD 5 .nil),.b true]) fun r=>(bif (r.I !=0) then (some (.ret [.b false,.b false,.l af,.l af,.l af])) else (bif (decide (0<=a.I)) then (bif (decide (a.I<(q.L.length:Int))) then (some (.ret [n,.b true,.l o.L,.l p.L,.l (q.L.set a.I.toNat (aB (q.L.getD a.I.toNat []) 11 [h]))])) else none) else none))) else none) else none) else none) else none))
def eG.d3 (a b c d e f g:C):R:=(ad (gM [a,b,c,d,e]) fun h=>(ad (ft [a,b,c,d,f]) fun i=>(bif (!(decide (h.I<0))) then (bif (!(decide (i.I<0))) then (ad (au [a,b,c,d]) fun j=>(bif (!(!j.B)) then (bif (decide (0<=h.I)) then (bif (decide (h.I<(d.L.length:Int))) then (bif (!(!((((d.L.getD h.I.toNat []).getD 11 .nil).S).toList==(bs #[]).toList))) then (ad (bw [a,b,c,d,g]) fun k=>(bif (!k.B) then (some (.ret [.b false,.b false,.l af,.l af,.l af])) else (ah 0 (lim (apn 16 eG.d1) [h,i,g,.i (g.L.length:Int),.i 0,a,b,c,d,e,f,g,.b false,.l af,.l af,.l af]) (apn 13 eG.d2)))) else (some (.ret [.b false,.b false,.l af,.l af,.l af]))) else none) else none) else (some (.ret [.b false,.b false,.l af,.l af,.l af])))) else (some (.ret [.b false,.b false,.l af,.l af,.l af]))) else (some (.ret [.b false,.b false,.l af,.l af,.l af])))))
def eG:List C->Option (List C):=fun xs=>aU (apn 7 eG.d3 xs)
def mw:FS:=⟨2,⟨[(0,z2),(1,(.ag [zt,zt,(zl 9)]))],[]⟩,⟨[(0,(.tu [z15,zo]))],[(3000,.arr 72 1),(3001,.arr 40 1),(3002,.arr 38 1)]⟩,[],eG⟩
theorem uH:FK 6 mw:=okO Tryz.f6 mw (.seq .leaf (.seq .leaf (.seq .leaf (.seq (.seq .leaf (.block ⟨[(2,(.pt 2 0)),(3,(.pt 3 0)),(4,(.pt 4 0)),(6,zi),(7,zi)],[(2,z0),(3,.var 30 [zt,zt,(zl 9)]),(4,.var 27 [zo,(.ow 1437400),(.ow 1437401),(.ow 1437402)]),(1437400,.arr 72 1),(1437401,.arr 40 1),(1437402,.arr 38 1)]⟩ (.loop ⟨[(2,(.pt 2 0)),(3,(.pt 3 0)),(4,(.pt 4 0)),(6,zi),(7,zi),(48,(zl 9)),(49,zi),(50,zi)],[(2,z0),(3,.var 30 [zt,zt,(zl 9)]),(4,.var 27 [zo,(.ow 1437400),(.ow 1437401),(.ow 1437402)]),(1437400,.arr 72 1),(1437401,.arr 40 1),(1437402,.arr 38 1)]⟩ .leaf))) .leaf)))) [(10,some 27,fT),(31,some 14,gT),(31,some 58,gT),(32,some 18,gu),(33,some 43,lL),(34,some 70,uI),(35,some 82,pU)] (.cons jz (.cons ka (.cons ka (.cons jk (.cons qN (.cons D4 (.cons yz .nil))))))) (by kernel_rfl) (by kernel_rfl) (fun xs=>by kernel_rfl)
def gk.d1 (a b c d e:C):R:=(ad (au [a,b,c,d]) fun f=>(bif f.B then (ad (bw [a,b,c,d,e]) fun g=>(some (.ret [.b g.B]))) else (some (.ret [.b false]))))
def gk:List C->Option (List C):=fun xs=>aU (apn 5 gk.d1 xs)
def jw:FS:=⟨2,⟨[(0,z2),(1,(zl 9))],[]⟩,⟨[(0,zo)],[]⟩,[],gk⟩
theorem qq:FK 16 jw:=okO Tryz.f16 jw .leaf [(10,some 6,fT),(33,some 10,lL)] (.cons jz (.cons qN .nil)) (by kernel_rfl) (by kernel_rfl) (fun xs=>by kernel_rfl)
def fu.d1 (a b c d e f g h:C):R:=(bif (decide (a.I<(g.L.length:Int))) then (bif (decide (0<=a.I)) then (bif (decide (a.I<(g.L.length:Int))) then (bif (!((((g.L.getD a.I.toNat []).getD 11 .nil).S).toList==(bs #[]).toList)) then (call3 (ae [.i 3,b,c]) fun i j k=>(bif (i.I==0) then (bif (decide (0<=a.I)) then (bif (decide (a.I<(g.L.length:Int))) then (bif (decide (h.L.length+(rows [[((g.L.getD a.I.toNat []).getD 0 .nil)]]).length<=4294967296)) then (some (.again [.i (w64 (a.I+1)),j,k,d,e,f,g,.l (h.L++(rows [[((g.L.getD a.I.toNat []).getD 0 .nil)]]))])) else none) else none) else none) else (some (.again [.i (w64 (a.I+1)),j,k,d,e,f,g,.l h.L])))) else (some (.again [.i (w64 (a.I+1)),b,c,d,e,f,g,.l h.L]))) else none) else none) else (some (.brk 0 [b,c,d,e,f,g,.l h.L])))
def fu.d2 (a b c d e f g:C):R:=(call3 (ae [.i 12,a,b]) fun h i j=>(bif (h.I==0) then (call3 (lB [c,d,e,f,i,j]) fun k l m=>(bif (decide (g.L.length+(rows [[k]]).length<=4294967296)) then (some (.ret [l,m,.l (g.L++(rows [[k]]))])) else none)) else (bif (h.I==1) then (bif (decide ((g.L.length:Int)>1)) then (bif (decide (0<(g.L.length:Int))) then (bif (decide (1<(g.L.length:Int))) then (bif (decide (0<(g.L.length:Int))) then (bif (decide (1<((g.L.set 0 (aB (g.L.getD 0 []) 0 [((g.L.getD 1 []).getD 0 .nil)])).length:Int))) then (some (.ret [i,j,.l ((g.L.set 0 (aB (g.L.getD 0 []) 0 [((g.L.getD 1 []).getD 0 .nil)])).set 1 (aB ((g.L.set 0 (aB (g.L.getD 0 []) 0 [((g.L.getD 1 []).getD 0 .nil)])).getD 1 []) 0 [((g.L.getD 0 []).getD 0 .nil)]))])) else none) else none) else none) else none) else (some (.ret [i,j,.l g.L]))) else (some (.ret [i,j,.l g.L])))))
def fu.d3 (a b c d e f:C):R:=(ah 0 (lim (apn 8 fu.d1) [.i 0,e,f,a,b,c,d,.l af]) (apn 7 fu.d2))
def fu:List C->Option (List C):=fun xs=>aU (apn 6 fu.d3 xs)
def rC:FS:=⟨2,⟨[(0,(.pt 2000 0)),(1,z2)],[(2000,z4)]⟩,⟨[(0,(.ow 3001))],[(2000,z4),(3001,.arr 9 1)]⟩,[2000],fu⟩
theorem Dd:FK 30 rC:=okO Tryz.f30 rC (.seq .leaf (.seq .leaf (.seq (.seq .leaf (.block ⟨[(0,(.pt 2000 0)),(3,(.pt 3 0)),(5,(.ow 8))],[(2000,z4),(3,z0),(8,.arr 9 1)]⟩ (.loop ⟨[(0,(.pt 2000 0)),(3,(.pt 3 0)),(5,(.ow 8)),(6,zi)],[(2000,z4),(3,z0),(8,.arr 9 1)]⟩ .leaf))) .leaf))) [(27,some 25,aa),(27,some 38,aa),(28,some 44,nS)] (.cons ab (.cons ab (.cons wZ .nil))) (by kernel_rfl) (by kernel_rfl) (fun xs=>by kernel_rfl)
def ep.d1 (a:C):R:=(call2 (kg [a]) fun b c=>(call6 (nV [b,c]) fun d e f g h i=>(call3 (fu [d,.l h.L,.l i.L,e,f,g]) fun j k l=>(some (.ret [d,.l h.L,.l i.L,e,.l l.L])))))
def ep:List C->Option (List C):=fun xs=>aU (apn 1 ep.d1 xs)
def gJ:FS:=⟨1,⟨[(0,(zl 5))],[]⟩,⟨[(0,(.tu [z2,(.ow 3000)]))],[(3000,.arr 9 1)]⟩,[],ep⟩
theorem mf:FK 17 gJ:=okO Tryz.f17 gJ (.seq .leaf (.seq .leaf (.seq .leaf (.seq (.frz [43961,43962] .leaf) .leaf)))) [(24,some 7,lM),(25,some 9,pD),(30,some 13,rC)] (.cons qS (.cons yx (.cons Dd .nil))) (by kernel_rfl) (by kernel_rfl) (fun xs=>by kernel_rfl)
def jb.d1 (a b c:C):R:=(bif (decide (c.I<(a.L.length:Int))) then (bif (decide (0<=c.I)) then (bif (decide (c.I<(a.L.length:Int))) then (bif ((((a.L.getD c.I.toNat []).getD 0 .nil).S).toList==b.S.toList) then (some (.ret [.b true])) else (some (.again [a,b,.i (w64 (c.I+1))]))) else none) else none) else (some (.brk 0 [])))
def jb.d2:R:=(some (.ret [.b false]))
def jb.d3 (a b:C):R:=(ah 0 (lim (apn 3 jb.d1) [a,b,.i 0]) (fun xs=>jb.d2))
def jb:List C->Option (List C):=fun xs=>aU (apn 2 jb.d3 xs)
def vC:FS:=⟨2,⟨[(0,(zl 9)),(1,zt)],[]⟩,⟨[(0,zo)],[]⟩,[],jb⟩
theorem GW:FK 9 vC:=okO Tryz.f9 vC (.seq .leaf (.seq (.seq .leaf (.block ⟨[],[]⟩ (.loop ⟨[(0,(zl 9)),(1,zt),(5,zi)],[]⟩ .leaf))) .leaf)) [] .nil (by kernel_rfl) (by kernel_rfl) (fun xs=>by kernel_rfl)
def cP.d1 (a b c d e f g h:C):R:=(bif (decide (c.I<b.I)) then (bif (decide (0<=c.I)) then (bif (decide (c.I<(a.L.length:Int))) then (ad (gM [d,e,f,g,((a.L.getD c.I.toNat []).getD 0 .nil)]) fun i=>(bif (decide (i.I<0)) then (some (.ret [.l af])) else (bif (decide (0<=i.I)) then (bif (decide (i.I<(g.L.length:Int))) then (bif (decide (h.L.length+(rows [[((g.L.getD i.I.toNat []).getD 2 .nil)]]).length<=4294967296)) then (some (.again [a,b,.i (w64 (c.I+1)),d,e,f,g,.l (h.L++(rows [[((g.L.getD i.I.toNat []).getD 2 .nil)]]))])) else none) else none) else none))) else none) else none) else (some (.brk 0 [.l h.L])))
def cP.d2 (a:C):R:=(ad (slices_Sort_int [.l a.L]) fun b=>(ad (bg [.l b.L]) fun c=>(some (.ret [.l c.L]))))
def cP.d3 (a b c d e:C):R:=(ad (au [a,b,c,d]) fun f=>(bif (!f.B) then (some (.ret [.l af])) else (ah 0 (lim (apn 8 cP.d1) [e,.i (e.L.length:Int),.i 0,a,b,c,d,.l af]) (apn 1 cP.d2))))
def cP:List C->Option (List C):=fun xs=>aU (apn 5 cP.d3 xs)
def iA:FS:=⟨2,⟨[(0,z2),(1,(zl 9))],[]⟩,⟨[(0,(.ow 3000))],[(3000,.arr 3 1)]⟩,[],cP⟩
theorem nz:FK 19 iA:=okO Tryz.f19 iA (.seq .leaf (.seq .leaf (.seq .leaf (.seq (.seq .leaf (.block ⟨[(5,(.ow 1451100))],[(1451100,.arr 3 1)]⟩ (.loop ⟨[(2,(.pt 2 0)),(5,(.ow 1451100)),(12,(zl 9)),(13,zi),(14,zi)],[(2,z0),(1451100,.arr 3 1)]⟩ .leaf))) .leaf)))) [(10,some 10,fT),(31,some 20,gT),(53,some 34,jK),(54,some 36,fM)] (.cons jz (.cons ka (.cons mS (.cons kD .nil)))) (by kernel_rfl) (by kernel_rfl) (fun xs=>by kernel_rfl)
def eJ.d1 (a b:C):R:=(ad (aP [a,b]) fun c=>(some (.ret [.b (decide (c.I<0))])))
def eJ:List C->Option (List C):=fun xs=>aU (apn 2 eJ.d1 xs)
def eW:FS:=⟨2,⟨[(0,(zl 3)),(1,(zl 3))],[]⟩,⟨[(0,zo)],[]⟩,[],eJ⟩
theorem gP:FK 18 eW:=okO Tryz.f18 eW .leaf [(52,some 7,fL)] (.cons kE .nil) (by kernel_rfl) (by kernel_rfl) (fun xs=>by kernel_rfl)
def gV.d1 (a b c d e:C):R:=(ad (ax [a,b,c,d]) fun f=>(bif f.B then (ad (aV [a,b,c,d,e]) fun g=>(some (.ret [.b g.B]))) else (some (.ret [.b false]))))
def gV:List C->Option (List C):=fun xs=>aU (apn 5 gV.d1 xs)
def l6:FS:=⟨2,⟨[(0,z2),(1,(zl 9))],[]⟩,⟨[(0,zo)],[]⟩,[],gV⟩
theorem xC:FK 20 l6:=okO Tryz.f20 l6 .leaf [(38,some 6,eh),(39,some 10,mo)] (.cons fj (.cons tX .nil)) (by kernel_rfl) (by kernel_rfl) (fun xs=>by kernel_rfl)
def dJ.d1 (a b c d e f:C):R:=(bif (decide (b.I<(a.L.length:Int))) then (bif (decide (0<=b.I)) then (bif (decide (b.I<(a.L.length:Int))) then (ad (dx [c,d,e,f,((a.L.getD b.I.toNat []).getD 0 .nil)]) fun g=>(bif (decide (g.I<0)) then (some (.ret [.l af])) else (some (.again [a,.i (w64 (b.I+1)),c,d,e,f])))) else none) else none) else (some (.brk 0 [a,c,d,e,f])))
def dJ.d2 (a b c d e:C):R:=(ad (ax [b,c,d,e]) fun f=>(bif (!f.B) then (some (.ret [.l af])) else (ad (cO [b,c,d,e,a]) fun g=>(some (.ret [.l g.L])))))
def dJ.d3 (a b c d e:C):R:=(ah 0 (lim (apn 6 dJ.d1) [e,.i 0,a,b,c,d]) (apn 5 dJ.d2))
def dJ:List C->Option (List C):=fun xs=>aU (apn 5 dJ.d3 xs)
def mY:FS:=⟨2,⟨[(0,z2),(1,(zl 9))],[]⟩,⟨[(0,(.ow 3000))],[(3000,.arr 3 1)]⟩,[],dJ⟩
theorem zU:FK 21 mY:=okO Tryz.f21 mY (.seq .leaf (.seq (.seq .leaf (.block ⟨[(1,(zl 9)),(2,(.pt 2 0))],[(2,z0)]⟩ (.loop ⟨[(1,(zl 9)),(2,(.pt 2 0)),(5,zi)],[(2,z0)]⟩ .leaf))) .leaf)) [(36,some 17,eK),(38,some 21,eh),(55,some 26,lF)] (.cons fC (.cons fj (.cons rR .nil))) (by kernel_rfl) (by kernel_rfl) (fun xs=>by kernel_rfl)
def bG.d1 (a b c d e:C):R:=(bif (decide (a.I>0)) then (call3 (ae [.i 3,b,c]) fun f g h=>(bif (decide (d.L.length+(rows [[f]]).length<=4294967296)) then (call3 (ae [.i 3,g,h]) fun i j k=>(bif (decide (i.I>0)) then (bif (decide (e.L.length+(rows [[f]]).length<=4294967296)) then (some (.again [.i (w64 (a.I-1)),j,k,.l (d.L++(rows [[f]])),.l (e.L++(rows [[f]]))])) else none) else (call3 (ae [.i 3,j,k]) fun l m n=>(bif (decide (e.L.length+(rows [[l]]).length<=4294967296)) then (some (.again [.i (w64 (a.I-1)),m,n,.l (d.L++(rows [[f]])),.l (e.L++(rows [[l]]))])) else none)))) else none)) else (some (.brk 0 [b,c,.l d.L,.l e.L])))
def bG.d2 (a b c d:C):R:=(call3 (ae [.i 2,a,b]) fun e f g=>(bif (e.I==0) then (call3 (ae [.i 3,f,g]) fun h i j=>(bif (decide (c.L.length+(rows [[h]]).length<=4294967296)) then (some (.ret [.l (c.L++(rows [[h]])),.l d.L])) else none)) else (some (.ret [.l c.L,.l d.L]))))
def bG.d3 (a:C):R:=(call2 (kg [a]) fun b c=>(call3 (ae [.i 4,b,c]) fun d e f=>(ah 0 (lim (apn 5 bG.d1) [d,e,f,.l af,.l af]) (apn 4 bG.d2))))
def bG:List C->Option (List C):=fun xs=>aU (apn 1 bG.d3 xs)
def jG:FS:=⟨1,⟨[(0,(zl 5))],[]⟩,⟨[(0,(.tu [(.ow 3000),(.ow 3001)]))],[(3000,.arr 3 1),(3001,.arr 3 1)]⟩,[],bG⟩
theorem tj:FK 22 jG:=okO Tryz.f22 jG (.seq .leaf (.seq .leaf (.seq .leaf (.seq .leaf (.seq (.seq .leaf (.block ⟨[(4,(.pt 48056 0)),(5,(.ow 11)),(6,(.ow 12))],[(48056,z4),(11,.arr 3 1),(12,.arr 3 1)]⟩ (.loop ⟨[(4,(.pt 48056 0)),(5,(.ow 11)),(6,(.ow 12)),(7,zi)],[(48056,z4),(11,.arr 3 1),(12,.arr 3 1)]⟩ .leaf))) .leaf))))) [(24,some 10,lM),(27,some 14,aa),(27,some 20,aa),(27,some 26,aa),(27,some 34,aa),(27,some 38,aa),(27,some 42,aa)] (.cons qS (.cons ab (.cons ab (.cons ab (.cons ab (.cons ab (.cons ab .nil))))))) (by kernel_rfl) (by kernel_rfl) (fun xs=>by kernel_rfl)
def aE.d1 (a b c d e f g h i j k l m n o p q r s t u v w x y z a0 a1 a2 a3 a4 a5 a6 a7 a8 a9 b0 b1 b2:C):R:=(bif i.B then (bif (decide (a0.L.length+(rows [[a1]]).length<=4294967296)) then (bif g.B then (some (.again [a,b,c,d,e,f,.b (decide (a3.I<p.I)),.i (w64 (h.I+1)),j,k,l,m,n,o,p,q,r,s,t,u,v,w,x,y,.l z.L,.l (a0.L++(rows [[a1]]))])) else (some (.again [a,b,c,d,e,f,.b false,.i (w64 (h.I+1)),j,k,l,m,n,o,p,q,r,s,t,u,v,w,x,y,.l z.L,.l (a0.L++(rows [[a1]]))]))) else none) else (some (.again [a,b,c,d,e,f,g,.i (w64 (h.I+1)),j,k,l,m,n,o,p,q,r,s,t,u,v,w,x,y,.l z.L,.l a0.L])))
def aE.d2 (a b c d e f g h i j k l m n o p q r s t u v w x y z:C):R:=(bif (decide (h.I<(l.L.length:Int))) then (bif (decide (0<=h.I)) then (bif (decide (h.I<(l.L.length:Int))) then (aZ (bif ((((l.L.getD h.I.toNat []).getD 11 .nil).S).toList==d.S.toList) then (bif (!((((l.L.getD h.I.toNat []).getD 11 .nil).S).toList==(bs #[]).toList)) then (ad (jb [.l y.L,((l.L.getD h.I.toNat []).getD 0 .nil)]) fun a0=>(bif (!a0.B) then (bif (decide (h.I<(b.L.length:Int))) then (bif (decide (0<=h.I)) then (bif (decide (h.I<(b.L.length:Int))) then (some (.nrm [a,b,c,d,e,f,g,h,.b (((((b.L.getD h.I.toNat []).getD 0 .nil).I).tmod 2)==0),i,j,k,l,m,n,o,p,q,r,s,t,u,v,w,x,.l y.L,.l z.L,((l.L.getD h.I.toNat []).getD 0 .nil),((l.L.getD h.I.toNat []).getD 1 .nil),((l.L.getD h.I.toNat []).getD 2 .nil),((l.L.getD h.I.toNat []).getD 3 .nil),((l.L.getD h.I.toNat []).getD 4 .nil),((l.L.getD h.I.toNat []).getD 5 .nil),((l.L.getD h.I.toNat []).getD 6 .nil),((l.L.getD h.I.toNat []).getD 7 .nil),((l.L.getD h.I.toNat []).getD 8 .nil),((l.L.getD h.I.toNat []).getD 9 .nil),((l.L.getD h.I.toNat []).getD 10 .nil),((l.L.getD h.I.toNat []).getD 11 .nil)])) else none) else none) else (some (.nrm [a,b,c,d,e,f,g,h,.b false,i,j,k,l,m,n,o,p,q,r,s,t,u,v,w,x,.l y.L,.l z.L,((l.L.getD h.I.toNat []).getD 0 .nil),((l.L.getD h.I.toNat []).getD 1 .nil),((l.L.getD h.I.toNat []).getD 2 .nil),((l.L.getD h.I.toNat []).getD 3 .nil),((l.L.getD h.I.toNat []).getD 4 .nil),((l.L.getD h.I.toNat []).getD 5 .nil),((l.L.getD h.I.toNat []).getD 6 .nil),((l.L.getD h.I.toNat []).getD 7 .nil),((l.L.getD h.I.toNat []).getD 8 .nil),((l.L.getD h.I.toNat []).getD 9 .nil),((l.L.getD h.I.toNat []).getD 10 .nil),((l.L.getD h.I.toNat []).getD 11 .nil)]))) else (some (.nrm [a,b,c,d,e,f,g,h,.b true,i,j,k,l,m,n,o,p,q,r,s,t,u,v,w,x,.l y.L,.l z.L,((l.L.getD h.I.toNat []).getD 0 .nil),((l.L.getD h.I.toNat []).getD 1 .nil),((l.L.getD h.I.toNat []).getD 2 .nil),((l.L.getD h.I.toNat []).getD 3 .nil),((l.L.getD h.I.toNat []).getD 4 .nil),((l.L.getD h.I.toNat []).getD 5 .nil),((l.L.getD h.I.toNat []).getD 6 .nil),((l.L.getD h.I.toNat []).getD 7 .nil),((l.L.getD h.I.toNat []).getD 8 .nil),((l.L.getD h.I.toNat []).getD 9 .nil),((l.L.getD h.I.toNat []).getD 10 .nil),((l.L.getD h.I.toNat []).getD 11 .nil)])))) else (some (.nrm [a,b,c,d,e,f,g,h,.b false,i,j,k,l,m,n,o,p,q,r,s,t,u,v,w,x,.l y.L,.l z.L,((l.L.getD h.I.toNat []).getD 0 .nil),((l.L.getD h.I.toNat []).getD 1 .nil),((l.L.getD h.I.toNat []).getD 2 .nil),((l.L.getD h.I.toNat []).getD 3 .nil),((l.L.getD h.I.toNat []).getD 4 .nil),((l.L.getD h.I.toNat []).getD 5 .nil),((l.L.getD h.I.toNat []).getD 6 .nil),((l.L.getD h.I.toNat []).getD 7 .nil),((l.L.getD h.I.toNat []).getD 8 .nil),((l.L.getD h.I.toNat []).getD 9 .nil),((l.L.getD h.I.toNat []).getD 10 .nil),((l.L.getD h.I.toNat []).getD 11 .nil)]))) else (some (.nrm [a,b,c,d,e,f,g,h,.b false,i,j,k,l,m,n,o,p,q,r,s,t,u,v,w,x,.l y.L,.l z.L,((l.L.getD h.I.toNat []).getD 0 .nil),((l.L.getD h.I.toNat []).getD 1 .nil),((l.L.getD h.I.toNat []).getD 2 .nil),((l.L.getD h.I.toNat []).getD 3 .nil),((l.L.getD h.I.toNat []).getD 4 .nil),((l.L.getD h.I.toNat []).getD 5 .nil),((l.L.getD h.I.toNat []).getD 6 .nil),((l.L.getD h.I.toNat []).getD 7 .nil),((l.L.getD h.I.toNat []).getD 8 .nil),((l.L.getD h.I.toNat []).getD 9 .nil),((l.L.getD h.I.toNat []).getD 10 .nil),((l.L.getD h.I.toNat []).getD 11 .nil)]))) (apn 39 aE.d1)) else none) else none) else (some (.brk 0 [a,b,c,d,e,f,g,i,j,k,l,m,n,o,p,q,r,s,t,u,v,w,x,.l z.L])))
def aE.d3 (a b c d e f g h i j k l:C):R:=(bif g.B then (call5 (eG [h,i,j,k,c,d,.l l.L]) fun m n o p q=>(bif n.B then (bif (!(!f.B)) then (ad (cP [h,i,j,k,.l l.L]) fun r=>(ad (cP [h,i,j,k,e]) fun s=>(ad (eJ [.l r.L,.l s.L]) fun t=>(bif t.B then (some (.ret [.b false])) else (some (.nrm [a,b])))))) else (some (.ret [.b false]))) else (some (.nrm [a,b])))) else (some (.nrm [a,b])))
def aE.d4 (a b:C):R:=(call5 (ep [b]) fun c d e f g=>(ad (gk [c,d,e,f,.l g.L]) fun h=>(ad (gV [c,d,e,f,.l g.L]) fun i=>(bif (!(h.B==i.B)) then (some (.ret [.b false])) else (ad (cP [c,d,e,f,.l g.L]) fun j=>(ad (dJ [c,d,e,f,.l g.L]) fun k=>(bif (!((j.L.length:Int) !=(k.L.length:Int))) then (ad (eJ [.l j.L,.l k.L]) fun l=>(bif (!l.B) then (ad (eJ [.l k.L,.l j.L]) fun m=>(bif m.B then (some (.ret [.b false])) else (call2 (bG [a]) fun n o=>(ad (eJ [.l n.L,.l o.L]) fun p=>(ad (cA [.l n.L,.l o.L]) fun q=>(bif (p.B==q.B) then (ad (eJ [.l n.L,.l o.L]) fun r=>(bif r.B then (ad (eJ [.l o.L,.l n.L]) fun s=>(some (.ret [.b (!s.B)]))) else (some (.ret [.b true])))) else (some (.ret [.b false])))))))) else (some (.ret [.b false])))) else (some (.ret [.b false])))))))))
def aE.d5 (a b c d e f g h i j k l m n o p q r s t u v w x:C):R:=(aZ (aZ (bif (w.S.toList==(bs #[]).toList) then (some (.nrm [a,b,c,d,e,f,.b g.B,h,i,j,k,.l x.L])) else (some (.nrm [a,b,c,d,e,f,.b false,h,i,j,k,.l x.L]))) (apn 12 aE.d3)) (apn 2 aE.d4))
def aE.d6 (a b c d e f g h i j k l m n o p q r s t u v:C):R:=(call5 (ep [b]) fun w x y z a0=>(ah 0 (lim (apn 26 aE.d2) [a,b,c,d,e,f,.b true,.i 0,g,h,i,j,k,l,m,n,o,p,q,r,s,t,u,v,.l a0.L,.l af]) (apn 24 aE.d5)))
def aE.d7 (a b:C):R:=(bif (!(decide ((a.L.length:Int)>1048576))) then (bif (decide ((b.L.length:Int)>1048576)) then (some (.ret [.b true])) else (call6 (bW [a]) fun c d e f g h=>(call2 (fG [c,d,e,f,g,h]) fun i j=>(call2 (fK [c,d,e,f,g,h]) fun k l=>(bif (!(!(i.B==k.B))) then (ad (eS [.l j.L,.l l.L]) fun m=>(bif (!m.B) then (some (.ret [.b false])) else (call13 (ez [c,d,e,f,g]) fun n o p q r s t u v w x y z=>(aZ (bif i.B then (call5 (eG [c,d,e,f,g,h,.l j.L]) fun a0 a1 a2 a3 a4=>(bif (!(!a1.B)) then (ad (gk [c,d,e,f,.l j.L]) fun a5=>(bif (!a5.B) then (some (.ret [.b false])) else (some (.nrm [a,b,g,h,.l j.L,.b i.B,c,d,e,f,n,o,p,q,r,s,t,u,v,w,x,y])))) else (some (.ret [.b false])))) else (some (.nrm [a,b,g,h,.l j.L,.b i.B,c,d,e,f,n,o,p,q,r,s,t,u,v,w,x,y]))) (apn 22 aE.d6))))) else (some (.ret [.b false]))))))) else (some (.ret [.b true])))
def aE:List C->Option (List C):=fun xs=>aU (apn 2 aE.d7 xs)
def oW:FS:=⟨2,⟨[(0,(zl 5)),(1,(zl 5))],[]⟩,⟨[(0,zo)],[]⟩,[],aE⟩
theorem vE:FK 4 oW:=okO Tryz.f4 oW (.seq .leaf (.seq .leaf (.seq .leaf (.seq .leaf (.seq .leaf (.seq .leaf (.seq .leaf (.seq (.join ⟨[(0,(zl 5)),(1,(zl 5)),(5,(.pt 5 0)),(6,zt),(7,zt),(8,(zl 9)),(9,zo),(12,(.pt 12 0))],[(5,z0),(12,z1)]⟩ (.seq .leaf (.cond (.seq .leaf (.seq (.frz [207800] .leaf) .leaf)) .leaf))) (.seq .leaf (.seq .leaf (.seq .leaf (.seq (.seq .leaf (.block ⟨[(0,(zl 5)),(1,(zl 5)),(5,(.pt 5 0)),(6,zt),(7,zt),(8,(zl 9)),(9,zo),(12,(.pt 12 0)),(19,(.ow 98)),(20,zo)],[(5,z0),(12,z1),(98,.arr 9 1)]⟩ (.loop ⟨[(0,(zl 5)),(1,(zl 5)),(5,(.pt 5 0)),(6,zt),(7,zt),(8,(zl 9)),(9,zo),(12,(.pt 12 0)),(18,(.ow 396216)),(19,(.ow 98)),(20,zo),(21,zi)],[(5,z0),(12,z1),(396216,.arr 9 1),(98,.arr 9 1)]⟩ (.seq .leaf (.seq (.skip (.seq .leaf (.seq (.join ⟨[(0,(zl 5)),(1,(zl 5)),(5,(.pt 5 0)),(6,zt),(7,zt),(8,(zl 9)),(9,zo),(12,(.pt 12 0)),(18,(.ow 396216)),(19,(.ow 98)),(20,zo),(21,zi),(22,(.pt 22 0)),(139,zo)],[(5,z0),(12,z1),(396216,.arr 9 1),(98,.arr 9 1),(22,z1)]⟩ .leaf) .leaf))) .leaf))))) (.seq (.join ⟨[(0,(zl 5)),(1,(zl 5))],[]⟩ (.seq (.join ⟨[(0,(zl 5)),(1,(zl 5)),(5,(.pt 5 0)),(6,zt),(7,zt),(8,(zl 9)),(9,zo),(19,(.ow 98)),(158,zo)],[(5,z0),(98,.arr 9 1)]⟩ .leaf) (.cond (.seq (.frz [98] .leaf) .leaf) .leaf))) (.seq .leaf (.seq .leaf (.seq (.frz [760760] .leaf) .leaf)))))))))))))))) [(6,some 82,mw),(6,some 165,mw),(9,some 124,vC),(11,some 41,ik),(12,some 49,kc),(13,some 56,kf),(14,some 65,pw),(15,some 71,rq),(16,some 90,jw),(16,some 189,jw),(17,some 95,gJ),(17,some 184,gJ),(18,some 179,eW),(18,some 208,eW),(18,some 213,eW),(18,some 222,eW),(18,some 230,eW),(18,some 234,eW),(19,some 175,iA),(19,some 178,iA),(19,some 196,iA),(20,some 192,l6),(21,some 199,mY),(22,some 217,jG),(23,some 225,iw)] (.cons uH (.cons uH (.cons GW (.cons qv (.cons uO (.cons vf (.cons B7 (.cons Dh (.cons qq (.cons qq (.cons mf (.cons mf (.cons gP (.cons gP (.cons gP (.cons gP (.cons gP (.cons gP (.cons nz (.cons nz (.cons nz (.cons xC (.cons zU (.cons tj (.cons mN .nil))))))))))))))))))))))))) (by kernel_rfl) (by kernel_rfl) (fun xs=>by kernel_rfl)
end
end Go.Ev
set_option maxRecDepth 8000
namespace Go.Ev
abbrev Str:=ByteArray
structure Lk where
 sel:Str
 w:Int
structure Bt where
 name:Str
 zone:Str
 marks:List Str
 room:Int
 hold:Int
 shut:Bool
structure Sv where
 name:Str
 spare:Int
structure Cp where
 name:Str
 svc:Str
 rank:Int
 born:Int
 room:Int
 hold:Int
 sel:Str
 likes:List Lk
 apart:Int
 near:Str
 fixed:Str
 at_:Str
structure Fl where
 pack:Bool
 bts:List Bt
 svs:List Sv
 cps:List Cp
def sE (s:Str):List C:=[.s s]
def Lk.e (x:Lk):List C:=[.s x.sel,.i x.w]
def Bt.e (b:Bt):List C:=[.s b.name,.s b.zone,.l (b.marks.map sE),.i b.room,.i b.hold,.b b.shut]
def Sv.e (s:Sv):List C:=[.s s.name,.i s.spare]
def Cp.e (c:Cp):List C:=[.s c.name,.s c.svc,.i c.rank,.i c.born,.i c.room,.i c.hold,.s c.sel,.l (c.likes.map Lk.e),.i c.apart,.s c.near,.s c.fixed,.s c.at_]
def Fl.e (f:Fl):List C:=[.b f.pack,.l (f.bts.map Bt.e),.l (f.svs.map Sv.e),.l (f.cps.map Cp.e)]
def Bt.Sz (K:Nat) (b:Bt):Prop:=b.name.size<=K/\b.zone.size<=K/\b.marks.length<=K/\∀m,m∈b.marks->m.size<=K
def Sv.Sz (K:Nat) (s:Sv):Prop:=s.name.size<=K
def Cp.Sz (K:Nat) (c:Cp):Prop:=c.name.size<=K/\c.svc.size<=K/\c.sel.size<=K/\c.near.size<=K/\c.fixed.size<=K/\c.at_.size<=K/\c.likes.length<=K/\∀x,x∈c.likes->x.sel.size<=K
def Fl.Sz (K:Nat) (f:Fl):Prop:=(f.bts.length<=K/\∀b,b∈f.bts->b.Sz K)/\(f.svs.length<=K/\∀s,s∈f.svs->s.Sz K)/\f.cps.length<=K/\∀c,c∈f.cps->c.Sz K
def yu (K:Nat) (l:List Str):Prop:=l.length<=K/\∀s,s∈l->s.size<=K
theorem getD_map' {α:Type} (e:α->List C) {l:List α} {i:Nat} (h:i<l.length):(l.map e).getD i []=e l[i]:=El e h []
theorem w1 {i n:Nat} (h:i<n) (hn:n<4611686018427387904):w64 ((i:Int)+1)=((i+1:Nat):Int):=by
 rw[aN (by omega) (by omega)];rfl
end Go.Ev
namespace Go.Ev
abbrev big:Nat:=4611686018427387904
end Go.Ev
namespace Go.Ev
def Bt.o (b:Bt):List C:=[.s b.name,.s b.zone,.i b.room,.i b.hold,.b b.shut,.l (b.marks.map sE)]
def Cp.o (c:Cp):List C:=[.s c.name,.s c.svc,.i c.rank,.i c.born,.i c.room,.i c.hold,.s c.sel,.i c.apart,.s c.near,.s c.fixed,.s c.at_,.l (c.likes.map Lk.e)]
end Go.Ev
namespace Go.Ev
def within (a b c:Int):Bool:=decide (b<=a)&&decide (a<=c)
theorem fU (a b c:Int):hD [.i a,.i b,.i c]=some [.b (within a b c)]:=by
 simp only[hD,hD.d1,apL,jC,jD,C.I_i,within]
 cases h:decide (a≥b)<;>simp at h<;>simp[h]<;>omega
theorem n9 (a b c:Int):fF [.i a,.i b,.i c]=some [.b (within a b c)]:=by
 simp only[fF,fF.d1,apL,jC,jD,C.I_i,within]
 cases h:decide (a≥b)<;>simp at h<;>simp[h]<;>omega
def Gk (n:Int):Bool:=(decide (n≥97)&&decide (n<=122))||(decide (n≥48)&&decide (n<=57))||n==45||n==95
def dM (x:UInt8):Bool:=Gk (x.toNat:Int)
theorem jo (n:Int):iy [.i n]=some [.b (Gk n)]:=by
 simp only[iy,iy.d1,apL,jC,C.I_i,Gk]
 cases decide (n≥97)<;>cases decide (n<=122)<;>cases decide (n≥48)<;>cases decide (n<=57)<;>cases n==45<;>simp
theorem pF (n:Int):sg [.i n]=some [.b (Gk n)]:=jo n
def bf (s:Str):Bool:=within s.size 1 20&&s.data.toList.all dM
theorem dy (s:Str):s.size=s.data.toList.length:=Array.length_toList.symm
theorem eE {s:Str} {i:Nat} (h:i<s.data.toList.length):s.data.getD i 0=s.data.toList[i]:=by
 have:i<s.data.size:=by simpa using h
 simp only[Array.getD,dif_pos this,Array.getInternal_eq_getElem,Array.getElem_toList]
theorem vX {α:Type} (p:α->Bool) (b:Nat) (ys:List C) (K:List C->R):∀(l:List α) (n:Nat),ah b (some (AH (fun _ s (_:Unit)=>bif p s then .inl () else .inr (.ret [.b false])) (fun _=>.brk b ys) l n ())) K=bif l.all p then K ys else some (.ret [.b false])
 |[],n=>by simp[AH]
 |x::r,n=>by
  simp only[AH,List.all_cons]
  cases p x with
  |true=>simp only[jR,Mx];exact vX p b ys K r (n+1)
  |false=>simp
theorem cL (s:Str) (hl:s.size<=1048576):br [.s s]=some [.b (bf s)]:=by
 have hsz:=dy s
 have h:=zw (l:=s.data.toList) (S:=fun i (_:Unit)=>[.s s,.i (i:Nat)]) (body:=apn 2 br.d1)
  (fun _ _=>True) (fun i b _=>bif dM b then .inl () else .inr (.ret [.b false])) (fun _=>.brk 0 [])
  (fun i _ hi _=>by
   have hi':i<s.size:=by omega
   cases hb:dM s.data.toList[i]<;>simp only[dM] at hb
   ·exact ⟨by simp only[apL,jC,jD,br.d1,C.I_i,C.S_s,jY,eE hi,jo,hb,ad];simp[hi'],trivial⟩
   ·exact ⟨by simp only[apL,jC,jD,br.d1,C.I_i,C.S_s,jY,eE hi,jo,hb,ad,w1 hi' (show s.size<big by simp only[big];omega)];simp[hi'],trivial⟩)
  (fun _ _=>⟨by rw[←hsz];simp[br.d1],trivial⟩) _ 0 () rfl trivial
 simp only[Int.ofNat_zero,Nb] at h
 simp only[br,br.d3,apL,jC,C.S_s,fU,ad,jI,C.B_b,bf]
 cases hw:within s.size 1 20 with
 |false=>simp
 |true=>
  simp only[jZ,jS]
  erw[h,vX]
  cases (s.data.toList.all dM)<;>simp[br.d2]
theorem gx (s:Str) (hl:s.size<=1048576):eg [.s s]=some [.b (bf s)]:=by
 have hsz:=dy s
 have h:=zw (l:=s.data.toList) (S:=fun i (_:Unit)=>[.s s,.i (s.size:Nat),.i (i:Nat)]) (body:=apn 3 eg.d1)
  (fun _ _=>True) (fun i b _=>bif dM b then .inl () else .inr (.ret [.b false])) (fun _=>.brk 0 [])
  (fun i _ hi _=>by
   have hi':i<s.size:=by omega
   cases hb:dM s.data.toList[i]<;>simp only[dM] at hb
   ·exact ⟨by simp only[apL,jC,jD,eg.d1,C.I_i,C.S_s,jY,eE hi,pF,hb,ad];simp[hi'],trivial⟩
   ·exact ⟨by simp only[apL,jC,jD,eg.d1,C.I_i,C.S_s,jY,eE hi,pF,hb,ad,w1 hi' (show s.size<big by simp only[big];omega)];simp[hi'],trivial⟩)
  (fun _ _=>⟨by rw[←hsz];simp[eg.d1],trivial⟩) _ 0 () rfl trivial
 simp only[Int.ofNat_zero,Nb] at h
 simp only[eg,eg.d3,apL,jC,C.S_s,bf,within]
 by_cases q1:(s.size:Int)<1
 ·have:¬(1:Int)<=s.size:=by omega
  simp[q1,this]
 by_cases q2:(s.size:Int)>20
 ·have:¬(s.size:Int)<=20:=by omega
  simp only[q1,q2,this];simp
 ·have e1:(1:Int)<=s.size:=by omega
  have e2:(s.size:Int)<=20:=by omega
  simp only[q1,q2,e1,e2,Mt,Mu,ja,jR,jS,Mx]
  erw[h,vX]
  cases (s.data.toList.all dM)<;>simp[eg.d2]
end Go.Ev
namespace Go.Ev
def mkS (l:List UInt8):Str:=⟨l.toArray⟩
theorem ib (l:List UInt8):(mkS l).data.toList=l:=rfl
theorem oT (l:List UInt8):(mkS l).size=l.length:=rfl
theorem KF (s:Str):mkS s.data.toList=s:=rfl
theorem my (s:Str) (i j:Nat):s.extract i j=mkS ((s.data.toList.take j).drop i):=by
 have:(s.extract i j).data=((s.data.toList.take j).drop i).toArray:=by
  rw[ByteArray.data_extract]
  apply Array.toList_inj.1
  simp only[Array.toList_extract,List.extract_eq_take_drop]
  rw[List.drop_take]
 cases h:s.extract i j with
 |mk d=>rw[h] at this;simp only at this;subst this;rfl
def sEq (a b:Str):Bool:=a.toList==b.toList
theorem eV (s:Str):s.toList=s.data.toList:=ByteArray.toList_eq s
theorem dc (a b:Str):sEq a b=true↔a=b:=by
 unfold sEq
 rw[eV,eV,MY]
 constructor
 ·intro h
  cases a;cases b
  simp only at h
  exact congrArg _ (Array.toList_inj.1 h)
 ·rintro rfl;rfl
theorem K2 (a b:List UInt8):sEq (mkS a) (mkS b)=(a==b):=by
 unfold sEq;rw[eV,eV,ib,ib]
theorem rP {α:Type} (p:α->Bool):∀l:List α,l.take (l.takeWhile p).length=l.takeWhile p
 |[]=>rfl
 |x::r=>by
  rw[List.takeWhile_cons]
  cases p x with
  |true=>simp[rP p r]
  |false=>simp
theorem lD {α:Type} (p:α->Bool):∀l:List α,l.drop (l.takeWhile p).length=l.dropWhile p
 |[]=>rfl
 |x::r=>by
  rw[List.takeWhile_cons,List.dropWhile_cons]
  cases p x with
  |true=>simp[lD p r]
  |false=>simp
theorem vN {α:Type} (l:List α) (i k:Nat):(l.take (i+k)).drop i=(l.drop i).take k:=by rw[List.drop_take];congr 1;omega
theorem sf {α:Type} (p:α->Bool) (l:List α):(l.takeWhile p).length<=l.length:=(List.takeWhile_prefix p).length_le
theorem drop_cons {α:Type} {l r:List α} {i:Nat} {c:α} (h:l.drop i=c::r):∃hi:i<l.length,l[i]=c/\l.drop (i+1)=r:=by
 have hi:i<l.length:=by
  rcases Nat.lt_or_ge i l.length with h'|h'
  ·exact h'
  ·rw[List.drop_eq_nil_of_le h'] at h;simp at h
 rw[MU hi] at h
 simp only[List.cons.injEq] at h
 exact ⟨hi,h.1,h.2⟩
def dB:List UInt8->List (List UInt8)
 |[]=>[]
 |c::r=>if c=32 then dB r else if dM c then (c::r.takeWhile dM)::dB (r.dropWhile dM) else [c]::dB r
termination_by l=>l.length
decreasing_by
 ·simp
 ·have:=(List.dropWhile_suffix (l:=r) dM).length_le;simp;omega
 ·simp
def sym (c:UInt8):Bool:=c==124||c==38||c==33||c==40||c==41||c==61
def iq (c:UInt8):Bool:=c==32||dM c||sym c
theorem bn (c x:UInt8) (m:Int) (h:m=(x.toNat:Int)):(((c.toNat:Nat):Int)==m)=(c==x):=by
 subst h
 rw[Bool.eq_iff_iff,MY,MY]
 constructor
 ·intro h
  exact UInt8.toNat_inj.1 (by exact_mod_cast h)
 ·rintro rfl;rfl
theorem IC (s:Str) (hl:s.size<=1048576) (i:Nat) (o:C):∀(k n:Nat),k=s.data.toList.length-n->n<=s.data.toList.length->
  lim (apn 4 aF.d1) [.s s,.i i,.i n,.l o.L]=some (.brk 2 [.s s,.i i,.i (n+((s.data.toList.drop n).takeWhile dM).length:Nat),.l o.L])
 |0,n,hk,hn=>by
  have e:n=s.size:=by rw[dy];omega
  have e2:s.data.toList.drop n=[]:=List.drop_eq_nil_of_le (by omega)
  rw[e2]
  refine aR ?_
  simp[aF.d1,e]
 |k+1,n,hk,hn=>by
  have hi:n<s.data.toList.length:=by omega
  have hi':n<s.size:=by rw[dy];omega
  have e2:=MU hi
  rw[e2,List.takeWhile_cons]
  cases hb:dM s.data.toList[n] with
  |false=>
   refine aR ?_
   simp only[dM] at hb
   simp only[apL,jC,jD,aF.d1,C.I_i,C.S_s,jY,eE hi,jo,hb,ad]
   simp[hi']
  |true=>
   have h:apn 4 aF.d1 [.s s,.i i,.i n,.l o.L]=some (.again [.s s,.i i,.i (n+1:Nat),.l o.L]):=by
    simp only[dM] at hb
    simp only[apL,jC,jD,aF.d1,C.I_i,C.S_s,jY,eE hi,jo,hb,ad,w1 hi' (show s.size<big by simp only[big];omega)]
    simp[hi']
   rw[aD h,IC s hl i o k (n+1) (by omega) (by omega)]
   have:n+1+(List.takeWhile dM (s.data.toList.drop (n+1))).length=n+(s.data.toList[n]::List.takeWhile dM (s.data.toList.drop (n+1))).length:=by
    simp only[Mn];omega
   simp only[if_true,this]
def tk (t:List UInt8):List C:=[.s (mkS t)]
theorem Jl (s:Str) (hl:s.size<=1048576):∀(k i:Nat) (out:List (List C)),s.data.toList.length-i<=k->i<=s.data.toList.length->out.length<=i->
  (((s.data.toList.drop i).all iq=true/\lim (apn 3 aF.d5) [.s s,.i i,.l out]=some (.brk 0 [.l (out++(dB (s.data.toList.drop i)).map tk)]))∨
   ((s.data.toList.drop i).all iq=false/\∃o,lim (apn 3 aF.d5) [.s s,.i i,.l out]=some (.ret [.b false,.l o])))
 |k,i,out,hk,hi,ho=>by
  cases hd:s.data.toList.drop i with
  |nil=>
   have:s.data.toList.length<=i:=by simpa using hd
   have e:i=s.size:=by rw[dy];omega
   left
   refine ⟨rfl,aR ?_⟩
   simp[aF.d5,e,dB]
  |cons c r=>
   obtain ⟨hi',hc,hr⟩:=drop_cons hd
   have his:i<s.size:=by rw[dy];exact hi'
   obtain ⟨k,rfl⟩:∃k',k=k'+1:=⟨k-1,by omega⟩
   have hw:=w1 his (show s.size<big by simp only[big];omega)
   have e32:=bn c 32 32 rfl
   by_cases h32:c=32
   ·subst h32
    have h:apn 3 aF.d5 [.s s,.i i,.l out]=some (.again [.s s,.i (i+1:Nat),.l out]):=by
     simp only[apL,jC,jD,aF.d5,C.I_i,C.S_s,C.L_l,jY,eE hi',hc,hw]
     simp[his,aF.d4]
    have ih:=Jl s hl k (i+1) out (by omega) (by omega) (by omega)
    rw[aD h]
    rw[hr] at ih
    simpa [iq,dB] using ih
   ·have hrun:=IC s hl i (.l out) _ i rfl hi
    rw[hd] at hrun
    simp only[C.L_l] at hrun
    have hne:(((c.toNat:Nat):Int)==32)=false:=by
     rw[e32,Ns];exact h32
    cases hlt:dM c with
    |true=>
     have hrl:=sf dM r
     have hrlen:r.length=s.data.toList.length-(i+1):=by rw[←hr];simp
     have h:apn 3 aF.d5 [.s s,.i i,.l out]=some (.again [.s s,.i (i+1+(r.takeWhile dM).length:Nat),.l (out++[tk (c::r.takeWhile dM)])]):=by
      have hext:s.extract i (i+1+(r.takeWhile dM).length)=mkS (c::r.takeWhile dM):=by
       rw[my,Nat.add_assoc,vN,hd,Nat.add_comm 1,List.take_succ_cons,rP]
      have e1:(((i+1+(r.takeWhile dM).length:Nat):Int)==(i:Int))=false:=by
       rw[Ns];omega
      have e2:(i:Int)<=((i+1+(r.takeWhile dM).length:Nat):Int):=by omega
      have e3:((i+1+(r.takeWhile dM).length:Nat):Int)<=(s.size:Int):=by rw[dy];omega
      have e4:out.length+1<=4294967296:=by omega
      have e0:i+(List.takeWhile dM (c::r)).length=i+1+(r.takeWhile dM).length:=by
       rw[List.takeWhile_cons,hlt];simp;omega
      rw[e0] at hrun
      simp only[apL,jC,jD,aF.d5,C.I_i,C.S_s,C.L_l,jY,eE hi',hc,hne,hrun,aq]
      simp only[aF.d3,C.I_i,C.S_s,C.L_l,e1,jY,hext]
      simp only[e2,e3,e4,his,Mt,jR,jS,jX,rows,Mn,Mo,aq,aF.d4,C.L_l,tk]
      simp[his,e4,aF.d4]
     have ih:=Jl s hl k (i+1+(r.takeWhile dM).length) (out++[tk (c::r.takeWhile dM)]) (by omega) (by omega) (by simp;omega)
     rw[aD h]
     have hdr:s.data.toList.drop (i+1+(r.takeWhile dM).length)=r.dropWhile dM:=by
      rw[←List.drop_drop,hr,lD]
     rw[hdr] at ih
     have hall:(c::r).all iq=(r.dropWhile dM).all iq:=by
      have e1:∀r:List UInt8,r.all iq=(r.dropWhile dM).all iq:=by
       intro r
       induction r with
       |nil=>rfl
       |cons x r ih=>
        rw[List.dropWhile_cons]
        cases hx:dM x with
        |true=>simp[iq,hx,←ih]
        |false=>simp
      have:iq c=true:=by simp[iq,hlt]
      rw[List.all_cons,this,Mx];exact e1 r
     rw[hall]
     have hlex:dB (c::r)=(c::r.takeWhile dM)::dB (r.dropWhile dM):=by
      rw[dB,if_neg h32,if_pos hlt]
     rw[hlex]
     simpa using ih
    |false=>
     have e0:i+(List.takeWhile dM (c::r)).length=i:=by
      rw[List.takeWhile_cons,hlt];simp
     rw[e0] at hrun
     have s1:=bn c 124 124 rfl
     have s2:=bn c 38 38 rfl
     have s3:=bn c 33 33 rfl
     have s4:=bn c 40 40 rfl
     have s5:=bn c 41 41 rfl
     have s6:=bn c 61 61 rfl
     have hsym:aF.d3 (.s s) (.i i) (.i i) (.l out)=aF.d2 (.s s) (.i i) (.i i) (.b (!sym c)) (.l out):=by
      simp only[aF.d3,C.I_i,C.S_s,C.L_l,jY,eE hi',hc,bne,s1,s2,s3,s4,s5,s6,sym]
      cases (c==124)<;>cases (c==38)<;>cases (c==33)<;>cases (c==40)<;>cases (c==41)<;>cases (c==61)<;>simp[his]
     have hd2:aF.d2 (.s s) (.i i) (.i i) (.b (!sym c)) (.l out)=if sym c=true then some (.brk 1 [.s s,.i (i+1:Nat),.l (out++[tk [c]])]) else some (.ret [.b false,.l out]):=by
      have hext:s.extract i (i+1)=mkS [c]:=by
       rw[my,vN,hd];rfl
      have e2:(i:Int)<=((i+1:Nat):Int):=by omega
      have e3:((i+1:Nat):Int)<=(s.size:Int):=by rw[dy];omega
      have e4:out.length+1<=4294967296:=by omega
      cases hs:sym c with
      |false=>simp[aF.d2]
      |true=>
       simp only[aF.d2,C.I_i,C.S_s,C.L_l,C.B_b,hw,jY,hext,e2,e3,Mt,jR,jS,jX,rows,Mn,Mo,jZ,if_true,tk]
       simp[e4]
     have h0:apn 3 aF.d5 [.s s,.i i,.l out]=ah 1 (if sym c=true then some (.brk 1 [.s s,.i (i+1:Nat),.l (out++[tk [c]])]) else some (.ret [.b false,.l out])) (apn 3 aF.d4):=by
      rw[←hd2,←hsym]
      simp only[apL,jC,jD,aF.d5,C.I_i,C.S_s,C.L_l,jY,eE hi',hc,hne,hrun,aq]
      simp[his]
     cases hs:sym c with
     |false=>
      right
      rw[hs] at h0
      refine ⟨by simp[iq,hlt,hs,h32],out,js (by rw[h0];simp)⟩
     |true=>
      rw[hs] at h0
      have h:apn 3 aF.d5 [.s s,.i i,.l out]=some (.again [.s s,.i (i+1:Nat),.l (out++[tk [c]])]):=by rw[h0];simp[aF.d4]
      rw[aD h]
      have ih:=Jl s hl k (i+1) (out++[tk [c]]) (by omega) (by omega) (by simp;omega)
      rw[hr] at ih
      have hlex:dB (c::r)=[c]::dB r:=by rw[dB,if_neg h32,if_neg (by rw[hlt];simp)]
      have hall:(c::r).all iq=r.all iq:=by simp[iq,hs]
      rw[hlex,hall]
      simpa using ih
theorem Am (s:Str) (hl:s.size<=1048576):
  (s.data.toList.all iq=true/\aF [.s s]=some [.b true,.l ((dB s.data.toList).map tk)])∨(s.data.toList.all iq=false/\∃o,aF [.s s]=some [.b false,.l o]):=by
 have h:=Jl s hl _ 0 [] (Mp _) (by omega) (by simp)
 simp only[Nb,jB,Int.ofNat_zero] at h
 simp only[aF,aF.d7,apL,jC,af]
 rcases h with ⟨h1,h2⟩|⟨h1,o,h2⟩
 ·exact .inl ⟨h1,by rw[h2];simp[aF.d6]⟩
 ·exact .inr ⟨h1,o,by rw[h2];simp⟩
end Go.Ev
namespace Go.Ev
abbrev Tok:=List UInt8
inductive Tr where
 |lf (k:Nat) (n v:Tok)
 |un (t:Tr)
 |bn (k:Nat) (a b:Tr)
def node (k:Nat) (n v:Tok) (m:Nat):List C:=[.i (k:Nat),.s (mkS n),.s (mkS v),.i (m:Nat)]
def Tr.flat:Tr->List (List C)
 |.lf k n v=>[node k n v 0]
 |.un t=>t.flat++[node 3 [] [] 1]
 |.bn k a b=>a.flat++b.flat++[node k [] [] 2]
def opL (f:List Tok->Option (Tr×List Tok)) (op:Tok) (kd:Nat):Nat->Tr->List Tok->Option (Tr×List Tok)
 |0,t,r=>some (t,r)
 |m+1,t,r=>match r with
  |[]=>some (t,[])
  |x::r'=>if x=op then match f r' with
    |none=>none
    |some (t',r'')=>opL f op kd m (.bn kd t t') r''
   else some (t,x::r')
def prs:Nat->Nat->List Tok->Option (Tr×List Tok)
 |0,_,_=>none
 |k+1,c,l=>match c with
  |0=>match prs k 1 l with
   |none=>none
   |some (t,r)=>opL (prs k 1) [124] 5 r.length t r
  |1=>match prs k 2 l with
   |none=>none
   |some (t,r)=>opL (prs k 2) [38] 4 r.length t r
  |_=>match l with
   |[]=>none
   |x::r=>if x=[33] then match prs k 2 r with
     |none=>none
     |some (t,r')=>some (.un t,r')
    else if x=[40] then match prs k 0 r with
     |some (t,y::r')=>if y=[41] then some (t,r') else none
     |_=>none
    else if bf (mkS x)=true then match r with
     |y::r'=>if y=[61] then match r' with
       |v::r''=>if bf (mkS v)=true then some (.lf 2 x v,r'') else none
       |[]=>none
      else some (.lf 1 x [],r)
     |[]=>some (.lf 1 x [],[])
    else none
theorem fm:bs #[]=mkS []:=rfl
theorem BJ (k n:Int) (x y:List (List C)) (h:x.length+y.length<=1048576):
  bS [.i k,.i n,.l [[.l x],[.l y]]]=some [.l [[.l x],[.l y]],.l (x++y++[[.i k,.s (mkS []),.s (mkS []),.i n]])]:=by
 have b1:x.length<=4294967296:=by omega
 have b2:x.length+y.length<=4294967296:=by omega
 have b3:x.length+y.length+1<=4294967296:=by omega
 have b4:x.length+(y.length+1)<=4294967296:=by omega
 have w0:w64 1=1:=aN (by omega) (by omega)
 have w1:w64 2=2:=aN (by omega) (by omega)
 have h0:apn 5 bS.d1 [.i k,.i n,.i 0,.l [[.l x],[.l y]],.l []]=some (.again [.i k,.i n,.i 1,.l [[.l x],[.l y]],.l x]):=by
  simp[bS.d1,b1,w0]
 have h1:apn 5 bS.d1 [.i k,.i n,.i 1,.l [[.l x],[.l y]],.l x]=some (.again [.i k,.i n,.i 2,.l [[.l x],[.l y]],.l (x++y)]):=by
  have e:(1:Int)<2:=by omega
  simp[bS.d1,b2,w1,e]
 have h2:apn 5 bS.d1 [.i k,.i n,.i 2,.l [[.l x],[.l y]],.l (x++y)]=some (.brk 0 [.i k,.i n,.l [[.l x],[.l y]],.l (x++y)]):=by
  simp[bS.d1]
 simp only[bS,bS.d3,apL,jC,jD,C.L_l,af]
 rw[aD h0,aD h1,aR h2,aq]
 simp[bS.d2,b3,b4,fm]
theorem FC (k n:Int) (x:List (List C)) (h:x.length<=1048576):
  bS [.i k,.i n,.l [[.l x]]]=some [.l [[.l x]],.l (x++[[.i k,.s (mkS []),.s (mkS []),.i n]])]:=by
 have b1:x.length<=4294967296:=by omega
 have b3:x.length+1<=4294967296:=by omega
 have w0:w64 1=1:=aN (by omega) (by omega)
 have h0:apn 5 bS.d1 [.i k,.i n,.i 0,.l [[.l x]],.l []]=some (.again [.i k,.i n,.i 1,.l [[.l x]],.l x]):=by
  simp[bS.d1,b1,w0]
 have h2:apn 5 bS.d1 [.i k,.i n,.i 1,.l [[.l x]],.l x]=some (.brk 0 [.i k,.i n,.l [[.l x]],.l x]):=by
  simp[bS.d1]
 simp only[bS,bS.d3,apL,jC,jD,C.L_l,af]
 rw[aD h0,aR h2,aq]
 simp[bS.d2,b3,fm]
section
variable {T:List Tok} (hl:T.length<=1048576)
include hl
theorem lj (op:Tok) (a:Nat) (bad:Bool) (ha:a<=T.length):bU [.s (mkS op),.l (T.map tk),.i a,.b bad]=
  match T.drop a with
  |[]=>some [.b false,.l (T.map tk),.i a,.b bad]
  |x::_=>if x=op then some [.b true,.l (T.map tk),.i (a+1:Nat),.b bad] else some [.b false,.l (T.map tk),.i a,.b bad]:=by
 simp only[bU,bU.d1,ie,ie.d1,apL,jC,jD,C.wT,C.P_p,C.I_i,C.L_l,jW,jY,jR]
 cases hd:T.drop a with
 |nil=>
  have:T.length<=a:=by simpa using hd
  have e:a=T.length:=by omega
  subst e
  simp[ad]
 |cons x r=>
  obtain ⟨hi,hx,_⟩:=drop_cons hd
  have hw:=w1 hi (show T.length<big by simp only[big];omega)
  rw[getD_map' tk hi,hx]
  have hq:((mkS x).toList==(mkS op).toList)=(x==op):=K2 x op
  simp only[tk,jC,C.S_s,hq,hw]
  by_cases he:x=op
  ·subst he;simp[hi,ad]
  ·have hb:(x==op)=false:=by rw[Ns];exact he
   simp[hi,ad,hb,he]
theorem wF (hs:∀t,t∈T->t.length<=1048576) (a:Nat) (bad:Bool) (ha:a<=T.length):eI [.l (T.map tk),.i a,.b bad]=
  match T.drop a with
  |[]=>some [.s (mkS []),.l (T.map tk),.i a,.b true]
  |x::_=>if bf (mkS x)=true then some [.s (mkS x),.l (T.map tk),.i (a+1:Nat),.b bad] else some [.s (mkS []),.l (T.map tk),.i a,.b true]:=by
 simp only[eI,eI.d1,apL,jC,jD,C.I_i,C.L_l,jW,jY]
 cases hd:T.drop a with
 |nil=>
  have:T.length<=a:=by simpa using hd
  have e:a=T.length:=by omega
  subst e
  simp[fm]
 |cons x r=>
  obtain ⟨hi,hx,_⟩:=drop_cons hd
  have hw:=w1 hi (show T.length<big by simp only[big];omega)
  have hw2:w64 (((a+1:Nat):Int)-1)=a:=by rw[aN (by omega) (by omega)];omega
  rw[getD_map' tk hi,hx]
  have hxs:(mkS x).size<=1048576:=by rw[oT];exact hs x (by rw[←hx];exact Mq hi)
  have hge:¬T.length<=a:=by omega
  simp only[tk,jC,cL _ hxs,ad,jI,C.B_b,hw,hw2,jY,getD_map' tk hi,hx]
  cases hn:bf (mkS x)<;>simp[hi,hge,fm]
end
def Res (T:List Tok) (a:Nat) (p:Option (Tr×List Tok)) (nodes:List (List C)) (a':Nat) (bad:Bool):Prop:=
 a<=a'/\a'<=T.length/\nodes.length<=2*(a'-a)+1/\match p with
  |some (t,r)=>bad=false/\nodes=t.flat/\T.drop a'=r/\a<a'
  |none=>bad=true
def SP (T:List Tok) (G:List C->Option (List C)) (f:List Tok->Option (Tr×List Tok)) (a:Nat):Prop:=
 ∃nodes a' bad,G [.l (T.map tk),.i a,.b false]=some [.l nodes,.l (T.map tk),.i (a':Nat),.b bad]/\Res T a (f (T.drop a)) nodes a' bad
end Go.Ev
namespace Go.Ev
section
variable {T:List Tok} (hl:T.length<=1048576/4) (hs:∀t,t∈T->t.length<=1048576)
include hl
theorem IV (G:List C->Option (List C)) (f:List Tok->Option (Tr×List Tok)) (op:Tok) (kd:Nat) (body:C->C->C->C->R) (lo:Nat)
  (hb:∀a b c d,body a b c d=(bif (!d.B) then (call4 (bU [.s (mkS op),b,c,d]) fun e f g h=>(bif e.B then (call4 (G [f,g,h]) fun i j k l=>(call2 (bS [.i (kd:Nat),.i 2,.l (rows [[a],[i]])]) fun m n=>(some (.again [.l n.L,j,k,l])))) else (some (.brk 0 [a,f,g,h])))) else (some (.brk 0 [a,b,c,d]))))
  (hG:∀a,lo<=a->a<=T.length->SP T G f a):
  ∀(m a:Nat) (t:Tr),T.length-a<=m->lo<=a+1->a<=T.length->t.flat.length<=2*a+1->
   ∃nodes a' bad,lim (apn 4 body) [.l t.flat,.l (T.map tk),.i a,.b false]=some (.brk 0 [.l nodes,.l (T.map tk),.i (a':Nat),.b bad])/\
    a<=a'/\a'<=T.length/\nodes.length<=2*(a'-a)+t.flat.length/\match opL f op kd m t (T.drop a) with
     |some (u,r)=>bad=false/\nodes=u.flat/\T.drop a'=r
     |none=>bad=true
 |0,a,t,hm,hlo,ha,ht=>by
  have hd:T.drop a=[]:=List.drop_eq_nil_of_le (by omega)
  refine ⟨t.flat,a,false,aR ?_,Mp _,ha,by omega,?_⟩
  ·simp only[apL,jC,jD,hb,C.B_b,ja,jR]
   rw[lj (by omega) op a false ha,hd]
   simp[call4]
  ·simp[opL]
 |m+1,a,t,hm,hlo,ha,ht=>by
  have hstep:apn 4 body [.l t.flat,.l (T.map tk),.i a,.b false]=(call4 (bU [.s (mkS op),.l (T.map tk),.i a,.b false]) fun e f g h=>(bif e.B then (call4 (G [f,g,h]) fun i j k l=>(call2 (bS [.i (kd:Nat),.i 2,.l (rows [[.l t.flat],[i]])]) fun m n=>(some (.again [.l n.L,j,k,l])))) else (some (.brk 0 [.l t.flat,f,g,h])))):=by
   simp only[apL,jC,jD,hb,C.B_b,ja,jR]
  rw[lj (by omega) op a false ha] at hstep
  cases hd:T.drop a with
  |nil=>
   rw[hd] at hstep
   refine ⟨t.flat,a,false,aR ?_,Mp _,ha,by omega,?_⟩
   ·rw[hstep];simp[call4]
   ·simp[opL,hd]
  |cons x r=>
   rw[hd] at hstep
   obtain ⟨hi,hx,hr⟩:=drop_cons hd
   by_cases he:x=op
   ·simp only[if_pos he,call4,jI,jC,jD,C.B_b,jR] at hstep
    obtain ⟨nodes,a',bad,hg,h1,h2,h3,h4⟩:=hG (a+1) (by omega) (by omega)
    rw[hr] at h4
    rw[hg] at hstep
    have hsum:t.flat.length+nodes.length<=1048576:=by omega
    simp only[jI,jC,jD,rows,BJ (kd:Nat) 2 t.flat nodes hsum,call2,C.L_l] at hstep
    have hnd:t.flat++nodes++[[C.i (kd:Nat),.s (mkS []),.s (mkS []),.i 2]]=t.flat++nodes++[node kd [] [] 2]:=rfl
    rw[hnd] at hstep
    cases hf:f r with
    |none=>
     rw[hf] at h4
     simp only at h4
     subst h4
     have hend:apn 4 body [.l (t.flat++nodes++[node kd [] [] 2]),.l (T.map tk),.i (a':Nat),.b true]=some (.brk 0 [.l (t.flat++nodes++[node kd [] [] 2]),.l (T.map tk),.i (a':Nat),.b true]):=by
      simp[hb]
     refine ⟨_,a',true,by rw[aD hstep];exact aR hend,by omega,h2,by simp;omega,?_⟩
     simp[opL,hd,he,hf]
    |some p=>
     obtain ⟨u,r'⟩:=p
     rw[hf] at h4
     obtain ⟨rfl,rfl,h5,h6⟩:=h4
     have e:t.flat++u.flat++[node kd [] [] 2]=(Tr.bn kd t u).flat:=rfl
     rw[e] at hstep
     have hlen:(Tr.bn kd t u).flat.length=t.flat.length+u.flat.length+1:=by simp[Tr.flat];omega
     obtain ⟨nodes2,a2,bad2,q1,q2,q3,q4,q5⟩:=IV G f op kd body lo hb hG m a' (.bn kd t u) (by omega) (by omega) h2 (by omega)
     refine ⟨nodes2,a2,bad2,by rw[aD hstep];exact q1,by omega,q3,by omega,?_⟩
     simp only[opL,hd,if_pos he,hf]
     rw[h5] at q5
     exact q5
   ·simp only[if_neg he,call4,jI,jC,jD,C.B_b,jS] at hstep
    refine ⟨t.flat,a,false,aR hstep,Mp _,ha,by omega,?_⟩
    simp[opL,hd,he]
end
end Go.Ev
namespace Go.Ev
section
variable {T:List Tok} (hl:T.length<=1048576/4) (hs:∀t,t∈T->t.length<=1048576)
include hl hs
theorem Kh (G:List C->Option (List C)) (f:List Tok->Option (Tr×List Tok)) (op:Tok) (kd:Nat) (body:C->C->C->C->R) (d2:C->C->C->C->R) (a:Nat) (ha:a<=T.length)
  (hb:∀a b c d,body a b c d=(bif (!d.B) then (call4 (bU [.s (mkS op),b,c,d]) fun e f g h=>(bif e.B then (call4 (G [f,g,h]) fun i j k l=>(call2 (bS [.i (kd:Nat),.i 2,.l (rows [[a],[i]])]) fun m n=>(some (.again [.l n.L,j,k,l])))) else (some (.brk 0 [a,f,g,h])))) else (some (.brk 0 [a,b,c,d]))))
  (h2:∀a b c d,d2 a b c d=some (.ret [a,b,c,d])) (hG:∀b,a<=b->b<=T.length->SP T G f b):
  ∃nodes a' bad,aU (call4 (G [.l (T.map tk),.i a,.b false]) fun d e f g=>(ah 0 (lim (apn 4 body) [d,e,f,g]) (apn 4 d2)))=some [.l nodes,.l (T.map tk),.i (a':Nat),.b bad]/\
   Res T a (match f (T.drop a) with
   |none=>none
   |some (t,r)=>opL f op kd r.length t r) nodes a' bad:=by
 obtain ⟨nodes,a',bad,hg,q1,q2,q3,q4⟩:=hG a (Mp _) ha
 rw[hg]
 simp only[call4,jI,jC,jD]
 cases hf:f (T.drop a) with
 |none=>
  rw[hf] at q4
  simp only at q4
  subst q4
  refine ⟨nodes,a',true,?_,q1,q2,q3,rfl⟩
  rw[aR (ys:=[.l nodes,.l (T.map tk),.i (a':Nat),.b true]) (i:=0) (by simp[hb])]
  simp[h2]
 |some p=>
  obtain ⟨t,r⟩:=p
  rw[hf] at q4
  obtain ⟨rfl,rfl,q5,q6⟩:=q4
  have hrl:r.length=T.length-a':=by rw[←q5];simp
  obtain ⟨n2,a2,b2,p1,p2,p3,p4,p5⟩:=IV hl G f op kd body a hb (fun b h1 h2=>hG b h1 h2) r.length a' t (by omega) (by omega) q2 (by omega)
  rw[p1]
  rw[q5] at p5
  have hres:Res T a (opL f op kd r.length t r) n2 a2 b2:=by
   refine ⟨by omega,p3,by omega,?_⟩
   cases ho:opL f op kd r.length t r with
   |none=>rw[ho] at p5;exact p5
   |some z=>
    obtain ⟨u,z⟩:=z
    rw[ho] at p5
    exact ⟨p5.1,p5.2.1,p5.2.2,by omega⟩
  exact ⟨n2,a2,b2,by simp[h2],hres⟩
theorem Kn:∀(j c k a:Nat),c<=2->a<=T.length->3*(T.length-a)+(3-c)<=j->j<=k->SP T (ak.g k c) (prs j c) a
 |0,c,k,a,hc,ha,hj,hk=>by omega
 |j+1,c,k,a,hc,ha,hj,hk=>by
  obtain ⟨k,rfl⟩:∃k',k=k'+1:=⟨k-1,by omega⟩
  have ih:=Kn j
  rcases (show c=0∨c=1∨c=2 by omega) with rfl|rfl|rfl
  ·obtain ⟨nodes,a',bad,h1,h2⟩:=Kh hl hs (ak.g k 1) (prs j 1) [124] 5 (ak.d1 (ak.g k 0) (ak.g k 1) (ak.g k 2)) (ak.d2 (ak.g k 0) (ak.g k 1) (ak.g k 2)) a ha
    (fun _ _ _ _=>rfl) (fun _ _ _ _=>rfl) (fun b h1 h2=>ih 1 k b (by omega) h2 (by omega) (by omega))
   exact ⟨nodes,a',bad,h1,h2⟩
  ·obtain ⟨nodes,a',bad,h1,h2⟩:=Kh hl hs (ak.g k 2) (prs j 2) [38] 4 (da.d1 (ak.g k 0) (ak.g k 1) (ak.g k 2)) (da.d2 (ak.g k 0) (ak.g k 1) (ak.g k 2)) a ha
    (fun _ _ _ _=>rfl) (fun _ _ _ _=>rfl) (fun b h1 h2=>ih 2 k b (by omega) h2 (by omega) (by omega))
   exact ⟨nodes,a',bad,h1,h2⟩
  ·have hT:T.length<=1048576:=by omega
   have hstep:ak.g (k+1) 2 [.l (T.map tk),.i a,.b false]=aU (fb.d1 (ak.g k 0) (ak.g k 1) (ak.g k 2) (.l (T.map tk)) (.i a) (.b false)):=rfl
   unfold SP
   rw[hstep]
   have e33:bs #[33]=mkS [33]:=rfl
   have e40:bs #[40]=mkS [40]:=rfl
   have e41:bs #[41]=mkS [41]:=rfl
   have e61:bs #[61]=mkS [61]:=rfl
   simp only[fb.d1,C.B_b,jS,e33,e40,e41,e61,lj hT [33] a false ha]
   cases hd:T.drop a with
   |nil=>
    simp only[call4,jI,jC,jD,C.B_b,jS,lj hT [40] a false ha,wF hT hs a false ha,hd]
    simp only[jZ,jS,rows,fm,jV]
    exact ⟨_,a,true,rfl,Mp _,ha,by simp,by simp[prs]⟩
   |cons x r=>
    obtain ⟨hi,hx,hr⟩:=drop_cons hd
    have hsx:=hs x (by rw[←hx];exact Mq hi)
    by_cases x33:x=[33]
    ·obtain ⟨nodes,a',bad,hg,q1,q2,q3,q4⟩:=ih 2 k (a+1) (by omega) (by omega) (by omega) (by omega)
     rw[hr] at q4
     simp only[if_pos x33,call4,jI,jC,jD,C.B_b,jR,hg,rows,call2]
     rw[show (3:Int)=((3:Nat):Int) from rfl,FC _ _ nodes (by omega)]
     simp only[jI,jC,jD,C.L_l,jV]
     have hnd:nodes++[[C.i ((3:Nat):Int),.s (mkS []),.s (mkS []),.i 1]]=nodes++[node 3 [] [] 1]:=rfl
     rw[hnd]
     refine ⟨_,a',bad,rfl,by omega,q2,by simp;omega,?_⟩
     simp only[prs,x33,if_true]
     cases hf:prs j 2 r with
     |none=>rw[hf] at q4;exact q4
     |some p=>
      rw[hf] at q4
      obtain ⟨rfl,rfl,q5,q6⟩:=q4
      exact ⟨rfl,rfl,q5,by omega⟩
    simp only[if_neg x33,call4,jI,jC,jD,C.B_b,jS,lj hT [40] a false ha,hd]
    by_cases x40:x=[40]
    ·obtain ⟨nodes,a',bad,hg,q1,q2,q3,q4⟩:=ih 0 k (a+1) (by omega) (by omega) (by omega) (by omega)
     rw[hr] at q4
     simp only[if_pos x40,jI,jC,jD,C.B_b,jR,hg,lj hT [41] a' bad q2]
     have hp:prs (j+1) 2 (x::r)=match prs j 0 r with
       |some (t,y::r')=>if y=[41] then some (t,r') else none
       |_=>none:=by
      simp only[prs,if_neg x33,if_pos x40]<;>rcases prs j 0 r with _|⟨t,_|⟨y,r'⟩⟩<;>rfl
     rw[hp]
     cases hd2:T.drop a' with
     |nil=>
      simp only[jI,jC,jD,C.B_b,ja,jR,jV]
      refine ⟨_,a',true,rfl,by omega,q2,by omega,?_⟩
      cases hf:prs j 0 r with
      |none=>rfl
      |some p=>
       rw[hf] at q4
       obtain ⟨_,_,q5,_⟩:=q4
       obtain ⟨t,r'⟩:=p
       simp only at q5
       rw[hd2] at q5
       subst q5
       rfl
     |cons y r'=>
      obtain ⟨hi2,hx2,hr2⟩:=drop_cons hd2
      by_cases y41:y=[41]
      ·simp only[if_pos y41,jI,jC,jD,C.B_b,jZ,jS,jV]
       refine ⟨_,a'+1,bad,rfl,by omega,by omega,by omega,?_⟩
       cases hf:prs j 0 r with
       |none=>rw[hf] at q4;exact q4
       |some p=>
        rw[hf] at q4
        obtain ⟨q5,q6,q7,_⟩:=q4
        obtain ⟨t,z⟩:=p
        simp only at q7 q6
        rw[hd2] at q7
        subst q7
        simp only[if_pos y41]
        exact ⟨q5,q6,hr2,by omega⟩
      ·simp only[if_neg y41,jI,jC,jD,C.B_b,ja,jR,jV]
       refine ⟨_,a',true,rfl,by omega,q2,by omega,?_⟩
       cases hf:prs j 0 r with
       |none=>rfl
       |some p=>
        rw[hf] at q4
        obtain ⟨_,_,q7,_⟩:=q4
        obtain ⟨t,z⟩:=p
        simp only at q7
        rw[hd2] at q7
        subst q7
        simp only[if_neg y41]
    simp only[if_neg x40,jI,jC,jD,C.B_b,jS,wF hT hs a false ha,hd]
    cases hn:bf (mkS x) with
    |false=>
     simp only[Bool.false_eq_true,if_false,jI,jC,jD,C.B_b,jZ,jS,rows,jV]
     refine ⟨_,a,true,rfl,Mp _,ha,by simp,?_⟩
     simp[prs,x33,x40,hn]
    |true=>
     simp only[if_true,jI,jC,jD,C.B_b,ja,jR,lj hT [61] (a+1) false (by omega),hr]
     cases r with
     |nil=>
      simp only[jI,jC,jD,C.B_b,jS,rows,fm,jV]
      refine ⟨_,a+1,false,rfl,by omega,by omega,by simp,?_⟩
      simp only[prs,if_neg x33,if_neg x40,hn,if_true]
      exact ⟨by simp,rfl,hr,by omega⟩
     |cons y r'=>
      obtain ⟨hi2,hx2,hr2⟩:=drop_cons hr
      by_cases y61:y=[61]
      ·simp only[if_pos y61,jI,jC,jD,C.B_b,jR,wF hT hs (a+1+1) false (by omega),hr2]
       cases r' with
       |nil=>
        simp only[jI,jC,jD,rows,jV]
        refine ⟨_,a+1+1,true,rfl,by omega,by omega,by simp,?_⟩
        simp[prs,x33,x40,hn,y61]
       |cons v r''=>
        obtain ⟨hi3,hx3,hr3⟩:=drop_cons hr2
        cases hv:bf (mkS v) with
        |false=>
         simp only[hv,Bool.false_eq_true,if_false,jI,jC,jD,rows,jV]
         refine ⟨_,a+1+1,true,rfl,by omega,by omega,by simp,?_⟩
         simp[prs,x33,x40,hn,y61,hv]
        |true=>
         simp only[hv,if_true,jI,jC,jD,rows,jV]
         refine ⟨_,a+1+1+1,false,rfl,by omega,by omega,by simp,?_⟩
         simp only[prs,if_neg x33,if_neg x40,hn,if_true,y61,hv]
         exact ⟨by simp,rfl,hr3,by omega⟩
      ·simp only[if_neg y61,jI,jC,jD,C.B_b,jS,rows,fm,jV]
       refine ⟨_,a+1,false,rfl,by omega,by omega,by simp,?_⟩
       simp only[prs,if_neg x33,if_neg x40,hn,if_true,if_neg y61]
       exact ⟨by simp,rfl,hr,by omega⟩
end
end Go.Ev
