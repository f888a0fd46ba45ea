/- Proved here: the law FnPilotFitsCard of the given program answers true at every input, and leaves the input as it was; no condition. This text: lemmas on the way (an evaluator of the program's code, sound once for all; the functions it prints; plain proofs on these). -/
import Derived.Test.YtkbmkhncjganfaaGreatDoorP2
set_option linter.all false
set_option autoImplicit false
set_option maxRecDepth 100000
namespace Go.Ev
open Go.Proofs
noncomputable section
def s_l1Tokens.d1 (a b c d:C):R:=(bif (decide (c.I<(a.S.size:Int))) then (bif (decide (0≤c.I)) then (bif (decide (c.I<(a.S.size:Int))) then (call1 (s_l1Letter [.i ((a.S.data.getD c.I.toNat 0).toNat:Int)]) fun e=>(bif e.B then (some (.again [a,b,.i (w64 (c.I+1)),.l d.L])) else (some (.brk 2 [a,b,c,.l d.L])))) else none) else none) else (some (.brk 2 [a,b,c,.l d.L])))
def s_l1Tokens.d2 (a b c d e:C):R:=(bif d.B then (some (.ret [.b false,.l e.L])) else (bif (decide (0≤b.I)) then (bif (decide (b.I≤(w64 (c.I+1)))) then (bif (decide ((w64 (c.I+1))≤(a.S.size:Int))) then (bif (decide (e.L.length+(rows [[.s (a.S.extract b.I.toNat (w64 (c.I+1)).toNat)]]).length≤4294967296)) then (some (.brk 1 [a,.i (w64 (c.I+1)),.l (e.L++(rows [[.s (a.S.extract b.I.toNat (w64 (c.I+1)).toNat)]]))])) else none) else none) else none) else none))
def s_l1Tokens.d3 (a b c d:C):R:=(bif (c.I==b.I) then (bindNrm (bif (decide (0≤b.I)) then (bif (decide (b.I<(a.S.size:Int))) then (bif (((a.S.data.getD b.I.toNat 0).toNat:Int) !=124) then (bif (decide (0≤b.I)) then (bif (decide (b.I<(a.S.size:Int))) then (bif (((a.S.data.getD b.I.toNat 0).toNat:Int) !=38) then (bif (decide (0≤b.I)) then (bif (decide (b.I<(a.S.size:Int))) then (bif (((a.S.data.getD b.I.toNat 0).toNat:Int) !=33) then (bif (decide (0≤b.I)) then (bif (decide (b.I<(a.S.size:Int))) then (bif (((a.S.data.getD b.I.toNat 0).toNat:Int) !=40) then (bif (decide (0≤b.I)) then (bif (decide (b.I<(a.S.size:Int))) then (bif (((a.S.data.getD b.I.toNat 0).toNat:Int) !=41) then (bif (decide (0≤b.I)) then (bif (decide (b.I<(a.S.size:Int))) then (some (.nrm [a,b,c,.b (((a.S.data.getD b.I.toNat 0).toNat:Int) !=61),.l d.L])) else none) else none) else (some (.nrm [a,b,c,.b false,.l d.L]))) else none) else none) else (some (.nrm [a,b,c,.b false,.l d.L]))) else none) else none) else (some (.nrm [a,b,c,.b false,.l d.L]))) else none) else none) else (some (.nrm [a,b,c,.b false,.l d.L]))) else none) else none) else (some (.nrm [a,b,c,.b false,.l d.L]))) else none) else none) (ap5 s_l1Tokens.d2)) else (bif (decide (0≤b.I)) then (bif (decide (b.I≤c.I)) then (bif (decide (c.I≤(a.S.size:Int))) then (bif (decide (d.L.length+(rows [[.s (a.S.extract b.I.toNat c.I.toNat)]]).length≤4294967296)) then (some (.brk 1 [a,c,.l (d.L++(rows [[.s (a.S.extract b.I.toNat c.I.toNat)]]))])) else none) else none) else none) else none))
def s_l1Tokens.d4 (a b c:C):R:=(some (.again [a,b,.l c.L]))
def s_l1Tokens.d5 (a b c:C):R:=(bif (decide (b.I<(a.S.size:Int))) then (bindBlk 1 (bif (decide (0≤b.I)) then (bif (decide (b.I<(a.S.size:Int))) then (bif (((a.S.data.getD b.I.toNat 0).toNat:Int)==32) then (some (.brk 1 [a,.i (w64 (b.I+1)),.l c.L])) else (bindBlk 2 (lim (ap4 s_l1Tokens.d1) [a,b,b,.l c.L]) (ap4 s_l1Tokens.d3))) else none) else none) (ap3 s_l1Tokens.d4)) else (some (.brk 0 [.l c.L])))
def s_l1Tokens.d6 (a:C):R:=(some (.ret [.b true,.l a.L]))
def s_l1Tokens.d7 (a:C):R:=(bindBlk 0 (lim (ap3 s_l1Tokens.d5) [a,.i 0,.l nils]) (ap1 s_l1Tokens.d6))
def s_l1Tokens:List C→Option (List C):=fun xs=>finR (ap1 s_l1Tokens.d7 xs)
def s_l1Tokens_fs:FS:=⟨1,⟨[(0,zt)],[]⟩,⟨[(0,(.tu [(.ow 3000),zo]))],[(3000,.arr 9 1)]⟩,[],s_l1Tokens⟩
theorem s_l1Tokens_ok:FSOk Tryz.checked.prog T0 165 s_l1Tokens_fs:=okOf base0 (fn:=Tryz.f165) (c:=Tryz.f165.body.getD .skip) s_l1Tokens_fs (.seq .leaf (.seq .leaf (.seq (.seq .leaf (.block ⟨[(4,(.ow 7))],[(7,.arr 9 1)]⟩ (.loop ⟨[(0,zt),(4,(.ow 7)),(5,zi)],[(7,.arr 9 1)]⟩ (.seq .leaf (.block ⟨[(0,zt),(4,(.ow 7)),(5,zi)],[(7,.arr 9 1)]⟩ (.seq .leaf (.seq .leaf (.seq (.block ⟨[(0,zt),(4,(.ow 7)),(5,zi),(6,zi)],[(7,.arr 9 1)]⟩ (.loop ⟨[(0,zt),(4,(.ow 7)),(5,zi),(6,zi)],[(7,.arr 9 1)]⟩ .leaf)) (.seq (.seq .leaf (.cond (.seq (.seq (.join ⟨[(0,zt),(4,(.ow 7)),(5,zi),(6,zi),(67,zo)],[(7,.arr 9 1)]⟩ .leaf) .leaf) .leaf) .leaf)) .leaf))))))))) .leaf))) [(108,some 27,s_l1Letter_fs)] (.cons s_l1Letter_ok .nil) (by kernel_rfl) (by kernel_rfl) (by kernel_rfl) (fun xs=>by kernel_rfl)
def s_l1Parser_is.d1 (a b:C):R:=(bif a.isP then (bif a.isP then (bif (decide ((a.P.getD 1 .nil).I<(((a.P.getD 0 .nil).L).length:Int))) then (bif a.isP then (bif a.isP then (bif (decide (0≤(a.P.getD 1 .nil).I)) then (bif (decide ((a.P.getD 1 .nil).I<(((a.P.getD 0 .nil).L).length:Int))) then (some (.ret [.b ((((((a.P.getD 0 .nil).L).getD ((a.P.getD 1 .nil).I).toNat []).getD 0 .nil).S).toList==b.S.toList)])) else none) else none) else none) else none) else (some (.ret [.b false]))) else none) else none)
def s_l1Parser_is:List C→Option (List C):=fun xs=>finR (ap2 s_l1Parser_is.d1 xs)
def s_l1Parser_is_fs:FS:=⟨2,⟨[(0,(.d (.pt 187))),(1,zt)],[]⟩,⟨[(0,zo)],[]⟩,[],s_l1Parser_is⟩
theorem s_l1Parser_is_ok:FSOk Tryz.checked.prog T0 214 s_l1Parser_is_fs:=okOf base0 (fn:=Tryz.f214) (c:=Tryz.f214.body.getD .skip) s_l1Parser_is_fs .leaf [] .nil (by kernel_rfl) (by kernel_rfl) (by kernel_rfl) (fun xs=>by kernel_rfl)
def s_l1Parser_take.d1 (a b c d:C):R:=(call1 (s_l1Parser_is [.p [b,c,d],a]) fun e=>(bif e.B then (some (.ret [.b true,b,.i (w64 (c.I+1)),d])) else (some (.ret [.b false,b,c,d]))))
def s_l1Parser_take:List C→Option (List C):=fun xs=>finR (ap4 s_l1Parser_take.d1 xs)
def s_l1Parser_take_fs:FS:=⟨2,⟨[(0,(.pt 2000 0)),(1,zt)],[(2000,.var 187 [(zl 9),zi,zo])]⟩,⟨[(0,zo)],[(2000,.var 187 [(zl 9),zi,zo])]⟩,[2000],s_l1Parser_take⟩
theorem s_l1Parser_take_ok:FSOk Tryz.checked.prog T0 191 s_l1Parser_take_fs:=okOf base0 (fn:=Tryz.f191) (c:=Tryz.f191.body.getD .skip) s_l1Parser_take_fs .leaf [(214,some 7,s_l1Parser_is_fs)] (.cons s_l1Parser_is_ok .nil) (by kernel_rfl) (by kernel_rfl) (by kernel_rfl) (fun xs=>by kernel_rfl)
def s_l1Parser_name.d1 (a b c:C):R:=(bif (!(decide (b.I≥(a.L.length:Int)))) then (bif (decide (0≤b.I)) then (bif (decide (b.I<(a.L.length:Int))) then (call1 (s_l1NameOk [((a.L.getD b.I.toNat []).getD 0 .nil)]) fun d=>(bif (!d.B) then (some (.ret [.s (bs #[]),a,b,.b true])) else (bif (decide (0≤(w64 ((w64 (b.I+1))-1)))) then (bif (decide ((w64 ((w64 (b.I+1))-1))<(a.L.length:Int))) then (some (.ret [((a.L.getD (w64 ((w64 (b.I+1))-1)).toNat []).getD 0 .nil),a,.i (w64 (b.I+1)),c])) else none) else none))) else none) else none) else (some (.ret [.s (bs #[]),a,b,.b true])))
def s_l1Parser_name:List C→Option (List C):=fun xs=>finR (ap3 s_l1Parser_name.d1 xs)
def s_l1Parser_name_fs:FS:=⟨1,⟨[(0,(.pt 2000 0))],[(2000,.var 187 [(zl 9),zi,zo])]⟩,⟨[(0,zt)],[(2000,.var 187 [(zl 9),zi,zo])]⟩,[2000],s_l1Parser_name⟩
theorem s_l1Parser_name_ok:FSOk Tryz.checked.prog T0 228 s_l1Parser_name_fs:=okOf base0 (fn:=Tryz.f228) (c:=Tryz.f228.body.getD .skip) s_l1Parser_name_fs .leaf [(58,some 24,s_l1NameOk_fs)] (.cons s_l1NameOk_ok .nil) (by kernel_rfl) (by kernel_rfl) (by kernel_rfl) (fun xs=>by kernel_rfl)
def s_l1Parser_or.d1 (G0 G1 G2:List C→Option (List C)) (a b c d:C):R:=(bif (!d.B) then (call4 (s_l1Parser_take [.s (bs #[124]),b,c,d]) fun e f g h=>(bif e.B then (call4 (G1 [f,g,h]) fun i j k l=>(call2 (s_l1Over [.i 5,.i 2,.l (rows [[a],[i]])]) fun m n=>(some (.again [.l n.L,j,k,l])))) else (some (.brk 0 [a,f,g,h])))) else (some (.brk 0 [a,b,c,d])))
def s_l1Parser_or.d2 (G0 G1 G2:List C→Option (List C)) (a b c d:C):R:=(some (.ret [a,b,c,d]))
def s_l1Parser_or.d3 (G0 G1 G2:List C→Option (List C)) (a b c:C):R:=(call4 (G1 [a,b,c]) fun d e f g=>(bindBlk 0 (lim (ap4 (s_l1Parser_or.d1 G0 G1 G2)) [d,e,f,g]) (ap4 (s_l1Parser_or.d2 G0 G1 G2))))
def s_l1Parser_or.step (G0 G1 G2:List C→Option (List C)):List C→Option (List C):=fun xs=>finR (ap3 (s_l1Parser_or.d3 G0 G1 G2) xs)
def s_l1Parser_or_fs (G:List C→Option (List C)):FS:=⟨1,⟨[(0,(.pt 2000 0))],[(2000,.var 187 [(.d (.sl 9)),(.d (.int .i64)),(.d .bool)])]⟩,⟨[(0,(.d (.sl 184)))],[(2000,.var 187 [(.d (.sl 9)),(.d (.int .i64)),(.d .bool)])]⟩,[2000],G⟩
def s_l1Parser_and.d1 (G0 G1 G2:List C→Option (List C)) (a b c d:C):R:=(bif (!d.B) then (call4 (s_l1Parser_take [.s (bs #[38]),b,c,d]) fun e f g h=>(bif e.B then (call4 (G2 [f,g,h]) fun i j k l=>(call2 (s_l1Over [.i 4,.i 2,.l (rows [[a],[i]])]) fun m n=>(some (.again [.l n.L,j,k,l])))) else (some (.brk 0 [a,f,g,h])))) else (some (.brk 0 [a,b,c,d])))
def s_l1Parser_and.d2 (G0 G1 G2:List C→Option (List C)) (a b c d:C):R:=(some (.ret [a,b,c,d]))
def s_l1Parser_and.d3 (G0 G1 G2:List C→Option (List C)) (a b c:C):R:=(call4 (G2 [a,b,c]) fun d e f g=>(bindBlk 0 (lim (ap4 (s_l1Parser_and.d1 G0 G1 G2)) [d,e,f,g]) (ap4 (s_l1Parser_and.d2 G0 G1 G2))))
def s_l1Parser_and.step (G0 G1 G2:List C→Option (List C)):List C→Option (List C):=fun xs=>finR (ap3 (s_l1Parser_and.d3 G0 G1 G2) xs)
def s_l1Parser_and_fs (G:List C→Option (List C)):FS:=⟨1,⟨[(0,(.pt 2000 0))],[(2000,.var 187 [(.d (.sl 9)),(.d (.int .i64)),(.d .bool)])]⟩,⟨[(0,(.d (.sl 184)))],[(2000,.var 187 [(.d (.sl 9)),(.d (.int .i64)),(.d .bool)])]⟩,[2000],G⟩
def s_l1Parser_not.d1 (G0 G1 G2:List C→Option (List C)) (a b c:C):R:=(bif c.B then (some (.ret [.l nils,a,b,c])) else (call4 (s_l1Parser_take [.s (bs #[33]),a,b,c]) fun d e f g=>(bif d.B then (call4 (G2 [e,f,g]) fun h i j k=>(call2 (s_l1Over [.i 3,.i 1,.l (rows [[h]])]) fun l m=>(some (.ret [.l m.L,i,j,k])))) else (call4 (s_l1Parser_take [.s (bs #[40]),e,f,g]) fun n o p q=>(bif n.B then (call4 (G0 [o,p,q]) fun r s t u=>(call4 (s_l1Parser_take [.s (bs #[41]),s,t,u]) fun v w x y=>(bif (!v.B) then (some (.ret [r,w,x,.b true])) else (some (.ret [r,w,x,y]))))) else (call4 (s_l1Parser_name [o,p,q]) fun z a0 a1 a2=>(bif (!a2.B) then (call4 (s_l1Parser_take [.s (bs #[61]),a0,a1,a2]) fun a3 a4 a5 a6=>(bif a3.B then (call4 (s_l1Parser_name [a4,a5,a6]) fun a7 a8 a9 b0=>(some (.ret [.l (rows [[.i 2,z,a7,.i 0]]),a8,a9,b0]))) else (some (.ret [.l (rows [[.i 1,z,.s (bs #[]),.i 0]]),a4,a5,a6])))) else (some (.ret [.l (rows [[.i 1,z,.s (bs #[]),.i 0]]),a0,a1,a2])))))))))
def s_l1Parser_not.step (G0 G1 G2:List C→Option (List C)):List C→Option (List C):=fun xs=>finR (ap3 (s_l1Parser_not.d1 G0 G1 G2) xs)
def s_l1Parser_not_fs (G:List C→Option (List C)):FS:=⟨1,⟨[(0,(.pt 2000 0))],[(2000,.var 187 [(.d (.sl 9)),(.d (.int .i64)),(.d .bool)])]⟩,⟨[(0,(.d (.sl 184)))],[(2000,.var 187 [(.d (.sl 9)),(.d (.int .i64)),(.d .bool)])]⟩,[2000],G⟩
theorem s_l1Parser_or_st {G0 G1 G2:List C→Option (List C)} (h0:FSOk Tryz.checked.prog T0 166 (s_l1Parser_or_fs G0)) (h1:FSOk Tryz.checked.prog T0 190 (s_l1Parser_and_fs G1)) (h2:FSOk Tryz.checked.prog T0 213 (s_l1Parser_not_fs G2)):FSOk Tryz.checked.prog T0 166 (s_l1Parser_or_fs (s_l1Parser_or.step G0 G1 G2)):=okOf base0 (fn:=Tryz.f166) (c:=Tryz.f166.body.getD .skip) (s_l1Parser_or_fs (s_l1Parser_or.step G0 G1 G2)) (.seq .leaf (.seq .leaf (.seq (.block ⟨[(3,(.d (.sl 184)))],[(2000,.var 187 [(.d (.sl 9)),(.d (.int .i64)),(.d .bool)])]⟩ (.loop ⟨[(0,(.pt 2000 0)),(3,(.d (.sl 184)))],[(2000,.var 187 [(.d (.sl 9)),(.d (.int .i64)),(.d .bool)])]⟩ .leaf)) .leaf))) [(190,some 5,(s_l1Parser_and_fs G1)),(190,some 17,(s_l1Parser_and_fs G1)),(191,some 13,s_l1Parser_take_fs),(192,some 19,s_l1Over_v1_fs)] (.cons h1 (.cons h1 (.cons s_l1Parser_take_ok (.cons s_l1Over_v1_ok .nil)))) (by kernel_rfl) (by kernel_rfl) (by kernel_rfl) (fun xs=>by kernel_rfl)
theorem s_l1Parser_and_st {G0 G1 G2:List C→Option (List C)} (h0:FSOk Tryz.checked.prog T0 166 (s_l1Parser_or_fs G0)) (h1:FSOk Tryz.checked.prog T0 190 (s_l1Parser_and_fs G1)) (h2:FSOk Tryz.checked.prog T0 213 (s_l1Parser_not_fs G2)):FSOk Tryz.checked.prog T0 190 (s_l1Parser_and_fs (s_l1Parser_and.step G0 G1 G2)):=okOf base0 (fn:=Tryz.f190) (c:=Tryz.f190.body.getD .skip) (s_l1Parser_and_fs (s_l1Parser_and.step G0 G1 G2)) (.seq .leaf (.seq .leaf (.seq (.block ⟨[(3,(.d (.sl 184)))],[(2000,.var 187 [(.d (.sl 9)),(.d (.int .i64)),(.d .bool)])]⟩ (.loop ⟨[(0,(.pt 2000 0)),(3,(.d (.sl 184)))],[(2000,.var 187 [(.d (.sl 9)),(.d (.int .i64)),(.d .bool)])]⟩ .leaf)) .leaf))) [(191,some 13,s_l1Parser_take_fs),(192,some 19,s_l1Over_v1_fs),(213,some 5,(s_l1Parser_not_fs G2)),(213,some 17,(s_l1Parser_not_fs G2))] (.cons s_l1Parser_take_ok (.cons s_l1Over_v1_ok (.cons h2 (.cons h2 .nil)))) (by kernel_rfl) (by kernel_rfl) (by kernel_rfl) (fun xs=>by kernel_rfl)
theorem s_l1Parser_not_st {G0 G1 G2:List C→Option (List C)} (h0:FSOk Tryz.checked.prog T0 166 (s_l1Parser_or_fs G0)) (h1:FSOk Tryz.checked.prog T0 190 (s_l1Parser_and_fs G1)) (h2:FSOk Tryz.checked.prog T0 213 (s_l1Parser_not_fs G2)):FSOk Tryz.checked.prog T0 213 (s_l1Parser_not_fs (s_l1Parser_not.step G0 G1 G2)):=okOf base0 (fn:=Tryz.f213) (c:=Tryz.f213.body.getD .skip) (s_l1Parser_not_fs (s_l1Parser_not.step G0 G1 G2)) (.seq .leaf (.seq (.seq .leaf (.cond (.seq .leaf (.frz [9] .leaf)) .leaf)) (.seq (.seq .leaf (.cond (.seq .leaf (.frz [68537] .leaf)) .leaf)) (.seq .leaf (.seq .leaf (.seq .leaf (.seq .leaf (.frz [44] .leaf)))))))) [(166,some 19,(s_l1Parser_or_fs G0)),(191,some 11,s_l1Parser_take_fs),(191,some 17,s_l1Parser_take_fs),(191,some 21,s_l1Parser_take_fs),(191,some 37,s_l1Parser_take_fs),(192,some 15,s_l1Over_v1_fs),(213,some 13,(s_l1Parser_not_fs G2)),(228,some 28,s_l1Parser_name_fs),(228,some 41,s_l1Parser_name_fs)] (.cons h0 (.cons s_l1Parser_take_ok (.cons s_l1Parser_take_ok (.cons s_l1Parser_take_ok (.cons s_l1Parser_take_ok (.cons s_l1Over_v1_ok (.cons h2 (.cons s_l1Parser_name_ok (.cons s_l1Parser_name_ok .nil))))))))) (by kernel_rfl) (by kernel_rfl) (by kernel_rfl) (fun xs=>by kernel_rfl)
def s_l1Parser_or.g:Nat→Nat→List C→Option (List C)
 |0,_=>fun _=>none
 |k+1,0=>s_l1Parser_or.step (s_l1Parser_or.g k 0) (s_l1Parser_or.g k 1) (s_l1Parser_or.g k 2)
 |k+1,1=>s_l1Parser_and.step (s_l1Parser_or.g k 0) (s_l1Parser_or.g k 1) (s_l1Parser_or.g k 2)
 |k+1,2=>s_l1Parser_not.step (s_l1Parser_or.g k 0) (s_l1Parser_or.g k 1) (s_l1Parser_or.g k 2)
 |_,_=>fun _=>none
theorem s_l1Parser_or_rec:∀k:Nat,FSOk Tryz.checked.prog T0 166 (s_l1Parser_or_fs (s_l1Parser_or.g k 0))∧FSOk Tryz.checked.prog T0 190 (s_l1Parser_and_fs (s_l1Parser_or.g k 1))∧FSOk Tryz.checked.prog T0 213 (s_l1Parser_not_fs (s_l1Parser_or.g k 2))
 |0=>⟨noneOk (fn:=Tryz.f166) (c:=Tryz.f166.body.getD .skip) (1) (⟨[(0,(.pt 2000 0))],[(2000,.var 187 [(.d (.sl 9)),(.d (.int .i64)),(.d .bool)])]⟩) (⟨[(0,(.d (.sl 184)))],[(2000,.var 187 [(.d (.sl 9)),(.d (.int .i64)),(.d .bool)])]⟩) [2000] (by kernel_rfl) (by kernel_rfl) (by kernel_rfl),noneOk (fn:=Tryz.f190) (c:=Tryz.f190.body.getD .skip) (1) (⟨[(0,(.pt 2000 0))],[(2000,.var 187 [(.d (.sl 9)),(.d (.int .i64)),(.d .bool)])]⟩) (⟨[(0,(.d (.sl 184)))],[(2000,.var 187 [(.d (.sl 9)),(.d (.int .i64)),(.d .bool)])]⟩) [2000] (by kernel_rfl) (by kernel_rfl) (by kernel_rfl),noneOk (fn:=Tryz.f213) (c:=Tryz.f213.body.getD .skip) (1) (⟨[(0,(.pt 2000 0))],[(2000,.var 187 [(.d (.sl 9)),(.d (.int .i64)),(.d .bool)])]⟩) (⟨[(0,(.d (.sl 184)))],[(2000,.var 187 [(.d (.sl 9)),(.d (.int .i64)),(.d .bool)])]⟩) [2000] (by kernel_rfl) (by kernel_rfl) (by kernel_rfl)⟩
 |k+1=>⟨s_l1Parser_or_st (s_l1Parser_or_rec k).1 (s_l1Parser_or_rec k).2.1 (s_l1Parser_or_rec k).2.2,s_l1Parser_and_st (s_l1Parser_or_rec k).1 (s_l1Parser_or_rec k).2.1 (s_l1Parser_or_rec k).2.2,s_l1Parser_not_st (s_l1Parser_or_rec k).1 (s_l1Parser_or_rec k).2.1 (s_l1Parser_or_rec k).2.2⟩
def s_l1Parser_or:List C→Option (List C):=s_l1Parser_or.g FUEL 0
theorem s_l1Parser_or_ok:FSOk Tryz.checked.prog T0 166 (s_l1Parser_or_fs s_l1Parser_or):=(s_l1Parser_or_rec FUEL).1
def s_l1Parser_and:List C→Option (List C):=s_l1Parser_or.g FUEL 1
theorem s_l1Parser_and_ok:FSOk Tryz.checked.prog T0 190 (s_l1Parser_and_fs s_l1Parser_and):=(s_l1Parser_or_rec FUEL).2.1
def s_l1Parser_not:List C→Option (List C):=s_l1Parser_or.g FUEL 2
theorem s_l1Parser_not_ok:FSOk Tryz.checked.prog T0 213 (s_l1Parser_not_fs s_l1Parser_not):=(s_l1Parser_or_rec FUEL).2.2
def s_PilotParse.d1 (a:C):R:=(bif (decide ((a.S.size:Int)>200)) then (some (.ret [.l nils,.i 1])) else (call2 (s_l1Tokens [a]) fun b c=>(bif (!b.B) then (some (.ret [.l nils,.i 2])) else (bif ((c.L.length:Int)==0) then (some (.ret [.l (rows [[.i 0,.s (bs #[]),.s (bs #[]),.i 0]]),.i 0])) else (call4 (s_l1Parser_or [.l c.L,.i 0,.b false]) fun d e f g=>(bif (!g.B) then (bif (decide (f.I<(c.L.length:Int))) then (some (.ret [.l nils,.i 2])) else (call1 (s_l1Valid [d]) fun h=>(bif (!h.B) then (some (.ret [.l nils,.i 3])) else (some (.ret [d,.i 0]))))) else (some (.ret [.l nils,.i 2]))))))))
def s_PilotParse:List C→Option (List C):=fun xs=>finR (ap1 s_PilotParse.d1 xs)
def s_PilotParse_fs:FS:=⟨1,⟨[(0,zt)],[]⟩,⟨[(0,(.tu [(.ag [(zl 184)]),zi]))],[]⟩,[],s_PilotParse⟩
theorem s_PilotParse_ok:FSOk Tryz.checked.prog T0 136 s_PilotParse_fs:=okOf base0 (fn:=Tryz.f136) (c:=Tryz.f136.body.getD .skip) s_PilotParse_fs (.seq .leaf (.seq .leaf (.seq .leaf (.seq .leaf (.seq (.seq .leaf (.cond (.seq .leaf (.frz [24] .leaf)) .leaf)) (.seq .leaf (.seq (.frz [64440] .leaf) .leaf))))))) [(165,some 14,s_l1Tokens_fs),(166,some 30,(s_l1Parser_or_fs s_l1Parser_or)),(167,some 47,s_l1Valid_fs)] (.cons s_l1Tokens_ok (.cons s_l1Parser_or_ok (.cons s_l1Valid_ok .nil))) (by kernel_rfl) (by kernel_rfl) (by kernel_rfl) (fun xs=>by kernel_rfl)
def s_l2SelectOk.d1 (a:C):R:=(call2 (s_PilotParse [a]) fun b c=>(some (.ret [.b (c.I==0)])))
def s_l2SelectOk:List C→Option (List C):=fun xs=>finR (ap1 s_l2SelectOk.d1 xs)
def s_l2SelectOk_fs:FS:=⟨1,⟨[(0,zt)],[]⟩,⟨[(0,zo)],[]⟩,[],s_l2SelectOk⟩
theorem s_l2SelectOk_ok:FSOk Tryz.checked.prog T0 109 s_l2SelectOk_fs:=okOf base0 (fn:=Tryz.f109) (c:=Tryz.f109.body.getD .skip) s_l2SelectOk_fs .leaf [(136,some 7,s_PilotParse_fs)] (.cons s_PilotParse_ok .nil) (by kernel_rfl) (by kernel_rfl) (by kernel_rfl) (fun xs=>by kernel_rfl)
def s_l2CopyOk.d1 (a b c d e f g h i j k l m:C):R:=(bif (decide (a.I<(i.L.length:Int))) then (bif (decide (0≤a.I)) then (bif (decide (a.I<(i.L.length:Int))) then (call1 (s_l2SelectOk [((i.L.getD a.I.toNat []).getD 0 .nil)]) fun n=>(bif (!(!n.B)) then (bif (decide (0≤a.I)) then (bif (decide (a.I<(i.L.length:Int))) then (call1 (s_l1In [((i.L.getD a.I.toNat []).getD 1 .nil),.i (-9),.i 9]) fun o=>(bif (!o.B) then (some (.ret [.b false])) else (some (.again [.i (w64 (a.I+1)),b,c,d,e,f,g,h,i,j,k,l,m])))) else none) else none) else (some (.ret [.b false])))) else none) else none) else (some (.brk 0 [])))
def s_l2CopyOk.d2:R:=(some (.ret [.b true]))
def s_l2CopyOk.d3 (a b c d e f g h i j k l m:C):R:=(bif a.B then (some (.ret [.b false])) else (bindBlk 0 (lim (ap13 s_l2CopyOk.d1) [.i 0,b,c,d,e,f,g,h,i,j,k,l,m]) (fun xs=>s_l2CopyOk.d2)))
def s_l2CopyOk.d4 (a b c d e f g h i j k l:C):R:=(call1 (s_l1NameOk [a]) fun m=>(bif (!(!m.B)) then (call1 (s_l1NameOk [b]) fun n=>(bif (!(!n.B)) then (call1 (s_l1In [c,.i 0,.i 100]) fun o=>(bif (!(!o.B)) then (call1 (s_l1In [d,.i 0,.i 1000000]) fun p=>(bif (!(!p.B)) then (call1 (s_l1In [e,.i 0,.i 1000]) fun q=>(bif (!(!q.B)) then (call1 (s_l1In [f,.i 0,.i 1000]) fun r=>(bif (!r.B) then (some (.ret [.b false])) else (bindNrm (call1 (s_l2SelectOk [g]) fun s=>(bif (!(!s.B)) then (bif (!(decide ((h.L.length:Int)>5))) then (call1 (s_l1In [i,.i 0,.i 2]) fun t=>(bif (!(!t.B)) then (bif (!(j.S.toList==(bs #[]).toList)) then (call1 (s_l1NameOk [j]) fun u=>(bif (!(!u.B)) then (bif (!(k.S.toList==(bs #[]).toList)) then (call1 (s_l1NameOk [k]) fun v=>(some (.nrm [.b (!v.B),a,b,c,d,e,f,g,h,i,j,k,l]))) else (some (.nrm [.b false,a,b,c,d,e,f,g,h,i,j,k,l]))) else (some (.nrm [.b true,a,b,c,d,e,f,g,h,i,j,k,l])))) else (bif (!(k.S.toList==(bs #[]).toList)) then (call1 (s_l1NameOk [k]) fun w=>(some (.nrm [.b (!w.B),a,b,c,d,e,f,g,h,i,j,k,l]))) else (some (.nrm [.b false,a,b,c,d,e,f,g,h,i,j,k,l])))) else (some (.nrm [.b true,a,b,c,d,e,f,g,h,i,j,k,l])))) else (some (.nrm [.b true,a,b,c,d,e,f,g,h,i,j,k,l]))) else (some (.nrm [.b true,a,b,c,d,e,f,g,h,i,j,k,l])))) (ap13 s_l2CopyOk.d3)))) else (some (.ret [.b false])))) else (some (.ret [.b false])))) else (some (.ret [.b false])))) else (some (.ret [.b false])))) else (some (.ret [.b false]))))
def s_l2CopyOk:List C→Option (List C):=fun xs=>finR (ap12 s_l2CopyOk.d4 xs)
def s_l2CopyOk_fs:FS:=⟨1,⟨[(0,z6)],[]⟩,⟨[(0,zo)],[]⟩,[],s_l2CopyOk⟩
theorem s_l2CopyOk_ok:FSOk Tryz.checked.prog T0 60 s_l2CopyOk_fs:=okOf base0 (fn:=Tryz.f60) (c:=Tryz.f60.body.getD .skip) s_l2CopyOk_fs (.seq .leaf (.seq .leaf (.seq (.seq (.join ⟨[(1,(.pt 1 0)),(75,zo)],[(1,z1)]⟩ .leaf) .leaf) (.seq (.seq .leaf (.block ⟨[],[]⟩ (.loop ⟨[(1,(.pt 1 0)),(3,zi)],[(1,z1)]⟩ .leaf))) .leaf)))) [(58,some 6,s_l1NameOk_fs),(58,some 11,s_l1NameOk_fs),(58,some 61,s_l1NameOk_fs),(58,some 72,s_l1NameOk_fs),(59,some 17,s_l1In_fs),(59,some 23,s_l1In_fs),(59,some 29,s_l1In_fs),(59,some 35,s_l1In_fs),(59,some 51,s_l1In_fs),(59,some 98,s_l1In_fs),(109,some 40,s_l2SelectOk_fs),(109,some 89,s_l2SelectOk_fs)] (.cons s_l1NameOk_ok (.cons s_l1NameOk_ok (.cons s_l1NameOk_ok (.cons s_l1NameOk_ok (.cons s_l1In_ok (.cons s_l1In_ok (.cons s_l1In_ok (.cons s_l1In_ok (.cons s_l1In_ok (.cons s_l1In_ok (.cons s_l2SelectOk_ok (.cons s_l2SelectOk_ok .nil)))))))))))) (by kernel_rfl) (by kernel_rfl) (by kernel_rfl) (fun xs=>by kernel_rfl)
def s_l2Service.d1 (a b c d e f:C):R:=(bif (decide (b.I<(e.L.length:Int))) then (bif (decide (0≤b.I)) then (bif (decide (b.I<(e.L.length:Int))) then (bif ((((e.L.getD b.I.toNat []).getD 0 .nil).S).toList==a.S.toList) then (some (.ret [b])) else (some (.again [a,.i (w64 (b.I+1)),c,d,e,f]))) else none) else none) else (some (.brk 0 [])))
def s_l2Service.d2:R:=(some (.ret [.i (-1)]))
def s_l2Service.d3 (a b c d e:C):R:=(bindBlk 0 (lim (ap6 s_l2Service.d1) [e,.i 0,a,b,c,d]) (fun xs=>s_l2Service.d2))
def s_l2Service:List C→Option (List C):=fun xs=>finR (ap5 s_l2Service.d3 xs)
def s_l2Service_fs:FS:=⟨2,⟨[(0,z2),(1,zt)],[]⟩,⟨[(0,zi)],[]⟩,[],s_l2Service⟩
theorem s_l2Service_ok:FSOk Tryz.checked.prog T0 61 s_l2Service_fs:=okOf base0 (fn:=Tryz.f61) (c:=Tryz.f61.body.getD .skip) s_l2Service_fs (.seq .leaf (.seq (.seq .leaf (.block ⟨[],[]⟩ (.loop ⟨[(1,zt),(2,(.pt 2 0)),(5,zi)],[(2,z0)]⟩ .leaf))) .leaf)) [] .nil (by kernel_rfl) (by kernel_rfl) (by kernel_rfl) (fun xs=>by kernel_rfl)
def s_l2Berth.d1 (a b c d e f:C):R:=(bif (decide (b.I<(d.L.length:Int))) then (bif (decide (0≤b.I)) then (bif (decide (b.I<(d.L.length:Int))) then (bif ((((d.L.getD b.I.toNat []).getD 0 .nil).S).toList==a.S.toList) then (some (.ret [b])) else (some (.again [a,.i (w64 (b.I+1)),c,d,e,f]))) else none) else none) else (some (.brk 0 [])))
def s_l2Berth.d2:R:=(some (.ret [.i (-1)]))
def s_l2Berth.d3 (a b c d e:C):R:=(bindBlk 0 (lim (ap6 s_l2Berth.d1) [e,.i 0,a,b,c,d]) (fun xs=>s_l2Berth.d2))
def s_l2Berth:List C→Option (List C):=fun xs=>finR (ap5 s_l2Berth.d3 xs)
def s_l2Berth_fs:FS:=⟨2,⟨[(0,z2),(1,zt)],[]⟩,⟨[(0,zi)],[]⟩,[],s_l2Berth⟩
theorem s_l2Berth_ok:FSOk Tryz.checked.prog T0 56 s_l2Berth_fs:=okOf base0 (fn:=Tryz.f56) (c:=Tryz.f56.body.getD .skip) s_l2Berth_fs (.seq .leaf (.seq (.seq .leaf (.block ⟨[],[]⟩ (.loop ⟨[(1,zt),(2,(.pt 2 0)),(5,zi)],[(2,z0)]⟩ .leaf))) .leaf)) [] .nil (by kernel_rfl) (by kernel_rfl) (by kernel_rfl) (fun xs=>by kernel_rfl)
def s_PilotUsed.d1 (a b c d e f g h i:C):R:=(bif e.B then (bif (decide (0≤d.I)) then (bif (decide (d.I<(i.L.length:Int))) then (bif (decide (0≤d.I)) then (bif (decide (d.I<(i.L.length:Int))) then (some (.again [a,.i (w64 (b.I+((i.L.getD d.I.toNat []).getD 4 .nil).I)),.i (w64 (c.I+((i.L.getD d.I.toNat []).getD 5 .nil).I)),.i (w64 (d.I+1)),f,g,h,i])) else none) else none) else none) else none) else (some (.again [a,b,c,.i (w64 (d.I+1)),f,g,h,i])))
def s_PilotUsed.d2 (a b c d e f g h:C):R:=(bif (decide (d.I<(h.L.length:Int))) then (bindNrm (bif (!(a.S.toList==(bs #[]).toList)) then (bif (decide (0≤d.I)) then (bif (decide (d.I<(h.L.length:Int))) then (some (.nrm [a,b,c,d,.b ((((h.L.getD d.I.toNat []).getD 11 .nil).S).toList==a.S.toList),e,f,g,h])) else none) else none) else (some (.nrm [a,b,c,d,.b false,e,f,g,h]))) (ap9 s_PilotUsed.d1)) else (some (.brk 0 [b,c])))
def s_PilotUsed.d3 (a b:C):R:=(some (.ret [a,b]))
def s_PilotUsed.d4 (a b c d e:C):R:=(call1 (s_l2Berth [a,b,c,d,e]) fun f=>(bif (decide (f.I<0)) then (some (.ret [.i 0,.i 0])) else (bindBlk 0 (lim (ap8 s_PilotUsed.d2) [e,.i 0,.i 0,.i 0,a,b,c,d]) (ap2 s_PilotUsed.d3))))
def s_PilotUsed:List C→Option (List C):=fun xs=>finR (ap5 s_PilotUsed.d4 xs)
def s_PilotUsed_fs:FS:=⟨2,⟨[(0,z2),(1,zt)],[]⟩,⟨[(0,(.tu [zi,zi]))],[]⟩,[],s_PilotUsed⟩
theorem s_PilotUsed_ok:FSOk Tryz.checked.prog T0 62 s_PilotUsed_fs:=okOf base0 (fn:=Tryz.f62) (c:=Tryz.f62.body.getD .skip) s_PilotUsed_fs (.seq .leaf (.seq .leaf (.seq .leaf (.seq .leaf (.seq (.seq .leaf (.block ⟨[(6,zi),(7,zi)],[]⟩ (.loop ⟨[(1,zt),(2,(.pt 2 0)),(6,zi),(7,zi),(8,zi)],[(2,z0)]⟩ (.seq .leaf (.seq (.skip (.seq (.join ⟨[(1,zt),(2,(.pt 2 0)),(6,zi),(7,zi),(8,zi),(31,zo)],[(2,z0)]⟩ .leaf) .leaf)) .leaf))))) .leaf))))) [(56,some 11,s_l2Berth_fs)] (.cons s_l2Berth_ok .nil) (by kernel_rfl) (by kernel_rfl) (by kernel_rfl) (fun xs=>by kernel_rfl)
def s_l1Mark.d1 (a b:C):R:=(bif (decide (b.I<(a.S.size:Int))) then (bif (decide (0≤b.I)) then (bif (decide (b.I<(a.S.size:Int))) then (bif (((a.S.data.getD b.I.toNat 0).toNat:Int)==61) then (bif (decide (0≤b.I)) then (bif (decide (b.I≤(a.S.size:Int))) then (bif (decide (0≤(w64 (b.I+1)))) then (bif (decide ((w64 (b.I+1))≤(a.S.size:Int))) then (bif (decide ((a.S.size:Int)≤(a.S.size:Int))) then (bif (decide (0≤b.I)) then (bif (decide (b.I≤(a.S.size:Int))) then (call1 (s_l1NameOk [.s (a.S.extract 0 b.I.toNat)]) fun c=>(bif c.B then (bif (decide (0≤(w64 (b.I+1)))) then (bif (decide ((w64 (b.I+1))≤(a.S.size:Int))) then (bif (decide ((a.S.size:Int)≤(a.S.size:Int))) then (call1 (s_l1NameOk [.s (a.S.extract (w64 (b.I+1)).toNat (a.S.size:Int).toNat)]) fun d=>(some (.ret [.s (a.S.extract 0 b.I.toNat),.s (a.S.extract (w64 (b.I+1)).toNat (a.S.size:Int).toNat),.b d.B]))) else none) else none) else none) else (some (.ret [.s (a.S.extract 0 b.I.toNat),.s (a.S.extract (w64 (b.I+1)).toNat (a.S.size:Int).toNat),.b false])))) else none) else none) else none) else none) else none) else none) else none) else (some (.again [a,.i (w64 (b.I+1))]))) else none) else none) else (some (.brk 0 [a])))
def s_l1Mark.d2 (a:C):R:=(call1 (s_l1NameOk [a]) fun b=>(some (.ret [a,.s (bs #[]),.b b.B])))
def s_l1Mark.d3 (a:C):R:=(bindBlk 0 (lim (ap2 s_l1Mark.d1) [a,.i 0]) (ap1 s_l1Mark.d2))
def s_l1Mark:List C→Option (List C):=fun xs=>finR (ap1 s_l1Mark.d3 xs)
def s_l1Mark_fs:FS:=⟨1,⟨[(0,zt)],[]⟩,⟨[(0,(.tu [zt,zt,zo]))],[]⟩,[],s_l1Mark⟩
theorem s_l1Mark_ok:FSOk Tryz.checked.prog T0 139 s_l1Mark_fs:=okOf base0 (fn:=Tryz.f139) (c:=Tryz.f139.body.getD .skip) s_l1Mark_fs (.seq .leaf (.seq (.seq .leaf (.block ⟨[(0,zt)],[]⟩ (.loop ⟨[(0,zt),(5,zi)],[]⟩ .leaf))) .leaf)) [(58,some 26,s_l1NameOk_fs),(58,some 32,s_l1NameOk_fs),(58,some 36,s_l1NameOk_fs)] (.cons s_l1NameOk_ok (.cons s_l1NameOk_ok (.cons s_l1NameOk_ok .nil))) (by kernel_rfl) (by kernel_rfl) (by kernel_rfl) (fun xs=>by kernel_rfl)
def s_l2MarksOk.d1 (a b c d:C):R:=(bif (decide (d.I<b.I)) then (bif (decide (0≤d.I)) then (bif (decide (d.I<(a.L.length:Int))) then (call3 (s_l1Mark [((a.L.getD d.I.toNat []).getD 0 .nil)]) fun e f g=>(bif (e.S.toList==c.S.toList) then (some (.ret [.b false])) else (some (.again [a,b,c,.i (w64 (d.I+1))])))) else none) else none) else (some (.brk 2 [a,b,c])))
def s_l2MarksOk.d2 (a b c:C):R:=(some (.again [a,c,.i (w64 (b.I+1))]))
def s_l2MarksOk.d3 (a b c:C):R:=(bindBlk 2 (lim (ap4 s_l2MarksOk.d1) [a,b,c,.i 0]) (ap3 s_l2MarksOk.d2))
def s_l2MarksOk.d4 (a b c:C):R:=(bif (decide (c.I<(a.L.length:Int))) then (bif (decide (0≤c.I)) then (bif (decide (c.I<(a.L.length:Int))) then (call3 (s_l1Mark [((a.L.getD c.I.toNat []).getD 0 .nil)]) fun d e f=>(bindNrm (bif (!(!f.B)) then (bif (decide (c.I>0)) then (bif (decide (0≤(w64 (c.I-1)))) then (bif (decide ((w64 (c.I-1))<(a.L.length:Int))) then (bif (decide (0≤c.I)) then (bif (decide (c.I<(a.L.length:Int))) then (bif (!(!(Op.bytesLess (((a.L.getD (w64 (c.I-1)).toNat []).getD 0 .nil).S).toList (((a.L.getD c.I.toNat []).getD 0 .nil).S).toList))) then (bif (d.S.toList==b.S.toList) then (some (.ret [.b false])) else (some (.nrm [a,c,d]))) else (some (.ret [.b false]))) else none) else none) else none) else none) else (some (.nrm [a,c,d]))) else (some (.ret [.b false]))) (ap3 s_l2MarksOk.d3))) else none) else none) else (some (.brk 0 [])))
def s_l2MarksOk.d5:R:=(some (.ret [.b true]))
def s_l2MarksOk.d6 (a:C):R:=(bif (decide ((a.L.length:Int)>10)) then (some (.ret [.b false])) else (bindBlk 0 (lim (ap3 s_l2MarksOk.d4) [a,.s (bs #[]),.i 0]) (fun xs=>s_l2MarksOk.d5)))
def s_l2MarksOk:List C→Option (List C):=fun xs=>finR (ap1 s_l2MarksOk.d6 xs)
def s_l2MarksOk_fs:FS:=⟨1,⟨[(0,(zl 9))],[]⟩,⟨[(0,zo)],[]⟩,[],s_l2MarksOk⟩
theorem s_l2MarksOk_ok:FSOk Tryz.checked.prog T0 110 s_l2MarksOk_fs:=okOf base0 (fn:=Tryz.f110) (c:=Tryz.f110.body.getD .skip) s_l2MarksOk_fs (.seq .leaf (.seq .leaf (.seq .leaf (.seq (.seq .leaf (.block ⟨[],[]⟩ (.loop ⟨[(0,(zl 9)),(3,zt),(4,zi)],[]⟩ (.seq .leaf (.seq (.skip (.seq .leaf (.seq (.join ⟨[(0,(zl 9)),(4,zi),(5,zt)],[]⟩ .leaf) (.seq (.seq .leaf (.block ⟨[(0,(zl 9)),(4,zi),(5,zt)],[]⟩ (.loop ⟨[(0,(zl 9)),(4,zi),(5,zt),(8,zi)],[]⟩ .leaf))) .leaf)))) .leaf))))) .leaf)))) [(139,some 26,s_l1Mark_fs),(139,some 63,s_l1Mark_fs)] (.cons s_l1Mark_ok (.cons s_l1Mark_ok .nil)) (by kernel_rfl) (by kernel_rfl) (by kernel_rfl) (fun xs=>by kernel_rfl)
def s_l2BerthOk.d1 (a b c d e f:C):R:=(call1 (s_l1NameOk [a]) fun g=>(bif g.B then (call1 (s_l1NameOk [b]) fun h=>(bif h.B then (call1 (s_l2MarksOk [c]) fun i=>(bif i.B then (call1 (s_l1In [d,.i 0,.i 1000]) fun j=>(bif j.B then (call1 (s_l1In [e,.i 0,.i 1000]) fun k=>(some (.ret [.b k.B]))) else (some (.ret [.b false])))) else (some (.ret [.b false])))) else (some (.ret [.b false])))) else (some (.ret [.b false]))))
def s_l2BerthOk:List C→Option (List C):=fun xs=>finR (ap6 s_l2BerthOk.d1 xs)
def s_l2BerthOk_fs:FS:=⟨1,⟨[(0,z8)],[]⟩,⟨[(0,zo)],[]⟩,[],s_l2BerthOk⟩
theorem s_l2BerthOk_ok:FSOk Tryz.checked.prog T0 63 s_l2BerthOk_fs:=okOf base0 (fn:=Tryz.f63) (c:=Tryz.f63.body.getD .skip) s_l2BerthOk_fs .leaf [(58,some 5,s_l1NameOk_fs),(58,some 9,s_l1NameOk_fs),(59,some 19,s_l1In_fs),(59,some 24,s_l1In_fs),(110,some 14,s_l2MarksOk_fs)] (.cons s_l1NameOk_ok (.cons s_l1NameOk_ok (.cons s_l1In_ok (.cons s_l1In_ok (.cons s_l2MarksOk_ok .nil))))) (by kernel_rfl) (by kernel_rfl) (by kernel_rfl) (fun xs=>by kernel_rfl)
def s_l2Stand.d1 (a b c d e f g:C):R:=(bif (decide (c.I<(g.L.length:Int))) then (bif (decide (0≤c.I)) then (bif (decide (c.I<(g.L.length:Int))) then (bif ((((g.L.getD c.I.toNat []).getD 11 .nil).S).toList==a.S.toList) then (some (.again [a,.i (w64 (b.I+1)),.i (w64 (c.I+1)),d,e,f,g])) else (some (.again [a,b,.i (w64 (c.I+1)),d,e,f,g]))) else none) else none) else (some (.brk 0 [b])))
def s_l2Stand.d2 (a:C):R:=(some (.ret [a]))
def s_l2Stand.d3 (a b c d e:C):R:=(bindBlk 0 (lim (ap7 s_l2Stand.d1) [e,.i 0,.i 0,a,b,c,d]) (ap1 s_l2Stand.d2))
def s_l2Stand:List C→Option (List C):=fun xs=>finR (ap5 s_l2Stand.d3 xs)
def s_l2Stand_fs:FS:=⟨2,⟨[(0,z2),(1,zt)],[]⟩,⟨[(0,zi)],[]⟩,[],s_l2Stand⟩
theorem s_l2Stand_ok:FSOk Tryz.checked.prog T0 64 s_l2Stand_fs:=okOf base0 (fn:=Tryz.f64) (c:=Tryz.f64.body.getD .skip) s_l2Stand_fs (.seq .leaf (.seq .leaf (.seq (.seq .leaf (.block ⟨[(5,zi)],[]⟩ (.loop ⟨[(1,zt),(2,(.pt 2 0)),(5,zi),(6,zi)],[(2,z0)]⟩ .leaf))) .leaf))) [] .nil (by kernel_rfl) (by kernel_rfl) (by kernel_rfl) (fun xs=>by kernel_rfl)
def s_PilotValid.d1 (a b c d e:C):R:=(bif (decide (a.I<(d.L.length:Int))) then (bif (decide (0≤a.I)) then (bif (decide (a.I<(d.L.length:Int))) then (call1 (s_l1NameOk [((d.L.getD a.I.toNat []).getD 0 .nil)]) fun f=>(bif (!(!f.B)) then (bif (decide (a.I>0)) then (bif (decide (0≤(w64 (a.I-1)))) then (bif (decide ((w64 (a.I-1))<(d.L.length:Int))) then (bif (!(!(Op.bytesLess (((d.L.getD (w64 (a.I-1)).toNat []).getD 0 .nil).S).toList (((d.L.getD a.I.toNat []).getD 0 .nil).S).toList))) then (call1 (s_l1In [((d.L.getD a.I.toNat []).getD 1 .nil),.i 0,.i 60]) fun g=>(bif (!g.B) then (some (.ret [.b false])) else (some (.again [.i (w64 (a.I+1)),b,c,d,e])))) else (some (.ret [.b false]))) else none) else none) else (call1 (s_l1In [((d.L.getD a.I.toNat []).getD 1 .nil),.i 0,.i 60]) fun h=>(bif (!h.B) then (some (.ret [.b false])) else (some (.again [.i (w64 (a.I+1)),b,c,d,e]))))) else (some (.ret [.b false])))) else none) else none) else (some (.brk 0 [b,c,d,e])))
def s_PilotValid.d2 (a b c d e f:C):R:=(bif b.B then (some (.ret [.b false])) else (some (.again [.i (w64 (a.I+1)),c,d,e,f])))
def s_PilotValid.d3 (a b c d e:C):R:=(bif (decide (a.I<(e.L.length:Int))) then (bif (decide (0≤a.I)) then (bif (decide (a.I<(e.L.length:Int))) then (bindNrm (call1 (s_l2CopyOk [((e.L.getD a.I.toNat []).getD 0 .nil),((e.L.getD a.I.toNat []).getD 1 .nil),((e.L.getD a.I.toNat []).getD 2 .nil),((e.L.getD a.I.toNat []).getD 3 .nil),((e.L.getD a.I.toNat []).getD 4 .nil),((e.L.getD a.I.toNat []).getD 5 .nil),((e.L.getD a.I.toNat []).getD 6 .nil),((e.L.getD a.I.toNat []).getD 7 .nil),((e.L.getD a.I.toNat []).getD 8 .nil),((e.L.getD a.I.toNat []).getD 9 .nil),((e.L.getD a.I.toNat []).getD 10 .nil),((e.L.getD a.I.toNat []).getD 11 .nil)]) fun f=>(bif (!(!f.B)) then (bif (decide (a.I>0)) then (bif (decide (0≤(w64 (a.I-1)))) then (bif (decide ((w64 (a.I-1))<(e.L.length:Int))) then (bif (!(!(Op.bytesLess (((e.L.getD (w64 (a.I-1)).toNat []).getD 0 .nil).S).toList (((e.L.getD a.I.toNat []).getD 0 .nil).S).toList))) then (call1 (s_l2Service [b,c,d,e,((e.L.getD a.I.toNat []).getD 1 .nil)]) fun g=>(bif (!(decide (g.I<0))) then (bif (!((((e.L.getD a.I.toNat []).getD 11 .nil).S).toList==(bs #[]).toList)) then (call1 (s_l2Berth [b,c,d,e,((e.L.getD a.I.toNat []).getD 11 .nil)]) fun h=>(some (.nrm [a,.b (decide (h.I<0)),b,c,d,e]))) else (some (.nrm [a,.b false,b,c,d,e]))) else (some (.nrm [a,.b true,b,c,d,e])))) else (some (.nrm [a,.b true,b,c,d,e]))) else none) else none) else (call1 (s_l2Service [b,c,d,e,((e.L.getD a.I.toNat []).getD 1 .nil)]) fun i=>(bif (!(decide (i.I<0))) then (bif (!((((e.L.getD a.I.toNat []).getD 11 .nil).S).toList==(bs #[]).toList)) then (call1 (s_l2Berth [b,c,d,e,((e.L.getD a.I.toNat []).getD 11 .nil)]) fun j=>(some (.nrm [a,.b (decide (j.I<0)),b,c,d,e]))) else (some (.nrm [a,.b false,b,c,d,e]))) else (some (.nrm [a,.b true,b,c,d,e]))))) else (some (.nrm [a,.b true,b,c,d,e])))) (ap6 s_PilotValid.d2)) else none) else none) else (some (.brk 2 [b,c,d,e])))
def s_PilotValid.d4 (a b c d e:C):R:=(bif (decide (a.I<(c.L.length:Int))) then (bif (decide (0≤a.I)) then (bif (decide (a.I<(c.L.length:Int))) then (call2 (s_PilotUsed [b,c,d,e,((c.L.getD a.I.toNat []).getD 0 .nil)]) fun f g=>(call1 (s_l2BerthOk [((c.L.getD a.I.toNat []).getD 0 .nil),((c.L.getD a.I.toNat []).getD 1 .nil),((c.L.getD a.I.toNat []).getD 2 .nil),((c.L.getD a.I.toNat []).getD 3 .nil),((c.L.getD a.I.toNat []).getD 4 .nil),((c.L.getD a.I.toNat []).getD 5 .nil)]) fun h=>(bif (!(!h.B)) then (bif (decide (a.I>0)) then (bif (decide (0≤(w64 (a.I-1)))) then (bif (decide ((w64 (a.I-1))<(c.L.length:Int))) then (bif (!(!(Op.bytesLess (((c.L.getD (w64 (a.I-1)).toNat []).getD 0 .nil).S).toList (((c.L.getD a.I.toNat []).getD 0 .nil).S).toList))) then (bif (!(decide (f.I>((c.L.getD a.I.toNat []).getD 3 .nil).I))) then (bif (!(decide (g.I>((c.L.getD a.I.toNat []).getD 4 .nil).I))) then (call1 (s_l2Stand [b,c,d,e,((c.L.getD a.I.toNat []).getD 0 .nil)]) fun i=>(bif (decide (i.I>10)) then (some (.ret [.b false])) else (some (.again [.i (w64 (a.I+1)),b,c,d,e])))) else (some (.ret [.b false]))) else (some (.ret [.b false]))) else (some (.ret [.b false]))) else none) else none) else (bif (!(decide (f.I>((c.L.getD a.I.toNat []).getD 3 .nil).I))) then (bif (!(decide (g.I>((c.L.getD a.I.toNat []).getD 4 .nil).I))) then (call1 (s_l2Stand [b,c,d,e,((c.L.getD a.I.toNat []).getD 0 .nil)]) fun j=>(bif (decide (j.I>10)) then (some (.ret [.b false])) else (some (.again [.i (w64 (a.I+1)),b,c,d,e])))) else (some (.ret [.b false]))) else (some (.ret [.b false])))) else (some (.ret [.b false]))))) else none) else none) else (some (.brk 4 [])))
def s_PilotValid.d5:R:=(some (.ret [.b true]))
def s_PilotValid.d6 (a b c d:C):R:=(bindBlk 4 (lim (ap5 s_PilotValid.d4) [.i 0,a,b,c,d]) (fun xs=>s_PilotValid.d5))
def s_PilotValid.d7 (a b c d:C):R:=(bindBlk 2 (lim (ap5 s_PilotValid.d3) [.i 0,a,b,c,d]) (ap4 s_PilotValid.d6))
def s_PilotValid.d8 (a b c d:C):R:=(bif (!(decide ((b.L.length:Int)>12))) then (bif (!(decide ((c.L.length:Int)>30))) then (bif (decide ((d.L.length:Int)>60)) then (some (.ret [.b false])) else (bindBlk 0 (lim (ap5 s_PilotValid.d1) [.i 0,a,b,c,d]) (ap4 s_PilotValid.d7))) else (some (.ret [.b false]))) else (some (.ret [.b false])))
def s_PilotValid:List C→Option (List C):=fun xs=>finR (ap4 s_PilotValid.d8 xs)
def s_PilotValid_fs:FS:=⟨1,⟨[(0,z2)],[]⟩,⟨[(0,zo)],[]⟩,[],s_PilotValid⟩
theorem s_PilotValid_ok:FSOk Tryz.checked.prog T0 15 s_PilotValid_fs:=okOf base0 (fn:=Tryz.f15) (c:=Tryz.f15.body.getD .skip) s_PilotValid_fs (.seq .leaf (.seq .leaf (.seq (.seq .leaf (.block ⟨[(1,(.pt 1 0))],[(1,z0)]⟩ (.loop ⟨[(1,(.pt 1 0)),(3,zi)],[(1,z0)]⟩ .leaf))) (.seq (.seq .leaf (.block ⟨[(1,(.pt 1 0))],[(1,z0)]⟩ (.loop ⟨[(1,(.pt 1 0)),(5,zi)],[(1,z0)]⟩ (.seq .leaf (.seq (.skip (.seq .leaf (.seq (.join ⟨[(1,(.pt 1 0)),(5,zi),(114,zo)],[(1,z0)]⟩ .leaf) .leaf))) .leaf))))) (.seq (.seq .leaf (.block ⟨[],[]⟩ (.loop ⟨[(1,(.pt 1 0)),(7,zi)],[(1,z0)]⟩ .leaf))) .leaf))))) [(56,some 111,s_l2Berth_fs),(58,some 41,s_l1NameOk_fs),(59,some 62,s_l1In_fs),(60,some 78,s_l2CopyOk_fs),(61,some 100,s_l2Service_fs),(62,some 131,s_PilotUsed_fs),(63,some 135,s_l2BerthOk_fs),(64,some 169,s_l2Stand_fs)] (.cons s_l2Berth_ok (.cons s_l1NameOk_ok (.cons s_l1In_ok (.cons s_l2CopyOk_ok (.cons s_l2Service_ok (.cons s_PilotUsed_ok (.cons s_l2BerthOk_ok (.cons s_l2Stand_ok .nil)))))))) (by kernel_rfl) (by kernel_rfl) (by kernel_rfl) (fun xs=>by kernel_rfl)
def s_l2BerthOf.d1 (a b c d e f:C):R:=(bif (decide (nils.length+c.L.length≤4294967296)) then (some (.ret [a,b,d,e,f,.l (nils++c.L)])) else none)
def s_l2BerthOf:List C→Option (List C):=fun xs=>finR (ap6 s_l2BerthOf.d1 xs)
def s_l2BerthOf_fs:FS:=⟨1,⟨[(0,z8)],[]⟩,⟨[(0,(.ag [zt,zt,(.ow 3000),zi,zi,zo]))],[(3000,.arr 9 1)]⟩,[],s_l2BerthOf⟩
theorem s_l2BerthOf_ok:FSOk Tryz.checked.prog T0 123 s_l2BerthOf_fs:=okOf base0 (fn:=Tryz.f123) (c:=Tryz.f123.body.getD .skip) s_l2BerthOf_fs .leaf [] .nil (by kernel_rfl) (by kernel_rfl) (by kernel_rfl) (fun xs=>by kernel_rfl)
def s_l2CopyOf.d1 (a b c d e f g h i j k l:C):R:=(bif (decide (nils.length+h.L.length≤4294967296)) then (some (.ret [a,b,c,d,e,f,g,i,j,k,l,.l (nils++h.L)])) else none)
def s_l2CopyOf:List C→Option (List C):=fun xs=>finR (ap12 s_l2CopyOf.d1 xs)
def s_l2CopyOf_fs:FS:=⟨1,⟨[(0,z6)],[]⟩,⟨[(0,(.ag [zt,zt,zi,zi,zi,zi,zt,(.ow 3000),zi,zt,zt,zt]))],[(3000,.arr 109 1)]⟩,[],s_l2CopyOf⟩
theorem s_l2CopyOf_ok:FSOk Tryz.checked.prog T0 124 s_l2CopyOf_fs:=okOf base0 (fn:=Tryz.f124) (c:=Tryz.f124.body.getD .skip) s_l2CopyOf_fs .leaf [] .nil (by kernel_rfl) (by kernel_rfl) (by kernel_rfl) (fun xs=>by kernel_rfl)
def s_l2Fleet.d1 (a b c d e f g h i j k l m:C):R:=(bif (decide (a.I<(c.L.length:Int))) then (bif (decide (0≤a.I)) then (bif (decide (a.I<(c.L.length:Int))) then (call6 (s_l2BerthOf [((c.L.getD a.I.toNat []).getD 0 .nil),((c.L.getD a.I.toNat []).getD 1 .nil),((c.L.getD a.I.toNat []).getD 2 .nil),((c.L.getD a.I.toNat []).getD 3 .nil),((c.L.getD a.I.toNat []).getD 4 .nil),((c.L.getD a.I.toNat []).getD 5 .nil)]) fun n o p q r s=>(bif (decide (k.L.length+(rows [[n,o,.l s.L,p,q,r]]).length≤4294967296)) then (some (.again [.i (w64 (a.I+1)),b,c,d,e,f,g,.l h.L,.l i.L,.l j.L,.l (k.L++(rows [[n,o,.l s.L,p,q,r]])),.l l.L,.l m.L])) else none)) else none) else none) else (some (.brk 0 [b,c,d,e,f,g,.l h.L,.l i.L,.l j.L,.l k.L,.l l.L,.l m.L])))
def s_l2Fleet.d2 (a b c d e f g h i j k l m:C):R:=(bif (decide (a.I<(e.L.length:Int))) then (bif (decide (0≤a.I)) then (bif (decide (a.I<(e.L.length:Int))) then (call12 (s_l2CopyOf [((e.L.getD a.I.toNat []).getD 0 .nil),((e.L.getD a.I.toNat []).getD 1 .nil),((e.L.getD a.I.toNat []).getD 2 .nil),((e.L.getD a.I.toNat []).getD 3 .nil),((e.L.getD a.I.toNat []).getD 4 .nil),((e.L.getD a.I.toNat []).getD 5 .nil),((e.L.getD a.I.toNat []).getD 6 .nil),((e.L.getD a.I.toNat []).getD 7 .nil),((e.L.getD a.I.toNat []).getD 8 .nil),((e.L.getD a.I.toNat []).getD 9 .nil),((e.L.getD a.I.toNat []).getD 10 .nil),((e.L.getD a.I.toNat []).getD 11 .nil)]) fun n o p q r s t u v w x y=>(bif (decide (m.L.length+(rows [[n,o,p,q,r,s,t,.l y.L,u,v,w,x]]).length≤4294967296)) then (some (.again [.i (w64 (a.I+1)),b,c,d,e,f,g,.l h.L,.l i.L,.l j.L,.l k.L,.l l.L,.l (m.L++(rows [[n,o,p,q,r,s,t,.l y.L,u,v,w,x]]))])) else none)) else none) else none) else (some (.brk 2 [f,g,.l h.L,.l i.L,.l j.L,.l k.L,.l l.L,.l m.L])))
def s_l2Fleet.d3 (a b c d e f g h:C):R:=(some (.ret [b,.l f.L,.l g.L,.l h.L]))
def s_l2Fleet.d4 (a b c d e f g h i j k l:C):R:=(bindBlk 2 (lim (ap13 s_l2Fleet.d2) [.i 0,a,b,c,d,e,f,.l g.L,.l h.L,.l i.L,.l j.L,.l k.L,.l l.L]) (ap8 s_l2Fleet.d3))
def s_l2Fleet.d5 (a b c d:C):R:=(bif (decide (nils.length+c.L.length≤4294967296)) then (bindBlk 0 (lim (ap13 s_l2Fleet.d1) [.i 0,a,b,c,d,.b false,.b a.B,.l nils,.l nils,.l nils,.l nils,.l (nils++c.L),.l nils]) (ap12 s_l2Fleet.d4)) else none)
def s_l2Fleet:List C→Option (List C):=fun xs=>finR (ap4 s_l2Fleet.d5 xs)
def s_l2Fleet_fs:FS:=⟨1,⟨[(0,z2)],[]⟩,⟨[(0,(.ag [zo,(.ow 3000),(.ow 3001),(.ow 3002)]))],[(3000,.arr 37 1),(3001,.arr 60 1),(3002,.arr 45 1)]⟩,[],s_l2Fleet⟩
theorem s_l2Fleet_ok:FSOk Tryz.checked.prog T0 85 s_l2Fleet_fs:=okOfT base0 [28,46] false (fn:=Tryz.f85) (c:=Tryz.f85.body.getD .skip) s_l2Fleet_fs (.seq .leaf (.seq .leaf (.seq (.seq .leaf (.block ⟨[(1,(.pt 1 0)),(2,(.pt 2 0)),(3,(.pt 3 0))],[(1,z0),(2,z10),(3,.var 27 [zo,(.ow 1149603),(.ow 8),(.ow 1149604)]),(1149600,.arr 37 1),(1149601,.arr 60 1),(1149602,.arr 45 1),(1149603,.arr 37 1),(8,.arr 60 1),(1149604,.arr 45 1)]⟩ (.loop ⟨[(1,(.pt 1 0)),(2,(.pt 2 0)),(3,(.pt 3 0)),(4,zi)],[(1,z0),(2,z10),(3,.var 27 [zo,(.ow 1149603),(.ow 8),(.ow 1149604)]),(1149600,.arr 37 1),(1149601,.arr 60 1),(1149602,.arr 45 1),(1149603,.arr 37 1),(8,.arr 60 1),(1149604,.arr 45 1)]⟩ .leaf))) (.seq (.seq .leaf (.block ⟨[(2,(.pt 2 0)),(3,(.pt 3 0))],[(2,z10),(3,.var 27 [zo,(.ow 1149603),(.ow 8),(.ow 1149604)]),(1149600,.arr 37 1),(1149601,.arr 60 1),(1149602,.arr 45 1),(1149603,.arr 37 1),(8,.arr 60 1),(1149604,.arr 45 1)]⟩ (.loop ⟨[(1,(.pt 1 0)),(2,(.pt 2 0)),(3,(.pt 3 0)),(5,zi)],[(1,z0),(2,z10),(3,.var 27 [zo,(.ow 1149603),(.ow 8),(.ow 1149604)]),(1149600,.arr 37 1),(1149601,.arr 60 1),(1149602,.arr 45 1),(1149603,.arr 37 1),(8,.arr 60 1),(1149604,.arr 45 1)]⟩ .leaf))) .leaf)))) [(123,some 27,s_l2BerthOf_fs),(124,some 45,s_l2CopyOf_fs)] (.cons s_l2BerthOf_ok (.cons s_l2CopyOf_ok .nil)) (by kernel_rfl) (by kernel_rfl) (by kernel_rfl) (fun xs=>by kernel_rfl)
def s_l2Copy.d1 (a b c d e f:C):R:=(bif (decide (b.I<(f.L.length:Int))) then (bif (decide (0≤b.I)) then (bif (decide (b.I<(f.L.length:Int))) then (bif ((((f.L.getD b.I.toNat []).getD 0 .nil).S).toList==a.S.toList) then (some (.ret [b])) else (some (.again [a,.i (w64 (b.I+1)),c,d,e,f]))) else none) else none) else (some (.brk 0 [])))
def s_l2Copy.d2:R:=(some (.ret [.i (-1)]))
def s_l2Copy.d3 (a b c d e:C):R:=(bindBlk 0 (lim (ap6 s_l2Copy.d1) [e,.i 0,a,b,c,d]) (fun xs=>s_l2Copy.d2))
def s_l2Copy:List C→Option (List C):=fun xs=>finR (ap5 s_l2Copy.d3 xs)
def s_l2Copy_fs:FS:=⟨2,⟨[(0,z2),(1,zt)],[]⟩,⟨[(0,zi)],[]⟩,[],s_l2Copy⟩
theorem s_l2Copy_ok:FSOk Tryz.checked.prog T0 55 s_l2Copy_fs:=okOf base0 (fn:=Tryz.f55) (c:=Tryz.f55.body.getD .skip) s_l2Copy_fs (.seq .leaf (.seq (.seq .leaf (.block ⟨[],[]⟩ (.loop ⟨[(1,zt),(2,(.pt 2 0)),(5,zi)],[(2,z0)]⟩ .leaf))) .leaf)) [] .nil (by kernel_rfl) (by kernel_rfl) (by kernel_rfl) (fun xs=>by kernel_rfl)
end
end Go.Ev
namespace Go.Ev
open Go.Proofs
noncomputable section
def s_l8Event.d1 (a b c d e f g h i j k l m n o p q r s t u v w x y z a0 a1 a2 a3:C):R:=(bif (decide (a.I<(a1.L.length:Int))) then (bif (decide (0≤a.I)) then (bif (decide (a.I<(a1.L.length:Int))) then (bif (Op.bytesLess (((a1.L.getD a.I.toNat []).getD 0 .nil).S).toList c.S.toList) then (some (.again [.i (w64 (a.I+1)),b,c,d,e,f,g,h,i,j,k,l,m,n,o,p,q,r,s,t,u,v,w,x,.l y.L,.l z.L,.l a0.L,.l a1.L,.l a2.L,.l a3.L])) else (some (.brk 1 [a,b,c,d,e,f,g,h,i,j,k,l,m,n,o,p,q,r,s,t,u,v,w,x,.l y.L,.l z.L,.l a0.L,.l a1.L,.l a2.L,.l a3.L]))) else none) else none) else (some (.brk 1 [a,b,c,d,e,f,g,h,i,j,k,l,m,n,o,p,q,r,s,t,u,v,w,x,.l y.L,.l z.L,.l a0.L,.l a1.L,.l a2.L,.l a3.L])))
def s_l8Event.d2 (a b c d e f g h i j k l m n o p q r s t u v w x y z a0 a1 a2 a3 a4:C):R:=(bif (decide (0≤a.I)) then (bif (decide (a.I≤(z.L.length:Int))) then (bif (decide (nils.length+((z.L.take a.I.toNat).drop 0).length≤4294967296)) then (call6 (s_l2BerthOf [d,e,f,g,h,i]) fun a5 a6 a7 a8 a9 b0=>(bif (decide ((nils++((z.L.take a.I.toNat).drop 0)).length+(rows [[a5,a6,.l b0.L,a7,a8,a9]]).length≤4294967296)) then (bif (decide (((nils++((z.L.take a.I.toNat).drop 0))++(rows [[a5,a6,.l b0.L,a7,a8,a9]])).length+b.L.length≤4294967296)) then (some (.ret [y,.b true,.l (((nils++((z.L.take a.I.toNat).drop 0))++(rows [[a5,a6,.l b0.L,a7,a8,a9]]))++b.L),.l a3.L,.l a4.L])) else none) else none)) else none) else none) else none)
def s_l8Event.d3 (a b c d e f g h i j k l m n o p q r s t u v w x y z a0 a1 a2 a3:C):R:=(bif (decide (0≤a.I)) then (bif (decide (a.I≤(a1.L.length:Int))) then (bif (decide ((a1.L.length:Int)≤(a1.L.length:Int))) then (bindNrm (bif (decide ((((a1.L.take (a1.L.length:Int).toNat).drop a.I.toNat).length:Int)>0)) then (bif (decide (0<(((a1.L.take (a1.L.length:Int).toNat).drop a.I.toNat).length:Int))) then (bif ((((((a1.L.take (a1.L.length:Int).toNat).drop a.I.toNat).getD 0 []).getD 0 .nil).S).toList==c.S.toList) then (bif (decide (1≤(((a1.L.take (a1.L.length:Int).toNat).drop a.I.toNat).length:Int))) then (bif (decide ((((a1.L.take (a1.L.length:Int).toNat).drop a.I.toNat).length:Int)≤(((a1.L.take (a1.L.length:Int).toNat).drop a.I.toNat).length:Int))) then (some (.nrm [a,.l ((((a1.L.take (a1.L.length:Int).toNat).drop a.I.toNat).take (((a1.L.take (a1.L.length:Int).toNat).drop a.I.toNat).length:Int).toNat).drop 1),b,c,d,e,f,g,h,i,j,k,l,m,n,o,p,q,r,s,t,u,v,w,x,.l a1.L,.l y.L,.l z.L,.l a0.L,.l a2.L,.l a3.L])) else none) else none) else (some (.nrm [a,.l ((a1.L.take (a1.L.length:Int).toNat).drop a.I.toNat),b,c,d,e,f,g,h,i,j,k,l,m,n,o,p,q,r,s,t,u,v,w,x,.l a1.L,.l y.L,.l z.L,.l a0.L,.l a2.L,.l a3.L]))) else none) else (some (.nrm [a,.l ((a1.L.take (a1.L.length:Int).toNat).drop a.I.toNat),b,c,d,e,f,g,h,i,j,k,l,m,n,o,p,q,r,s,t,u,v,w,x,.l a1.L,.l y.L,.l z.L,.l a0.L,.l a2.L,.l a3.L]))) (ap31 s_l8Event.d2)) else none) else none) else none)
def s_l8Event.d4 (a b c d e f g h i j k l m n o p q r s t u v w x y z a0 a1 a2 a3:C):R:=(bif (decide (a.I<(a3.L.length:Int))) then (bif (decide (0≤a.I)) then (bif (decide (a.I<(a3.L.length:Int))) then (bif ((((a3.L.getD a.I.toNat []).getD 11 .nil).S).toList==u.S.toList) then (bif (decide (0≤a.I)) then (bif (decide (a.I<(a3.L.length:Int))) then (some (.again [.i (w64 (a.I+1)),b,c,d,e,f,g,h,i,j,k,l,m,n,o,p,q,r,s,t,u,v,w,x,.l y.L,.l z.L,.l a0.L,.l a1.L,.l a2.L,.l (a3.L.set a.I.toNat (setCs (a3.L.getD a.I.toNat []) 11 [.s (bs #[])]))])) else none) else none) else (some (.again [.i (w64 (a.I+1)),b,c,d,e,f,g,h,i,j,k,l,m,n,o,p,q,r,s,t,u,v,w,x,.l y.L,.l z.L,.l a0.L,.l a1.L,.l a2.L,.l a3.L]))) else none) else none) else (some (.brk 3 [w,x,.l y.L,.l z.L,.l a0.L,.l a1.L,.l a2.L,.l a3.L])))
def s_l8Event.d5 (a b c d e f g h:C):R:=(some (.ret [b,.b true,.l f.L,.l g.L,.l h.L]))
def s_l8Event.d6 (a b c d e f g h i j k l m n o p q r s t u v w x y z a0 a1 a2 a3:C):R:=(bif (decide (a.I<(a3.L.length:Int))) then (bif (decide (0≤a.I)) then (bif (decide (a.I<(a3.L.length:Int))) then (bif (Op.bytesLess (((a3.L.getD a.I.toNat []).getD 0 .nil).S).toList i.S.toList) then (some (.again [.i (w64 (a.I+1)),b,c,d,e,f,g,h,i,j,k,l,m,n,o,p,q,r,s,t,u,v,w,x,.l y.L,.l z.L,.l a0.L,.l a1.L,.l a2.L,.l a3.L])) else (some (.brk 5 [a,b,c,d,e,f,g,h,i,j,k,l,m,n,o,p,q,r,s,t,u,v,w,x,.l y.L,.l z.L,.l a0.L,.l a1.L,.l a2.L,.l a3.L]))) else none) else none) else (some (.brk 5 [a,b,c,d,e,f,g,h,i,j,k,l,m,n,o,p,q,r,s,t,u,v,w,x,.l y.L,.l z.L,.l a0.L,.l a1.L,.l a2.L,.l a3.L])))
def s_l8Event.d7 (a b c d e f g h i j k l m n o p q r s t u v w x y z a0 a1 a2 a3 a4:C):R:=(bif (decide (0≤a.I)) then (bif (decide (a.I≤(z.L.length:Int))) then (bif (decide (nils.length+((z.L.take a.I.toNat).drop 0).length≤4294967296)) then (call12 (s_l2CopyOf [j,k,l,m,n,o,p,q,r,s,t,u]) fun a5 a6 a7 a8 a9 b0 b1 b2 b3 b4 b5 b6=>(bif (decide ((nils++((z.L.take a.I.toNat).drop 0)).length+(rows [[a5,a6,a7,a8,a9,b0,b1,.l b6.L,b2,b3,b4,b5]]).length≤4294967296)) then (bif (decide (((nils++((z.L.take a.I.toNat).drop 0))++(rows [[a5,a6,a7,a8,a9,b0,b1,.l b6.L,b2,b3,b4,b5]])).length+b.L.length≤4294967296)) then (some (.ret [y,.b true,.l a3.L,.l a4.L,.l (((nils++((z.L.take a.I.toNat).drop 0))++(rows [[a5,a6,a7,a8,a9,b0,b1,.l b6.L,b2,b3,b4,b5]]))++b.L)])) else none) else none)) else none) else none) else none)
def s_l8Event.d8 (a b c d e f g h i j k l m n o p q r s t u v w x y z a0 a1 a2 a3:C):R:=(bif (decide (0≤a.I)) then (bif (decide (a.I≤(a3.L.length:Int))) then (bif (decide ((a3.L.length:Int)≤(a3.L.length:Int))) then (bindNrm (bif (decide ((((a3.L.take (a3.L.length:Int).toNat).drop a.I.toNat).length:Int)>0)) then (bif (decide (0<(((a3.L.take (a3.L.length:Int).toNat).drop a.I.toNat).length:Int))) then (bif ((((((a3.L.take (a3.L.length:Int).toNat).drop a.I.toNat).getD 0 []).getD 0 .nil).S).toList==i.S.toList) then (bif (decide (1≤(((a3.L.take (a3.L.length:Int).toNat).drop a.I.toNat).length:Int))) then (bif (decide ((((a3.L.take (a3.L.length:Int).toNat).drop a.I.toNat).length:Int)≤(((a3.L.take (a3.L.length:Int).toNat).drop a.I.toNat).length:Int))) then (some (.nrm [a,.l ((((a3.L.take (a3.L.length:Int).toNat).drop a.I.toNat).take (((a3.L.take (a3.L.length:Int).toNat).drop a.I.toNat).length:Int).toNat).drop 1),b,c,d,e,f,g,h,i,j,k,l,m,n,o,p,q,r,s,t,u,v,w,x,.l a3.L,.l y.L,.l z.L,.l a0.L,.l a1.L,.l a2.L])) else none) else none) else (some (.nrm [a,.l ((a3.L.take (a3.L.length:Int).toNat).drop a.I.toNat),b,c,d,e,f,g,h,i,j,k,l,m,n,o,p,q,r,s,t,u,v,w,x,.l a3.L,.l y.L,.l z.L,.l a0.L,.l a1.L,.l a2.L]))) else none) else (some (.nrm [a,.l ((a3.L.take (a3.L.length:Int).toNat).drop a.I.toNat),b,c,d,e,f,g,h,i,j,k,l,m,n,o,p,q,r,s,t,u,v,w,x,.l a3.L,.l y.L,.l z.L,.l a0.L,.l a1.L,.l a2.L]))) (ap31 s_l8Event.d7)) else none) else none) else none)
def s_l8Event.d9 (a b c d e f g h i j k l m n o p q r s t u v w x y:C):R:=(call4 (s_l2Fleet [a,b,c,d]) fun z a0 a1 a2=>(bif (e.I==1) then (bindBlk 1 (lim (ap30 s_l8Event.d1) [.i 0,e,f,g,h,i,j,k,l,m,n,o,p,q,r,s,t,u,v,w,x,y,.b false,z,.l nils,.l nils,.l nils,.l a0.L,.l a1.L,.l a2.L]) (ap30 s_l8Event.d3)) else (bif (e.I==2) then (call1 (s_l2Berth [z,.l a0.L,.l a1.L,.l a2.L,x]) fun a3=>(bif (decide (a3.I<0)) then (some (.ret [z,.b false,.l a0.L,.l a1.L,.l a2.L])) else (bif (decide (0≤a3.I)) then (bif (decide (a3.I≤(a0.L.length:Int))) then (bif (decide (nils.length+((a0.L.take a3.I.toNat).drop 0).length≤4294967296)) then (bif (decide (0≤(w64 (a3.I+1)))) then (bif (decide ((w64 (a3.I+1))≤(a0.L.length:Int))) then (bif (decide ((a0.L.length:Int)≤(a0.L.length:Int))) then (bif (decide ((nils++((a0.L.take a3.I.toNat).drop 0)).length+((a0.L.take (a0.L.length:Int).toNat).drop (w64 (a3.I+1)).toNat).length≤4294967296)) then (bindBlk 3 (lim (ap30 s_l8Event.d4) [.i 0,e,f,g,h,i,j,k,l,m,n,o,p,q,r,s,t,u,v,w,x,y,.b false,z,.l nils,.l nils,.l nils,.l ((nils++((a0.L.take a3.I.toNat).drop 0))++((a0.L.take (a0.L.length:Int).toNat).drop (w64 (a3.I+1)).toNat)),.l a1.L,.l a2.L]) (ap8 s_l8Event.d5)) else none) else none) else none) else none) else none) else none) else none))) else (bif (e.I==3) then (bindBlk 5 (lim (ap30 s_l8Event.d6) [.i 0,e,f,g,h,i,j,k,l,m,n,o,p,q,r,s,t,u,v,w,x,y,.b false,z,.l nils,.l nils,.l nils,.l a0.L,.l a1.L,.l a2.L]) (ap30 s_l8Event.d8)) else (bif (e.I==4) then (call1 (s_l2Copy [z,.l a0.L,.l a1.L,.l a2.L,x]) fun a4=>(bif (decide (a4.I<0)) then (some (.ret [z,.b false,.l a0.L,.l a1.L,.l a2.L])) else (bif (decide (0≤a4.I)) then (bif (decide (a4.I≤(a2.L.length:Int))) then (bif (decide (nils.length+((a2.L.take a4.I.toNat).drop 0).length≤4294967296)) then (bif (decide (0≤(w64 (a4.I+1)))) then (bif (decide ((w64 (a4.I+1))≤(a2.L.length:Int))) then (bif (decide ((a2.L.length:Int)≤(a2.L.length:Int))) then (bif (decide ((nils++((a2.L.take a4.I.toNat).drop 0)).length+((a2.L.take (a2.L.length:Int).toNat).drop (w64 (a4.I+1)).toNat).length≤4294967296)) then (some (.ret [z,.b true,.l a0.L,.l a1.L,.l ((nils++((a2.L.take a4.I.toNat).drop 0))++((a2.L.take (a2.L.length:Int).toNat).drop (w64 (a4.I+1)).toNat))])) else none) else none) else none) else none) else none) else none) else none))) else (bif (e.I==5) then (call1 (s_l2Copy [z,.l a0.L,.l a1.L,.l a2.L,x]) fun a5=>(bif (!(decide (a5.I<0))) then (bif (!(y.S.toList==(bs #[]).toList)) then (call1 (s_l2Berth [z,.l a0.L,.l a1.L,.l a2.L,y]) fun a6=>(bif (decide (a6.I<0)) then (some (.ret [z,.b false,.l a0.L,.l a1.L,.l a2.L])) else (bif (decide (0≤a5.I)) then (bif (decide (a5.I<(a2.L.length:Int))) then (some (.ret [z,.b true,.l a0.L,.l a1.L,.l (a2.L.set a5.I.toNat (setCs (a2.L.getD a5.I.toNat []) 11 [y]))])) else none) else none))) else (bif (decide (0≤a5.I)) then (bif (decide (a5.I<(a2.L.length:Int))) then (some (.ret [z,.b true,.l a0.L,.l a1.L,.l (a2.L.set a5.I.toNat (setCs (a2.L.getD a5.I.toNat []) 11 [y]))])) else none) else none)) else (some (.ret [z,.b false,.l a0.L,.l a1.L,.l a2.L])))) else (some (.ret [z,.b true,.l a0.L,.l a1.L,.l a2.L]))))))))
def s_l8Event:List C→Option (List C):=fun xs=>finR (ap25 s_l8Event.d9 xs)
def s_l8Event_fs:FS:=⟨2,⟨[(0,z2),(1,(.ag [zi,zt,zt,(zl 9),zi,zi,zo,zt,zt,zi,zi,zi,zi,zt,(zl 109),zi,zt,zt,zt,zt,zt]))],[]⟩,⟨[(0,(.tu [(.ag [zo,(.ow 3000),(.ow 3001),(.ow 3002)]),zo]))],[(3000,.arr 37),(3001,.arr 60 1),(3002,.arr 45)]⟩,[],s_l8Event⟩
theorem s_l8Event_ok:FSOk Tryz.checked.prog T0 95 s_l8Event_fs:=okOfT base0 [68,165] false (fn:=Tryz.f95) (c:=Tryz.f95.body.getD .skip) s_l8Event_fs (.seq .leaf (.seq .leaf (.seq (.seq .leaf (.skip (.seq .leaf (.cond (.seq .leaf (.seq (.block ⟨[(3,(.pt 3 0)),(4,(.pt 4 0)),(6,(.pt 6 0)),(7,zi)],[(3,z4),(4,.var 27 [zo,(.ow 1138000),(.ow 1138001),(.ow 1138002)]),(6,.var 27 [zo,(.ow 72632),(.ow 72633),(.ow 72634)]),(1138000,.arr 37 1),(1138001,.arr 60 1),(1138002,.arr 45 1),(72632,.arr 37 1),(72633,.arr 60 1),(72634,.arr 45 1)]⟩ (.loop ⟨[(3,(.pt 3 0)),(4,(.pt 4 0)),(6,(.pt 6 0)),(7,zi)],[(3,z4),(4,.var 27 [zo,(.ow 1138000),(.ow 1138001),(.ow 1138002)]),(6,.var 27 [zo,(.ow 72632),(.ow 72633),(.ow 72634)]),(1138000,.arr 37 1),(1138001,.arr 60 1),(1138002,.arr 45 1),(72632,.arr 37 1),(72633,.arr 60 1),(72634,.arr 45 1)]⟩ .leaf)) (.seq .leaf (.seq (.join ⟨[(3,(.pt 3 0)),(4,(.pt 4 0)),(6,(.pt 6 0)),(7,zi),(8,(zl 37))],[(3,z4),(4,.var 27 [zo,(.ow 1138000),(.ow 1138001),(.ow 1138002)]),(6,.var 27 [zo,(zl 37),(.ow 72633),(.ow 72634)]),(1138000,.arr 37 1),(1138001,.arr 60 1),(1138002,.arr 45 1),(72633,.arr 60 1),(72634,.arr 45 1)]⟩ (.frz [72632] .leaf)) .leaf)))) (.seq .leaf (.cond (.seq .leaf (.seq .leaf (.seq .leaf (.seq .leaf (.block ⟨[(4,(.pt 4 0)),(6,(.pt 6 0))],[(4,.var 27 [zo,(.ow 1141600),(.ow 1141601),(.ow 1141602)]),(6,.var 27 [zo,(.ow 82),(.ow 72633),(.ow 72634)]),(1141600,.arr 37 1),(1141601,.arr 60 1),(1141602,.arr 45 1),(82,.arr 37),(72633,.arr 60 1),(72634,.arr 45 1)]⟩ (.loop ⟨[(3,(.pt 3 0)),(4,(.pt 4 0)),(6,(.pt 6 0)),(10,zi)],[(3,z4),(4,.var 27 [zo,(.ow 1141600),(.ow 1141601),(.ow 1141602)]),(6,.var 27 [zo,(.ow 82),(.ow 72633),(.ow 72634)]),(1141600,.arr 37 1),(1141601,.arr 60 1),(1141602,.arr 45 1),(82,.arr 37),(72633,.arr 60 1),(72634,.arr 45 1)]⟩ .leaf)))))) (.seq .leaf (.cond (.seq .leaf (.seq (.block ⟨[(3,(.pt 3 0)),(4,(.pt 4 0)),(6,(.pt 6 0)),(11,zi)],[(3,z4),(4,.var 27 [zo,(.ow 1143800),(.ow 1143801),(.ow 1143802)]),(6,.var 27 [zo,(.ow 72632),(.ow 72633),(.ow 72634)]),(1143800,.arr 37 1),(1143801,.arr 60 1),(1143802,.arr 45 1),(72632,.arr 37 1),(72633,.arr 60 1),(72634,.arr 45 1)]⟩ (.loop ⟨[(3,(.pt 3 0)),(4,(.pt 4 0)),(6,(.pt 6 0)),(11,zi)],[(3,z4),(4,.var 27 [zo,(.ow 1143800),(.ow 1143801),(.ow 1143802)]),(6,.var 27 [zo,(.ow 72632),(.ow 72633),(.ow 72634)]),(1143800,.arr 37 1),(1143801,.arr 60 1),(1143802,.arr 45 1),(72632,.arr 37 1),(72633,.arr 60 1),(72634,.arr 45 1)]⟩ .leaf)) (.seq .leaf (.seq (.join ⟨[(3,(.pt 3 0)),(4,(.pt 4 0)),(6,(.pt 6 0)),(11,zi),(12,(zl 45))],[(3,z4),(4,.var 27 [zo,(.ow 1143800),(.ow 1143801),(.ow 1143802)]),(6,.var 27 [zo,(.ow 72632),(.ow 72633),(zl 45)]),(1143800,.arr 37 1),(1143801,.arr 60 1),(1143802,.arr 45 1),(72632,.arr 37 1),(72633,.arr 60 1)]⟩ (.frz [72634] .leaf)) .leaf)))) .leaf)))))))) .leaf))) [(55,some 175,s_l2Copy_fs),(55,some 197,s_l2Copy_fs),(56,some 78,s_l2Berth_fs),(56,some 208,s_l2Berth_fs),(85,some 16,s_l2Fleet_fs),(123,some 67,s_l2BerthOf_fs),(124,some 164,s_l2CopyOf_fs)] (.cons s_l2Copy_ok (.cons s_l2Copy_ok (.cons s_l2Berth_ok (.cons s_l2Berth_ok (.cons s_l2Fleet_ok (.cons s_l2BerthOf_ok (.cons s_l2CopyOf_ok .nil))))))) (by kernel_rfl) (by kernel_rfl) (by kernel_rfl) (fun xs=>by kernel_rfl)
def s_PilotHappen.d1 (a b c d e f g h i j k l m n o p q r s t u v w x y z a0 a1 a2 a3:C):R:=(bif (!a.B) then (some (.ret [.b false,.i 3,.l nils,.l nils,.l nils])) else (call1 (s_l1In [b,.i 1,.i 5]) fun a4=>(bif (!a4.B) then (some (.ret [.b false,.i 4,.l nils,.l nils,.l nils])) else (some (.ret [x,.i 0,.l a1.L,.l a2.L,.l a3.L])))))
def s_PilotHappen.d2 (a b c d e f g h i j k l m n o p q r s t u v w x y:C):R:=(call1 (s_PilotValid [a,b,c,d]) fun z=>(bif (!z.B) then (some (.ret [.b false,.i 1,.l nils,.l nils,.l nils])) else (call5 (s_l8Event [a,b,c,d,e,f,g,h,i,j,k,l,m,n,o,p,q,r,s,t,u,v,w,x,y]) fun a0 a1 a2 a3 a4=>(bindNrm (bif a1.B then (call1 (s_PilotValid [a0,.l a2.L,.l a3.L,.l a4.L]) fun a5=>(bif (!a5.B) then (some (.ret [.b false,.i 2,.l nils,.l nils,.l nils])) else (some (.nrm [.b a1.B,e,f,g,h,i,j,k,l,m,n,o,p,q,r,s,t,u,v,w,x,y,.b false,a0,.l nils,.l nils,.l nils,.l a2.L,.l a3.L,.l a4.L])))) else (some (.nrm [.b a1.B,e,f,g,h,i,j,k,l,m,n,o,p,q,r,s,t,u,v,w,x,y,.b false,a0,.l nils,.l nils,.l nils,.l a2.L,.l a3.L,.l a4.L]))) (ap30 s_PilotHappen.d1)))))
def s_PilotHappen:List C→Option (List C):=fun xs=>finR (ap25 s_PilotHappen.d2 xs)
def s_PilotHappen_fs:FS:=⟨2,⟨[(0,z2),(1,(.ag [zi,zt,zt,(zl 9),zi,zi,zo,zt,zt,zi,zi,zi,zi,zt,(zl 109),zi,zt,zt,zt,zt,zt]))],[]⟩,⟨[(0,(.tu [(.ag [zo,(.ow 3000),(.ow 3001),(.ow 3002)]),zi]))],[(3000,.arr 37),(3001,.arr 60 1),(3002,.arr 45)]⟩,[],s_PilotHappen⟩
theorem s_PilotHappen_ok:FSOk Tryz.checked.prog T0 47 s_PilotHappen_fs:=okOf base0 (fn:=Tryz.f47) (c:=Tryz.f47.body.getD .skip) s_PilotHappen_fs (.seq .leaf (.seq .leaf (.seq .leaf (.seq (.join ⟨[(3,(.pt 3 0)),(4,(.pt 4 0)),(6,(.pt 6 0)),(7,zo)],[(3,z4),(4,.var 27 [zo,(.ow 1076800),(.ow 1076801),(.ow 1076802)]),(6,.var 27 [zo,(.ow 68536),(.ow 68537),(.ow 68538)]),(1076800,.arr 37 1),(1076801,.arr 60 1),(1076802,.arr 45 1),(68536,.arr 37),(68537,.arr 60 1),(68538,.arr 45)]⟩ .leaf) .leaf)))) [(15,some 9,s_PilotValid_fs),(15,some 21,s_PilotValid_fs),(59,some 30,s_l1In_fs),(95,some 15,s_l8Event_fs)] (.cons s_PilotValid_ok (.cons s_PilotValid_ok (.cons s_l1In_ok (.cons s_l8Event_ok .nil)))) (by kernel_rfl) (by kernel_rfl) (by kernel_rfl) (fun xs=>by kernel_rfl)
def s_l3Marks.d1 (a b c d e f:C):R:=(bif (decide (nils.length+c.L.length≤4294967296)) then (bif (decide ((bs #[122,111,110,101,61]).size+b.S.size≤4294967296)) then (bif (decide ((nils++c.L).length+(rows [[.s ((bs #[122,111,110,101,61])++b.S)]]).length≤4294967296)) then (some (.ret [.l ((nils++c.L)++(rows [[.s ((bs #[122,111,110,101,61])++b.S)]]))])) else none) else none) else none)
def s_l3Marks:List C→Option (List C):=fun xs=>finR (ap6 s_l3Marks.d1 xs)
def s_l3Marks_fs:FS:=⟨1,⟨[(0,z8)],[]⟩,⟨[(0,(.ow 3000))],[(3000,.arr 9 1)]⟩,[],s_l3Marks⟩
theorem s_l3Marks_ok:FSOk Tryz.checked.prog T0 138 s_l3Marks_fs:=okOf base0 (fn:=Tryz.f138) (c:=Tryz.f138.body.getD .skip) s_l3Marks_fs .leaf [] .nil (by kernel_rfl) (by kernel_rfl) (by kernel_rfl) (fun xs=>by kernel_rfl)
def s_l1Meets.d1 (G0:List C→Option (List C)) (a b c d e f g:C):R:=(bif c.B then (some (.ret [.b true])) else (some (.again [a,.i (w64 (b.I+1)),d,e,f,g])))
def s_l1Meets.d2 (G0:List C→Option (List C)) (a b c d e f:C):R:=(bif (decide (b.I<(a.L.length:Int))) then (bif (decide (0≤b.I)) then (bif (decide (b.I<(a.L.length:Int))) then (call3 (s_l1Mark [((a.L.getD b.I.toNat []).getD 0 .nil)]) fun g h i=>(bindNrm (bif i.B then (bif (g.S.toList==d.S.toList) then (bif (!(c.I==1)) then (some (.nrm [a,b,.b (h.S.toList==e.S.toList),c,d,e,f])) else (some (.nrm [a,b,.b true,c,d,e,f]))) else (some (.nrm [a,b,.b false,c,d,e,f]))) else (some (.nrm [a,b,.b false,c,d,e,f]))) (ap7 (s_l1Meets.d1 G0)))) else none) else none) else (some (.brk 1 [])))
def s_l1Meets.d3 (G0:List C→Option (List C)):R:=(some (.ret [.b false]))
def s_l1Meets.d4 (G0:List C→Option (List C)) (a b c d:C):R:=(bif (decide (0≤c.I)) then (bif (decide (c.I<(a.L.length:Int))) then (bif (((a.L.getD c.I.toNat []).getD 0 .nil).I==0) then (some (.ret [.b true])) else (bif (((a.L.getD c.I.toNat []).getD 0 .nil).I==3) then (bif (decide (0≤c.I)) then (bif (decide (c.I<(b.L.length:Int))) then (bif (decide (0<((((b.L.getD c.I.toNat []).getD 0 .nil).L).length:Int))) then (call1 (G0 [a,b,(((((b.L.getD c.I.toNat []).getD 0 .nil).L).getD 0 []).getD 0 .nil),d]) fun e=>(some (.ret [.b (!e.B)]))) else none) else none) else none) else (bif (((a.L.getD c.I.toNat []).getD 0 .nil).I==4) then (bif (decide (0≤c.I)) then (bif (decide (c.I<(b.L.length:Int))) then (bif (decide (0<((((b.L.getD c.I.toNat []).getD 0 .nil).L).length:Int))) then (call1 (G0 [a,b,(((((b.L.getD c.I.toNat []).getD 0 .nil).L).getD 0 []).getD 0 .nil),d]) fun f=>(bif f.B then (bif (decide (0≤c.I)) then (bif (decide (c.I<(b.L.length:Int))) then (bif (decide (1<((((b.L.getD c.I.toNat []).getD 0 .nil).L).length:Int))) then (call1 (G0 [a,b,(((((b.L.getD c.I.toNat []).getD 0 .nil).L).getD 1 []).getD 0 .nil),d]) fun g=>(some (.ret [.b g.B]))) else none) else none) else none) else (some (.ret [.b false])))) else none) else none) else none) else (bif (((a.L.getD c.I.toNat []).getD 0 .nil).I==5) then (bif (decide (0≤c.I)) then (bif (decide (c.I<(b.L.length:Int))) then (bif (decide (0<((((b.L.getD c.I.toNat []).getD 0 .nil).L).length:Int))) then (call1 (G0 [a,b,(((((b.L.getD c.I.toNat []).getD 0 .nil).L).getD 0 []).getD 0 .nil),d]) fun h=>(bif (!h.B) then (bif (decide (0≤c.I)) then (bif (decide (c.I<(b.L.length:Int))) then (bif (decide (1<((((b.L.getD c.I.toNat []).getD 0 .nil).L).length:Int))) then (call1 (G0 [a,b,(((((b.L.getD c.I.toNat []).getD 0 .nil).L).getD 1 []).getD 0 .nil),d]) fun i=>(some (.ret [.b i.B]))) else none) else none) else none) else (some (.ret [.b true])))) else none) else none) else none) else (bindBlk 1 (lim (ap6 (s_l1Meets.d2 G0)) [d,.i 0,((a.L.getD c.I.toNat []).getD 0 .nil),((a.L.getD c.I.toNat []).getD 1 .nil),((a.L.getD c.I.toNat []).getD 2 .nil),((a.L.getD c.I.toNat []).getD 3 .nil)]) (fun xs=>(s_l1Meets.d3 G0))))))) else none) else none)
def s_l1Meets.step (G0:List C→Option (List C)):List C→Option (List C):=fun xs=>finR (ap4 (s_l1Meets.d4 G0) xs)
def s_l1Meets_fs (G:List C→Option (List C)):FS:=⟨4,⟨[(0,(.ag [(.d (.sl 184))])),(1,(.d (.sl 73))),(2,(.d (.int .i64))),(3,(.d (.sl 9)))],[]⟩,⟨[(0,(.d .bool))],[]⟩,[],G⟩
theorem s_l1Meets_st {G0:List C→Option (List C)} (h0:FSOk Tryz.checked.prog T0 169 (s_l1Meets_fs G0)):FSOk Tryz.checked.prog T0 169 (s_l1Meets_fs (s_l1Meets.step G0)):=okOf base0 (fn:=Tryz.f169) (c:=Tryz.f169.body.getD .skip) (s_l1Meets_fs (s_l1Meets.step G0)) (.seq .leaf (.seq .leaf (.seq .leaf (.seq (.seq .leaf (.block ⟨[],[]⟩ (.loop ⟨[(3,(.d (.sl 9))),(9,(.pt 9 0)),(10,(.d (.int .i64)))],[(9,.var 184 [(.d (.int .i64)),(.d .str),(.d .str),(.d (.int .i64))])]⟩ (.seq .leaf (.seq (.skip (.seq .leaf (.seq (.join ⟨[(3,(.d (.sl 9))),(9,(.pt 9 0)),(10,(.d (.int .i64))),(116,(.d .bool))],[(9,.var 184 [(.d (.int .i64)),(.d .str),(.d .str),(.d (.int .i64))])]⟩ .leaf) .leaf))) .leaf))))) .leaf)))) [(139,some 95,s_l1Mark_fs),(169,some 34,(s_l1Meets_fs G0)),(169,some 47,(s_l1Meets_fs G0)),(169,some 58,(s_l1Meets_fs G0)),(169,some 71,(s_l1Meets_fs G0)),(169,some 82,(s_l1Meets_fs G0))] (.cons s_l1Mark_ok (.cons h0 (.cons h0 (.cons h0 (.cons h0 (.cons h0 .nil)))))) (by kernel_rfl) (by kernel_rfl) (by kernel_rfl) (fun xs=>by kernel_rfl)
def s_l1Meets.g:Nat→Nat→List C→Option (List C)
 |0,_=>fun _=>none
 |k+1,0=>s_l1Meets.step (s_l1Meets.g k 0)
 |_,_=>fun _=>none
theorem s_l1Meets_rec:∀k:Nat,FSOk Tryz.checked.prog T0 169 (s_l1Meets_fs (s_l1Meets.g k 0))
 |0=>noneOk (fn:=Tryz.f169) (c:=Tryz.f169.body.getD .skip) (4) (⟨[(0,(.ag [(.d (.sl 184))])),(1,(.d (.sl 73))),(2,(.d (.int .i64))),(3,(.d (.sl 9)))],[]⟩) (⟨[(0,(.d .bool))],[]⟩) [] (by kernel_rfl) (by kernel_rfl) (by kernel_rfl)
 |k+1=>s_l1Meets_st (s_l1Meets_rec k)
def s_l1Meets:List C→Option (List C):=s_l1Meets.g FUEL 0
theorem s_l1Meets_ok:FSOk Tryz.checked.prog T0 169 (s_l1Meets_fs s_l1Meets):=s_l1Meets_rec FUEL
def s_PilotMeets.d1 (a b:C):R:=(call1 (s_l1Valid [a]) fun c=>(bif (!c.B) then (some (.ret [.b false])) else (call2 (s_l1Kids [a]) fun d e=>(call1 (s_l1Meets [a,.l e.L,.i (w64 ((a.L.length:Int)-1)),b]) fun f=>(some (.ret [.b f.B]))))))
def s_PilotMeets:List C→Option (List C):=fun xs=>finR (ap2 s_PilotMeets.d1 xs)
def s_PilotMeets_fs:FS:=⟨2,⟨[(0,(.ag [(zl 184)])),(1,(zl 9))],[]⟩,⟨[(0,zo)],[]⟩,[],s_PilotMeets⟩
theorem s_PilotMeets_ok:FSOk Tryz.checked.prog T0 137 s_PilotMeets_fs:=okOf base0 (fn:=Tryz.f137) (c:=Tryz.f137.body.getD .skip) s_PilotMeets_fs .leaf [(167,some 8,s_l1Valid_fs),(168,some 12,s_l1Kids_fs),(169,some 22,(s_l1Meets_fs s_l1Meets))] (.cons s_l1Valid_ok (.cons s_l1Kids_ok (.cons s_l1Meets_ok .nil))) (by kernel_rfl) (by kernel_rfl) (by kernel_rfl) (fun xs=>by kernel_rfl)
def s_l3Select.d1 (a b c d e f g:C):R:=(call2 (s_PilotParse [a]) fun h i=>(bif (i.I==0) then (call1 (s_l3Marks [b,c,d,e,f,g]) fun j=>(call1 (s_PilotMeets [h,.l j.L]) fun k=>(some (.ret [.b k.B])))) else (some (.ret [.b false]))))
def s_l3Select:List C→Option (List C):=fun xs=>finR (ap7 s_l3Select.d1 xs)
def s_l3Select_fs:FS:=⟨2,⟨[(0,zt),(1,z8)],[]⟩,⟨[(0,zo)],[]⟩,[],s_l3Select⟩
theorem s_l3Select_ok:FSOk Tryz.checked.prog T0 105 s_l3Select_fs:=okOf base0 (fn:=Tryz.f105) (c:=Tryz.f105.body.getD .skip) s_l3Select_fs .leaf [(136,some 9,s_PilotParse_fs),(137,some 18,s_PilotMeets_fs),(138,some 17,s_l3Marks_fs)] (.cons s_PilotParse_ok (.cons s_PilotMeets_ok (.cons s_l3Marks_ok .nil))) (by kernel_rfl) (by kernel_rfl) (by kernel_rfl) (fun xs=>by kernel_rfl)
def s_l3ZoneOf.d1 (a b c d e:C):R:=(call1 (s_l2Berth [a,b,c,d,e]) fun f=>(bif (decide (f.I<0)) then (some (.ret [.s (bs #[])])) else (bif (decide (0≤f.I)) then (bif (decide (f.I<(b.L.length:Int))) then (some (.ret [((b.L.getD f.I.toNat []).getD 1 .nil)])) else none) else none)))
def s_l3ZoneOf:List C→Option (List C):=fun xs=>finR (ap5 s_l3ZoneOf.d1 xs)
def s_l3ZoneOf_fs:FS:=⟨2,⟨[(0,z2),(1,zt)],[]⟩,⟨[(0,zt)],[]⟩,[],s_l3ZoneOf⟩
theorem s_l3ZoneOf_ok:FSOk Tryz.checked.prog T0 116 s_l3ZoneOf_fs:=okOf base0 (fn:=Tryz.f116) (c:=Tryz.f116.body.getD .skip) s_l3ZoneOf_fs .leaf [(56,some 8,s_l2Berth_fs)] (.cons s_l2Berth_ok .nil) (by kernel_rfl) (by kernel_rfl) (by kernel_rfl) (fun xs=>by kernel_rfl)
def s_l3Together.d1 (a b c d e f g h i j k l m n o p q r s t u v w x y z a0 a1 a2 a3 a4 a5 a6 a7 a8:C):R:=(call1 (s_l3ZoneOf [b,c,d,e,a8]) fun a9=>(bif (a9.S.toList==s.S.toList) then (bif (!(a5.I==2)) then (bif (n.I==2) then (some (.ret [.b true])) else (some (.brk 1 [a,b,c,d,e,f,g,h,i,j,k,l,m,n,o,p,q,r,s,t,u,v,w]))) else (some (.ret [.b true]))) else (some (.brk 1 [a,b,c,d,e,f,g,h,i,j,k,l,m,n,o,p,q,r,s,t,u,v,w]))))
def s_l3Together.d2 (a b c d e f g h i j k l m n o p q r s t u v w:C):R:=(some (.again [.i (w64 (a.I+1)),b,c,d,e,f,g,h,i,j,k,l,m,n,o,p,q,r,s,t,u,v,w]))
def s_l3Together.d3 (a b c d e f g h i j k l m n o p q r s t u v w:C):R:=(bif (decide (a.I<(e.L.length:Int))) then (bindBlk 1 (bif (decide (0≤a.I)) then (bif (decide (a.I<(e.L.length:Int))) then (bif (!((((e.L.getD a.I.toNat []).getD 0 .nil).S).toList==f.S.toList)) then (bif (!(!((((e.L.getD a.I.toNat []).getD 1 .nil).S).toList==g.S.toList))) then (bif ((((e.L.getD a.I.toNat []).getD 11 .nil).S).toList==(bs #[]).toList) then (some (.brk 1 [a,b,c,d,e,f,g,h,i,j,k,l,m,n,o,p,q,r,s,t,u,v,w])) else (bindNrm (bif ((((e.L.getD a.I.toNat []).getD 11 .nil).S).toList==r.S.toList) then (bif (!(((e.L.getD a.I.toNat []).getD 8 .nil).I !=0)) then (bif (n.I !=0) then (some (.ret [.b true])) else (some (.nrm [a,b,c,d,e,f,g,h,i,j,k,l,m,n,o,p,q,r,s,t,u,v,w,((e.L.getD a.I.toNat []).getD 0 .nil),((e.L.getD a.I.toNat []).getD 1 .nil),((e.L.getD a.I.toNat []).getD 2 .nil),((e.L.getD a.I.toNat []).getD 3 .nil),((e.L.getD a.I.toNat []).getD 4 .nil),((e.L.getD a.I.toNat []).getD 5 .nil),((e.L.getD a.I.toNat []).getD 6 .nil),((e.L.getD a.I.toNat []).getD 7 .nil),((e.L.getD a.I.toNat []).getD 8 .nil),((e.L.getD a.I.toNat []).getD 9 .nil),((e.L.getD a.I.toNat []).getD 10 .nil),((e.L.getD a.I.toNat []).getD 11 .nil)]))) else (some (.ret [.b true]))) else (some (.nrm [a,b,c,d,e,f,g,h,i,j,k,l,m,n,o,p,q,r,s,t,u,v,w,((e.L.getD a.I.toNat []).getD 0 .nil),((e.L.getD a.I.toNat []).getD 1 .nil),((e.L.getD a.I.toNat []).getD 2 .nil),((e.L.getD a.I.toNat []).getD 3 .nil),((e.L.getD a.I.toNat []).getD 4 .nil),((e.L.getD a.I.toNat []).getD 5 .nil),((e.L.getD a.I.toNat []).getD 6 .nil),((e.L.getD a.I.toNat []).getD 7 .nil),((e.L.getD a.I.toNat []).getD 8 .nil),((e.L.getD a.I.toNat []).getD 9 .nil),((e.L.getD a.I.toNat []).getD 10 .nil),((e.L.getD a.I.toNat []).getD 11 .nil)]))) (ap35 s_l3Together.d1))) else (some (.brk 1 [a,b,c,d,e,f,g,h,i,j,k,l,m,n,o,p,q,r,s,t,u,v,w]))) else (some (.brk 1 [a,b,c,d,e,f,g,h,i,j,k,l,m,n,o,p,q,r,s,t,u,v,w]))) else none) else none) (ap23 s_l3Together.d2)) else (some (.brk 0 [])))
def s_l3Together.d4:R:=(some (.ret [.b false]))
def s_l3Together.d5 (a b c d e f g h i j k l m n o p q r s t u v:C):R:=(bindBlk 0 (lim (ap23 s_l3Together.d3) [.i 0,a,b,c,d,e,f,g,h,i,j,k,l,m,n,o,p,q,r,s,t,u,v]) (fun xs=>s_l3Together.d4))
def s_l3Together:List C→Option (List C):=fun xs=>finR (ap22 s_l3Together.d5 xs)
def s_l3Together_fs:FS:=⟨3,⟨[(0,z2),(1,z6),(2,z8)],[]⟩,⟨[(0,zo)],[]⟩,[],s_l3Together⟩
theorem s_l3Together_ok:FSOk Tryz.checked.prog T0 106 s_l3Together_fs:=okOf base0 (fn:=Tryz.f106) (c:=Tryz.f106.body.getD .skip) s_l3Together_fs (.seq .leaf (.seq (.seq .leaf (.block ⟨[],[]⟩ (.loop ⟨[(3,(.pt 3 0)),(4,(.pt 4 0)),(5,(.pt 5 0)),(7,zi)],[(3,z0),(4,z1),(5,z5)]⟩ (.seq .leaf (.seq (.block ⟨[(3,(.pt 3 0)),(4,(.pt 4 0)),(5,(.pt 5 0)),(7,zi)],[(3,z0),(4,z1),(5,z5)]⟩ (.seq .leaf (.seq .leaf (.seq (.join ⟨[(3,(.pt 3 0)),(4,(.pt 4 0)),(5,(.pt 5 0)),(7,zi),(8,(.pt 8 0))],[(3,z0),(4,z1),(5,z5),(8,z1)]⟩ .leaf) .leaf)))) .leaf))))) .leaf)) [(116,some 56,s_l3ZoneOf_fs)] (.cons s_l3ZoneOf_ok .nil) (by kernel_rfl) (by kernel_rfl) (by kernel_rfl) (fun xs=>by kernel_rfl)
def s_l3Far.d1 (a b c d e f g h i j k l m n o p q r s t u v w x:C):R:=(some (.again [a,.i (w64 (b.I+1)),c,d,e,f,g,h,i,j,k,l,m,n,o,p,q,r,s,t,u,v,w,x]))
def s_l3Far.d2 (a b c d e f g h i j k l m n o p q r s t u v w x:C):R:=(bif (decide (b.I<(f.L.length:Int))) then (bindBlk 1 (bif (decide (0≤b.I)) then (bif (decide (b.I<(f.L.length:Int))) then (bif (!((((f.L.getD b.I.toNat []).getD 0 .nil).S).toList==g.S.toList)) then (bif (!(!((((f.L.getD b.I.toNat []).getD 1 .nil).S).toList==p.S.toList))) then (bif ((((f.L.getD b.I.toNat []).getD 11 .nil).S).toList==(bs #[]).toList) then (some (.brk 1 [a,b,c,d,e,f,g,h,i,j,k,l,m,n,o,p,q,r,s,t,u,v,w,x])) else (call1 (s_l3ZoneOf [c,d,e,f,((f.L.getD b.I.toNat []).getD 11 .nil)]) fun y=>(bif (y.S.toList==t.S.toList) then (some (.ret [.b false])) else (some (.brk 1 [.b true,b,c,d,e,f,g,h,i,j,k,l,m,n,o,p,q,r,s,t,u,v,w,x]))))) else (some (.brk 1 [a,b,c,d,e,f,g,h,i,j,k,l,m,n,o,p,q,r,s,t,u,v,w,x]))) else (some (.brk 1 [a,b,c,d,e,f,g,h,i,j,k,l,m,n,o,p,q,r,s,t,u,v,w,x]))) else none) else none) (ap24 s_l3Far.d1)) else (some (.brk 0 [a,g,h,i,j,k,l,m,n,o,p,q,r])))
def s_l3Far.d3 (a b c d e f g h i j k l m:C):R:=(bif (!a.B) then (some (.ret [.b (!(k.S.toList==c.S.toList))])) else (some (.ret [.b true])))
def s_l3Far.d4 (a b c d e f g h i j k l m n o p q r s t u v:C):R:=(bif (n.S.toList==(bs #[]).toList) then (some (.ret [.b false])) else (bindBlk 0 (lim (ap24 s_l3Far.d2) [.b false,.i 0,a,b,c,d,e,f,g,h,i,j,k,l,m,n,o,p,q,r,s,t,u,v]) (ap13 s_l3Far.d3)))
def s_l3Far:List C→Option (List C):=fun xs=>finR (ap22 s_l3Far.d4 xs)
def s_l3Far_fs:FS:=⟨3,⟨[(0,z2),(1,z6),(2,z8)],[]⟩,⟨[(0,zo)],[]⟩,[],s_l3Far⟩
theorem s_l3Far_ok:FSOk Tryz.checked.prog T0 107 s_l3Far_fs:=okOf base0 (fn:=Tryz.f107) (c:=Tryz.f107.body.getD .skip) s_l3Far_fs (.seq .leaf (.seq .leaf (.seq .leaf (.seq (.seq .leaf (.block ⟨[(4,(.pt 4 0)),(7,zo)],[(4,z1)]⟩ (.loop ⟨[(3,(.pt 3 0)),(4,(.pt 4 0)),(5,(.pt 5 0)),(7,zo),(8,zi)],[(3,z0),(4,z1),(5,z5)]⟩ (.seq .leaf (.seq (.block ⟨[(3,(.pt 3 0)),(4,(.pt 4 0)),(5,(.pt 5 0)),(7,zo),(8,zi)],[(3,z0),(4,z1),(5,z5)]⟩ .leaf) .leaf))))) .leaf)))) [(116,some 45,s_l3ZoneOf_fs)] (.cons s_l3ZoneOf_ok .nil) (by kernel_rfl) (by kernel_rfl) (by kernel_rfl) (fun xs=>by kernel_rfl)
def s_l3Fits.d1 (a b c d e f g h i j k l m n o p q r s t u v w x y z a0 a1 a2 a3 a4 a5 a6 a7 a8 a9 b0 b1 b2 b3:C):R:=(bif f.B then (some (.again [a,.i (w64 (b.I+a6.I)),.i (w64 (c.I+a7.I)),.i (w64 (d.I+1)),.i (w64 (e.I+1)),g,h,i,j,k,l,m,n,o,p,q,r,s,t,u,v,w,x,y,z,a0,a1])) else (some (.again [a,b,c,d,.i (w64 (e.I+1)),g,h,i,j,k,l,m,n,o,p,q,r,s,t,u,v,w,x,y,z,a0,a1])))
def s_l3Fits.d2 (a b c d e f g h i j k l m n o p q r s t u v w x y z a0:C):R:=(bif (decide (e.I<(i.L.length:Int))) then (bif (decide (0≤e.I)) then (bif (decide (e.I<(i.L.length:Int))) then (bindNrm (bif (!((((i.L.getD e.I.toNat []).getD 0 .nil).S).toList==j.S.toList)) then (some (.nrm [a,b,c,d,e,.b ((((i.L.getD e.I.toNat []).getD 11 .nil).S).toList==v.S.toList),f,g,h,i,j,k,l,m,n,o,p,q,r,s,t,u,v,w,x,y,z,a0,((i.L.getD e.I.toNat []).getD 0 .nil),((i.L.getD e.I.toNat []).getD 1 .nil),((i.L.getD e.I.toNat []).getD 2 .nil),((i.L.getD e.I.toNat []).getD 3 .nil),((i.L.getD e.I.toNat []).getD 4 .nil),((i.L.getD e.I.toNat []).getD 5 .nil),((i.L.getD e.I.toNat []).getD 6 .nil),((i.L.getD e.I.toNat []).getD 7 .nil),((i.L.getD e.I.toNat []).getD 8 .nil),((i.L.getD e.I.toNat []).getD 9 .nil),((i.L.getD e.I.toNat []).getD 10 .nil),((i.L.getD e.I.toNat []).getD 11 .nil)])) else (some (.nrm [a,b,c,d,e,.b false,f,g,h,i,j,k,l,m,n,o,p,q,r,s,t,u,v,w,x,y,z,a0,((i.L.getD e.I.toNat []).getD 0 .nil),((i.L.getD e.I.toNat []).getD 1 .nil),((i.L.getD e.I.toNat []).getD 2 .nil),((i.L.getD e.I.toNat []).getD 3 .nil),((i.L.getD e.I.toNat []).getD 4 .nil),((i.L.getD e.I.toNat []).getD 5 .nil),((i.L.getD e.I.toNat []).getD 6 .nil),((i.L.getD e.I.toNat []).getD 7 .nil),((i.L.getD e.I.toNat []).getD 8 .nil),((i.L.getD e.I.toNat []).getD 9 .nil),((i.L.getD e.I.toNat []).getD 10 .nil),((i.L.getD e.I.toNat []).getD 11 .nil)]))) (ap40 s_l3Fits.d1)) else none) else none) else (some (.brk 0 [a,b,c,d,f,g,h,i,j,k,l,m,n,o,p,q,r,s,t,u,v,w,x,y,z,a0])))
def s_l3Fits.d3 (a b c d e f g h i j k l m n o p q r s t u v w x y z:C):R:=(bif d.B then (some (.ret [.i 2])) else (call1 (s_l3Select [o,u,v,w,x,y,z]) fun a0=>(bif (!a0.B) then (some (.ret [.i 3])) else (call1 (s_l3Together [e,f,g,h,i,j,k,l,m,n,o,p,q,r,s,t,u,v,w,x,y,z]) fun a1=>(bif a1.B then (some (.ret [.i 4])) else (call1 (s_l3Far [e,f,g,h,i,j,k,l,m,n,o,p,q,r,s,t,u,v,w,x,y,z]) fun a2=>(bif a2.B then (some (.ret [.i 5])) else (bif (decide (c.I≥10)) then (some (.ret [.i 6])) else (bif (decide (a.I>x.I)) then (some (.ret [.i 7])) else (bif (decide (b.I>y.I)) then (some (.ret [.i 8])) else (some (.ret [.i 0]))))))))))))
def s_l3Fits.d4 (a b c d e f g h i j k l m n o p q r s t u v w x y z:C):R:=(bif d.B then (some (.ret [.i 1])) else (bindNrm (bif (!(s.S.toList==(bs #[]).toList)) then (some (.nrm [a,b,c,.b (!(s.S.toList==u.S.toList)),e,f,g,h,i,j,k,l,m,n,o,p,q,r,s,t,u,v,w,x,y,z])) else (some (.nrm [a,b,c,.b false,e,f,g,h,i,j,k,l,m,n,o,p,q,r,s,t,u,v,w,x,y,z]))) (ap26 s_l3Fits.d3)))
def s_l3Fits.d5 (a b c d e f g h i j k l m n o p q r s t u v w x y z:C):R:=(bindNrm (bif z.B then (some (.nrm [b,c,d,.b (!a.B),e,f,g,h,i,j,k,l,m,n,o,p,q,r,s,t,u,v,w,x,y,z])) else (some (.nrm [b,c,d,.b false,e,f,g,h,i,j,k,l,m,n,o,p,q,r,s,t,u,v,w,x,y,z]))) (ap26 s_l3Fits.d4))
def s_l3Fits.d6 (a b c d e f g h i j k l m n o p q r s t u v w:C):R:=(bindBlk 0 (lim (ap27 s_l3Fits.d2) [w,i,j,.i 0,.i 0,a,b,c,d,e,f,g,h,i,j,k,l,m,n,o,p,q,r,s,t,u,v]) (ap26 s_l3Fits.d5))
def s_l3Fits:List C→Option (List C):=fun xs=>finR (ap23 s_l3Fits.d6 xs)
def s_l3Fits_fs:FS:=⟨4,⟨[(0,z2),(1,z6),(2,z8),(3,zo)],[]⟩,⟨[(0,zi)],[]⟩,[],s_l3Fits⟩
theorem s_l3Fits_ok:FSOk Tryz.checked.prog T0 57 s_l3Fits_fs:=okOf base0 (fn:=Tryz.f57) (c:=Tryz.f57.body.getD .skip) s_l3Fits_fs (.seq .leaf (.seq .leaf (.seq .leaf (.seq .leaf (.seq (.seq .leaf (.block ⟨[(3,zo),(4,(.pt 4 0)),(5,(.pt 5 0)),(6,(.pt 6 0)),(9,zi),(10,zi),(11,zi)],[(4,z0),(5,z1),(6,z5)]⟩ (.loop ⟨[(3,zo),(4,(.pt 4 0)),(5,(.pt 5 0)),(6,(.pt 6 0)),(9,zi),(10,zi),(11,zi),(12,zi)],[(4,z0),(5,z1),(6,z5)]⟩ (.seq .leaf (.seq (.skip (.seq .leaf (.seq (.join ⟨[(3,zo),(4,(.pt 4 0)),(5,(.pt 5 0)),(6,(.pt 6 0)),(9,zi),(10,zi),(11,zi),(12,zi),(13,(.pt 13 0)),(41,zo)],[(4,z0),(5,z1),(6,z5),(13,z1)]⟩ .leaf) .leaf))) .leaf))))) (.seq (.skip (.seq (.join ⟨[(4,(.pt 4 0)),(5,(.pt 5 0)),(6,(.pt 6 0)),(9,zi),(10,zi),(11,zi),(52,zo)],[(4,z0),(5,z1),(6,z5)]⟩ .leaf) (.cond .leaf (.seq (.join ⟨[(4,(.pt 4 0)),(5,(.pt 5 0)),(6,(.pt 6 0)),(9,zi),(10,zi),(11,zi),(59,zo)],[(4,z0),(5,z1),(6,z5)]⟩ .leaf) .leaf)))) .leaf)))))) [(105,some 74,s_l3Select_fs),(106,some 80,s_l3Together_fs),(107,some 85,s_l3Far_fs)] (.cons s_l3Select_ok (.cons s_l3Together_ok (.cons s_l3Far_ok .nil))) (by kernel_rfl) (by kernel_rfl) (by kernel_rfl) (fun xs=>by kernel_rfl)
def s_l2Draw.d1 (a b c d e f g h i j k l:C):R:=(bif (decide (b.I<a.I)) then (call1 (s_l9Dec [b]) fun m=>(bif (decide ((bs #[98]).size+m.S.size≤4294967296)) then (call8 (s_l2DrawBerth [.s ((bs #[98])++m.S),c,d]) fun n o p q r s t u=>(bif (decide (j.L.length+(rows [[n,o,.l u.L,p,q,r]]).length≤4294967296)) then (some (.again [a,.i (w64 (b.I+1)),s,t,e,f,.l g.L,.l h.L,.l i.L,.l (j.L++(rows [[n,o,.l u.L,p,q,r]])),.l k.L,.l l.L])) else none)) else none)) else (some (.brk 0 [c,d,e,f,.l g.L,.l h.L,.l i.L,.l j.L,.l k.L,.l l.L])))
def s_l2Draw.d2 (a b c d e f g h i j k:C):R:=(bif (decide (a.I<4)) then (bif (decide (0≤a.I)) then (bif (decide (a.I<((rows [[.s (bs #[99,97,99,104,101])],[.s (bs #[100,98])],[.s (bs #[106,111,98])],[.s (bs #[119,101,98])]]).length:Int))) then (call3 (s_l1Rd_pick [.i 5,b,c]) fun l m n=>(bif (decide (j.L.length+(rows [[(((rows [[.s (bs #[99,97,99,104,101])],[.s (bs #[100,98])],[.s (bs #[106,111,98])],[.s (bs #[119,101,98])]]).getD a.I.toNat []).getD 0 .nil),l]]).length≤4294967296)) then (some (.again [.i (w64 (a.I+1)),m,n,d,e,.l f.L,.l g.L,.l h.L,.l i.L,.l (j.L++(rows [[(((rows [[.s (bs #[99,97,99,104,101])],[.s (bs #[100,98])],[.s (bs #[106,111,98])],[.s (bs #[119,101,98])]]).getD a.I.toNat []).getD 0 .nil),l]])),.l k.L])) else none)) else none) else none) else (some (.brk 2 [b,c,d,e,.l f.L,.l g.L,.l h.L,.l i.L,.l j.L,.l k.L])))
def s_l2Draw.d3 (a b c d e f g h i j k l:C):R:=(bif (decide (b.I>0)) then (call14 (s_l2DrawCopy [b,c,d]) fun m n o p q r s t u v w x y z=>(call5 (s_PilotHappen [f,g,h,i,.i 3,.s (bs #[]),.s (bs #[]),.l nils,.i 0,.i 0,.b false,m,n,o,p,q,r,s,t,u,v,w,x,.s (bs #[]),.s (bs #[])]) fun a0 a1 a2 a3 a4=>(bif (a1.I==0) then (some (.again [a,.i (w64 (b.I-1)),y,z,e,a0,.l a2.L,.l a3.L,.l a4.L,.l j.L,.l k.L,.l l.L])) else (some (.again [a,.i (w64 (b.I-1)),y,z,e,f,g,h,i,.l j.L,.l k.L,.l l.L]))))) else (some (.brk 4 [a,c,d,e,f,g,h,i,.l j.L,.l k.L,.l l.L])))
def s_l2Draw.d4 (a b c d e f g h i j k l m n o p q r s:C):R:=(bif c.B then (bif (decide (0≤b.I)) then (bif (decide (b.I<(j.L.length:Int))) then (call5 (s_PilotHappen [g,h,i,j,.i 5,.s (bs #[]),.s (bs #[]),.l nils,.i 0,.i 0,.b false,.s (bs #[]),.s (bs #[]),.i 0,.i 0,.i 0,.i 0,.s (bs #[]),.l nils,.i 0,.s (bs #[]),.s (bs #[]),.s (bs #[]),((j.L.getD b.I.toNat []).getD 0 .nil),k]) fun t u v w x=>(bif (u.I==0) then (some (.again [a,.i (w64 (b.I+1)),d,e,f,t,.l v.L,.l w.L,.l x.L,.l q.L,.l r.L,.l s.L])) else (some (.again [a,.i (w64 (b.I+1)),d,e,f,g,h,i,j,.l q.L,.l r.L,.l s.L])))) else none) else none) else (some (.again [a,.i (w64 (b.I+1)),d,e,f,g,h,i,j,.l q.L,.l r.L,.l s.L])))
def s_l2Draw.d5 (a b c d e f g h i j k l:C):R:=(bif (decide (b.I<(i.L.length:Int))) then (call3 (s_l1Rd_pick [.i 4,c,d]) fun m n o=>(bif (decide (m.I<a.I)) then (call3 (s_l1Rd_pick [.i (g.L.length:Int),n,o]) fun p q r=>(bif (decide (0≤p.I)) then (bif (decide (p.I<(g.L.length:Int))) then (bif (decide (0≤b.I)) then (bif (decide (b.I<(i.L.length:Int))) then (call1 (s_l3Fits [f,g,h,i,((i.L.getD b.I.toNat []).getD 0 .nil),((i.L.getD b.I.toNat []).getD 1 .nil),((i.L.getD b.I.toNat []).getD 2 .nil),((i.L.getD b.I.toNat []).getD 3 .nil),((i.L.getD b.I.toNat []).getD 4 .nil),((i.L.getD b.I.toNat []).getD 5 .nil),((i.L.getD b.I.toNat []).getD 6 .nil),((i.L.getD b.I.toNat []).getD 7 .nil),((i.L.getD b.I.toNat []).getD 8 .nil),((i.L.getD b.I.toNat []).getD 9 .nil),((i.L.getD b.I.toNat []).getD 10 .nil),((i.L.getD b.I.toNat []).getD 11 .nil),((g.L.getD p.I.toNat []).getD 0 .nil),((g.L.getD p.I.toNat []).getD 1 .nil),((g.L.getD p.I.toNat []).getD 2 .nil),((g.L.getD p.I.toNat []).getD 3 .nil),((g.L.getD p.I.toNat []).getD 4 .nil),((g.L.getD p.I.toNat []).getD 5 .nil),.b true]) fun s=>(bindNrm (bif (!(s.I==0)) then (bif (decide (s.I<6)) then (call3 (s_l1Rd_pick [.i 8,q,r]) fun t u v=>(some (.nrm [a,b,.b (t.I==0),u,v,e,f,g,h,i,((g.L.getD p.I.toNat []).getD 0 .nil),((g.L.getD p.I.toNat []).getD 1 .nil),((g.L.getD p.I.toNat []).getD 2 .nil),((g.L.getD p.I.toNat []).getD 3 .nil),((g.L.getD p.I.toNat []).getD 4 .nil),((g.L.getD p.I.toNat []).getD 5 .nil),.l j.L,.l k.L,.l l.L]))) else (some (.nrm [a,b,.b false,q,r,e,f,g,h,i,((g.L.getD p.I.toNat []).getD 0 .nil),((g.L.getD p.I.toNat []).getD 1 .nil),((g.L.getD p.I.toNat []).getD 2 .nil),((g.L.getD p.I.toNat []).getD 3 .nil),((g.L.getD p.I.toNat []).getD 4 .nil),((g.L.getD p.I.toNat []).getD 5 .nil),.l j.L,.l k.L,.l l.L]))) else (some (.nrm [a,b,.b true,q,r,e,f,g,h,i,((g.L.getD p.I.toNat []).getD 0 .nil),((g.L.getD p.I.toNat []).getD 1 .nil),((g.L.getD p.I.toNat []).getD 2 .nil),((g.L.getD p.I.toNat []).getD 3 .nil),((g.L.getD p.I.toNat []).getD 4 .nil),((g.L.getD p.I.toNat []).getD 5 .nil),.l j.L,.l k.L,.l l.L]))) (ap19 s_l2Draw.d4))) else none) else none) else none) else none)) else (some (.again [a,.i (w64 (b.I+1)),n,o,e,f,g,h,i,.l j.L,.l k.L,.l l.L])))) else (some (.brk 6 [c,d,e,f,g,h,i,.l j.L,.l k.L,.l l.L])))
def s_l2Draw.d6 (a b c d e f g h i j:C):R:=(some (.ret [d,e,f,g,a,b]))
def s_l2Draw.d7 (a b c d e f g h i j k:C):R:=(bindBlk 6 (lim (ap12 s_l2Draw.d5) [a,.i 0,b,c,d,e,f,g,h,.l i.L,.l j.L,.l k.L]) (ap10 s_l2Draw.d6))
def s_l2Draw.d8 (a b c d e f g h i j:C):R:=(call3 (s_l1Rd_pick [.i 4,a,b]) fun k l m=>(call3 (s_l1Rd_pick [.i 14,l,m]) fun n o p=>(bindBlk 4 (lim (ap12 s_l2Draw.d3) [k,.i (w64 (1+n.I)),o,p,c,d,.l h.L,.l i.L,.l j.L,.l e.L,.l f.L,.l g.L]) (ap11 s_l2Draw.d7))))
def s_l2Draw.d9 (a b c d e f g h i j:C):R:=(bindBlk 2 (lim (ap11 s_l2Draw.d2) [.i 0,a,b,c,d,.l e.L,.l f.L,.l g.L,.l h.L,.l i.L,.l j.L]) (ap10 s_l2Draw.d8))
def s_l2Draw.d10 (a b:C):R:=(call3 (s_l1Rd_pick [.i 2,a,b]) fun c d e=>(call3 (s_l1Rd_pick [.i 5,d,e]) fun f g h=>(bindBlk 0 (lim (ap12 s_l2Draw.d1) [.i (w64 (1+f.I)),.i 0,g,h,.b false,.b (c.I==0),.l nils,.l nils,.l nils,.l nils,.l nils,.l nils]) (ap10 s_l2Draw.d9))))
def s_l2Draw:List C→Option (List C):=fun xs=>finR (ap2 s_l2Draw.d10 xs)
def s_l2Draw_fs:FS:=⟨1,⟨[(0,(.pt 2000 0))],[(2000,z3)]⟩,⟨[(0,z2)],[(2000,z3)]⟩,[2000],s_l2Draw⟩
theorem s_l2Draw_ok:FSOk Tryz.checked.prog T0 97 s_l2Draw_fs:=okOfT base0 [35] false (fn:=Tryz.f97) (c:=Tryz.f97.body.getD .skip) s_l2Draw_fs (.seq .leaf (.seq .leaf (.seq .leaf (.seq (.seq .leaf (.block ⟨[(0,(.pt 2000 0)),(2,(.pt 2 0)),(3,(.pt 3 0))],[(2000,z3),(2,z7),(3,z11),(1022200,.arr 37 1),(1022201,.arr 60 1),(1022202,.arr 45 1),(1022203,.arr 37 1),(1022204,.arr 60 1),(1022205,.arr 45 1)]⟩ (.loop ⟨[(0,(.pt 2000 0)),(2,(.pt 2 0)),(3,(.pt 3 0)),(4,zi),(5,zi)],[(2000,z3),(2,z7),(3,z11),(1022200,.arr 37 1),(1022201,.arr 60 1),(1022202,.arr 45 1),(1022203,.arr 37 1),(1022204,.arr 60 1),(1022205,.arr 45 1)]⟩ .leaf))) (.seq (.seq .leaf (.block ⟨[(0,(.pt 2000 0)),(2,(.pt 2 0)),(3,(.pt 3 0))],[(2000,z3),(2,z7),(3,z11),(1022200,.arr 37 1),(1022201,.arr 60 1),(1022202,.arr 45 1),(1022203,.arr 37 1),(1022204,.arr 60 1),(1022205,.arr 45 1)]⟩ (.loop ⟨[(0,(.pt 2000 0)),(2,(.pt 2 0)),(3,(.pt 3 0)),(6,zi)],[(2000,z3),(2,z7),(3,z11),(1022200,.arr 37 1),(1022201,.arr 60 1),(1022202,.arr 45 1),(1022203,.arr 37 1),(1022204,.arr 60 1),(1022205,.arr 45 1)]⟩ .leaf))) (.seq .leaf (.seq (.seq .leaf (.block ⟨[(0,(.pt 2000 0)),(2,(.pt 2 0)),(3,(.pt 3 0)),(7,zi)],[(2000,z3),(2,z7),(3,z0),(1022200,.arr 37 1),(1022201,.arr 60 1),(1022202,.arr 45 1)]⟩ (.loop ⟨[(0,(.pt 2000 0)),(2,(.pt 2 0)),(3,(.pt 3 0)),(7,zi),(8,zi)],[(2000,z3),(2,z7),(3,z0),(1022200,.arr 37 1),(1022201,.arr 60 1),(1022202,.arr 45 1)]⟩ (.seq .leaf (.seq (.skip (.seq (.frz [1022203,1022204,1022205] .leaf) .leaf)) .leaf))))) (.seq (.seq .leaf (.block ⟨[(2,(.pt 2 0)),(3,(.pt 3 0))],[(2000,z3),(2,z7),(3,z0),(1022200,.arr 37 1),(1022201,.arr 60 1),(1022202,.arr 45 1)]⟩ (.loop ⟨[(0,(.pt 2000 0)),(2,(.pt 2 0)),(3,(.pt 3 0)),(7,zi),(11,zi)],[(2000,z3),(2,z7),(3,z0),(1022200,.arr 37 1),(1022201,.arr 60 1),(1022202,.arr 45 1)]⟩ (.seq .leaf (.seq (.skip (.seq .leaf (.cond (.seq .leaf (.seq .leaf (.seq (.join ⟨[(0,(.pt 2000 0)),(2,(.pt 2 0)),(3,(.pt 3 0)),(7,zi),(11,zi),(12,(.pt 12 0)),(113,zo)],[(2000,z3),(2,z7),(3,z0),(12,z5),(1022200,.arr 37 1),(1022201,.arr 60 1),(1022202,.arr 45 1)]⟩ .leaf) (.cond (.seq (.frz [1022203] .leaf) .leaf) .leaf)))) .leaf))) .leaf))))) .leaf)))))))) [(47,some 69,s_PilotHappen_fs),(47,some 125,s_PilotHappen_fs),(57,some 102,s_l3Fits_fs),(76,some 17,s_l1Rd_pick_fs),(76,some 21,s_l1Rd_pick_fs),(76,some 49,s_l1Rd_pick_fs),(76,some 55,s_l1Rd_pick_fs),(76,some 57,s_l1Rd_pick_fs),(76,some 83,s_l1Rd_pick_fs),(76,some 92,s_l1Rd_pick_fs),(76,some 110,s_l1Rd_pick_fs),(131,some 32,(s_l9Dec_fs s_l9Dec)),(132,some 34,s_l2DrawBerth_fs),(133,some 67,s_l2DrawCopy_fs)] (.cons s_PilotHappen_ok (.cons s_PilotHappen_ok (.cons s_l3Fits_ok (.cons s_l1Rd_pick_ok (.cons s_l1Rd_pick_ok (.cons s_l1Rd_pick_ok (.cons s_l1Rd_pick_ok (.cons s_l1Rd_pick_ok (.cons s_l1Rd_pick_ok (.cons s_l1Rd_pick_ok (.cons s_l1Rd_pick_ok (.cons s_l9Dec_ok (.cons s_l2DrawBerth_ok (.cons s_l2DrawCopy_ok .nil)))))))))))))) (by kernel_rfl) (by kernel_rfl) (by kernel_rfl) (fun xs=>by kernel_rfl)
end
end Go.Ev
namespace Go.Ev
open Go.Proofs
noncomputable section
def s_l1Many.d1 (a b c:C):R:=(bif (decide (b.I>0)) then (bif ((b.I.tmod 2)==1) then (bif (decide (c.S.size+a.S.size≤4294967296)) then (bif (decide (a.S.size+a.S.size≤4294967296)) then (some (.again [.s (a.S++a.S),.i (w64 (b.I.tdiv 2)),.s (c.S++a.S)])) else none) else none) else (bif (decide (a.S.size+a.S.size≤4294967296)) then (some (.again [.s (a.S++a.S),.i (w64 (b.I.tdiv 2)),c])) else none)) else (some (.brk 0 [c])))
def s_l1Many.d2 (a:C):R:=(some (.ret [a]))
def s_l1Many.d3 (a b:C):R:=(bindBlk 0 (lim (ap3 s_l1Many.d1) [a,b,.s (bs #[])]) (ap1 s_l1Many.d2))
def s_l1Many:List C→Option (List C):=fun xs=>finR (ap2 s_l1Many.d3 xs)
def s_l1Many_fs:FS:=⟨2,⟨[(0,zt),(1,zi)],[]⟩,⟨[(0,zt)],[]⟩,[],s_l1Many⟩
theorem s_l1Many_ok:FSOk Tryz.checked.prog T0 134 s_l1Many_fs:=okOf base0 (fn:=Tryz.f134) (c:=Tryz.f134.body.getD .skip) s_l1Many_fs (.seq .leaf (.seq .leaf (.seq (.block ⟨[(5,zt)],[]⟩ (.loop ⟨[(0,zt),(1,zi),(5,zt)],[]⟩ .leaf)) .leaf))) [] .nil (by kernel_rfl) (by kernel_rfl) (by kernel_rfl) (fun xs=>by kernel_rfl)
def s_l2Spoil.d1 (a b c d e f g h i j k l:C):R:=(bif (decide (0≤a.I)) then (bif (decide (a.I<(l.L.length:Int))) then (bif (decide ((((l.L.getD a.I.toNat []).getD 7 .nil).L.length:Int)<b.I)) then (bif (decide (0≤a.I)) then (bif (decide (a.I<(l.L.length:Int))) then (call3 (s_l1Rd_pick [.i 2,c,d]) fun m n o=>(call3 (s_l1Rd_pick [.i 2,n,o]) fun p q r=>(bif (decide (((l.L.getD a.I.toNat []).getD 7 .nil).L.length+(rows [[.s (bs #[]),.i (w64 (9+(w64 (m.I*p.I))))]]).length≤4294967296)) then (bif (decide (0≤a.I)) then (bif (decide (a.I<((l.L.set a.I.toNat (setCs (l.L.getD a.I.toNat []) 7 [.nil])).length:Int))) then (bif (List.all ((l.L.set a.I.toNat (setCs (l.L.getD a.I.toNat []) 7 [.nil])).set a.I.toNat (setCs ((l.L.set a.I.toNat (setCs (l.L.getD a.I.toNat []) 7 [.nil])).getD a.I.toNat []) 7 [.l (((l.L.getD a.I.toNat []).getD 7 .nil).L++(rows [[.s (bs #[]),.i (w64 (9+(w64 (m.I*p.I))))]]))])) (noHole [.str,.str,(.int .i64),(.int .i64),(.int .i64),(.int .i64),.str,(.sl 109),(.int .i64),.str,.str,.str])) then (some (.again [a,b,q,r,e,f,.l g.L,.l h.L,.l i.L,.l j.L,.l k.L,.l ((l.L.set a.I.toNat (setCs (l.L.getD a.I.toNat []) 7 [.nil])).set a.I.toNat (setCs ((l.L.set a.I.toNat (setCs (l.L.getD a.I.toNat []) 7 [.nil])).getD a.I.toNat []) 7 [.l (((l.L.getD a.I.toNat []).getD 7 .nil).L++(rows [[.s (bs #[]),.i (w64 (9+(w64 (m.I*p.I))))]]))]))])) else none) else none) else none) else none))) else none) else none) else (some (.brk 1 [c,d,e,f,.l g.L,.l h.L,.l i.L,.l j.L,.l k.L,.l l.L]))) else none) else none)
def s_l2Spoil.d2 (a b c d e f g h i j:C):R:=(some (.nrm [a,b,c,d,.l j.L,.l e.L,.l f.L,.l g.L,.l h.L,.l i.L]))
def s_l2Spoil.d3 (a b c d e f g h i j k l m:C):R:=(bif (decide (c.I<b.I)) then (bif (decide ((bs #[99]).size+(mkBy (rows [[.i (IntKind.wrap .u8 (w64 (97+c.I)))]])).size≤4294967296)) then (bif (decide (0≤a.I)) then (bif (decide (a.I<(k.L.length:Int))) then (bif (decide (m.L.length+(rows [[.s ((bs #[99])++(mkBy (rows [[.i (IntKind.wrap .u8 (w64 (97+c.I)))]]))),.s (bs #[119,101,98]),.i 0,.i 0,.i 0,.i 0,.s (bs #[]),.l nils,.i 0,.s (bs #[]),.s (bs #[]),((k.L.getD a.I.toNat []).getD 0 .nil)]]).length≤4294967296)) then (some (.again [a,b,.i (w64 (c.I+1)),d,e,f,g,.l h.L,.l i.L,.l j.L,.l k.L,.l l.L,.l (m.L++(rows [[.s ((bs #[99])++(mkBy (rows [[.i (IntKind.wrap .u8 (w64 (97+c.I)))]]))),.s (bs #[119,101,98]),.i 0,.i 0,.i 0,.i 0,.s (bs #[]),.l nils,.i 0,.s (bs #[]),.s (bs #[]),((k.L.getD a.I.toNat []).getD 0 .nil)]]))])) else none) else none) else none) else none) else (some (.brk 3 [d,e,f,g,.l h.L,.l i.L,.l j.L,.l k.L,.l l.L,.l m.L])))
def s_l2Spoil.d4 (a b c d e f g h i j:C):R:=(some (.ret [d,e,a,b,.l i.L,.l j.L]))
def s_l2Spoil.d5 (a b c d e f:C):R:=(call4 (s_l2Fleet [a,b,c,d]) fun g h i j=>(call3 (s_l1Rd_pick [.i (h.L.length:Int),e,f]) fun k l m=>(call3 (s_l1Rd_pick [.i (j.L.length:Int),l,m]) fun n o p=>(bif (!((h.L.length:Int)==0)) then (bif ((j.L.length:Int)==0) then (some (.ret [.b false,.l nils,o,p,.l nils,.l (rows [[.s (bs #[]),.i 0]])])) else (bindNrm (call3 (s_l1Rd_pick [.i 16,o,p]) fun q r s=>(bif (q.I==0) then (call3 (s_l1Rd_pick [.i 2,r,s]) fun t u v=>(call1 (s_l1Many [.s (bs #[110]),.i (w64 (20+t.I))]) fun w=>(call3 (s_l1Rd_pick [.i 4,u,v]) fun x y z=>(bif (decide (0≤x.I)) then (bif (decide (x.I<((rows [[.s (bs #[])],[.s (bs #[65])],[.s (bs #[122,122])],[w]]).length:Int))) then (bif (decide (0≤k.I)) then (bif (decide (k.I<(h.L.length:Int))) then (some (.nrm [y,z,.b false,g,.l j.L,.l nils,.l nils,.l nils,.l (h.L.set k.I.toNat (setCs (h.L.getD k.I.toNat []) 0 [(((rows [[.s (bs #[])],[.s (bs #[65])],[.s (bs #[122,122])],[w]]).getD x.I.toNat []).getD 0 .nil)])),.l i.L])) else none) else none) else none) else none)))) else (bif (q.I==1) then (call3 (s_l1Rd_pick [.i 2,r,s]) fun a0 a1 a2=>(bif (decide (0≤a0.I)) then (bif (decide (a0.I<((rows [[.s (bs #[])],[.s (bs #[120,32,121])]]).length:Int))) then (bif (decide (0≤k.I)) then (bif (decide (k.I<(h.L.length:Int))) then (some (.nrm [a1,a2,.b false,g,.l j.L,.l nils,.l nils,.l nils,.l (h.L.set k.I.toNat (setCs (h.L.getD k.I.toNat []) 1 [(((rows [[.s (bs #[])],[.s (bs #[120,32,121])]]).getD a0.I.toNat []).getD 0 .nil)])),.l i.L])) else none) else none) else none) else none)) else (bif (q.I==2) then (call3 (s_l1Rd_pick [.i 6,r,s]) fun a3 a4 a5=>(bif (decide (0≤a3.I)) then (bif (decide (a3.I<((rows [[.l (rows [[.s (bs #[98])],[.s (bs #[97])]])],[.l (rows [[.s (bs #[97])],[.s (bs #[97,61,98])]])],[.l (rows [[.s (bs #[97,61,98])],[.s (bs #[97,61,99])]])],[.l (rows [[.s (bs #[65])]])],[.l (rows [[.s (bs #[97])],[.s (bs #[97,45,120])],[.s (bs #[97,61,98])]])],[.l (rows [[.s (bs #[49])],[.s (bs #[50])],[.s (bs #[51])],[.s (bs #[52])],[.s (bs #[53])],[.s (bs #[54])],[.s (bs #[55])],[.s (bs #[56])],[.s (bs #[57])],[.s (bs #[97])],[.s (bs #[98])]])]]).length:Int))) then (bif (decide (0≤k.I)) then (bif (decide (k.I<(h.L.length:Int))) then (some (.nrm [a4,a5,.b false,g,.l j.L,.l nils,.l nils,.l nils,.l (h.L.set k.I.toNat (setCs (h.L.getD k.I.toNat []) 2 [(((rows [[.l (rows [[.s (bs #[98])],[.s (bs #[97])]])],[.l (rows [[.s (bs #[97])],[.s (bs #[97,61,98])]])],[.l (rows [[.s (bs #[97,61,98])],[.s (bs #[97,61,99])]])],[.l (rows [[.s (bs #[65])]])],[.l (rows [[.s (bs #[97])],[.s (bs #[97,45,120])],[.s (bs #[97,61,98])]])],[.l (rows [[.s (bs #[49])],[.s (bs #[50])],[.s (bs #[51])],[.s (bs #[52])],[.s (bs #[53])],[.s (bs #[54])],[.s (bs #[55])],[.s (bs #[56])],[.s (bs #[57])],[.s (bs #[97])],[.s (bs #[98])]])]]).getD a3.I.toNat []).getD 0 .nil)])),.l i.L])) else none) else none) else none) else none)) else (bif (q.I==3) then (call3 (s_l1Rd_pick [.i 4,r,s]) fun a6 a7 a8=>(bif (decide (0≤a6.I)) then (bif (decide (a6.I<((rows [[.i (-1)],[.i 0],[.i 1000],[.i 1001]]).length:Int))) then (bif (decide (0≤k.I)) then (bif (decide (k.I<(h.L.length:Int))) then (some (.nrm [a7,a8,.b false,g,.l j.L,.l nils,.l nils,.l nils,.l (h.L.set k.I.toNat (setCs (h.L.getD k.I.toNat []) 3 [(((rows [[.i (-1)],[.i 0],[.i 1000],[.i 1001]]).getD a6.I.toNat []).getD 0 .nil)])),.l i.L])) else none) else none) else none) else none)) else (bif (q.I==4) then (bif (decide (0≤k.I)) then (bif (decide (k.I<(h.L.length:Int))) then (bif (decide (h.L.length+(rows [[((h.L.getD k.I.toNat []).getD 0 .nil),((h.L.getD k.I.toNat []).getD 1 .nil),((h.L.getD k.I.toNat []).getD 2 .nil),((h.L.getD k.I.toNat []).getD 3 .nil),((h.L.getD k.I.toNat []).getD 4 .nil),((h.L.getD k.I.toNat []).getD 5 .nil)]]).length≤4294967296)) then (some (.nrm [r,s,.b false,g,.l j.L,.l nils,.l nils,.l nils,.l (h.L++(rows [[((h.L.getD k.I.toNat []).getD 0 .nil),((h.L.getD k.I.toNat []).getD 1 .nil),((h.L.getD k.I.toNat []).getD 2 .nil),((h.L.getD k.I.toNat []).getD 3 .nil),((h.L.getD k.I.toNat []).getD 4 .nil),((h.L.getD k.I.toNat []).getD 5 .nil)]])),.l i.L])) else none) else none) else none) else (bif (q.I==5) then (call3 (s_l1Rd_pick [.i 4,r,s]) fun a9 b0 b1=>(call3 (s_l1Rd_pick [.i 3,b0,b1]) fun b2 b3 b4=>(bif (decide (0≤b2.I)) then (bif (decide (b2.I<((rows [[.i (-1)],[.i 60],[.i 61]]).length:Int))) then (bif (decide (0≤a9.I)) then (bif (decide (a9.I<(i.L.length:Int))) then (some (.nrm [b3,b4,.b false,g,.l j.L,.l nils,.l nils,.l nils,.l h.L,.l (i.L.set a9.I.toNat (setCs (i.L.getD a9.I.toNat []) 1 [(((rows [[.i (-1)],[.i 60],[.i 61]]).getD b2.I.toNat []).getD 0 .nil)]))])) else none) else none) else none) else none))) else (bif (q.I==6) then (call3 (s_l1Rd_pick [.i 3,r,s]) fun b5 b6 b7=>(bif (decide (0≤b5.I)) then (bif (decide (b5.I<((rows [[.i (-1)],[.i 100],[.i 101]]).length:Int))) then (bif (decide (0≤n.I)) then (bif (decide (n.I<(j.L.length:Int))) then (some (.nrm [b6,b7,.b false,g,.l (j.L.set n.I.toNat (setCs (j.L.getD n.I.toNat []) 2 [(((rows [[.i (-1)],[.i 100],[.i 101]]).getD b5.I.toNat []).getD 0 .nil)])),.l nils,.l nils,.l nils,.l h.L,.l i.L])) else none) else none) else none) else none)) else (bif (q.I==7) then (call3 (s_l1Rd_pick [.i 3,r,s]) fun b8 b9 c0=>(bif (decide (0≤b8.I)) then (bif (decide (b8.I<((rows [[.i (-1)],[.i 1000000],[.i 1000001]]).length:Int))) then (bif (decide (0≤n.I)) then (bif (decide (n.I<(j.L.length:Int))) then (some (.nrm [b9,c0,.b false,g,.l (j.L.set n.I.toNat (setCs (j.L.getD n.I.toNat []) 3 [(((rows [[.i (-1)],[.i 1000000],[.i 1000001]]).getD b8.I.toNat []).getD 0 .nil)])),.l nils,.l nils,.l nils,.l h.L,.l i.L])) else none) else none) else none) else none)) else (bif (q.I==8) then (call3 (s_l1Rd_pick [.i 3,r,s]) fun c1 c2 c3=>(bif (decide (0≤c1.I)) then (bif (decide (c1.I<((rows [[.i (-1)],[.i 1000],[.i 1001]]).length:Int))) then (bif (decide (0≤n.I)) then (bif (decide (n.I<(j.L.length:Int))) then (some (.nrm [c2,c3,.b false,g,.l (j.L.set n.I.toNat (setCs (j.L.getD n.I.toNat []) 4 [(((rows [[.i (-1)],[.i 1000],[.i 1001]]).getD c1.I.toNat []).getD 0 .nil)])),.l nils,.l nils,.l nils,.l h.L,.l i.L])) else none) else none) else none) else none)) else (bif (q.I==9) then (call1 (s_l1Many [.s (bs #[97]),.i 201]) fun c4=>(call3 (s_l1Rd_pick [.i 4,r,s]) fun c5 c6 c7=>(bif (decide (0≤c5.I)) then (bif (decide (c5.I<((rows [[.s (bs #[97,32,98])],[.s (bs #[33])],[c4],[.s (bs #[120])]]).length:Int))) then (bif (decide (0≤n.I)) then (bif (decide (n.I<(j.L.length:Int))) then (some (.nrm [c6,c7,.b false,g,.l (j.L.set n.I.toNat (setCs (j.L.getD n.I.toNat []) 6 [(((rows [[.s (bs #[97,32,98])],[.s (bs #[33])],[c4],[.s (bs #[120])]]).getD c5.I.toNat []).getD 0 .nil)])),.l nils,.l nils,.l nils,.l h.L,.l i.L])) else none) else none) else none) else none))) else (bif (q.I==10) then (call3 (s_l1Rd_pick [.i 2,r,s]) fun c8 c9 d0=>(bindBlk 1 (lim (ap12 s_l2Spoil.d1) [n,.i (w64 (5+c8.I)),c9,d0,.b false,g,.l nils,.l nils,.l nils,.l h.L,.l i.L,.l j.L]) (ap10 s_l2Spoil.d2))) else (bif (q.I==11) then (call3 (s_l1Rd_pick [.i 2,r,s]) fun d1 d2 d3=>(bif (decide (0≤d1.I)) then (bif (decide (d1.I<((rows [[.i (-1)],[.i 3]]).length:Int))) then (bif (decide (0≤n.I)) then (bif (decide (n.I<(j.L.length:Int))) then (some (.nrm [d2,d3,.b false,g,.l (j.L.set n.I.toNat (setCs (j.L.getD n.I.toNat []) 8 [(((rows [[.i (-1)],[.i 3]]).getD d1.I.toNat []).getD 0 .nil)])),.l nils,.l nils,.l nils,.l h.L,.l i.L])) else none) else none) else none) else none)) else (bif (q.I==12) then (call3 (s_l1Rd_pick [.i 3,r,s]) fun d4 d5 d6=>(bif (decide (0≤d4.I)) then (bif (decide (d4.I<((rows [[.s (bs #[103,111,110,101])],[.s (bs #[98,48])],[.s (bs #[98,49])]]).length:Int))) then (bif (decide (0≤n.I)) then (bif (decide (n.I<(j.L.length:Int))) then (some (.nrm [d5,d6,.b false,g,.l (j.L.set n.I.toNat (setCs (j.L.getD n.I.toNat []) 11 [(((rows [[.s (bs #[103,111,110,101])],[.s (bs #[98,48])],[.s (bs #[98,49])]]).getD d4.I.toNat []).getD 0 .nil)])),.l nils,.l nils,.l nils,.l h.L,.l i.L])) else none) else none) else none) else none)) else (bif (q.I==13) then (call3 (s_l1Rd_pick [.i 2,r,s]) fun d7 d8 d9=>(bif (decide (0≤d7.I)) then (bif (decide (d7.I<((rows [[.s (bs #[110,111,110,101])],[.s (bs #[])]]).length:Int))) then (bif (decide (0≤n.I)) then (bif (decide (n.I<(j.L.length:Int))) then (some (.nrm [d8,d9,.b false,g,.l (j.L.set n.I.toNat (setCs (j.L.getD n.I.toNat []) 1 [(((rows [[.s (bs #[110,111,110,101])],[.s (bs #[])]]).getD d7.I.toNat []).getD 0 .nil)])),.l nils,.l nils,.l nils,.l h.L,.l i.L])) else none) else none) else none) else none)) else (bif (q.I==14) then (call3 (s_l1Rd_pick [.i 2,r,s]) fun e0 e1 e2=>(bindBlk 3 (lim (ap13 s_l2Spoil.d3) [k,.i (w64 (10+e0.I)),.i 0,e1,e2,.b false,g,.l nils,.l nils,.l nils,.l h.L,.l i.L,.l nils]) (ap10 s_l2Spoil.d2))) else (call3 (s_l1Rd_pick [.i 2,r,s]) fun e3 e4 e5=>(bif (decide (0≤e3.I)) then (bif (decide (e3.I<((rows [[.s (bs #[65])],[.s (bs #[119,101,98])]]).length:Int))) then (bif (decide (0≤n.I)) then (bif (decide (n.I<(j.L.length:Int))) then (call3 (s_l1Rd_pick [.i 2,e4,e5]) fun e6 e7 e8=>(bif (decide (0≤e6.I)) then (bif (decide (e6.I<((rows [[.s (bs #[120,32,121])],[.s (bs #[98,48])]]).length:Int))) then (bif (decide (0≤n.I)) then (bif (decide (n.I<((j.L.set n.I.toNat (setCs (j.L.getD n.I.toNat []) 9 [(((rows [[.s (bs #[65])],[.s (bs #[119,101,98])]]).getD e3.I.toNat []).getD 0 .nil)])).length:Int))) then (some (.nrm [e7,e8,.b false,g,.l ((j.L.set n.I.toNat (setCs (j.L.getD n.I.toNat []) 9 [(((rows [[.s (bs #[65])],[.s (bs #[119,101,98])]]).getD e3.I.toNat []).getD 0 .nil)])).set n.I.toNat (setCs ((j.L.set n.I.toNat (setCs (j.L.getD n.I.toNat []) 9 [(((rows [[.s (bs #[65])],[.s (bs #[119,101,98])]]).getD e3.I.toNat []).getD 0 .nil)])).getD n.I.toNat []) 10 [(((rows [[.s (bs #[120,32,121])],[.s (bs #[98,48])]]).getD e6.I.toNat []).getD 0 .nil)])),.l nils,.l nils,.l nils,.l h.L,.l i.L])) else none) else none) else none) else none)) else none) else none) else none) else none)))))))))))))))))) (ap10 s_l2Spoil.d4))) else (some (.ret [.b false,.l nils,o,p,.l nils,.l (rows [[.s (bs #[]),.i 0]])]))))))
def s_l2Spoil:List C→Option (List C):=fun xs=>finR (ap6 s_l2Spoil.d5 xs)
def s_l2Spoil_fs:FS:=⟨2,⟨[(0,(.pt 2000 0)),(1,z2)],[(2000,z3)]⟩,⟨[(0,(.ag [zo,(.ow 3001),(.ow 3002),(zl 45)]))],[(2000,z3),(3001,.arr 37),(3002,.arr 60 1)]⟩,[2000],s_l2Spoil⟩
theorem s_l2Spoil_ok:FSOk Tryz.checked.prog T0 98 s_l2Spoil_fs:=okOfN base0 [125,287] true [37,60] (fn:=Tryz.f98) (c:=Tryz.f98.body.getD .skip) s_l2Spoil_fs (.seq .leaf (.seq .leaf (.seq .leaf (.seq .leaf (.seq .leaf (.seq (.join ⟨[(4,(.pt 4 0)),(5,(.pt 5 0))],[(2000,z3),(4,.var 27 [zo,(.ow 1190700),(.ow 1190701),(.ow 1190702)]),(5,.var 27 [zo,(.ow 56248),(.ow 56249),(zl 45)]),(1190700,.arr 37 1),(1190701,.arr 60 1),(1190702,.arr 45 1),(56248,.arr 37),(56249,.arr 60 1)]⟩ (.seq .leaf (.skip (.seq .leaf (.cond .leaf (.seq .leaf (.cond .leaf (.seq .leaf (.cond .leaf (.seq .leaf (.cond .leaf (.seq .leaf (.cond .leaf (.seq .leaf (.cond .leaf (.seq .leaf (.cond .leaf (.seq .leaf (.cond .leaf (.seq .leaf (.cond .leaf (.seq .leaf (.cond .leaf (.seq .leaf (.cond (.seq .leaf (.block ⟨[(4,(.pt 4 0)),(5,(.pt 5 0))],[(2000,z3),(4,.var 27 [zo,(.ow 1190700),(.ow 1190701),(.ow 1190702)]),(5,.var 27 [zo,(.ow 56248),(.ow 56249),(.ow 56250)]),(1190700,.arr 37 1),(1190701,.arr 60 1),(1190702,.arr 45 1),(56248,.arr 37 1),(56249,.arr 60 1),(56250,.arr 45 2)]⟩ (.loop ⟨[(0,(.pt 2000 0)),(4,(.pt 4 0)),(5,(.pt 5 0)),(7,zi),(8,zi)],[(2000,z3),(4,.var 27 [zo,(.ow 1190700),(.ow 1190701),(.ow 1190702)]),(5,.var 27 [zo,(.ow 56248),(.ow 56249),(.ow 56250)]),(1190700,.arr 37 1),(1190701,.arr 60 1),(1190702,.arr 45 1),(56248,.arr 37 1),(56249,.arr 60 1),(56250,.arr 45 2)]⟩ .leaf))) (.seq .leaf (.cond .leaf (.seq .leaf (.cond .leaf (.seq .leaf (.cond .leaf (.seq .leaf (.cond (.seq .leaf (.seq .leaf (.seq .leaf (.block ⟨[(4,(.pt 4 0)),(5,(.pt 5 0))],[(2000,z3),(4,.var 27 [zo,(.ow 1193800),(.ow 1193801),(.ow 1193802)]),(5,.var 27 [zo,(.ow 56248),(.ow 56249),(.ow 265)]),(1193800,.arr 37 1),(1193801,.arr 60 1),(1193802,.arr 45 1),(56248,.arr 37 1),(56249,.arr 60 1),(265,.arr 45 1)]⟩ (.loop ⟨[(4,(.pt 4 0)),(5,(.pt 5 0)),(6,zi),(9,zi),(10,zi)],[(2000,z3),(4,.var 27 [zo,(.ow 1193800),(.ow 1193801),(.ow 1193802)]),(5,.var 27 [zo,(.ow 56248),(.ow 56249),(.ow 265)]),(1193800,.arr 37 1),(1193801,.arr 60 1),(1193802,.arr 45 1),(56248,.arr 37 1),(56249,.arr 60 1),(265,.arr 45 1)]⟩ .leaf))))) .leaf))))))))))))))))))))))))))))))))) .leaf)))))) [(76,some 17,s_l1Rd_pick_fs),(76,some 22,s_l1Rd_pick_fs),(76,some 37,s_l1Rd_pick_fs),(76,some 43,s_l1Rd_pick_fs),(76,some 53,s_l1Rd_pick_fs),(76,some 64,s_l1Rd_pick_fs),(76,some 69,s_l1Rd_pick_fs),(76,some 81,s_l1Rd_pick_fs),(76,some 99,s_l1Rd_pick_fs),(76,some 111,s_l1Rd_pick_fs),(76,some 133,s_l1Rd_pick_fs),(76,some 136,s_l1Rd_pick_fs),(76,some 148,s_l1Rd_pick_fs),(76,some 160,s_l1Rd_pick_fs),(76,some 172,s_l1Rd_pick_fs),(76,some 185,s_l1Rd_pick_fs),(76,some 193,s_l1Rd_pick_fs),(76,some 214,s_l1Rd_pick_fs),(76,some 216,s_l1Rd_pick_fs),(76,some 231,s_l1Rd_pick_fs),(76,some 243,s_l1Rd_pick_fs),(76,some 255,s_l1Rd_pick_fs),(76,some 263,s_l1Rd_pick_fs),(85,some 12,s_l2Fleet_fs),(134,some 66,s_l1Many_fs),(134,some 182,s_l1Many_fs)] (.cons s_l1Rd_pick_ok (.cons s_l1Rd_pick_ok (.cons s_l1Rd_pick_ok (.cons s_l1Rd_pick_ok (.cons s_l1Rd_pick_ok (.cons s_l1Rd_pick_ok (.cons s_l1Rd_pick_ok (.cons s_l1Rd_pick_ok (.cons s_l1Rd_pick_ok (.cons s_l1Rd_pick_ok (.cons s_l1Rd_pick_ok (.cons s_l1Rd_pick_ok (.cons s_l1Rd_pick_ok (.cons s_l1Rd_pick_ok (.cons s_l1Rd_pick_ok (.cons s_l1Rd_pick_ok (.cons s_l1Rd_pick_ok (.cons s_l1Rd_pick_ok (.cons s_l1Rd_pick_ok (.cons s_l1Rd_pick_ok (.cons s_l1Rd_pick_ok (.cons s_l1Rd_pick_ok (.cons s_l1Rd_pick_ok (.cons s_l2Fleet_ok (.cons s_l1Many_ok (.cons s_l1Many_ok .nil)))))))))))))))))))))))))) (by kernel_rfl) (by kernel_rfl) (by kernel_rfl) (fun xs=>by kernel_rfl)
def s_l2Any.d1 (a b:C):R:=(call3 (s_l1Rd_pick [.i 12,a,b]) fun c d e=>(bif (c.I==0) then (call6 (s_l2Full [d,e]) fun f g h i j k=>(some (.ret [f,.l i.L,.l j.L,.l k.L,g,h]))) else (call6 (s_l2Draw [d,e]) fun l m n o p q=>(call3 (s_l1Rd_pick [.i 16,p,q]) fun r s t=>(bif (r.I==0) then (call6 (s_l2Spoil [l,m,n,o,s,t]) fun u v w x y z=>(some (.ret [u,.l y.L,.l z.L,v,w,x]))) else (some (.ret [l,m,n,o,s,t])))))))
def s_l2Any:List C→Option (List C):=fun xs=>finR (ap2 s_l2Any.d1 xs)
def s_l2Any_fs:FS:=⟨1,⟨[(0,(.pt 2000 0))],[(2000,z3)]⟩,⟨[(0,z2)],[(2000,z3)]⟩,[2000],s_l2Any⟩
theorem s_l2Any_ok:FSOk Tryz.checked.prog T0 49 s_l2Any_fs:=okOf base0 (fn:=Tryz.f49) (c:=Tryz.f49.body.getD .skip) s_l2Any_fs (.seq .leaf (.seq (.seq .leaf (.cond (.seq .leaf (.frz [39865,39866,39867] .leaf)) .leaf)) (.seq .leaf (.seq (.seq .leaf (.cond (.seq .leaf (.frz [72633,72634] .leaf)) .leaf)) .leaf)))) [(76,some 5,s_l1Rd_pick_fs),(76,some 12,s_l1Rd_pick_fs),(96,some 8,s_l2Full_fs),(97,some 10,s_l2Draw_fs),(98,some 16,s_l2Spoil_fs)] (.cons s_l1Rd_pick_ok (.cons s_l1Rd_pick_ok (.cons s_l2Full_ok (.cons s_l2Draw_ok (.cons s_l2Spoil_ok .nil))))) (by kernel_rfl) (by kernel_rfl) (by kernel_rfl) (fun xs=>by kernel_rfl)
def s_l3Copy.d1 (a b c d e f:C):R:=(bif (!((d.L.length:Int)==0)) then (call3 (s_l1Rd_pick [.i 16,e,f]) fun g h i=>(bif (g.I==0) then (call3 (s_l1Rd_pick [.i 2,h,i]) fun j k l=>(bif (decide (0≤j.I)) then (bif (decide (j.I<((rows [[.s (bs #[])],[.s (bs #[103,111,110,101])]]).length:Int))) then (some (.ret [(((rows [[.s (bs #[])],[.s (bs #[103,111,110,101])]]).getD j.I.toNat []).getD 0 .nil),k,l])) else none) else none)) else (call3 (s_l1Rd_pick [.i (d.L.length:Int),h,i]) fun m n o=>(bif (decide (0≤m.I)) then (bif (decide (m.I<(d.L.length:Int))) then (some (.ret [((d.L.getD m.I.toNat []).getD 0 .nil),n,o])) else none) else none)))) else (call3 (s_l1Rd_pick [.i 2,e,f]) fun p q r=>(bif (decide (0≤p.I)) then (bif (decide (p.I<((rows [[.s (bs #[])],[.s (bs #[103,111,110,101])]]).length:Int))) then (some (.ret [(((rows [[.s (bs #[])],[.s (bs #[103,111,110,101])]]).getD p.I.toNat []).getD 0 .nil),q,r])) else none) else none)))
def s_l3Copy:List C→Option (List C):=fun xs=>finR (ap6 s_l3Copy.d1 xs)
def s_l3Copy_fs:FS:=⟨2,⟨[(0,(.pt 2000 0)),(1,z2)],[(2000,z3)]⟩,⟨[(0,zt)],[(2000,z3)]⟩,[2000],s_l3Copy⟩
theorem s_l3Copy_ok:FSOk Tryz.checked.prog T0 50 s_l3Copy_fs:=okOf base0 (fn:=Tryz.f50) (c:=Tryz.f50.body.getD .skip) s_l3Copy_fs .leaf [(76,some 11,s_l1Rd_pick_fs),(76,some 16,s_l1Rd_pick_fs),(76,some 25,s_l1Rd_pick_fs)] (.cons s_l1Rd_pick_ok (.cons s_l1Rd_pick_ok (.cons s_l1Rd_pick_ok .nil))) (by kernel_rfl) (by kernel_rfl) (by kernel_rfl) (fun xs=>by kernel_rfl)
def s_l3Berth.d1 (a b c d e f:C):R:=(bif (!((b.L.length:Int)==0)) then (call3 (s_l1Rd_pick [.i 16,e,f]) fun g h i=>(bif (g.I==0) then (call3 (s_l1Rd_pick [.i 2,h,i]) fun j k l=>(bif (decide (0≤j.I)) then (bif (decide (j.I<((rows [[.s (bs #[])],[.s (bs #[103,111,110,101])]]).length:Int))) then (some (.ret [(((rows [[.s (bs #[])],[.s (bs #[103,111,110,101])]]).getD j.I.toNat []).getD 0 .nil),k,l])) else none) else none)) else (call3 (s_l1Rd_pick [.i (b.L.length:Int),h,i]) fun m n o=>(bif (decide (0≤m.I)) then (bif (decide (m.I<(b.L.length:Int))) then (some (.ret [((b.L.getD m.I.toNat []).getD 0 .nil),n,o])) else none) else none)))) else (call3 (s_l1Rd_pick [.i 2,e,f]) fun p q r=>(bif (decide (0≤p.I)) then (bif (decide (p.I<((rows [[.s (bs #[])],[.s (bs #[103,111,110,101])]]).length:Int))) then (some (.ret [(((rows [[.s (bs #[])],[.s (bs #[103,111,110,101])]]).getD p.I.toNat []).getD 0 .nil),q,r])) else none) else none)))
def s_l3Berth:List C→Option (List C):=fun xs=>finR (ap6 s_l3Berth.d1 xs)
def s_l3Berth_fs:FS:=⟨2,⟨[(0,(.pt 2000 0)),(1,z2)],[(2000,z3)]⟩,⟨[(0,zt)],[(2000,z3)]⟩,[2000],s_l3Berth⟩
theorem s_l3Berth_ok:FSOk Tryz.checked.prog T0 51 s_l3Berth_fs:=okOf base0 (fn:=Tryz.f51) (c:=Tryz.f51.body.getD .skip) s_l3Berth_fs .leaf [(76,some 11,s_l1Rd_pick_fs),(76,some 16,s_l1Rd_pick_fs),(76,some 25,s_l1Rd_pick_fs)] (.cons s_l1Rd_pick_ok (.cons s_l1Rd_pick_ok (.cons s_l1Rd_pick_ok .nil))) (by kernel_rfl) (by kernel_rfl) (by kernel_rfl) (fun xs=>by kernel_rfl)
def s_DrawPilotFits.d1 (a:C):R:=(call2 (s_l1Open [a]) fun b c=>(call6 (s_l2Any [b,c]) fun d e f g h i=>(call3 (s_l3Copy [d,e,f,g,h,i]) fun j k l=>(call3 (s_l3Berth [d,e,f,g,k,l]) fun m n o=>(some (.ret [d,e,f,g,j,m]))))))
def s_DrawPilotFits:List C→Option (List C):=fun xs=>finR (ap1 s_DrawPilotFits.d1 xs)
def s_DrawPilotFits_fs:FS:=⟨1,⟨[(0,(zl 5))],[]⟩,⟨[(0,(.tu [z2,zt,zt]))],[]⟩,[],s_DrawPilotFits⟩
theorem s_DrawPilotFits_ok:FSOk Tryz.checked.prog T0 9 s_DrawPilotFits_fs:=okOf base0 (fn:=Tryz.f9) (c:=Tryz.f9.body.getD .skip) s_DrawPilotFits_fs .leaf [(48,some 8,s_l1Open_fs),(49,some 10,s_l2Any_fs),(50,some 14,s_l3Copy_fs),(51,some 17,s_l3Berth_fs)] (.cons s_l1Open_ok (.cons s_l2Any_ok (.cons s_l3Copy_ok (.cons s_l3Berth_ok .nil)))) (by kernel_rfl) (by kernel_rfl) (by kernel_rfl) (fun xs=>by kernel_rfl)
def i_pByte.d1 (a:C):R:=(bif (decide (a.I≥97)) then (bif (!(decide (a.I≤122))) then (bif (decide (a.I≥48)) then (bif (!(decide (a.I≤57))) then (bif (!(a.I==45)) then (some (.ret [.b (a.I==95)])) else (some (.ret [.b true]))) else (some (.ret [.b true]))) else (bif (!(a.I==45)) then (some (.ret [.b (a.I==95)])) else (some (.ret [.b true])))) else (some (.ret [.b true]))) else (bif (decide (a.I≥48)) then (bif (!(decide (a.I≤57))) then (bif (!(a.I==45)) then (some (.ret [.b (a.I==95)])) else (some (.ret [.b true]))) else (some (.ret [.b true]))) else (bif (!(a.I==45)) then (some (.ret [.b (a.I==95)])) else (some (.ret [.b true])))))
def i_pByte:List C→Option (List C):=fun xs=>finR (ap1 i_pByte.d1 xs)
def i_pByte_fs:FS:=⟨1,⟨[(0,(.d (.int .u8)))],[]⟩,⟨[(0,zo)],[]⟩,[],i_pByte⟩
theorem i_pByte_ok:FSOk Tryz.checked.prog T0 112 i_pByte_fs:=okOf base0 (fn:=Tryz.f112) (c:=Tryz.f112.body.getD .skip) i_pByte_fs .leaf [] .nil (by kernel_rfl) (by kernel_rfl) (by kernel_rfl) (fun xs=>by kernel_rfl)
def i_pName.d1 (a b c:C):R:=(bif (decide (c.I<b.I)) then (bif (decide (0≤c.I)) then (bif (decide (c.I<(a.S.size:Int))) then (call1 (i_pByte [.i ((a.S.data.getD c.I.toNat 0).toNat:Int)]) fun d=>(bif (!d.B) then (some (.ret [.b false])) else (some (.again [a,b,.i (w64 (c.I+1))])))) else none) else none) else (some (.brk 0 [])))
def i_pName.d2:R:=(some (.ret [.b true]))
def i_pName.d3 (a:C):R:=(bif (!(decide ((a.S.size:Int)<1))) then (bif (decide ((a.S.size:Int)>20)) then (some (.ret [.b false])) else (bindBlk 0 (lim (ap3 i_pName.d1) [a,.i (a.S.size:Int),.i 0]) (fun xs=>i_pName.d2))) else (some (.ret [.b false])))
def i_pName:List C→Option (List C):=fun xs=>finR (ap1 i_pName.d3 xs)
def i_pName_fs:FS:=⟨1,⟨[(0,zt)],[]⟩,⟨[(0,zo)],[]⟩,[],i_pName⟩
theorem i_pName_ok:FSOk Tryz.checked.prog T0 66 i_pName_fs:=okOf base0 (fn:=Tryz.f66) (c:=Tryz.f66.body.getD .skip) i_pName_fs (.seq .leaf (.seq .leaf (.seq (.seq .leaf (.block ⟨[],[]⟩ (.loop ⟨[(0,zt),(13,zi),(14,zi)],[]⟩ .leaf))) .leaf))) [(112,some 20,i_pByte_fs)] (.cons i_pByte_ok .nil) (by kernel_rfl) (by kernel_rfl) (by kernel_rfl) (fun xs=>by kernel_rfl)
def i_within.d1 (a b c:C):R:=(bif (decide (a.I≥b.I)) then (some (.ret [.b (decide (a.I≤c.I))])) else (some (.ret [.b false])))
def i_within:List C→Option (List C):=fun xs=>finR (ap3 i_within.d1 xs)
def i_within_fs:FS:=⟨3,⟨[(0,zi),(1,zi),(2,zi)],[]⟩,⟨[(0,zo)],[]⟩,[],i_within⟩
theorem i_within_ok:FSOk Tryz.checked.prog T0 67 i_within_fs:=okOf base0 (fn:=Tryz.f67) (c:=Tryz.f67.body.getD .skip) i_within_fs .leaf [] .nil (by kernel_rfl) (by kernel_rfl) (by kernel_rfl) (fun xs=>by kernel_rfl)
def internal_stringslite_IndexByte:List C→Option (List C):=ibF
def internal_stringslite_IndexByte_fs:FS:=⟨2,⟨[(0,.d .str),(1,.d (.int .u8))],[]⟩,⟨[(0,.d (.int .i64))],[]⟩,[],internal_stringslite_IndexByte⟩
theorem internal_stringslite_IndexByte_ok:FSOk Tryz.checked.prog T0 215 internal_stringslite_IndexByte_fs:=ib_ok
def internal_stringslite_Index.d1 (a b c d:C):R:=(bif d.B then (some (.ret [.i 0])) else (bif (c.I==1) then (bif (decide (0<(b.S.size:Int))) then (call1 (internal_stringslite_IndexByte [a,.i ((b.S.data.getD 0 0).toNat:Int)]) fun e=>(some (.ret [e]))) else none) else (bif (decide (c.I≥(a.S.size:Int))) then (some (.ret [.i (-1)])) else none)))
def internal_stringslite_Index.d2 (a b:C):R:=(bindNrm (bif (!((b.S.size:Int)==0)) then (some (.nrm [a,b,.i (b.S.size:Int),.b (b.S.toList==a.S.toList)])) else (some (.nrm [a,b,.i (b.S.size:Int),.b true]))) (ap4 internal_stringslite_Index.d1))
def internal_stringslite_Index:List C→Option (List C):=fun xs=>finR (ap2 internal_stringslite_Index.d2 xs)
def internal_stringslite_Index_fs:FS:=⟨2,⟨[(0,zt),(1,zt)],[]⟩,⟨[(0,zi)],[]⟩,[],internal_stringslite_Index⟩
theorem internal_stringslite_Index_ok:FSOk Tryz.checked.prog T0 195 internal_stringslite_Index_fs:=okOf base0 (fn:=Tryz.f195) (c:=Tryz.f195.body.getD .skip) internal_stringslite_Index_fs (.seq .leaf (.seq .leaf (.seq (.skip (.seq (.join ⟨[(0,zt),(1,zt),(5,zi),(16,zo)],[]⟩ .leaf) .leaf)) .leaf))) [(215,some 30,internal_stringslite_IndexByte_fs)] (.cons internal_stringslite_IndexByte_ok .nil) (by kernel_rfl) (by kernel_rfl) (by kernel_rfl) (fun xs=>by kernel_rfl)
def internal_stringslite_Cut.d1 (a b:C):R:=(call1 (internal_stringslite_Index [a,b]) fun c=>(bif (decide (c.I≥0)) then (bif (decide (0≤c.I)) then (bif (decide (c.I≤(a.S.size:Int))) then (bif (decide (0≤(w64 (c.I+(b.S.size:Int))))) then (bif (decide ((w64 (c.I+(b.S.size:Int)))≤(a.S.size:Int))) then (bif (decide ((a.S.size:Int)≤(a.S.size:Int))) then (some (.ret [.s (a.S.extract 0 c.I.toNat),.s (a.S.extract (w64 (c.I+(b.S.size:Int))).toNat (a.S.size:Int).toNat),.b true])) else none) else none) else none) else none) else none) else (some (.ret [a,.s (bs #[]),.b false]))))
def internal_stringslite_Cut:List C→Option (List C):=fun xs=>finR (ap2 internal_stringslite_Cut.d1 xs)
def internal_stringslite_Cut_fs:FS:=⟨2,⟨[(0,zt),(1,zt)],[]⟩,⟨[(0,(.tu [zt,zt,zo]))],[]⟩,[],internal_stringslite_Cut⟩
theorem internal_stringslite_Cut_ok:FSOk Tryz.checked.prog T0 170 internal_stringslite_Cut_fs:=okOf base0 (fn:=Tryz.f170) (c:=Tryz.f170.body.getD .skip) internal_stringslite_Cut_fs .leaf [(195,some 10,internal_stringslite_Index_fs)] (.cons internal_stringslite_Index_ok .nil) (by kernel_rfl) (by kernel_rfl) (by kernel_rfl) (fun xs=>by kernel_rfl)
def strings_Cut.d1 (a b:C):R:=(call3 (internal_stringslite_Cut [a,b]) fun c d e=>(some (.ret [c,d,.b e.B])))
def strings_Cut:List C→Option (List C):=fun xs=>finR (ap2 strings_Cut.d1 xs)
def strings_Cut_fs:FS:=⟨2,⟨[(0,zt),(1,zt)],[]⟩,⟨[(0,(.tu [zt,zt,zo]))],[]⟩,[],strings_Cut⟩
theorem strings_Cut_ok:FSOk Tryz.checked.prog T0 140 strings_Cut_fs:=okOf base0 (fn:=Tryz.f140) (c:=Tryz.f140.body.getD .skip) strings_Cut_fs .leaf [(170,some 9,internal_stringslite_Cut_fs)] (.cons internal_stringslite_Cut_ok .nil) (by kernel_rfl) (by kernel_rfl) (by kernel_rfl) (fun xs=>by kernel_rfl)
def i_pMark.d1 (a:C):R:=(call3 (strings_Cut [a,.s (bs #[61])]) fun b c d=>(call1 (i_pName [b]) fun e=>(bif e.B then (bif (!(!d.B)) then (call1 (i_pName [c]) fun f=>(some (.ret [b,c,.b f.B]))) else (some (.ret [b,c,.b true]))) else (some (.ret [b,c,.b false])))))
def i_pMark:List C→Option (List C):=fun xs=>finR (ap1 i_pMark.d1 xs)
def i_pMark_fs:FS:=⟨1,⟨[(0,zt)],[]⟩,⟨[(0,(.tu [zt,zt,zo]))],[]⟩,[],i_pMark⟩
theorem i_pMark_ok:FSOk Tryz.checked.prog T0 111 i_pMark_fs:=okOf base0 (fn:=Tryz.f111) (c:=Tryz.f111.body.getD .skip) i_pMark_fs .leaf [(66,some 17,i_pName_fs),(66,some 23,i_pName_fs),(140,some 10,strings_Cut_fs)] (.cons i_pName_ok (.cons i_pName_ok (.cons strings_Cut_ok .nil))) (by kernel_rfl) (by kernel_rfl) (by kernel_rfl) (fun xs=>by kernel_rfl)
def i_pBerthOk.d1 (a b c d e f g h i j:C):R:=(bif (decide (c.I<b.I)) then (bif (decide (0≤c.I)) then (bif (decide (c.I<(a.L.length:Int))) then (call3 (i_pMark [((a.L.getD c.I.toNat []).getD 0 .nil)]) fun k l m=>(bif (!(!m.B)) then (bif (!((mget (.b false) k.S j.L).B)) then (bif (decide (c.I>0)) then (bif (decide (0≤(w64 (c.I-1)))) then (bif (decide ((w64 (c.I-1))<(f.L.length:Int))) then (bif ((Op.bytesLess (((a.L.getD c.I.toNat []).getD 0 .nil).S).toList (((f.L.getD (w64 (c.I-1)).toNat []).getD 0 .nil).S).toList)||((((a.L.getD c.I.toNat []).getD 0 .nil).S).toList==(((f.L.getD (w64 (c.I-1)).toNat []).getD 0 .nil).S).toList)) then (some (.ret [.b false])) else (some (.again [a,b,.i (w64 (c.I+1)),d,e,f,g,h,i,.l (mset k.S (.b true) j.L)]))) else none) else none) else (some (.again [a,b,.i (w64 (c.I+1)),d,e,f,g,h,i,.l (mset k.S (.b true) j.L)]))) else (some (.ret [.b false]))) else (some (.ret [.b false])))) else none) else none) else (some (.brk 0 [])))
def i_pBerthOk.d2:R:=(some (.ret [.b true]))
def i_pBerthOk.d3 (a b c d e f:C):R:=(call1 (i_pName [a]) fun g=>(bif (!(!g.B)) then (call1 (i_pName [b]) fun h=>(bif (!(!h.B)) then (bif (!(decide ((c.L.length:Int)>10))) then (call1 (i_within [d,.i 0,.i 1000]) fun i=>(bif (!(!i.B)) then (call1 (i_within [e,.i 0,.i 1000]) fun j=>(bif (!j.B) then (some (.ret [.b false])) else (bindBlk 0 (lim (ap10 i_pBerthOk.d1) [c,.i (c.L.length:Int),.i 0,a,b,c,d,e,f,.l nils]) (fun xs=>i_pBerthOk.d2)))) else (some (.ret [.b false])))) else (some (.ret [.b false]))) else (some (.ret [.b false])))) else (some (.ret [.b false]))))
def i_pBerthOk:List C→Option (List C):=fun xs=>finR (ap6 i_pBerthOk.d3 xs)
def i_pBerthOk_fs:FS:=⟨1,⟨[(0,z8)],[]⟩,⟨[(0,zo)],[]⟩,[],i_pBerthOk⟩
theorem i_pBerthOk_ok:FSOk Tryz.checked.prog T0 65 i_pBerthOk_fs:=okOf base0 (fn:=Tryz.f65) (c:=Tryz.f65.body.getD .skip) i_pBerthOk_fs (.seq .leaf (.seq .leaf (.seq .leaf (.seq (.seq .leaf (.block ⟨[],[]⟩ (.loop ⟨[(1,(.pt 1 0)),(3,(.mp 37)),(39,(zl 9)),(40,zi),(41,zi)],[(1,z5),(37,.mp 4)]⟩ .leaf))) .leaf)))) [(66,some 11,i_pName_fs),(66,some 16,i_pName_fs),(67,some 28,i_within_fs),(67,some 34,i_within_fs),(111,some 48,i_pMark_fs)] (.cons i_pName_ok (.cons i_pName_ok (.cons i_within_ok (.cons i_within_ok (.cons i_pMark_ok .nil))))) (by kernel_rfl) (by kernel_rfl) (by kernel_rfl) (fun xs=>by kernel_rfl)
def strings_trimRightByte.d1 (a b:C):R:=(bif (decide ((a.S.size:Int)>0)) then (bif (decide (0≤(w64 ((a.S.size:Int)-1)))) then (bif (decide ((w64 ((a.S.size:Int)-1))<(a.S.size:Int))) then (bif (((a.S.data.getD (w64 ((a.S.size:Int)-1)).toNat 0).toNat:Int)==b.I) then (bif (decide (0≤(w64 ((a.S.size:Int)-1)))) then (bif (decide ((w64 ((a.S.size:Int)-1))≤(a.S.size:Int))) then (some (.again [.s (a.S.extract 0 (w64 ((a.S.size:Int)-1)).toNat),b])) else none) else none) else (some (.brk 0 [a]))) else none) else none) else (some (.brk 0 [a])))
def strings_trimRightByte.d2 (a:C):R:=(some (.ret [a]))
def strings_trimRightByte.d3 (a b:C):R:=(bindBlk 0 (lim (ap2 strings_trimRightByte.d1) [a,b]) (ap1 strings_trimRightByte.d2))
def strings_trimRightByte:List C→Option (List C):=fun xs=>finR (ap2 strings_trimRightByte.d3 xs)
def strings_trimRightByte_fs:FS:=⟨2,⟨[(0,zt),(1,(.d (.int .u8)))],[]⟩,⟨[(0,zt)],[]⟩,[],strings_trimRightByte⟩
theorem strings_trimRightByte_ok:FSOk Tryz.checked.prog T0 172 strings_trimRightByte_fs:=okOf base0 (fn:=Tryz.f172) (c:=Tryz.f172.body.getD .skip) strings_trimRightByte_fs (.seq .leaf (.seq (.block ⟨[(0,zt)],[]⟩ (.loop ⟨[(0,zt),(1,(.d (.int .u8)))],[]⟩ .leaf)) .leaf)) [] .nil (by kernel_rfl) (by kernel_rfl) (by kernel_rfl) (fun xs=>by kernel_rfl)
def strings_trimLeftByte.d1 (a b:C):R:=(bif (decide ((a.S.size:Int)>0)) then (bif (decide (0<(a.S.size:Int))) then (bif (((a.S.data.getD 0 0).toNat:Int)==b.I) then (bif (decide (1≤(a.S.size:Int))) then (bif (decide ((a.S.size:Int)≤(a.S.size:Int))) then (some (.again [.s (a.S.extract 1 (a.S.size:Int).toNat),b])) else none) else none) else (some (.brk 0 [a]))) else none) else (some (.brk 0 [a])))
def strings_trimLeftByte.d2 (a:C):R:=(some (.ret [a]))
def strings_trimLeftByte.d3 (a b:C):R:=(bindBlk 0 (lim (ap2 strings_trimLeftByte.d1) [a,b]) (ap1 strings_trimLeftByte.d2))
def strings_trimLeftByte:List C→Option (List C):=fun xs=>finR (ap2 strings_trimLeftByte.d3 xs)
def strings_trimLeftByte_fs:FS:=⟨2,⟨[(0,zt),(1,(.d (.int .u8)))],[]⟩,⟨[(0,zt)],[]⟩,[],strings_trimLeftByte⟩
theorem strings_trimLeftByte_ok:FSOk Tryz.checked.prog T0 171 strings_trimLeftByte_fs:=okOf base0 (fn:=Tryz.f171) (c:=Tryz.f171.body.getD .skip) strings_trimLeftByte_fs (.seq .leaf (.seq (.block ⟨[(0,zt)],[]⟩ (.loop ⟨[(0,zt),(1,(.d (.int .u8)))],[]⟩ .leaf)) .leaf)) [] .nil (by kernel_rfl) (by kernel_rfl) (by kernel_rfl) (fun xs=>by kernel_rfl)
def strings_makeASCIISet.d1 (a:C):R:=none
def strings_makeASCIISet:List C→Option (List C):=fun xs=>finR (ap1 strings_makeASCIISet.d1 xs)
def strings_makeASCIISet_fs:FS:=⟨1,⟨[(0,zt)],[]⟩,⟨[],[]⟩,[],strings_makeASCIISet⟩
theorem strings_makeASCIISet_ok:FSOk Tryz.checked.prog T0 173 strings_makeASCIISet_fs:=okOf base0 (fn:=Tryz.f173) (c:=Tryz.f173.body.getD .skip) strings_makeASCIISet_fs .leaf [] .nil (by kernel_rfl) (by kernel_rfl) (by kernel_rfl) (fun xs=>by kernel_rfl)
def strings_Trim.d1 (a b:C):R:=(bindF (strings_makeASCIISet [b]) fun _=>none)
def strings_Trim.d2 (a b:C):R:=(bif (!(a.S.toList==(bs #[]).toList)) then (bif (b.S.toList==(bs #[]).toList) then (some (.ret [a])) else (bindNrm (bif ((b.S.size:Int)==1) then (bif (decide (0<(b.S.size:Int))) then (bif (decide (((b.S.data.getD 0 0).toNat:Int)<128)) then (bif (decide (0<(b.S.size:Int))) then (call1 (strings_trimRightByte [a,.i ((b.S.data.getD 0 0).toNat:Int)]) fun c=>(bif (decide (0<(b.S.size:Int))) then (call1 (strings_trimLeftByte [c,.i ((b.S.data.getD 0 0).toNat:Int)]) fun d=>(some (.ret [d]))) else none)) else none) else (some (.nrm [a,b]))) else none) else (some (.nrm [a,b]))) (ap2 strings_Trim.d1))) else (some (.ret [a])))
def strings_Trim:List C→Option (List C):=fun xs=>finR (ap2 strings_Trim.d2 xs)
def strings_Trim_fs:FS:=⟨2,⟨[(0,zt),(1,zt)],[]⟩,⟨[(0,zt)],[]⟩,[],strings_Trim⟩
theorem strings_Trim_ok:FSOk Tryz.checked.prog T0 141 strings_Trim_fs:=okOf base0 (fn:=Tryz.f141) (c:=Tryz.f141.body.getD .skip) strings_Trim_fs (.seq .leaf (.seq .leaf (.seq (.join ⟨[(0,zt),(1,zt)],[]⟩ .leaf) .leaf))) [(171,some 28,strings_trimLeftByte_fs),(172,some 25,strings_trimRightByte_fs),(173,some 31,strings_makeASCIISet_fs)] (.cons strings_trimLeftByte_ok (.cons strings_trimRightByte_ok (.cons strings_makeASCIISet_ok .nil))) (by kernel_rfl) (by kernel_rfl) (by kernel_rfl) (fun xs=>by kernel_rfl)
def i_pParser_gap.d1 (a b c:C):R:=(bif (decide (b.I<(a.S.size:Int))) then (bif (decide (0≤b.I)) then (bif (decide (b.I<(a.S.size:Int))) then (bif (((a.S.data.getD b.I.toNat 0).toNat:Int)==32) then (some (.again [a,.i (w64 (b.I+1)),c])) else (some (.brk 0 [a,b,c]))) else none) else none) else (some (.brk 0 [a,b,c])))
def i_pParser_gap.d2 (a b c:C):R:=(some (.ret [a,b,c]))
def i_pParser_gap.d3 (a b c:C):R:=(bindBlk 0 (lim (ap3 i_pParser_gap.d1) [a,b,c]) (ap3 i_pParser_gap.d2))
def i_pParser_gap:List C→Option (List C):=fun xs=>finR (ap3 i_pParser_gap.d3 xs)
def i_pParser_gap_fs:FS:=⟨1,⟨[(0,(.pt 2000 0))],[(2000,.var 158 [zt,zi,zo])]⟩,⟨[(0,(.tu []))],[(2000,.var 158 [zt,zi,zo])]⟩,[2000],i_pParser_gap⟩
theorem i_pParser_gap_ok:FSOk Tryz.checked.prog T0 143 i_pParser_gap_fs:=okOf base0 (fn:=Tryz.f143) (c:=Tryz.f143.body.getD .skip) i_pParser_gap_fs (.block ⟨[],[(2000,.var 158 [zt,zi,zo])]⟩ (.loop ⟨[(0,(.pt 2000 0))],[(2000,.var 158 [zt,zi,zo])]⟩ .leaf)) [] .nil (by kernel_rfl) (by kernel_rfl) (by kernel_rfl) (fun xs=>by kernel_rfl)
def i_pParser_take.d1 (a b c d:C):R:=(call3 (i_pParser_gap [b,c,d]) fun e f g=>(bif (decide (f.I<(e.S.size:Int))) then (bif (decide (0≤f.I)) then (bif (decide (f.I<(e.S.size:Int))) then (bif (((e.S.data.getD f.I.toNat 0).toNat:Int)==a.I) then (some (.ret [.b true,e,.i (w64 (f.I+1)),g])) else (some (.ret [.b false,e,f,g]))) else none) else none) else (some (.ret [.b false,e,f,g]))))
def i_pParser_take:List C→Option (List C):=fun xs=>finR (ap4 i_pParser_take.d1 xs)
def i_pParser_take_fs:FS:=⟨2,⟨[(0,(.pt 2000 0)),(1,(.d (.int .u8)))],[(2000,.var 158 [zt,zi,zo])]⟩,⟨[(0,zo)],[(2000,.var 158 [zt,zi,zo])]⟩,[2000],i_pParser_take⟩
theorem i_pParser_take_ok:FSOk Tryz.checked.prog T0 179 i_pParser_take_fs:=okOf base0 (fn:=Tryz.f179) (c:=Tryz.f179.body.getD .skip) i_pParser_take_fs .leaf [(143,some 6,i_pParser_gap_fs)] (.cons i_pParser_gap_ok .nil) (by kernel_rfl) (by kernel_rfl) (by kernel_rfl) (fun xs=>by kernel_rfl)
def i_pParser_name.d1 (a b c d:C):R:=(bif (decide (c.I<(b.S.size:Int))) then (bif (decide (0≤c.I)) then (bif (decide (c.I<(b.S.size:Int))) then (call1 (i_pByte [.i ((b.S.data.getD c.I.toNat 0).toNat:Int)]) fun e=>(bif e.B then (some (.again [a,b,.i (w64 (c.I+1)),d])) else (some (.brk 0 [a,b,c,d])))) else none) else none) else (some (.brk 0 [a,b,c,d])))
def i_pParser_name.d2 (a b c d:C):R:=(bif (decide (0≤a.I)) then (bif (decide (a.I≤c.I)) then (bif (decide (c.I≤(b.S.size:Int))) then (call1 (i_pName [.s (b.S.extract a.I.toNat c.I.toNat)]) fun e=>(bif (!e.B) then (bif (decide (0≤a.I)) then (bif (decide (a.I≤c.I)) then (bif (decide (c.I≤(b.S.size:Int))) then (some (.ret [.s (b.S.extract a.I.toNat c.I.toNat),b,c,.b false])) else none) else none) else none) else (bif (decide (0≤a.I)) then (bif (decide (a.I≤c.I)) then (bif (decide (c.I≤(b.S.size:Int))) then (some (.ret [.s (b.S.extract a.I.toNat c.I.toNat),b,c,d])) else none) else none) else none))) else none) else none) else none)
def i_pParser_name.d3 (a b c:C):R:=(call3 (i_pParser_gap [a,b,c]) fun d e f=>(bindBlk 0 (lim (ap4 i_pParser_name.d1) [e,d,e,f]) (ap4 i_pParser_name.d2)))
def i_pParser_name:List C→Option (List C):=fun xs=>finR (ap3 i_pParser_name.d3 xs)
def i_pParser_name_fs:FS:=⟨1,⟨[(0,(.pt 2000 0))],[(2000,.var 158 [zt,zi,zo])]⟩,⟨[(0,zt)],[(2000,.var 158 [zt,zi,zo])]⟩,[2000],i_pParser_name⟩
theorem i_pParser_name_ok:FSOk Tryz.checked.prog T0 222 i_pParser_name_fs:=okOf base0 (fn:=Tryz.f222) (c:=Tryz.f222.body.getD .skip) i_pParser_name_fs (.seq .leaf (.seq .leaf (.seq .leaf (.seq (.block ⟨[(0,(.pt 2000 0)),(3,zi)],[(2000,.var 158 [zt,zi,zo])]⟩ (.loop ⟨[(0,(.pt 2000 0)),(3,zi)],[(2000,.var 158 [zt,zi,zo])]⟩ .leaf)) .leaf)))) [(66,some 49,i_pName_fs),(112,some 30,i_pByte_fs),(143,some 5,i_pParser_gap_fs)] (.cons i_pName_ok (.cons i_pByte_ok (.cons i_pParser_gap_ok .nil))) (by kernel_rfl) (by kernel_rfl) (by kernel_rfl) (fun xs=>by kernel_rfl)
def i_pParser_or.d1 (G0 G1 G2:List C→Option (List C)) (a b c d:C):R:=(bif d.B then (call4 (i_pParser_take [.i 124,b,c,d]) fun e f g h=>(bif e.B then (call4 (G1 [f,g,h]) fun i j k l=>(some (.again [.p [.i 5,.s (bs #[]),.s (bs #[]),.l (rows [[a],[i]])],j,k,l]))) else (some (.brk 0 [a,f,g,h])))) else (some (.brk 0 [a,b,c,d])))
def i_pParser_or.d2 (G0 G1 G2:List C→Option (List C)) (a b c d:C):R:=(some (.ret [a,b,c,d]))
def i_pParser_or.d3 (G0 G1 G2:List C→Option (List C)) (a b c:C):R:=(call4 (G1 [a,b,c]) fun d e f g=>(bindBlk 0 (lim (ap4 (i_pParser_or.d1 G0 G1 G2)) [d,e,f,g]) (ap4 (i_pParser_or.d2 G0 G1 G2))))
def i_pParser_or.step (G0 G1 G2:List C→Option (List C)):List C→Option (List C):=fun xs=>finR (ap3 (i_pParser_or.d3 G0 G1 G2) xs)
def i_pParser_or_fs (G:List C→Option (List C)):FS:=⟨1,⟨[(0,(.pt 2000 0))],[(2000,.var 158 [(.d .str),(.d (.int .i64)),(.d .bool)])]⟩,⟨[(0,(.d (.pt 155)))],[(2000,.var 158 [(.d .str),(.d (.int .i64)),(.d .bool)])]⟩,[2000],G⟩
def i_pParser_and.d1 (G0 G1 G2:List C→Option (List C)) (a b c d:C):R:=(bif d.B then (call4 (i_pParser_take [.i 38,b,c,d]) fun e f g h=>(bif e.B then (call4 (G2 [f,g,h]) fun i j k l=>(some (.again [.p [.i 4,.s (bs #[]),.s (bs #[]),.l (rows [[a],[i]])],j,k,l]))) else (some (.brk 0 [a,f,g,h])))) else (some (.brk 0 [a,b,c,d])))
def i_pParser_and.d2 (G0 G1 G2:List C→Option (List C)) (a b c d:C):R:=(some (.ret [a,b,c,d]))
def i_pParser_and.d3 (G0 G1 G2:List C→Option (List C)) (a b c:C):R:=(call4 (G2 [a,b,c]) fun d e f g=>(bindBlk 0 (lim (ap4 (i_pParser_and.d1 G0 G1 G2)) [d,e,f,g]) (ap4 (i_pParser_and.d2 G0 G1 G2))))
def i_pParser_and.step (G0 G1 G2:List C→Option (List C)):List C→Option (List C):=fun xs=>finR (ap3 (i_pParser_and.d3 G0 G1 G2) xs)
def i_pParser_and_fs (G:List C→Option (List C)):FS:=⟨1,⟨[(0,(.pt 2000 0))],[(2000,.var 158 [(.d .str),(.d (.int .i64)),(.d .bool)])]⟩,⟨[(0,(.d (.pt 155)))],[(2000,.var 158 [(.d .str),(.d (.int .i64)),(.d .bool)])]⟩,[2000],G⟩
def i_pParser_not.d1 (G0 G1 G2:List C→Option (List C)) (a b c:C):R:=(bif (!c.B) then (some (.ret [.p [.i 0,.s (bs #[]),.s (bs #[]),.l nils],a,b,c])) else (call4 (i_pParser_take [.i 33,a,b,c]) fun d e f g=>(bif d.B then (call4 (G2 [e,f,g]) fun h i j k=>(some (.ret [.p [.i 3,.s (bs #[]),.s (bs #[]),.l (rows [[h]])],i,j,k]))) else (call4 (i_pParser_take [.i 40,e,f,g]) fun l m n o=>(bif l.B then (call4 (G0 [m,n,o]) fun p q r s=>(bif s.B then (call4 (i_pParser_take [.i 41,q,r,s]) fun t u v w=>(some (.ret [p,u,v,.b t.B]))) else (some (.ret [p,q,r,.b false])))) else (call4 (i_pParser_name [m,n,o]) fun x y z a0=>(bif a0.B then (call4 (i_pParser_take [.i 61,y,z,a0]) fun a1 a2 a3 a4=>(bif a1.B then (call4 (i_pParser_name [a2,a3,a4]) fun a5 a6 a7 a8=>(some (.ret [.p [.i 2,x,a5,.l nils],a6,a7,a8]))) else (some (.ret [.p [.i 1,x,.s (bs #[]),.l nils],a2,a3,a4])))) else (some (.ret [.p [.i 1,x,.s (bs #[]),.l nils],y,z,a0])))))))))
def i_pParser_not.step (G0 G1 G2:List C→Option (List C)):List C→Option (List C):=fun xs=>finR (ap3 (i_pParser_not.d1 G0 G1 G2) xs)
def i_pParser_not_fs (G:List C→Option (List C)):FS:=⟨1,⟨[(0,(.pt 2000 0))],[(2000,.var 158 [(.d .str),(.d (.int .i64)),(.d .bool)])]⟩,⟨[(0,(.d (.pt 155)))],[(2000,.var 158 [(.d .str),(.d (.int .i64)),(.d .bool)])]⟩,[2000],G⟩
theorem i_pParser_or_st {G0 G1 G2:List C→Option (List C)} (h0:FSOk Tryz.checked.prog T0 142 (i_pParser_or_fs G0)) (h1:FSOk Tryz.checked.prog T0 178 (i_pParser_and_fs G1)) (h2:FSOk Tryz.checked.prog T0 200 (i_pParser_not_fs G2)):FSOk Tryz.checked.prog T0 142 (i_pParser_or_fs (i_pParser_or.step G0 G1 G2)):=okOf base0 (fn:=Tryz.f142) (c:=Tryz.f142.body.getD .skip) (i_pParser_or_fs (i_pParser_or.step G0 G1 G2)) (.seq .leaf (.seq .leaf (.seq (.block ⟨[(3,(.d (.pt 155)))],[(2000,.var 158 [(.d .str),(.d (.int .i64)),(.d .bool)])]⟩ (.loop ⟨[(0,(.pt 2000 0)),(3,(.d (.pt 155)))],[(2000,.var 158 [(.d .str),(.d (.int .i64)),(.d .bool)])]⟩ .leaf)) .leaf))) [(178,some 5,(i_pParser_and_fs G1)),(178,some 16,(i_pParser_and_fs G1)),(179,some 12,i_pParser_take_fs)] (.cons h1 (.cons h1 (.cons i_pParser_take_ok .nil))) (by kernel_rfl) (by kernel_rfl) (by kernel_rfl) (fun xs=>by kernel_rfl)
theorem i_pParser_and_st {G0 G1 G2:List C→Option (List C)} (h0:FSOk Tryz.checked.prog T0 142 (i_pParser_or_fs G0)) (h1:FSOk Tryz.checked.prog T0 178 (i_pParser_and_fs G1)) (h2:FSOk Tryz.checked.prog T0 200 (i_pParser_not_fs G2)):FSOk Tryz.checked.prog T0 178 (i_pParser_and_fs (i_pParser_and.step G0 G1 G2)):=okOf base0 (fn:=Tryz.f178) (c:=Tryz.f178.body.getD .skip) (i_pParser_and_fs (i_pParser_and.step G0 G1 G2)) (.seq .leaf (.seq .leaf (.seq (.block ⟨[(3,(.d (.pt 155)))],[(2000,.var 158 [(.d .str),(.d (.int .i64)),(.d .bool)])]⟩ (.loop ⟨[(0,(.pt 2000 0)),(3,(.d (.pt 155)))],[(2000,.var 158 [(.d .str),(.d (.int .i64)),(.d .bool)])]⟩ .leaf)) .leaf))) [(179,some 12,i_pParser_take_fs),(200,some 5,(i_pParser_not_fs G2)),(200,some 16,(i_pParser_not_fs G2))] (.cons i_pParser_take_ok (.cons h2 (.cons h2 .nil))) (by kernel_rfl) (by kernel_rfl) (by kernel_rfl) (fun xs=>by kernel_rfl)
theorem i_pParser_not_st {G0 G1 G2:List C→Option (List C)} (h0:FSOk Tryz.checked.prog T0 142 (i_pParser_or_fs G0)) (h1:FSOk Tryz.checked.prog T0 178 (i_pParser_and_fs G1)) (h2:FSOk Tryz.checked.prog T0 200 (i_pParser_not_fs G2)):FSOk Tryz.checked.prog T0 200 (i_pParser_not_fs (i_pParser_not.step G0 G1 G2)):=okOf base0 (fn:=Tryz.f200) (c:=Tryz.f200.body.getD .skip) (i_pParser_not_fs (i_pParser_not.step G0 G1 G2)) (.seq .leaf (.seq (.skip (.seq .leaf (.cond (.seq .leaf (.frz [12] .leaf)) (.seq .leaf (.cond (.seq .leaf (.frz [18,20] .leaf)) .leaf))))) (.seq .leaf (.seq .leaf (.seq .leaf (.frz [41] .leaf)))))) [(142,some 25,(i_pParser_or_fs G0)),(179,some 15,i_pParser_take_fs),(179,some 23,i_pParser_take_fs),(179,some 33,i_pParser_take_fs),(179,some 48,i_pParser_take_fs),(200,some 17,(i_pParser_not_fs G2)),(222,some 39,i_pParser_name_fs),(222,some 53,i_pParser_name_fs)] (.cons h0 (.cons i_pParser_take_ok (.cons i_pParser_take_ok (.cons i_pParser_take_ok (.cons i_pParser_take_ok (.cons h2 (.cons i_pParser_name_ok (.cons i_pParser_name_ok .nil)))))))) (by kernel_rfl) (by kernel_rfl) (by kernel_rfl) (fun xs=>by kernel_rfl)
def i_pParser_or.g:Nat→Nat→List C→Option (List C)
 |0,_=>fun _=>none
 |k+1,0=>i_pParser_or.step (i_pParser_or.g k 0) (i_pParser_or.g k 1) (i_pParser_or.g k 2)
 |k+1,1=>i_pParser_and.step (i_pParser_or.g k 0) (i_pParser_or.g k 1) (i_pParser_or.g k 2)
 |k+1,2=>i_pParser_not.step (i_pParser_or.g k 0) (i_pParser_or.g k 1) (i_pParser_or.g k 2)
 |_,_=>fun _=>none
theorem i_pParser_or_rec:∀k:Nat,FSOk Tryz.checked.prog T0 142 (i_pParser_or_fs (i_pParser_or.g k 0))∧FSOk Tryz.checked.prog T0 178 (i_pParser_and_fs (i_pParser_or.g k 1))∧FSOk Tryz.checked.prog T0 200 (i_pParser_not_fs (i_pParser_or.g k 2))
 |0=>⟨noneOk (fn:=Tryz.f142) (c:=Tryz.f142.body.getD .skip) (1) (⟨[(0,(.pt 2000 0))],[(2000,.var 158 [(.d .str),(.d (.int .i64)),(.d .bool)])]⟩) (⟨[(0,(.d (.pt 155)))],[(2000,.var 158 [(.d .str),(.d (.int .i64)),(.d .bool)])]⟩) [2000] (by kernel_rfl) (by kernel_rfl) (by kernel_rfl),noneOk (fn:=Tryz.f178) (c:=Tryz.f178.body.getD .skip) (1) (⟨[(0,(.pt 2000 0))],[(2000,.var 158 [(.d .str),(.d (.int .i64)),(.d .bool)])]⟩) (⟨[(0,(.d (.pt 155)))],[(2000,.var 158 [(.d .str),(.d (.int .i64)),(.d .bool)])]⟩) [2000] (by kernel_rfl) (by kernel_rfl) (by kernel_rfl),noneOk (fn:=Tryz.f200) (c:=Tryz.f200.body.getD .skip) (1) (⟨[(0,(.pt 2000 0))],[(2000,.var 158 [(.d .str),(.d (.int .i64)),(.d .bool)])]⟩) (⟨[(0,(.d (.pt 155)))],[(2000,.var 158 [(.d .str),(.d (.int .i64)),(.d .bool)])]⟩) [2000] (by kernel_rfl) (by kernel_rfl) (by kernel_rfl)⟩
 |k+1=>⟨i_pParser_or_st (i_pParser_or_rec k).1 (i_pParser_or_rec k).2.1 (i_pParser_or_rec k).2.2,i_pParser_and_st (i_pParser_or_rec k).1 (i_pParser_or_rec k).2.1 (i_pParser_or_rec k).2.2,i_pParser_not_st (i_pParser_or_rec k).1 (i_pParser_or_rec k).2.1 (i_pParser_or_rec k).2.2⟩
def i_pParser_or:List C→Option (List C):=i_pParser_or.g FUEL 0
theorem i_pParser_or_ok:FSOk Tryz.checked.prog T0 142 (i_pParser_or_fs i_pParser_or):=(i_pParser_or_rec FUEL).1
def i_pParser_and:List C→Option (List C):=i_pParser_or.g FUEL 1
theorem i_pParser_and_ok:FSOk Tryz.checked.prog T0 178 (i_pParser_and_fs i_pParser_and):=(i_pParser_or_rec FUEL).2.1
def i_pParser_not:List C→Option (List C):=i_pParser_or.g FUEL 2
theorem i_pParser_not_ok:FSOk Tryz.checked.prog T0 200 (i_pParser_not_fs i_pParser_not):=(i_pParser_or_rec FUEL).2.2
def i_pSel_depth.d1 (G0:List C→Option (List C)) (a b c d:C):R:=(bif (decide (d.I<c.I)) then (bif (decide (0≤d.I)) then (bif (decide (d.I<(b.L.length:Int))) then (call1 (G0 [((b.L.getD d.I.toNat []).getD 0 .nil)]) fun e=>(some (.again [.i (if (w64 (e.I+1))>a.I then (w64 (e.I+1)) else a.I),b,c,.i (w64 (d.I+1))]))) else none) else none) else (some (.brk 0 [a])))
def i_pSel_depth.d2 (G0:List C→Option (List C)) (a:C):R:=(some (.ret [a]))
def i_pSel_depth.d3 (G0:List C→Option (List C)) (a:C):R:=(bif a.isP then (bindBlk 0 (lim (ap4 (i_pSel_depth.d1 G0)) [.i 0,(a.P.getD 3 .nil),.i (((a.P.getD 3 .nil).L).length:Int),.i 0]) (ap1 (i_pSel_depth.d2 G0))) else none)
def i_pSel_depth.step (G0:List C→Option (List C)):List C→Option (List C):=fun xs=>finR (ap1 (i_pSel_depth.d3 G0) xs)
def i_pSel_depth_fs (G:List C→Option (List C)):FS:=⟨1,⟨[(0,(.d (.pt 155)))],[]⟩,⟨[(0,(.d (.int .i64)))],[]⟩,[],G⟩
theorem i_pSel_depth_st {G0:List C→Option (List C)} (h0:FSOk Tryz.checked.prog T0 144 (i_pSel_depth_fs G0)):FSOk Tryz.checked.prog T0 144 (i_pSel_depth_fs (i_pSel_depth.step G0)):=okOf base0 (fn:=Tryz.f144) (c:=Tryz.f144.body.getD .skip) (i_pSel_depth_fs (i_pSel_depth.step G0)) (.seq .leaf (.seq .leaf (.seq (.seq .leaf (.block ⟨[(3,(.d (.int .i64)))],[]⟩ (.loop ⟨[(3,(.d (.int .i64))),(9,(.d (.sl 127))),(10,(.d (.int .i64))),(11,(.d (.int .i64)))],[]⟩ .leaf))) .leaf))) [(144,some 17,(i_pSel_depth_fs G0))] (.cons h0 .nil) (by kernel_rfl) (by kernel_rfl) (by kernel_rfl) (fun xs=>by kernel_rfl)
def i_pSel_depth.g:Nat→Nat→List C→Option (List C)
 |0,_=>fun _=>none
 |k+1,0=>i_pSel_depth.step (i_pSel_depth.g k 0)
 |_,_=>fun _=>none
theorem i_pSel_depth_rec:∀k:Nat,FSOk Tryz.checked.prog T0 144 (i_pSel_depth_fs (i_pSel_depth.g k 0))
 |0=>noneOk (fn:=Tryz.f144) (c:=Tryz.f144.body.getD .skip) (1) (⟨[(0,(.d (.pt 155)))],[]⟩) (⟨[(0,(.d (.int .i64)))],[]⟩) [] (by kernel_rfl) (by kernel_rfl) (by kernel_rfl)
 |k+1=>i_pSel_depth_st (i_pSel_depth_rec k)
def i_pSel_depth:List C→Option (List C):=i_pSel_depth.g FUEL 0
theorem i_pSel_depth_ok:FSOk Tryz.checked.prog T0 144 (i_pSel_depth_fs i_pSel_depth):=i_pSel_depth_rec FUEL
def i_pParse.d1 (a:C):R:=(bif (decide ((a.S.size:Int)>200)) then (some (.ret [.nil,.i 1])) else (call1 (strings_Trim [a,.s (bs #[32])]) fun b=>(bif (b.S.toList==(bs #[]).toList) then (some (.ret [.p [.i 0,.s (bs #[]),.s (bs #[]),.l nils],.i 0])) else (call4 (i_pParser_or [a,.i 0,.b true]) fun c d e f=>(call3 (i_pParser_gap [d,e,f]) fun g h i=>(bif (!(!i.B)) then (bif (decide (h.I<(a.S.size:Int))) then (some (.ret [.nil,.i 2])) else (call1 (i_pSel_depth [c]) fun j=>(bif (decide (j.I>20)) then (some (.ret [.nil,.i 3])) else (some (.ret [c,.i 0]))))) else (some (.ret [.nil,.i 2]))))))))
def i_pParse:List C→Option (List C):=fun xs=>finR (ap1 i_pParse.d1 xs)
def i_pParse_fs:FS:=⟨1,⟨[(0,zt)],[]⟩,⟨[(0,(.tu [(.d (.pt 155)),zi]))],[]⟩,[],i_pParse⟩
theorem i_pParse_ok:FSOk Tryz.checked.prog T0 113 i_pParse_fs:=okOf base0 (fn:=Tryz.f113) (c:=Tryz.f113.body.getD .skip) i_pParse_fs (.seq .leaf (.seq .leaf (.seq (.seq .leaf (.cond (.seq .leaf (.frz [13] .leaf)) .leaf)) .leaf))) [(141,some 10,strings_Trim_fs),(142,some 18,(i_pParser_or_fs i_pParser_or)),(143,some 20,i_pParser_gap_fs),(144,some 36,(i_pSel_depth_fs i_pSel_depth))] (.cons strings_Trim_ok (.cons i_pParser_or_ok (.cons i_pParser_gap_ok (.cons i_pSel_depth_ok .nil)))) (by kernel_rfl) (by kernel_rfl) (by kernel_rfl) (fun xs=>by kernel_rfl)
end
end Go.Ev
namespace Go.Ev
open Go.Proofs
noncomputable section
def i_pCopyOk.d1 (a b c:C):R:=(bif (decide (c.I<b.I)) then (bif (decide (0≤c.I)) then (bif (decide (c.I<(a.L.length:Int))) then (call2 (i_pParse [((a.L.getD c.I.toNat []).getD 0 .nil)]) fun d e=>(bif (!(e.I !=0)) then (call1 (i_within [((a.L.getD c.I.toNat []).getD 1 .nil),.i (-9),.i 9]) fun f=>(bif (!f.B) then (some (.ret [.b false])) else (some (.again [a,b,.i (w64 (c.I+1))])))) else (some (.ret [.b false])))) else none) else none) else (some (.brk 0 [])))
def i_pCopyOk.d2:R:=(some (.ret [.b true]))
def i_pCopyOk.d3 (a b c d e f g h i j k l m:C):R:=(bif a.B then (some (.ret [.b false])) else (call2 (i_pParse [h]) fun n o=>(bif (o.I !=0) then (some (.ret [.b false])) else (bindBlk 0 (lim (ap3 i_pCopyOk.d1) [i,.i (i.L.length:Int),.i 0]) (fun xs=>i_pCopyOk.d2)))))
def i_pCopyOk.d4 (a b c d e f g h i j k l:C):R:=(bindNrm (call1 (i_pName [a]) fun m=>(bif (!(!m.B)) then (call1 (i_within [c,.i 0,.i 100]) fun n=>(bif (!(!n.B)) then (call1 (i_within [d,.i 0,.i 1000000]) fun o=>(bif (!(!o.B)) then (call1 (i_within [e,.i 0,.i 1000]) fun p=>(bif (!(!p.B)) then (call1 (i_within [f,.i 0,.i 1000]) fun q=>(bif (!(!q.B)) then (bif (!(decide ((h.L.length:Int)>5))) then (call1 (i_within [i,.i 0,.i 2]) fun r=>(bif (!(!r.B)) then (bif (!(j.S.toList==(bs #[]).toList)) then (call1 (i_pName [j]) fun s=>(bif (!(!s.B)) then (bif (!(k.S.toList==(bs #[]).toList)) then (call1 (i_pName [k]) fun t=>(some (.nrm [.b (!t.B),a,b,c,d,e,f,g,h,i,j,k,l]))) else (some (.nrm [.b false,a,b,c,d,e,f,g,h,i,j,k,l]))) else (some (.nrm [.b true,a,b,c,d,e,f,g,h,i,j,k,l])))) else (bif (!(k.S.toList==(bs #[]).toList)) then (call1 (i_pName [k]) fun u=>(some (.nrm [.b (!u.B),a,b,c,d,e,f,g,h,i,j,k,l]))) else (some (.nrm [.b false,a,b,c,d,e,f,g,h,i,j,k,l])))) else (some (.nrm [.b true,a,b,c,d,e,f,g,h,i,j,k,l])))) else (some (.nrm [.b true,a,b,c,d,e,f,g,h,i,j,k,l]))) else (some (.nrm [.b true,a,b,c,d,e,f,g,h,i,j,k,l])))) else (some (.nrm [.b true,a,b,c,d,e,f,g,h,i,j,k,l])))) else (some (.nrm [.b true,a,b,c,d,e,f,g,h,i,j,k,l])))) else (some (.nrm [.b true,a,b,c,d,e,f,g,h,i,j,k,l])))) else (some (.nrm [.b true,a,b,c,d,e,f,g,h,i,j,k,l])))) (ap13 i_pCopyOk.d3))
def i_pCopyOk:List C→Option (List C):=fun xs=>finR (ap12 i_pCopyOk.d4 xs)
def i_pCopyOk_fs:FS:=⟨1,⟨[(0,z6)],[]⟩,⟨[(0,zo)],[]⟩,[],i_pCopyOk⟩
theorem i_pCopyOk_ok:FSOk Tryz.checked.prog T0 68 i_pCopyOk_fs:=okOf base0 (fn:=Tryz.f68) (c:=Tryz.f68.body.getD .skip) i_pCopyOk_fs (.seq .leaf (.seq (.seq (.join ⟨[(1,(.pt 1 0)),(70,zo)],[(1,z1)]⟩ .leaf) .leaf) (.seq .leaf (.seq (.seq .leaf (.block ⟨[],[]⟩ (.loop ⟨[(80,(zl 109)),(81,zi),(82,zi)],[]⟩ .leaf))) .leaf)))) [(66,some 11,i_pName_fs),(66,some 56,i_pName_fs),(66,some 67,i_pName_fs),(67,some 16,i_within_fs),(67,some 22,i_within_fs),(67,some 28,i_within_fs),(67,some 34,i_within_fs),(67,some 46,i_within_fs),(67,some 97,i_within_fs),(113,some 74,i_pParse_fs),(113,some 89,i_pParse_fs)] (.cons i_pName_ok (.cons i_pName_ok (.cons i_pName_ok (.cons i_within_ok (.cons i_within_ok (.cons i_within_ok (.cons i_within_ok (.cons i_within_ok (.cons i_within_ok (.cons i_pParse_ok (.cons i_pParse_ok .nil))))))))))) (by kernel_rfl) (by kernel_rfl) (by kernel_rfl) (fun xs=>by kernel_rfl)
def i_pBerthAt_1.d1 (a b c d e f g:C):R:=(bif g.isP then (some (.ret [.b (a.S.toList==((g.P.getD 0 .nil).S).toList)])) else none)
def i_pBerthAt_1:List C→Option (List C):=fun xs=>finR (ap7 i_pBerthAt_1.d1 xs)
def i_pBerthAt_1_fs:FS:=⟨2,⟨[(0,z8),(1,(.d (.pt 9)))],[]⟩,⟨[(0,zo)],[]⟩,[],i_pBerthAt_1⟩
theorem i_pBerthAt_1_ok:FSOk Tryz.checked.prog T0 102 i_pBerthAt_1_fs:=okOf base0 (fn:=Tryz.f102) (c:=Tryz.f102.body.getD .skip) i_pBerthAt_1_fs .leaf [] .nil (by kernel_rfl) (by kernel_rfl) (by kernel_rfl) (fun xs=>by kernel_rfl)
def slices_IndexFunc_PilotBerth.d1 (a b c d:C):R:=(bif (decide (d.I<c.I)) then (bif (decide (0≤d.I)) then (bif (decide (d.I<(a.L.length:Int))) then (call1 (i_pBerthAt_1 [((a.L.getD d.I.toNat []).getD 0 .nil),((a.L.getD d.I.toNat []).getD 1 .nil),((a.L.getD d.I.toNat []).getD 2 .nil),((a.L.getD d.I.toNat []).getD 3 .nil),((a.L.getD d.I.toNat []).getD 4 .nil),((a.L.getD d.I.toNat []).getD 5 .nil),b]) fun e=>(bif e.B then (some (.ret [d])) else (some (.again [a,b,c,.i (w64 (d.I+1))])))) else none) else none) else (some (.brk 0 [])))
def slices_IndexFunc_PilotBerth.d2:R:=(some (.ret [.i (-1)]))
def slices_IndexFunc_PilotBerth.d3 (a b:C):R:=(bindBlk 0 (lim (ap4 slices_IndexFunc_PilotBerth.d1) [a,b,.i (a.L.length:Int),.i 0]) (fun xs=>slices_IndexFunc_PilotBerth.d2))
def slices_IndexFunc_PilotBerth:List C→Option (List C):=fun xs=>finR (ap2 slices_IndexFunc_PilotBerth.d3 xs)
def slices_IndexFunc_PilotBerth_fs:FS:=⟨2,⟨[(0,(zl 37)),(1,(.fn 102 [(.d (.pt 9))]))],[]⟩,⟨[(0,zi)],[]⟩,[],slices_IndexFunc_PilotBerth⟩
theorem slices_IndexFunc_PilotBerth_ok:FSOk Tryz.checked.prog T0 101 slices_IndexFunc_PilotBerth_fs:=okOf base0 (fn:=Tryz.f101) (c:=Tryz.f101.body.getD .skip) slices_IndexFunc_PilotBerth_fs (.seq .leaf (.seq (.seq .leaf (.block ⟨[],[]⟩ (.loop ⟨[(0,(zl 37)),(1,(.fn 102 [(.d (.pt 9))])),(7,zi),(8,zi)],[]⟩ .leaf))) .leaf)) [(102,some 16,i_pBerthAt_1_fs)] (.cons i_pBerthAt_1_ok .nil) (by kernel_rfl) (by kernel_rfl) (by kernel_rfl) (fun xs=>by kernel_rfl)
def i_pBerthAt.d1 (a b c d e:C):R:=(call1 (slices_IndexFunc_PilotBerth [b,.p [e]]) fun f=>(some (.ret [f])))
def i_pBerthAt:List C→Option (List C):=fun xs=>finR (ap5 i_pBerthAt.d1 xs)
def i_pBerthAt_fs:FS:=⟨2,⟨[(0,z2),(1,zt)],[]⟩,⟨[(0,zi)],[]⟩,[],i_pBerthAt⟩
theorem i_pBerthAt_ok:FSOk Tryz.checked.prog T0 53 i_pBerthAt_fs:=okOf base0 (fn:=Tryz.f53) (c:=Tryz.f53.body.getD .skip) i_pBerthAt_fs .leaf [(101,some 8,slices_IndexFunc_PilotBerth_fs)] (.cons slices_IndexFunc_PilotBerth_ok .nil) (by kernel_rfl) (by kernel_rfl) (by kernel_rfl) (fun xs=>by kernel_rfl)
def i_PilotUsed.d1 (a b c d e f:C):R:=(bif (decide (f.I<e.I)) then (bif (decide (0≤f.I)) then (bif (decide (f.I<(d.L.length:Int))) then (bif ((((d.L.getD f.I.toNat []).getD 11 .nil).S).toList==a.S.toList) then (some (.again [a,.i (w64 (b.I+((d.L.getD f.I.toNat []).getD 4 .nil).I)),.i (w64 (c.I+((d.L.getD f.I.toNat []).getD 5 .nil).I)),d,e,.i (w64 (f.I+1))])) else (some (.again [a,b,c,d,e,.i (w64 (f.I+1))]))) else none) else none) else (some (.brk 0 [b,c])))
def i_PilotUsed.d2 (a b:C):R:=(some (.ret [a,b]))
def i_PilotUsed.d3 (a b c d e:C):R:=(bif (!(e.S.toList==(bs #[]).toList)) then (call1 (i_pBerthAt [a,b,c,d,e]) fun f=>(bif (decide (f.I<0)) then (some (.ret [.i 0,.i 0])) else (bindBlk 0 (lim (ap6 i_PilotUsed.d1) [e,.i 0,.i 0,d,.i (d.L.length:Int),.i 0]) (ap2 i_PilotUsed.d2)))) else (some (.ret [.i 0,.i 0])))
def i_PilotUsed:List C→Option (List C):=fun xs=>finR (ap5 i_PilotUsed.d3 xs)
def i_PilotUsed_fs:FS:=⟨2,⟨[(0,z2),(1,zt)],[]⟩,⟨[(0,(.tu [zi,zi]))],[]⟩,[],i_PilotUsed⟩
theorem i_PilotUsed_ok:FSOk Tryz.checked.prog T0 69 i_PilotUsed_fs:=okOf base0 (fn:=Tryz.f69) (c:=Tryz.f69.body.getD .skip) i_PilotUsed_fs (.seq .leaf (.seq .leaf (.seq .leaf (.seq (.seq .leaf (.block ⟨[(6,zi),(7,zi)],[]⟩ (.loop ⟨[(1,zt),(6,zi),(7,zi),(19,(zl 45)),(20,zi),(21,zi)],[]⟩ .leaf))) .leaf)))) [(53,some 15,i_pBerthAt_fs)] (.cons i_pBerthAt_ok .nil) (by kernel_rfl) (by kernel_rfl) (by kernel_rfl) (fun xs=>by kernel_rfl)
def i_PilotValid.d1 (a b c d e f g:C):R:=(bif (decide (c.I<b.I)) then (bif (decide (0≤c.I)) then (bif (decide (c.I<(a.L.length:Int))) then (call1 (i_pBerthOk [((a.L.getD c.I.toNat []).getD 0 .nil),((a.L.getD c.I.toNat []).getD 1 .nil),((a.L.getD c.I.toNat []).getD 2 .nil),((a.L.getD c.I.toNat []).getD 3 .nil),((a.L.getD c.I.toNat []).getD 4 .nil),((a.L.getD c.I.toNat []).getD 5 .nil)]) fun h=>(bif (!(!h.B)) then (bif (decide (c.I>0)) then (bif (decide (0≤(w64 (c.I-1)))) then (bif (decide ((w64 (c.I-1))<(e.L.length:Int))) then (bif ((Op.bytesLess (((a.L.getD c.I.toNat []).getD 0 .nil).S).toList (((e.L.getD (w64 (c.I-1)).toNat []).getD 0 .nil).S).toList)||((((a.L.getD c.I.toNat []).getD 0 .nil).S).toList==(((e.L.getD (w64 (c.I-1)).toNat []).getD 0 .nil).S).toList)) then (some (.ret [.b false])) else (some (.again [a,b,.i (w64 (c.I+1)),d,e,f,g]))) else none) else none) else (some (.again [a,b,.i (w64 (c.I+1)),d,e,f,g]))) else (some (.ret [.b false])))) else none) else none) else (some (.brk 0 [d,e,f,g])))
def i_PilotValid.d2 (a b c d e f g h:C):R:=(bif (decide (c.I<b.I)) then (bif (decide (0≤c.I)) then (bif (decide (c.I<(a.L.length:Int))) then (call1 (i_pName [((a.L.getD c.I.toNat []).getD 0 .nil)]) fun i=>(bif (!(!i.B)) then (call1 (i_within [((a.L.getD c.I.toNat []).getD 1 .nil),.i 0,.i 60]) fun j=>(bif (!(!j.B)) then (bif (decide (c.I>0)) then (bif (decide (0≤(w64 (c.I-1)))) then (bif (decide ((w64 (c.I-1))<(f.L.length:Int))) then (bif ((Op.bytesLess (((a.L.getD c.I.toNat []).getD 0 .nil).S).toList (((f.L.getD (w64 (c.I-1)).toNat []).getD 0 .nil).S).toList)||((((a.L.getD c.I.toNat []).getD 0 .nil).S).toList==(((f.L.getD (w64 (c.I-1)).toNat []).getD 0 .nil).S).toList)) then (some (.ret [.b false])) else (some (.again [a,b,.i (w64 (c.I+1)),d,e,f,g,.l (mset (((a.L.getD c.I.toNat []).getD 0 .nil).S) (.b true) h.L)]))) else none) else none) else (some (.again [a,b,.i (w64 (c.I+1)),d,e,f,g,.l (mset (((a.L.getD c.I.toNat []).getD 0 .nil).S) (.b true) h.L)]))) else (some (.ret [.b false])))) else (some (.ret [.b false])))) else none) else none) else (some (.brk 2 [d,e,f,g,.l h.L])))
def i_PilotValid.d3 (a b c d e f g h i j k l m n o p q r s t u v:C):R:=(bif d.B then (some (.ret [.b false])) else (some (.again [a,b,.i (w64 (c.I+1)),e,f,g,h,.l i.L,.l (mset v.S (.i (w64 ((mget (.i 0) v.S j.L).I+1))) j.L)])))
def i_PilotValid.d4 (a b c d e f g h i:C):R:=(bif (decide (c.I<b.I)) then (bif (decide (0≤c.I)) then (bif (decide (c.I<(a.L.length:Int))) then (bindNrm (call1 (i_pCopyOk [((a.L.getD c.I.toNat []).getD 0 .nil),((a.L.getD c.I.toNat []).getD 1 .nil),((a.L.getD c.I.toNat []).getD 2 .nil),((a.L.getD c.I.toNat []).getD 3 .nil),((a.L.getD c.I.toNat []).getD 4 .nil),((a.L.getD c.I.toNat []).getD 5 .nil),((a.L.getD c.I.toNat []).getD 6 .nil),((a.L.getD c.I.toNat []).getD 7 .nil),((a.L.getD c.I.toNat []).getD 8 .nil),((a.L.getD c.I.toNat []).getD 9 .nil),((a.L.getD c.I.toNat []).getD 10 .nil),((a.L.getD c.I.toNat []).getD 11 .nil)]) fun j=>(bif (!(!j.B)) then (bif (!(!((mget (.b false) (((a.L.getD c.I.toNat []).getD 1 .nil).S) h.L).B))) then (bif (decide (c.I>0)) then (bif (decide (0≤(w64 (c.I-1)))) then (bif (decide ((w64 (c.I-1))<(g.L.length:Int))) then (bif (!((Op.bytesLess (((a.L.getD c.I.toNat []).getD 0 .nil).S).toList (((g.L.getD (w64 (c.I-1)).toNat []).getD 0 .nil).S).toList)||((((a.L.getD c.I.toNat []).getD 0 .nil).S).toList==(((g.L.getD (w64 (c.I-1)).toNat []).getD 0 .nil).S).toList))) then (bif (!((((a.L.getD c.I.toNat []).getD 11 .nil).S).toList==(bs #[]).toList)) then (call1 (i_pBerthAt [d,e,f,g,((a.L.getD c.I.toNat []).getD 11 .nil)]) fun k=>(some (.nrm [a,b,c,.b (decide (k.I<0)),d,e,f,g,.l h.L,.l i.L,((a.L.getD c.I.toNat []).getD 0 .nil),((a.L.getD c.I.toNat []).getD 1 .nil),((a.L.getD c.I.toNat []).getD 2 .nil),((a.L.getD c.I.toNat []).getD 3 .nil),((a.L.getD c.I.toNat []).getD 4 .nil),((a.L.getD c.I.toNat []).getD 5 .nil),((a.L.getD c.I.toNat []).getD 6 .nil),((a.L.getD c.I.toNat []).getD 7 .nil),((a.L.getD c.I.toNat []).getD 8 .nil),((a.L.getD c.I.toNat []).getD 9 .nil),((a.L.getD c.I.toNat []).getD 10 .nil),((a.L.getD c.I.toNat []).getD 11 .nil)]))) else (some (.nrm [a,b,c,.b false,d,e,f,g,.l h.L,.l i.L,((a.L.getD c.I.toNat []).getD 0 .nil),((a.L.getD c.I.toNat []).getD 1 .nil),((a.L.getD c.I.toNat []).getD 2 .nil),((a.L.getD c.I.toNat []).getD 3 .nil),((a.L.getD c.I.toNat []).getD 4 .nil),((a.L.getD c.I.toNat []).getD 5 .nil),((a.L.getD c.I.toNat []).getD 6 .nil),((a.L.getD c.I.toNat []).getD 7 .nil),((a.L.getD c.I.toNat []).getD 8 .nil),((a.L.getD c.I.toNat []).getD 9 .nil),((a.L.getD c.I.toNat []).getD 10 .nil),((a.L.getD c.I.toNat []).getD 11 .nil)]))) else (some (.nrm [a,b,c,.b true,d,e,f,g,.l h.L,.l i.L,((a.L.getD c.I.toNat []).getD 0 .nil),((a.L.getD c.I.toNat []).getD 1 .nil),((a.L.getD c.I.toNat []).getD 2 .nil),((a.L.getD c.I.toNat []).getD 3 .nil),((a.L.getD c.I.toNat []).getD 4 .nil),((a.L.getD c.I.toNat []).getD 5 .nil),((a.L.getD c.I.toNat []).getD 6 .nil),((a.L.getD c.I.toNat []).getD 7 .nil),((a.L.getD c.I.toNat []).getD 8 .nil),((a.L.getD c.I.toNat []).getD 9 .nil),((a.L.getD c.I.toNat []).getD 10 .nil),((a.L.getD c.I.toNat []).getD 11 .nil)]))) else none) else none) else (bif (!((((a.L.getD c.I.toNat []).getD 11 .nil).S).toList==(bs #[]).toList)) then (call1 (i_pBerthAt [d,e,f,g,((a.L.getD c.I.toNat []).getD 11 .nil)]) fun l=>(some (.nrm [a,b,c,.b (decide (l.I<0)),d,e,f,g,.l h.L,.l i.L,((a.L.getD c.I.toNat []).getD 0 .nil),((a.L.getD c.I.toNat []).getD 1 .nil),((a.L.getD c.I.toNat []).getD 2 .nil),((a.L.getD c.I.toNat []).getD 3 .nil),((a.L.getD c.I.toNat []).getD 4 .nil),((a.L.getD c.I.toNat []).getD 5 .nil),((a.L.getD c.I.toNat []).getD 6 .nil),((a.L.getD c.I.toNat []).getD 7 .nil),((a.L.getD c.I.toNat []).getD 8 .nil),((a.L.getD c.I.toNat []).getD 9 .nil),((a.L.getD c.I.toNat []).getD 10 .nil),((a.L.getD c.I.toNat []).getD 11 .nil)]))) else (some (.nrm [a,b,c,.b false,d,e,f,g,.l h.L,.l i.L,((a.L.getD c.I.toNat []).getD 0 .nil),((a.L.getD c.I.toNat []).getD 1 .nil),((a.L.getD c.I.toNat []).getD 2 .nil),((a.L.getD c.I.toNat []).getD 3 .nil),((a.L.getD c.I.toNat []).getD 4 .nil),((a.L.getD c.I.toNat []).getD 5 .nil),((a.L.getD c.I.toNat []).getD 6 .nil),((a.L.getD c.I.toNat []).getD 7 .nil),((a.L.getD c.I.toNat []).getD 8 .nil),((a.L.getD c.I.toNat []).getD 9 .nil),((a.L.getD c.I.toNat []).getD 10 .nil),((a.L.getD c.I.toNat []).getD 11 .nil)])))) else (some (.nrm [a,b,c,.b true,d,e,f,g,.l h.L,.l i.L,((a.L.getD c.I.toNat []).getD 0 .nil),((a.L.getD c.I.toNat []).getD 1 .nil),((a.L.getD c.I.toNat []).getD 2 .nil),((a.L.getD c.I.toNat []).getD 3 .nil),((a.L.getD c.I.toNat []).getD 4 .nil),((a.L.getD c.I.toNat []).getD 5 .nil),((a.L.getD c.I.toNat []).getD 6 .nil),((a.L.getD c.I.toNat []).getD 7 .nil),((a.L.getD c.I.toNat []).getD 8 .nil),((a.L.getD c.I.toNat []).getD 9 .nil),((a.L.getD c.I.toNat []).getD 10 .nil),((a.L.getD c.I.toNat []).getD 11 .nil)]))) else (some (.nrm [a,b,c,.b true,d,e,f,g,.l h.L,.l i.L,((a.L.getD c.I.toNat []).getD 0 .nil),((a.L.getD c.I.toNat []).getD 1 .nil),((a.L.getD c.I.toNat []).getD 2 .nil),((a.L.getD c.I.toNat []).getD 3 .nil),((a.L.getD c.I.toNat []).getD 4 .nil),((a.L.getD c.I.toNat []).getD 5 .nil),((a.L.getD c.I.toNat []).getD 6 .nil),((a.L.getD c.I.toNat []).getD 7 .nil),((a.L.getD c.I.toNat []).getD 8 .nil),((a.L.getD c.I.toNat []).getD 9 .nil),((a.L.getD c.I.toNat []).getD 10 .nil),((a.L.getD c.I.toNat []).getD 11 .nil)])))) (ap22 i_PilotValid.d3)) else none) else none) else (some (.brk 4 [d,e,f,g,.l i.L])))
def i_PilotValid.d5 (a b c d e f g h:C):R:=(bif (decide (c.I<b.I)) then (bif (decide (0≤c.I)) then (bif (decide (c.I<(a.L.length:Int))) then (call2 (i_PilotUsed [d,e,f,g,((a.L.getD c.I.toNat []).getD 0 .nil)]) fun i j=>(bif (!(decide ((mget (.i 0) (((a.L.getD c.I.toNat []).getD 0 .nil).S) h.L).I>10))) then (bif (!(decide (i.I>((a.L.getD c.I.toNat []).getD 3 .nil).I))) then (bif (decide (j.I>((a.L.getD c.I.toNat []).getD 4 .nil).I)) then (some (.ret [.b false])) else (some (.again [a,b,.i (w64 (c.I+1)),d,e,f,g,.l h.L]))) else (some (.ret [.b false]))) else (some (.ret [.b false])))) else none) else none) else (some (.brk 6 [])))
def i_PilotValid.d6:R:=(some (.ret [.b true]))
def i_PilotValid.d7 (a b c d e:C):R:=(bindBlk 6 (lim (ap8 i_PilotValid.d5) [b,.i (b.L.length:Int),.i 0,a,b,c,d,.l e.L]) (fun xs=>i_PilotValid.d6))
def i_PilotValid.d8 (a b c d e:C):R:=(bindBlk 4 (lim (ap9 i_PilotValid.d4) [d,.i (d.L.length:Int),.i 0,a,b,c,d,.l e.L,.l nils]) (ap5 i_PilotValid.d7))
def i_PilotValid.d9 (a b c d:C):R:=(bindBlk 2 (lim (ap8 i_PilotValid.d2) [c,.i (c.L.length:Int),.i 0,a,b,c,d,.l nils]) (ap5 i_PilotValid.d8))
def i_PilotValid.d10 (a b c d:C):R:=(bif (!(decide ((b.L.length:Int)>12))) then (bif (!(decide ((c.L.length:Int)>30))) then (bif (decide ((d.L.length:Int)>60)) then (some (.ret [.b false])) else (bindBlk 0 (lim (ap7 i_PilotValid.d1) [b,.i (b.L.length:Int),.i 0,a,b,c,d]) (ap4 i_PilotValid.d9))) else (some (.ret [.b false]))) else (some (.ret [.b false])))
def i_PilotValid:List C→Option (List C):=fun xs=>finR (ap4 i_PilotValid.d10 xs)
def i_PilotValid_fs:FS:=⟨1,⟨[(0,z2)],[]⟩,⟨[(0,zo)],[]⟩,[],i_PilotValid⟩
theorem i_PilotValid_ok:FSOk Tryz.checked.prog T0 17 i_PilotValid_fs:=okOf base0 (fn:=Tryz.f17) (c:=Tryz.f17.body.getD .skip) i_PilotValid_fs (.seq .leaf (.seq .leaf (.seq (.seq .leaf (.block ⟨[(1,(.pt 1 0))],[(1,z0)]⟩ (.loop ⟨[(1,(.pt 1 0)),(32,(zl 37)),(33,zi),(34,zi)],[(1,z0)]⟩ .leaf))) (.seq .leaf (.seq (.seq .leaf (.block ⟨[(1,(.pt 1 0)),(5,(.mp 59))],[(1,z0),(59,.mp 4)]⟩ (.loop ⟨[(1,(.pt 1 0)),(5,(.mp 59)),(61,(zl 60)),(62,zi),(63,zi)],[(1,z0),(59,.mp 4)]⟩ .leaf))) (.seq .leaf (.seq (.seq .leaf (.block ⟨[(1,(.pt 1 0)),(8,(.mp 98))],[(1,z0),(98,.mp 3)]⟩ (.loop ⟨[(1,(.pt 1 0)),(5,(.mp 59)),(8,(.mp 98)),(100,(zl 45)),(101,zi),(102,zi)],[(1,z0),(59,.mp 4),(98,.mp 3)]⟩ (.seq .leaf (.seq .leaf (.seq (.skip (.seq .leaf (.seq (.seq (.join ⟨[(1,(.pt 1 0)),(5,(.mp 59)),(8,(.mp 98)),(10,(.pt 10 0)),(100,(zl 45)),(101,zi),(102,zi),(144,zo)],[(1,z0),(59,.mp 4),(98,.mp 3),(10,z1)]⟩ .leaf) .leaf) .leaf))) .leaf)))))) (.seq (.seq .leaf (.block ⟨[],[]⟩ (.loop ⟨[(1,(.pt 1 0)),(8,(.mp 98)),(152,(zl 37)),(153,zi),(154,zi)],[(1,z0),(98,.mp 3)]⟩ .leaf))) .leaf)))))))) [(53,some 141,i_pBerthAt_fs),(65,some 40,i_pBerthOk_fs),(66,some 70,i_pName_fs),(67,some 75,i_within_fs),(68,some 108,i_pCopyOk_fs),(69,some 162,i_PilotUsed_fs)] (.cons i_pBerthAt_ok (.cons i_pBerthOk_ok (.cons i_pName_ok (.cons i_within_ok (.cons i_pCopyOk_ok (.cons i_PilotUsed_ok .nil)))))) (by kernel_rfl) (by kernel_rfl) (by kernel_rfl) (fun xs=>by kernel_rfl)
def i_pCopyAt_1.d1 (a b c d e f g h i j k l m:C):R:=(bif m.isP then (some (.ret [.b (a.S.toList==((m.P.getD 0 .nil).S).toList)])) else none)
def i_pCopyAt_1:List C→Option (List C):=fun xs=>finR (ap13 i_pCopyAt_1.d1 xs)
def i_pCopyAt_1_fs:FS:=⟨2,⟨[(0,z6),(1,(.d (.pt 9)))],[]⟩,⟨[(0,zo)],[]⟩,[],i_pCopyAt_1⟩
theorem i_pCopyAt_1_ok:FSOk Tryz.checked.prog T0 100 i_pCopyAt_1_fs:=okOf base0 (fn:=Tryz.f100) (c:=Tryz.f100.body.getD .skip) i_pCopyAt_1_fs .leaf [] .nil (by kernel_rfl) (by kernel_rfl) (by kernel_rfl) (fun xs=>by kernel_rfl)
def slices_IndexFunc_PilotCopy.d1 (a b c d:C):R:=(bif (decide (d.I<c.I)) then (bif (decide (0≤d.I)) then (bif (decide (d.I<(a.L.length:Int))) then (call1 (i_pCopyAt_1 [((a.L.getD d.I.toNat []).getD 0 .nil),((a.L.getD d.I.toNat []).getD 1 .nil),((a.L.getD d.I.toNat []).getD 2 .nil),((a.L.getD d.I.toNat []).getD 3 .nil),((a.L.getD d.I.toNat []).getD 4 .nil),((a.L.getD d.I.toNat []).getD 5 .nil),((a.L.getD d.I.toNat []).getD 6 .nil),((a.L.getD d.I.toNat []).getD 7 .nil),((a.L.getD d.I.toNat []).getD 8 .nil),((a.L.getD d.I.toNat []).getD 9 .nil),((a.L.getD d.I.toNat []).getD 10 .nil),((a.L.getD d.I.toNat []).getD 11 .nil),b]) fun e=>(bif e.B then (some (.ret [d])) else (some (.again [a,b,c,.i (w64 (d.I+1))])))) else none) else none) else (some (.brk 0 [])))
def slices_IndexFunc_PilotCopy.d2:R:=(some (.ret [.i (-1)]))
def slices_IndexFunc_PilotCopy.d3 (a b:C):R:=(bindBlk 0 (lim (ap4 slices_IndexFunc_PilotCopy.d1) [a,b,.i (a.L.length:Int),.i 0]) (fun xs=>slices_IndexFunc_PilotCopy.d2))
def slices_IndexFunc_PilotCopy:List C→Option (List C):=fun xs=>finR (ap2 slices_IndexFunc_PilotCopy.d3 xs)
def slices_IndexFunc_PilotCopy_fs:FS:=⟨2,⟨[(0,(zl 45)),(1,(.fn 100 [(.d (.pt 9))]))],[]⟩,⟨[(0,zi)],[]⟩,[],slices_IndexFunc_PilotCopy⟩
theorem slices_IndexFunc_PilotCopy_ok:FSOk Tryz.checked.prog T0 99 slices_IndexFunc_PilotCopy_fs:=okOf base0 (fn:=Tryz.f99) (c:=Tryz.f99.body.getD .skip) slices_IndexFunc_PilotCopy_fs (.seq .leaf (.seq (.seq .leaf (.block ⟨[],[]⟩ (.loop ⟨[(0,(zl 45)),(1,(.fn 100 [(.d (.pt 9))])),(7,zi),(8,zi)],[]⟩ .leaf))) .leaf)) [(100,some 16,i_pCopyAt_1_fs)] (.cons i_pCopyAt_1_ok .nil) (by kernel_rfl) (by kernel_rfl) (by kernel_rfl) (fun xs=>by kernel_rfl)
def i_pCopyAt.d1 (a b c d e:C):R:=(call1 (slices_IndexFunc_PilotCopy [d,.p [e]]) fun f=>(some (.ret [f])))
def i_pCopyAt:List C→Option (List C):=fun xs=>finR (ap5 i_pCopyAt.d1 xs)
def i_pCopyAt_fs:FS:=⟨2,⟨[(0,z2),(1,zt)],[]⟩,⟨[(0,zi)],[]⟩,[],i_pCopyAt⟩
theorem i_pCopyAt_ok:FSOk Tryz.checked.prog T0 52 i_pCopyAt_fs:=okOf base0 (fn:=Tryz.f52) (c:=Tryz.f52.body.getD .skip) i_pCopyAt_fs .leaf [(99,some 8,slices_IndexFunc_PilotCopy_fs)] (.cons slices_IndexFunc_PilotCopy_ok .nil) (by kernel_rfl) (by kernel_rfl) (by kernel_rfl) (fun xs=>by kernel_rfl)
def i_pSel_meets.d1 (G0:List C→Option (List C)) (a b c d e:C):R:=(bif e.B then (some (.ret [.b true])) else (some (.again [a,b,c,.i (w64 (d.I+1))])))
def i_pSel_meets.d2 (G0:List C→Option (List C)) (a b c d:C):R:=(bif (decide (d.I<c.I)) then (bif (decide (0≤d.I)) then (bif (decide (d.I<(b.L.length:Int))) then (call3 (i_pMark [((b.L.getD d.I.toNat []).getD 0 .nil)]) fun e f g=>(bindNrm (bif g.B then (bif a.isP then (bif (e.S.toList==((a.P.getD 1 .nil).S).toList) then (bif a.isP then (bif (!((a.P.getD 0 .nil).I==1)) then (bif a.isP then (some (.nrm [a,b,c,d,.b (f.S.toList==((a.P.getD 2 .nil).S).toList)])) else none) else (some (.nrm [a,b,c,d,.b true]))) else none) else (some (.nrm [a,b,c,d,.b false]))) else none) else (some (.nrm [a,b,c,d,.b false]))) (ap5 (i_pSel_meets.d1 G0)))) else none) else none) else (some (.brk 1 [])))
def i_pSel_meets.d3 (G0:List C→Option (List C)):R:=(some (.ret [.b false]))
def i_pSel_meets.d4 (G0:List C→Option (List C)) (a b c d:C):R:=(bif d.B then (bindBlk 1 (lim (ap4 (i_pSel_meets.d2 G0)) [a,b,.i (b.L.length:Int),.i 0]) (fun xs=>(i_pSel_meets.d3 G0))) else (bif (c.I==3) then (bif a.isP then (bif (decide (0<(((a.P.getD 3 .nil).L).length:Int))) then (call1 (G0 [((((a.P.getD 3 .nil).L).getD 0 []).getD 0 .nil),b]) fun e=>(some (.ret [.b (!e.B)]))) else none) else none) else (bif (c.I==4) then (bif a.isP then (bif (decide (0<(((a.P.getD 3 .nil).L).length:Int))) then (call1 (G0 [((((a.P.getD 3 .nil).L).getD 0 []).getD 0 .nil),b]) fun f=>(bif f.B then (bif a.isP then (bif (decide (1<(((a.P.getD 3 .nil).L).length:Int))) then (call1 (G0 [((((a.P.getD 3 .nil).L).getD 1 []).getD 0 .nil),b]) fun g=>(some (.ret [.b g.B]))) else none) else none) else (some (.ret [.b false])))) else none) else none) else (bif (c.I==5) then (bif a.isP then (bif (decide (0<(((a.P.getD 3 .nil).L).length:Int))) then (call1 (G0 [((((a.P.getD 3 .nil).L).getD 0 []).getD 0 .nil),b]) fun h=>(bif (!h.B) then (bif a.isP then (bif (decide (1<(((a.P.getD 3 .nil).L).length:Int))) then (call1 (G0 [((((a.P.getD 3 .nil).L).getD 1 []).getD 0 .nil),b]) fun i=>(some (.ret [.b i.B]))) else none) else none) else (some (.ret [.b true])))) else none) else none) else (some (.ret [.b true]))))))
def i_pSel_meets.d5 (G0:List C→Option (List C)) (a b:C):R:=(bif a.isP then (bindNrm (bif ((a.P.getD 0 .nil).I==1) then (some (.nrm [a,b,(a.P.getD 0 .nil),.b ((a.P.getD 0 .nil).I==1)])) else (some (.nrm [a,b,(a.P.getD 0 .nil),.b ((a.P.getD 0 .nil).I==2)]))) (ap4 (i_pSel_meets.d4 G0))) else none)
def i_pSel_meets.step (G0:List C→Option (List C)):List C→Option (List C):=fun xs=>finR (ap2 (i_pSel_meets.d5 G0) xs)
def i_pSel_meets_fs (G:List C→Option (List C)):FS:=⟨2,⟨[(0,(.d (.pt 155))),(1,(.d (.sl 9)))],[]⟩,⟨[(0,(.d .bool))],[]⟩,[],G⟩
theorem i_pSel_meets_st {G0:List C→Option (List C)} (h0:FSOk Tryz.checked.prog T0 135 (i_pSel_meets_fs G0)):FSOk Tryz.checked.prog T0 135 (i_pSel_meets_fs (i_pSel_meets.step G0)):=okOf base0 (fn:=Tryz.f135) (c:=Tryz.f135.body.getD .skip) (i_pSel_meets_fs (i_pSel_meets.step G0)) (.seq .leaf (.seq (.seq .leaf (.skip (.seq (.join ⟨[(0,(.d (.pt 155))),(1,(.d (.sl 9))),(13,(.d (.int .i64))),(14,(.d .bool))],[]⟩ .leaf) (.cond (.seq (.seq .leaf (.block ⟨[],[]⟩ (.loop ⟨[(0,(.d (.pt 155))),(17,(.d (.sl 9))),(18,(.d (.int .i64))),(19,(.d (.int .i64)))],[]⟩ (.seq .leaf (.seq .leaf (.seq (.skip (.seq .leaf (.seq .leaf (.seq (.join ⟨[(0,(.d (.pt 155))),(17,(.d (.sl 9))),(18,(.d (.int .i64))),(19,(.d (.int .i64))),(52,(.d .bool))],[]⟩ .leaf) .leaf)))) .leaf)))))) .leaf) .leaf)))) .leaf)) [(111,some 25,i_pMark_fs),(135,some 63,(i_pSel_meets_fs G0)),(135,some 74,(i_pSel_meets_fs G0)),(135,some 83,(i_pSel_meets_fs G0)),(135,some 94,(i_pSel_meets_fs G0)),(135,some 103,(i_pSel_meets_fs G0))] (.cons i_pMark_ok (.cons h0 (.cons h0 (.cons h0 (.cons h0 (.cons h0 .nil)))))) (by kernel_rfl) (by kernel_rfl) (by kernel_rfl) (fun xs=>by kernel_rfl)
def i_pSel_meets.g:Nat→Nat→List C→Option (List C)
 |0,_=>fun _=>none
 |k+1,0=>i_pSel_meets.step (i_pSel_meets.g k 0)
 |_,_=>fun _=>none
theorem i_pSel_meets_rec:∀k:Nat,FSOk Tryz.checked.prog T0 135 (i_pSel_meets_fs (i_pSel_meets.g k 0))
 |0=>noneOk (fn:=Tryz.f135) (c:=Tryz.f135.body.getD .skip) (2) (⟨[(0,(.d (.pt 155))),(1,(.d (.sl 9)))],[]⟩) (⟨[(0,(.d .bool))],[]⟩) [] (by kernel_rfl) (by kernel_rfl) (by kernel_rfl)
 |k+1=>i_pSel_meets_st (i_pSel_meets_rec k)
def i_pSel_meets:List C→Option (List C):=i_pSel_meets.g FUEL 0
theorem i_pSel_meets_ok:FSOk Tryz.checked.prog T0 135 (i_pSel_meets_fs i_pSel_meets):=i_pSel_meets_rec FUEL
def i_pMeets.d1 (a b c d e f g:C):R:=(call2 (i_pParse [a]) fun h i=>(bif (i.I==0) then (bif (decide (d.L.length≤4294967296)) then (bif (decide ((bs #[122,111,110,101,61]).size+c.S.size≤4294967296)) then (bif (decide (d.L.length+(rows [[.s ((bs #[122,111,110,101,61])++c.S)]]).length≤4294967296)) then (call1 (i_pSel_meets [h,.l (d.L++(rows [[.s ((bs #[122,111,110,101,61])++c.S)]]))]) fun j=>(some (.ret [.b j.B]))) else none) else none) else none) else (some (.ret [.b false]))))
def i_pMeets:List C→Option (List C):=fun xs=>finR (ap7 i_pMeets.d1 xs)
def i_pMeets_fs:FS:=⟨2,⟨[(0,zt),(1,z8)],[]⟩,⟨[(0,zo)],[]⟩,[],i_pMeets⟩
theorem i_pMeets_ok:FSOk Tryz.checked.prog T0 103 i_pMeets_fs:=okOf base0 (fn:=Tryz.f103) (c:=Tryz.f103.body.getD .skip) i_pMeets_fs .leaf [(113,some 9,i_pParse_fs),(135,some 24,(i_pSel_meets_fs i_pSel_meets))] (.cons i_pParse_ok (.cons i_pSel_meets_ok .nil)) (by kernel_rfl) (by kernel_rfl) (by kernel_rfl) (fun xs=>by kernel_rfl)
def i_pZone.d1 (a b c d e:C):R:=(call1 (i_pBerthAt [a,b,c,d,e]) fun f=>(bif (decide (f.I≥0)) then (bif (decide (0≤f.I)) then (bif (decide (f.I<(b.L.length:Int))) then (some (.ret [((b.L.getD f.I.toNat []).getD 1 .nil)])) else none) else none) else (some (.ret [.s (bs #[])]))))
def i_pZone:List C→Option (List C):=fun xs=>finR (ap5 i_pZone.d1 xs)
def i_pZone_fs:FS:=⟨2,⟨[(0,z2),(1,zt)],[]⟩,⟨[(0,zt)],[]⟩,[],i_pZone⟩
theorem i_pZone_ok:FSOk Tryz.checked.prog T0 104 i_pZone_fs:=okOf base0 (fn:=Tryz.f104) (c:=Tryz.f104.body.getD .skip) i_pZone_fs .leaf [(53,some 8,i_pBerthAt_fs)] (.cons i_pBerthAt_ok .nil) (by kernel_rfl) (by kernel_rfl) (by kernel_rfl) (fun xs=>by kernel_rfl)
def i_pFits.d1 (a b c d e f g h i j k l m n o p q r s t u v w x y z a0 a1 a2 a3 a4 a5 a6 a7 a8 a9 b0 b1 b2 b3 b4 b5 b6:C):R:=(bif (b6.S.toList==z.S.toList) then (some (.brk 1 [a,b,.i (w64 (c.I+1)),.i (w64 (d.I+a9.I)),.i (w64 (e.I+b0.I)),f,g,h,i,j,k,l,m,n,o,p,q,r,s,t,u,v,w,x,y,z,a0,a1,a2,a3,a4])) else (some (.brk 1 [a,b,c,d,e,f,g,h,i,j,k,l,m,n,o,p,q,r,s,t,u,v,w,x,y,z,a0,a1,a2,a3,a4])))
def i_pFits.d2 (a b c d e f g h i j k l m n o p q r s t u v w x y z a0 a1 a2 a3 a4 a5 a6 a7 a8 a9 b0 b1 b2 b3 b4 b5 b6 b7:C):R:=(bindNrm (bif (!a.B) then (bif (a7.S.toList==x.S.toList) then (some (.nrm [.b g.B,b,c,d,e,f,h,i,j,k,l,m,n,o,p,q,r,s,t,u,v,w,x,y,z,a0,a1,a2,a3,a4,a5,a6,a7,a8,a9,b0,b1,b2,b3,b4,b5,b6,b7])) else (some (.nrm [.b false,b,c,d,e,f,h,i,j,k,l,m,n,o,p,q,r,s,t,u,v,w,x,y,z,a0,a1,a2,a3,a4,a5,a6,a7,a8,a9,b0,b1,b2,b3,b4,b5,b6,b7]))) else (some (.nrm [.b true,b,c,d,e,f,h,i,j,k,l,m,n,o,p,q,r,s,t,u,v,w,x,y,z,a0,a1,a2,a3,a4,a5,a6,a7,a8,a9,b0,b1,b2,b3,b4,b5,b6,b7]))) (fun xs=>i_pFits.d1 (xs.getD 0 .nil) (xs.getD 1 .nil) (xs.getD 2 .nil) (xs.getD 3 .nil) (xs.getD 4 .nil) (xs.getD 5 .nil) (xs.getD 6 .nil) (xs.getD 7 .nil) (xs.getD 8 .nil) (xs.getD 9 .nil) (xs.getD 10 .nil) (xs.getD 11 .nil) (xs.getD 12 .nil) (xs.getD 13 .nil) (xs.getD 14 .nil) (xs.getD 15 .nil) (xs.getD 16 .nil) (xs.getD 17 .nil) (xs.getD 18 .nil) (xs.getD 19 .nil) (xs.getD 20 .nil) (xs.getD 21 .nil) (xs.getD 22 .nil) (xs.getD 23 .nil) (xs.getD 24 .nil) (xs.getD 25 .nil) (xs.getD 26 .nil) (xs.getD 27 .nil) (xs.getD 28 .nil) (xs.getD 29 .nil) (xs.getD 30 .nil) (xs.getD 31 .nil) (xs.getD 32 .nil) (xs.getD 33 .nil) (xs.getD 34 .nil) (xs.getD 35 .nil) (xs.getD 36 .nil) (xs.getD 37 .nil) (xs.getD 38 .nil) (xs.getD 39 .nil) (xs.getD 40 .nil) (xs.getD 41 .nil) (xs.getD 42 .nil)))
def i_pFits.d3 (a b c d e f g h i j k l m n o p q r s t u v w x y z a0 a1 a2 a3 a4:C):R:=(some (.again [a,b,c,d,e,f,g,h,.i (w64 (i.I+1)),j,k,l,m,n,o,p,q,r,s,t,u,v,w,x,y,z,a0,a1,a2,a3,a4]))
def i_pFits.d4 (a b c d e f g h i j k l m n o p q r s t u v w x y z a0 a1 a2 a3 a4:C):R:=(bif (decide (i.I<h.I)) then (bindBlk 1 (bif (decide (0≤i.I)) then (bif (decide (i.I<(g.L.length:Int))) then (bif (!((((g.L.getD i.I.toNat []).getD 0 .nil).S).toList==n.S.toList)) then (bif ((((g.L.getD i.I.toNat []).getD 11 .nil).S).toList==(bs #[]).toList) then (some (.brk 1 [a,b,c,d,e,f,g,h,i,j,k,l,m,n,o,p,q,r,s,t,u,v,w,x,y,z,a0,a1,a2,a3,a4])) else (call1 (i_pZone [j,k,l,m,((g.L.getD i.I.toNat []).getD 11 .nil)]) fun a5=>(bindNrm (bif ((((g.L.getD i.I.toNat []).getD 1 .nil).S).toList==o.S.toList) then (bif (!f.B) then (bif ((((g.L.getD i.I.toNat []).getD 11 .nil).S).toList==z.S.toList) then (bif (!(decide ((w64 (v.I+((g.L.getD i.I.toNat []).getD 8 .nil).I))>0))) then (bif (a5.S.toList==a0.S.toList) then (bif (!(v.I==2)) then (some (.nrm [a,.b true,c,d,e,.b (((g.L.getD i.I.toNat []).getD 8 .nil).I==2),.b (a5.S.toList==a0.S.toList),g,h,i,j,k,l,m,n,o,p,q,r,s,t,u,v,w,x,y,z,a0,a1,a2,a3,a4,((g.L.getD i.I.toNat []).getD 0 .nil),((g.L.getD i.I.toNat []).getD 1 .nil),((g.L.getD i.I.toNat []).getD 2 .nil),((g.L.getD i.I.toNat []).getD 3 .nil),((g.L.getD i.I.toNat []).getD 4 .nil),((g.L.getD i.I.toNat []).getD 5 .nil),((g.L.getD i.I.toNat []).getD 6 .nil),((g.L.getD i.I.toNat []).getD 7 .nil),((g.L.getD i.I.toNat []).getD 8 .nil),((g.L.getD i.I.toNat []).getD 9 .nil),((g.L.getD i.I.toNat []).getD 10 .nil),((g.L.getD i.I.toNat []).getD 11 .nil)])) else (some (.nrm [a,.b true,c,d,e,.b true,.b (a5.S.toList==a0.S.toList),g,h,i,j,k,l,m,n,o,p,q,r,s,t,u,v,w,x,y,z,a0,a1,a2,a3,a4,((g.L.getD i.I.toNat []).getD 0 .nil),((g.L.getD i.I.toNat []).getD 1 .nil),((g.L.getD i.I.toNat []).getD 2 .nil),((g.L.getD i.I.toNat []).getD 3 .nil),((g.L.getD i.I.toNat []).getD 4 .nil),((g.L.getD i.I.toNat []).getD 5 .nil),((g.L.getD i.I.toNat []).getD 6 .nil),((g.L.getD i.I.toNat []).getD 7 .nil),((g.L.getD i.I.toNat []).getD 8 .nil),((g.L.getD i.I.toNat []).getD 9 .nil),((g.L.getD i.I.toNat []).getD 10 .nil),((g.L.getD i.I.toNat []).getD 11 .nil)]))) else (some (.nrm [a,.b true,c,d,e,.b false,.b (a5.S.toList==a0.S.toList),g,h,i,j,k,l,m,n,o,p,q,r,s,t,u,v,w,x,y,z,a0,a1,a2,a3,a4,((g.L.getD i.I.toNat []).getD 0 .nil),((g.L.getD i.I.toNat []).getD 1 .nil),((g.L.getD i.I.toNat []).getD 2 .nil),((g.L.getD i.I.toNat []).getD 3 .nil),((g.L.getD i.I.toNat []).getD 4 .nil),((g.L.getD i.I.toNat []).getD 5 .nil),((g.L.getD i.I.toNat []).getD 6 .nil),((g.L.getD i.I.toNat []).getD 7 .nil),((g.L.getD i.I.toNat []).getD 8 .nil),((g.L.getD i.I.toNat []).getD 9 .nil),((g.L.getD i.I.toNat []).getD 10 .nil),((g.L.getD i.I.toNat []).getD 11 .nil)]))) else (some (.nrm [a,.b true,c,d,e,.b true,.b (a5.S.toList==a0.S.toList),g,h,i,j,k,l,m,n,o,p,q,r,s,t,u,v,w,x,y,z,a0,a1,a2,a3,a4,((g.L.getD i.I.toNat []).getD 0 .nil),((g.L.getD i.I.toNat []).getD 1 .nil),((g.L.getD i.I.toNat []).getD 2 .nil),((g.L.getD i.I.toNat []).getD 3 .nil),((g.L.getD i.I.toNat []).getD 4 .nil),((g.L.getD i.I.toNat []).getD 5 .nil),((g.L.getD i.I.toNat []).getD 6 .nil),((g.L.getD i.I.toNat []).getD 7 .nil),((g.L.getD i.I.toNat []).getD 8 .nil),((g.L.getD i.I.toNat []).getD 9 .nil),((g.L.getD i.I.toNat []).getD 10 .nil),((g.L.getD i.I.toNat []).getD 11 .nil)]))) else (bif (a5.S.toList==a0.S.toList) then (bif (!(v.I==2)) then (some (.nrm [a,.b true,c,d,e,.b (((g.L.getD i.I.toNat []).getD 8 .nil).I==2),.b (a5.S.toList==a0.S.toList),g,h,i,j,k,l,m,n,o,p,q,r,s,t,u,v,w,x,y,z,a0,a1,a2,a3,a4,((g.L.getD i.I.toNat []).getD 0 .nil),((g.L.getD i.I.toNat []).getD 1 .nil),((g.L.getD i.I.toNat []).getD 2 .nil),((g.L.getD i.I.toNat []).getD 3 .nil),((g.L.getD i.I.toNat []).getD 4 .nil),((g.L.getD i.I.toNat []).getD 5 .nil),((g.L.getD i.I.toNat []).getD 6 .nil),((g.L.getD i.I.toNat []).getD 7 .nil),((g.L.getD i.I.toNat []).getD 8 .nil),((g.L.getD i.I.toNat []).getD 9 .nil),((g.L.getD i.I.toNat []).getD 10 .nil),((g.L.getD i.I.toNat []).getD 11 .nil)])) else (some (.nrm [a,.b true,c,d,e,.b true,.b (a5.S.toList==a0.S.toList),g,h,i,j,k,l,m,n,o,p,q,r,s,t,u,v,w,x,y,z,a0,a1,a2,a3,a4,((g.L.getD i.I.toNat []).getD 0 .nil),((g.L.getD i.I.toNat []).getD 1 .nil),((g.L.getD i.I.toNat []).getD 2 .nil),((g.L.getD i.I.toNat []).getD 3 .nil),((g.L.getD i.I.toNat []).getD 4 .nil),((g.L.getD i.I.toNat []).getD 5 .nil),((g.L.getD i.I.toNat []).getD 6 .nil),((g.L.getD i.I.toNat []).getD 7 .nil),((g.L.getD i.I.toNat []).getD 8 .nil),((g.L.getD i.I.toNat []).getD 9 .nil),((g.L.getD i.I.toNat []).getD 10 .nil),((g.L.getD i.I.toNat []).getD 11 .nil)]))) else (some (.nrm [a,.b true,c,d,e,.b false,.b (a5.S.toList==a0.S.toList),g,h,i,j,k,l,m,n,o,p,q,r,s,t,u,v,w,x,y,z,a0,a1,a2,a3,a4,((g.L.getD i.I.toNat []).getD 0 .nil),((g.L.getD i.I.toNat []).getD 1 .nil),((g.L.getD i.I.toNat []).getD 2 .nil),((g.L.getD i.I.toNat []).getD 3 .nil),((g.L.getD i.I.toNat []).getD 4 .nil),((g.L.getD i.I.toNat []).getD 5 .nil),((g.L.getD i.I.toNat []).getD 6 .nil),((g.L.getD i.I.toNat []).getD 7 .nil),((g.L.getD i.I.toNat []).getD 8 .nil),((g.L.getD i.I.toNat []).getD 9 .nil),((g.L.getD i.I.toNat []).getD 10 .nil),((g.L.getD i.I.toNat []).getD 11 .nil)])))) else (some (.nrm [a,.b true,c,d,e,.b true,.b (a5.S.toList==a0.S.toList),g,h,i,j,k,l,m,n,o,p,q,r,s,t,u,v,w,x,y,z,a0,a1,a2,a3,a4,((g.L.getD i.I.toNat []).getD 0 .nil),((g.L.getD i.I.toNat []).getD 1 .nil),((g.L.getD i.I.toNat []).getD 2 .nil),((g.L.getD i.I.toNat []).getD 3 .nil),((g.L.getD i.I.toNat []).getD 4 .nil),((g.L.getD i.I.toNat []).getD 5 .nil),((g.L.getD i.I.toNat []).getD 6 .nil),((g.L.getD i.I.toNat []).getD 7 .nil),((g.L.getD i.I.toNat []).getD 8 .nil),((g.L.getD i.I.toNat []).getD 9 .nil),((g.L.getD i.I.toNat []).getD 10 .nil),((g.L.getD i.I.toNat []).getD 11 .nil)]))) else (some (.nrm [a,b,c,d,e,f,.b (a5.S.toList==a0.S.toList),g,h,i,j,k,l,m,n,o,p,q,r,s,t,u,v,w,x,y,z,a0,a1,a2,a3,a4,((g.L.getD i.I.toNat []).getD 0 .nil),((g.L.getD i.I.toNat []).getD 1 .nil),((g.L.getD i.I.toNat []).getD 2 .nil),((g.L.getD i.I.toNat []).getD 3 .nil),((g.L.getD i.I.toNat []).getD 4 .nil),((g.L.getD i.I.toNat []).getD 5 .nil),((g.L.getD i.I.toNat []).getD 6 .nil),((g.L.getD i.I.toNat []).getD 7 .nil),((g.L.getD i.I.toNat []).getD 8 .nil),((g.L.getD i.I.toNat []).getD 9 .nil),((g.L.getD i.I.toNat []).getD 10 .nil),((g.L.getD i.I.toNat []).getD 11 .nil)]))) (fun xs=>i_pFits.d2 (xs.getD 0 .nil) (xs.getD 1 .nil) (xs.getD 2 .nil) (xs.getD 3 .nil) (xs.getD 4 .nil) (xs.getD 5 .nil) (xs.getD 6 .nil) (xs.getD 7 .nil) (xs.getD 8 .nil) (xs.getD 9 .nil) (xs.getD 10 .nil) (xs.getD 11 .nil) (xs.getD 12 .nil) (xs.getD 13 .nil) (xs.getD 14 .nil) (xs.getD 15 .nil) (xs.getD 16 .nil) (xs.getD 17 .nil) (xs.getD 18 .nil) (xs.getD 19 .nil) (xs.getD 20 .nil) (xs.getD 21 .nil) (xs.getD 22 .nil) (xs.getD 23 .nil) (xs.getD 24 .nil) (xs.getD 25 .nil) (xs.getD 26 .nil) (xs.getD 27 .nil) (xs.getD 28 .nil) (xs.getD 29 .nil) (xs.getD 30 .nil) (xs.getD 31 .nil) (xs.getD 32 .nil) (xs.getD 33 .nil) (xs.getD 34 .nil) (xs.getD 35 .nil) (xs.getD 36 .nil) (xs.getD 37 .nil) (xs.getD 38 .nil) (xs.getD 39 .nil) (xs.getD 40 .nil) (xs.getD 41 .nil) (xs.getD 42 .nil) (xs.getD 43 .nil))))) else (some (.brk 1 [a,b,c,d,e,f,g,h,i,j,k,l,m,n,o,p,q,r,s,t,u,v,w,x,y,z,a0,a1,a2,a3,a4]))) else none) else none) (ap31 i_pFits.d3)) else (some (.brk 0 [a,b,c,d,e,f,n,o,p,q,r,s,t,u,v,w,x,y,z,a0,a1,a2,a3,a4])))
def i_pFits.d5 (a b c d e f g h i j k l m n o p q r s t u v:C):R:=(bif d.B then (some (.ret [.i 5])) else (bif (decide (a.I≥10)) then (some (.ret [.i 6])) else (bif (decide ((w64 (b.I+i.I))>t.I)) then (some (.ret [.i 7])) else (bif (decide ((w64 (c.I+j.I))>u.I)) then (some (.ret [.i 8])) else (some (.ret [.i 0]))))))
def i_pFits.d6 (a b c d e f g h i j k l m n o p q r s t u v w x:C):R:=(bif f.B then (some (.ret [.i 4])) else (bindNrm (bif (!(p.S.toList==(bs #[]).toList)) then (bif (!a.B) then (bif (p.S.toList==h.S.toList) then (some (.nrm [c,d,e,.b (!(!b.B)),g,h,i,j,k,l,m,n,o,p,q,r,s,t,u,v,w,x])) else (some (.nrm [c,d,e,.b true,g,h,i,j,k,l,m,n,o,p,q,r,s,t,u,v,w,x]))) else (some (.nrm [c,d,e,.b false,g,h,i,j,k,l,m,n,o,p,q,r,s,t,u,v,w,x]))) else (some (.nrm [c,d,e,.b false,g,h,i,j,k,l,m,n,o,p,q,r,s,t,u,v,w,x]))) (ap22 i_pFits.d5)))
def i_pFits.d7 (a b c d e f g h i j k l m n o p q r s t u v:C):R:=(call1 (i_pMeets [k,q,r,s,t,u,v]) fun w=>(bif (!w.B) then (some (.ret [.i 3])) else (bindBlk 0 (lim (ap31 i_pFits.d4) [.b false,.b false,.i 0,.i 0,.i 0,.b false,d,.i (d.L.length:Int),.i 0,a,b,c,d,e,f,g,h,i,j,k,l,m,n,o,p,q,r,s,t,u,v]) (ap24 i_pFits.d6))))
def i_pFits.d8 (a b c d e f g h i j k l m n o p q r s t u v:C):R:=(bindNrm (bif (!(o.S.toList==(bs #[]).toList)) then (bif (!(o.S.toList==q.S.toList)) then (some (.ret [.i 2])) else (some (.nrm [a,b,c,d,e,f,g,h,i,j,k,l,m,n,o,p,q,r,s,t,u,v]))) else (some (.nrm [a,b,c,d,e,f,g,h,i,j,k,l,m,n,o,p,q,r,s,t,u,v]))) (ap22 i_pFits.d7))
def i_pFits.d9 (a b c d e f g h i j k l m n o p q r s t u v w:C):R:=(bindNrm (bif w.B then (bif v.B then (some (.ret [.i 1])) else (some (.nrm [a,b,c,d,e,f,g,h,i,j,k,l,m,n,o,p,q,r,s,t,u,v]))) else (some (.nrm [a,b,c,d,e,f,g,h,i,j,k,l,m,n,o,p,q,r,s,t,u,v]))) (ap22 i_pFits.d8))
def i_pFits:List C→Option (List C):=fun xs=>finR (ap23 i_pFits.d9 xs)
def i_pFits_fs:FS:=⟨4,⟨[(0,z2),(1,z6),(2,z8),(3,zo)],[]⟩,⟨[(0,zi)],[]⟩,[],i_pFits⟩
theorem i_pFits_ok:FSOk Tryz.checked.prog T0 54 i_pFits_fs:=okOf base0 (fn:=Tryz.f54) (c:=Tryz.f54.body.getD .skip) i_pFits_fs (.seq .leaf (.seq (.join ⟨[(4,(.pt 4 0)),(5,(.pt 5 0)),(6,(.pt 6 0))],[(4,z0),(5,z1),(6,z5)]⟩ .leaf) (.seq (.join ⟨[(4,(.pt 4 0)),(5,(.pt 5 0)),(6,(.pt 6 0))],[(4,z0),(5,z1),(6,z5)]⟩ .leaf) (.seq .leaf (.seq .leaf (.seq .leaf (.seq .leaf (.seq (.seq .leaf (.block ⟨[(5,(.pt 5 0)),(6,(.pt 6 0)),(9,zo),(10,zo),(11,zi),(12,zi),(13,zi),(14,zo)],[(5,z1),(6,z5)]⟩ (.loop ⟨[(4,(.pt 4 0)),(5,(.pt 5 0)),(6,(.pt 6 0)),(9,zo),(10,zo),(11,zi),(12,zi),(13,zi),(14,zo),(39,(zl 45)),(40,zi),(41,zi)],[(4,z0),(5,z1),(6,z5)]⟩ (.seq .leaf (.seq .leaf (.seq (.block ⟨[(4,(.pt 4 0)),(5,(.pt 5 0)),(6,(.pt 6 0)),(9,zo),(10,zo),(11,zi),(12,zi),(13,zi),(14,zo),(39,(zl 45)),(40,zi),(41,zi)],[(4,z0),(5,z1),(6,z5)]⟩ (.seq .leaf (.seq .leaf (.seq .leaf (.seq (.join ⟨[(4,(.pt 4 0)),(5,(.pt 5 0)),(6,(.pt 6 0)),(9,zo),(10,zo),(11,zi),(12,zi),(13,zi),(14,zo),(16,(.pt 16 0)),(17,zo),(39,(zl 45)),(40,zi),(41,zi)],[(4,z0),(5,z1),(6,z5),(16,z1)]⟩ .leaf) (.seq (.join ⟨[(4,(.pt 4 0)),(5,(.pt 5 0)),(6,(.pt 6 0)),(9,zo),(10,zo),(11,zi),(12,zi),(13,zi),(14,zo),(16,(.pt 16 0)),(39,(zl 45)),(40,zi),(41,zi)],[(4,z0),(5,z1),(6,z5),(16,z1)]⟩ .leaf) .leaf)))))) .leaf)))))) (.seq (.skip (.seq .leaf (.cond .leaf (.seq (.join ⟨[(5,(.pt 5 0)),(6,(.pt 6 0)),(11,zi),(12,zi),(13,zi),(125,zo)],[(5,z1),(6,z5)]⟩ .leaf) .leaf)))) .leaf))))))))) [(103,some 36,i_pMeets_fs),(104,some 58,i_pZone_fs)] (.cons i_pMeets_ok (.cons i_pZone_ok .nil)) (by kernel_rfl) (by kernel_rfl) (by kernel_rfl) (fun xs=>by kernel_rfl)
def i_PilotFits.d1 (a b c d e f:C):R:=(call1 (i_PilotValid [a,b,c,d]) fun g=>(bif (!g.B) then (some (.ret [.i 9])) else (call1 (i_pCopyAt [a,b,c,d,e]) fun h=>(call1 (i_pBerthAt [a,b,c,d,f]) fun i=>(bif (!(decide (h.I<0))) then (bif (decide (i.I<0)) then (some (.ret [.i 9])) else (bif (decide (0≤h.I)) then (bif (decide (h.I<(d.L.length:Int))) then (bif (decide (0≤i.I)) then (bif (decide (i.I<(b.L.length:Int))) then (call1 (i_pFits [a,b,c,d,((d.L.getD h.I.toNat []).getD 0 .nil),((d.L.getD h.I.toNat []).getD 1 .nil),((d.L.getD h.I.toNat []).getD 2 .nil),((d.L.getD h.I.toNat []).getD 3 .nil),((d.L.getD h.I.toNat []).getD 4 .nil),((d.L.getD h.I.toNat []).getD 5 .nil),((d.L.getD h.I.toNat []).getD 6 .nil),((d.L.getD h.I.toNat []).getD 7 .nil),((d.L.getD h.I.toNat []).getD 8 .nil),((d.L.getD h.I.toNat []).getD 9 .nil),((d.L.getD h.I.toNat []).getD 10 .nil),((d.L.getD h.I.toNat []).getD 11 .nil),((b.L.getD i.I.toNat []).getD 0 .nil),((b.L.getD i.I.toNat []).getD 1 .nil),((b.L.getD i.I.toNat []).getD 2 .nil),((b.L.getD i.I.toNat []).getD 3 .nil),((b.L.getD i.I.toNat []).getD 4 .nil),((b.L.getD i.I.toNat []).getD 5 .nil),.b true]) fun j=>(some (.ret [j]))) else none) else none) else none) else none)) else (some (.ret [.i 9])))))))
def i_PilotFits:List C→Option (List C):=fun xs=>finR (ap6 i_PilotFits.d1 xs)
def i_PilotFits_fs:FS:=⟨3,⟨[(0,z2),(1,zt),(2,zt)],[]⟩,⟨[(0,zi)],[]⟩,[],i_PilotFits⟩
theorem i_PilotFits_ok:FSOk Tryz.checked.prog T0 10 i_PilotFits_fs:=okOf base0 (fn:=Tryz.f10) (c:=Tryz.f10.body.getD .skip) i_PilotFits_fs .leaf [(17,some 10,i_PilotValid_fs),(52,some 14,i_pCopyAt_fs),(53,some 17,i_pBerthAt_fs),(54,some 35,i_pFits_fs)] (.cons i_PilotValid_ok (.cons i_pCopyAt_ok (.cons i_pBerthAt_ok (.cons i_pFits_ok .nil)))) (by kernel_rfl) (by kernel_rfl) (by kernel_rfl) (fun xs=>by kernel_rfl)
def s_PilotFits.d1 (a b c d e f:C):R:=(call1 (s_l2Copy [a,b,c,d,e]) fun g=>(call1 (s_l2Berth [a,b,c,d,f]) fun h=>(call1 (s_PilotValid [a,b,c,d]) fun i=>(bif (!(!i.B)) then (bif (!(decide (g.I<0))) then (bif (decide (h.I<0)) then (some (.ret [.i 9])) else (bif (decide (0≤g.I)) then (bif (decide (g.I<(d.L.length:Int))) then (bif (decide (0≤h.I)) then (bif (decide (h.I<(b.L.length:Int))) then (call1 (s_l3Fits [a,b,c,d,((d.L.getD g.I.toNat []).getD 0 .nil),((d.L.getD g.I.toNat []).getD 1 .nil),((d.L.getD g.I.toNat []).getD 2 .nil),((d.L.getD g.I.toNat []).getD 3 .nil),((d.L.getD g.I.toNat []).getD 4 .nil),((d.L.getD g.I.toNat []).getD 5 .nil),((d.L.getD g.I.toNat []).getD 6 .nil),((d.L.getD g.I.toNat []).getD 7 .nil),((d.L.getD g.I.toNat []).getD 8 .nil),((d.L.getD g.I.toNat []).getD 9 .nil),((d.L.getD g.I.toNat []).getD 10 .nil),((d.L.getD g.I.toNat []).getD 11 .nil),((b.L.getD h.I.toNat []).getD 0 .nil),((b.L.getD h.I.toNat []).getD 1 .nil),((b.L.getD h.I.toNat []).getD 2 .nil),((b.L.getD h.I.toNat []).getD 3 .nil),((b.L.getD h.I.toNat []).getD 4 .nil),((b.L.getD h.I.toNat []).getD 5 .nil),.b false]) fun j=>(some (.ret [j]))) else none) else none) else none) else none)) else (some (.ret [.i 9]))) else (some (.ret [.i 9]))))))
def s_PilotFits:List C→Option (List C):=fun xs=>finR (ap6 s_PilotFits.d1 xs)
def s_PilotFits_fs:FS:=⟨3,⟨[(0,z2),(1,zt),(2,zt)],[]⟩,⟨[(0,zi)],[]⟩,[],s_PilotFits⟩
theorem s_PilotFits_ok:FSOk Tryz.checked.prog T0 11 s_PilotFits_fs:=okOf base0 (fn:=Tryz.f11) (c:=Tryz.f11.body.getD .skip) s_PilotFits_fs .leaf [(15,some 16,s_PilotValid_fs),(55,some 11,s_l2Copy_fs),(56,some 14,s_l2Berth_fs),(57,some 37,s_l3Fits_fs)] (.cons s_PilotValid_ok (.cons s_l2Copy_ok (.cons s_l2Berth_ok (.cons s_l3Fits_ok .nil)))) (by kernel_rfl) (by kernel_rfl) (by kernel_rfl) (fun xs=>by kernel_rfl)
def i_PilotRight.d1 (a b c d e f g h:C):R:=(bif (decide (c.I<b.I)) then (bif (decide (0≤c.I)) then (bif (decide (c.I<(a.L.length:Int))) then (bif (!((((a.L.getD c.I.toNat []).getD 11 .nil).S).toList==(bs #[]).toList)) then (call1 (i_pBerthAt [d,e,f,g,((a.L.getD c.I.toNat []).getD 11 .nil)]) fun i=>(bif (decide (0≤i.I)) then (bif (decide (i.I<(e.L.length:Int))) then (call1 (i_pFits [d,e,f,g,((a.L.getD c.I.toNat []).getD 0 .nil),((a.L.getD c.I.toNat []).getD 1 .nil),((a.L.getD c.I.toNat []).getD 2 .nil),((a.L.getD c.I.toNat []).getD 3 .nil),((a.L.getD c.I.toNat []).getD 4 .nil),((a.L.getD c.I.toNat []).getD 5 .nil),((a.L.getD c.I.toNat []).getD 6 .nil),((a.L.getD c.I.toNat []).getD 7 .nil),((a.L.getD c.I.toNat []).getD 8 .nil),((a.L.getD c.I.toNat []).getD 9 .nil),((a.L.getD c.I.toNat []).getD 10 .nil),((a.L.getD c.I.toNat []).getD 11 .nil),((e.L.getD i.I.toNat []).getD 0 .nil),((e.L.getD i.I.toNat []).getD 1 .nil),((e.L.getD i.I.toNat []).getD 2 .nil),((e.L.getD i.I.toNat []).getD 3 .nil),((e.L.getD i.I.toNat []).getD 4 .nil),((e.L.getD i.I.toNat []).getD 5 .nil),.b false]) fun j=>(bif (j.I !=0) then (bif (decide (h.L.length+(rows [[((a.L.getD c.I.toNat []).getD 0 .nil)]]).length≤4294967296)) then (some (.again [a,b,.i (w64 (c.I+1)),d,e,f,g,.l (h.L++(rows [[((a.L.getD c.I.toNat []).getD 0 .nil)]]))])) else none) else (some (.again [a,b,.i (w64 (c.I+1)),d,e,f,g,.l h.L])))) else none) else none)) else (some (.again [a,b,.i (w64 (c.I+1)),d,e,f,g,.l h.L]))) else none) else none) else (some (.brk 0 [.l h.L])))
def i_PilotRight.d2 (a:C):R:=(some (.ret [.l a.L]))
def i_PilotRight.d3 (a b c d:C):R:=(call1 (i_PilotValid [a,b,c,d]) fun e=>(bif (!e.B) then (some (.ret [.l nils])) else (bindBlk 0 (lim (ap8 i_PilotRight.d1) [d,.i (d.L.length:Int),.i 0,a,b,c,d,.l nils]) (ap1 i_PilotRight.d2))))
def i_PilotRight:List C→Option (List C):=fun xs=>finR (ap4 i_PilotRight.d3 xs)
def i_PilotRight_fs:FS:=⟨1,⟨[(0,z2)],[]⟩,⟨[(0,(.ow 3000))],[(3000,.arr 9 1)]⟩,[],i_PilotRight⟩
theorem i_PilotRight_ok:FSOk Tryz.checked.prog T0 12 i_PilotRight_fs:=okOf base0 (fn:=Tryz.f12) (c:=Tryz.f12.body.getD .skip) i_PilotRight_fs (.seq .leaf (.seq .leaf (.seq .leaf (.seq (.seq .leaf (.block ⟨[(3,(.ow 1305800))],[(1305800,.arr 9 1)]⟩ (.loop ⟨[(1,(.pt 1 0)),(3,(.ow 1305800)),(10,(zl 45)),(11,zi),(12,zi)],[(1,z0),(1305800,.arr 9 1)]⟩ .leaf))) .leaf)))) [(17,some 7,i_PilotValid_fs),(53,some 27,i_pBerthAt_fs),(54,some 30,i_pFits_fs)] (.cons i_PilotValid_ok (.cons i_pBerthAt_ok (.cons i_pFits_ok .nil))) (by kernel_rfl) (by kernel_rfl) (by kernel_rfl) (fun xs=>by kernel_rfl)
def s_PilotRight.d1 (a b c d e f:C):R:=(bif (decide (a.I<(e.L.length:Int))) then (bif (decide (0≤a.I)) then (bif (decide (a.I<(e.L.length:Int))) then (bif (!((((e.L.getD a.I.toNat []).getD 11 .nil).S).toList==(bs #[]).toList)) then (call1 (s_l2Berth [b,c,d,e,((e.L.getD a.I.toNat []).getD 11 .nil)]) fun g=>(bif (decide (0≤g.I)) then (bif (decide (g.I<(c.L.length:Int))) then (call1 (s_l3Fits [b,c,d,e,((e.L.getD a.I.toNat []).getD 0 .nil),((e.L.getD a.I.toNat []).getD 1 .nil),((e.L.getD a.I.toNat []).getD 2 .nil),((e.L.getD a.I.toNat []).getD 3 .nil),((e.L.getD a.I.toNat []).getD 4 .nil),((e.L.getD a.I.toNat []).getD 5 .nil),((e.L.getD a.I.toNat []).getD 6 .nil),((e.L.getD a.I.toNat []).getD 7 .nil),((e.L.getD a.I.toNat []).getD 8 .nil),((e.L.getD a.I.toNat []).getD 9 .nil),((e.L.getD a.I.toNat []).getD 10 .nil),((e.L.getD a.I.toNat []).getD 11 .nil),((c.L.getD g.I.toNat []).getD 0 .nil),((c.L.getD g.I.toNat []).getD 1 .nil),((c.L.getD g.I.toNat []).getD 2 .nil),((c.L.getD g.I.toNat []).getD 3 .nil),((c.L.getD g.I.toNat []).getD 4 .nil),((c.L.getD g.I.toNat []).getD 5 .nil),.b true]) fun h=>(bif (h.I !=0) then (bif (decide (f.L.length+(rows [[((e.L.getD a.I.toNat []).getD 0 .nil)]]).length≤4294967296)) then (some (.again [.i (w64 (a.I+1)),b,c,d,e,.l (f.L++(rows [[((e.L.getD a.I.toNat []).getD 0 .nil)]]))])) else none) else (some (.again [.i (w64 (a.I+1)),b,c,d,e,.l f.L])))) else none) else none)) else (some (.again [.i (w64 (a.I+1)),b,c,d,e,.l f.L]))) else none) else none) else (some (.brk 0 [.l f.L])))
def s_PilotRight.d2 (a:C):R:=(some (.ret [.l a.L]))
def s_PilotRight.d3 (a b c d:C):R:=(call1 (s_PilotValid [a,b,c,d]) fun e=>(bif (!e.B) then (some (.ret [.l nils])) else (bindBlk 0 (lim (ap6 s_PilotRight.d1) [.i 0,a,b,c,d,.l nils]) (ap1 s_PilotRight.d2))))
def s_PilotRight:List C→Option (List C):=fun xs=>finR (ap4 s_PilotRight.d3 xs)
def s_PilotRight_fs:FS:=⟨1,⟨[(0,z2)],[]⟩,⟨[(0,(.ow 3000))],[(3000,.arr 9 1)]⟩,[],s_PilotRight⟩
theorem s_PilotRight_ok:FSOk Tryz.checked.prog T0 14 s_PilotRight_fs:=okOf base0 (fn:=Tryz.f14) (c:=Tryz.f14.body.getD .skip) s_PilotRight_fs (.seq .leaf (.seq .leaf (.seq .leaf (.seq (.seq .leaf (.block ⟨[(3,(.ow 6))],[(6,.arr 9 1)]⟩ (.loop ⟨[(1,(.pt 1 0)),(3,(.ow 6)),(4,zi)],[(1,z0),(6,.arr 9 1)]⟩ .leaf))) .leaf)))) [(15,some 8,s_PilotValid_fs),(56,some 34,s_l2Berth_fs),(57,some 37,s_l3Fits_fs)] (.cons s_PilotValid_ok (.cons s_l2Berth_ok (.cons s_l3Fits_ok .nil))) (by kernel_rfl) (by kernel_rfl) (by kernel_rfl) (fun xs=>by kernel_rfl)
end
end Go.Ev
namespace Go.Ev
open Go.Proofs
noncomputable section
def w_wpNames.d1 (a b c:C):R:=(bif (decide (c.I<(a.L.length:Int))) then (bif (decide (0≤c.I)) then (bif (decide (c.I<(a.L.length:Int))) then (bif (decide (0≤c.I)) then (bif (decide (c.I<(b.L.length:Int))) then (bif (!((((a.L.getD c.I.toNat []).getD 0 .nil).S).toList==(((b.L.getD c.I.toNat []).getD 0 .nil).S).toList)) then (some (.ret [.b false])) else (some (.again [a,b,.i (w64 (c.I+1))]))) else none) else none) else none) else none) else (some (.brk 0 [])))
def w_wpNames.d2:R:=(some (.ret [.b true]))
def w_wpNames.d3 (a b:C):R:=(bif ((a.L.length:Int) !=(b.L.length:Int)) then (some (.ret [.b false])) else (bindBlk 0 (lim (ap3 w_wpNames.d1) [a,b,.i 0]) (fun xs=>w_wpNames.d2)))
def w_wpNames:List C→Option (List C):=fun xs=>finR (ap2 w_wpNames.d3 xs)
def w_wpNames_fs:FS:=⟨2,⟨[(0,(zl 9)),(1,(zl 9))],[]⟩,⟨[(0,zo)],[]⟩,[],w_wpNames⟩
theorem w_wpNames_ok:FSOk Tryz.checked.prog T0 13 w_wpNames_fs:=okOf base0 (fn:=Tryz.f13) (c:=Tryz.f13.body.getD .skip) w_wpNames_fs (.seq .leaf (.seq .leaf (.seq (.seq .leaf (.block ⟨[],[]⟩ (.loop ⟨[(0,(zl 9)),(1,(zl 9)),(5,zi)],[]⟩ .leaf))) .leaf))) [] .nil (by kernel_rfl) (by kernel_rfl) (by kernel_rfl) (fun xs=>by kernel_rfl)
def w_wpAt.d1 (a b c d e f g h i j k:C):R:=(bif (decide (c.I<(k.L.length:Int))) then (bif (decide (0≤c.I)) then (bif (decide (c.I<(k.L.length:Int))) then (bif ((((k.L.getD c.I.toNat []).getD 0 .nil).S).toList==a.S.toList) then (bif (decide (0≤c.I)) then (bif (decide (c.I<(k.L.length:Int))) then (some (.again [a,b,.i (w64 (c.I+1)),d,e,f,g,.l h.L,.l i.L,.l j.L,.l (k.L.set c.I.toNat (setCs (k.L.getD c.I.toNat []) 11 [b]))])) else none) else none) else (some (.again [a,b,.i (w64 (c.I+1)),d,e,f,g,.l h.L,.l i.L,.l j.L,.l k.L]))) else none) else none) else (some (.brk 0 [d,e,f,g,.l h.L,.l i.L,.l j.L,.l k.L])))
def w_wpAt.d2 (a b c d e f g h:C):R:=(some (.ret [b,c,d,.l h.L]))
def w_wpAt.d3 (a b c d e f:C):R:=(bif (decide (nils.length+d.L.length≤4294967296)) then (bindBlk 0 (lim (ap11 w_wpAt.d1) [e,f,.i 0,.b false,a,b,c,.l nils,.l nils,.l nils,.l (nils++d.L)]) (ap8 w_wpAt.d2)) else none)
def w_wpAt:List C→Option (List C):=fun xs=>finR (ap6 w_wpAt.d3 xs)
def w_wpAt_fs:FS:=⟨3,⟨[(0,z2),(1,zt),(2,zt)],[]⟩,⟨[(0,(.ag [zo,(zl 37),(zl 60),(.ow 3000)]))],[(3000,.arr 45)]⟩,[],w_wpAt⟩
theorem w_wpAt_ok:FSOk Tryz.checked.prog T0 16 w_wpAt_fs:=okOf base0 (fn:=Tryz.f16) (c:=Tryz.f16.body.getD .skip) w_wpAt_fs (.seq .leaf (.seq .leaf (.seq .leaf (.seq (.seq .leaf (.block ⟨[(6,(.pt 6 0)),(7,(.pt 7 0))],[(6,.var 27 [zo,(.ow 1315800),(.ow 1315801),(.ow 1315802)]),(7,.var 27 [zo,(zl 37),(zl 60),(.ow 10)]),(1315800,.arr 37 1),(1315801,.arr 60 1),(1315802,.arr 45 1),(10,.arr 45)]⟩ (.loop ⟨[(1,zt),(2,zt),(6,(.pt 6 0)),(7,(.pt 7 0)),(8,zi)],[(6,.var 27 [zo,(.ow 1315800),(.ow 1315801),(.ow 1315802)]),(7,.var 27 [zo,(zl 37),(zl 60),(.ow 10)]),(1315800,.arr 37 1),(1315801,.arr 60 1),(1315802,.arr 45 1),(10,.arr 45)]⟩ .leaf))) .leaf)))) [] .nil (by kernel_rfl) (by kernel_rfl) (by kernel_rfl) (fun xs=>by kernel_rfl)
def w_wpIn.d1 (a b c:C):R:=(bif (decide (c.I<(a.L.length:Int))) then (bif (decide (0≤c.I)) then (bif (decide (c.I<(a.L.length:Int))) then (bif ((((a.L.getD c.I.toNat []).getD 0 .nil).S).toList==b.S.toList) then (some (.ret [.b true])) else (some (.again [a,b,.i (w64 (c.I+1))]))) else none) else none) else (some (.brk 0 [])))
def w_wpIn.d2:R:=(some (.ret [.b false]))
def w_wpIn.d3 (a b:C):R:=(bindBlk 0 (lim (ap3 w_wpIn.d1) [a,b,.i 0]) (fun xs=>w_wpIn.d2))
def w_wpIn:List C→Option (List C):=fun xs=>finR (ap2 w_wpIn.d3 xs)
def w_wpIn_fs:FS:=⟨2,⟨[(0,(zl 9)),(1,zt)],[]⟩,⟨[(0,zo)],[]⟩,[],w_wpIn⟩
theorem w_wpIn_ok:FSOk Tryz.checked.prog T0 18 w_wpIn_fs:=okOf base0 (fn:=Tryz.f18) (c:=Tryz.f18.body.getD .skip) w_wpIn_fs (.seq .leaf (.seq (.seq .leaf (.block ⟨[],[]⟩ (.loop ⟨[(0,(zl 9)),(1,zt),(5,zi)],[]⟩ .leaf))) .leaf)) [] .nil (by kernel_rfl) (by kernel_rfl) (by kernel_rfl) (fun xs=>by kernel_rfl)
def w_FnPilotFits.d1 (a b c d e f g h i j k l m:C):R:=(bif (decide (e.I<(g.L.length:Int))) then (bif (decide (0≤e.I)) then (bif (decide (e.I<(g.L.length:Int))) then (bif ((((g.L.getD e.I.toNat []).getD 0 .nil).S).toList==b.S.toList) then (bif (decide (0≤e.I)) then (bif (decide (e.I<(g.L.length:Int))) then (some (.again [a,b,c,.b (!(((g.L.getD e.I.toNat []).getD 5 .nil).B)),.i (w64 (e.I+1)),f,g,h,i,j,k,l,.l m.L])) else none) else none) else (some (.again [a,b,c,d,.i (w64 (e.I+1)),f,g,h,i,j,k,l,.l m.L]))) else none) else none) else (some (.brk 0 [a,c,d,j,k,l,.l m.L])))
def w_FnPilotFits.d2 (a b c d e f g:C):R:=(bif c.B then (call1 (i_PilotValid [d,e,f,.l g.L]) fun h=>(bif h.B then (call1 (i_PilotRight [d,e,f,.l g.L]) fun i=>(call1 (w_wpIn [.l i.L,a]) fun j=>(some (.ret [.b ((b.I==0)==(!j.B))])))) else (some (.ret [.b ((b.I==0)==false)])))) else (some (.ret [.b ((b.I==0)==false)])))
def w_FnPilotFits.d3 (a:C):R:=(bif (decide ((a.L.length:Int)>1048576)) then (some (.ret [.b true])) else (call6 (s_DrawPilotFits [a]) fun b c d e f g=>(call1 (i_PilotFits [b,c,d,e,f,g]) fun h=>(call1 (s_PilotFits [b,c,d,e,f,g]) fun i=>(bif (h.I !=i.I) then (some (.ret [.b false])) else (call1 (i_PilotRight [b,c,d,e]) fun j=>(call1 (s_PilotRight [b,c,d,e]) fun k=>(call1 (w_wpNames [.l j.L,.l k.L]) fun l=>(bif (!l.B) then (some (.ret [.b false])) else (bif (h.I==9) then (call1 (s_PilotValid [b,c,d,e]) fun m=>(bif (!(!m.B)) then (bif (!(f.S.toList==(bs #[]).toList)) then (bif (!(g.S.toList==(bs #[]).toList)) then (bif (!(f.S.toList==(bs #[103,111,110,101]).toList)) then (some (.ret [.b (g.S.toList==(bs #[103,111,110,101]).toList)])) else (some (.ret [.b true]))) else (some (.ret [.b true]))) else (some (.ret [.b true]))) else (some (.ret [.b true])))) else (call4 (w_wpAt [b,c,d,e,f,g]) fun n o p q=>(bindBlk 0 (lim (ap13 w_FnPilotFits.d1) [f,g,h,.b true,.i 0,b,c,d,e,n,o,p,.l q.L]) (ap7 w_FnPilotFits.d2)))))))))))))
def w_FnPilotFits:List C→Option (List C):=fun xs=>finR (ap1 w_FnPilotFits.d3 xs)
def w_FnPilotFits_fs:FS:=⟨1,⟨[(0,(zl 5))],[]⟩,⟨[(0,zo)],[]⟩,[],w_FnPilotFits⟩
theorem w_FnPilotFits_ok:FSOk Tryz.checked.prog T0 3 w_FnPilotFits_fs:=okOf base0 (fn:=Tryz.f3) (c:=Tryz.f3.body.getD .skip) w_FnPilotFits_fs (.seq .leaf (.seq .leaf (.seq .leaf (.seq .leaf (.seq .leaf (.seq .leaf (.seq .leaf (.seq .leaf (.seq .leaf (.seq .leaf (.seq (.seq .leaf (.block ⟨[(4,zt),(6,zi),(8,(.pt 8 0)),(9,zo)],[(8,.var 27 [zo,(zl 37),(zl 60),(.ow 256952)]),(256952,.arr 45)]⟩ (.loop ⟨[(3,(.pt 3 0)),(4,zt),(5,zt),(6,zi),(8,(.pt 8 0)),(9,zo),(10,zi)],[(3,z0),(8,.var 27 [zo,(zl 37),(zl 60),(.ow 256952)]),(256952,.arr 45)]⟩ .leaf))) (.seq (.frz [256952] .leaf) .leaf)))))))))))) [(9,some 16,s_DrawPilotFits_fs),(10,some 23,i_PilotFits_fs),(11,some 28,s_PilotFits_fs),(12,some 31,i_PilotRight_fs),(12,some 93,i_PilotRight_fs),(13,some 35,w_wpNames_fs),(14,some 34,s_PilotRight_fs),(15,some 40,s_PilotValid_fs),(16,some 61,w_wpAt_fs),(17,some 89,i_PilotValid_fs),(18,some 95,w_wpIn_fs)] (.cons s_DrawPilotFits_ok (.cons i_PilotFits_ok (.cons s_PilotFits_ok (.cons i_PilotRight_ok (.cons i_PilotRight_ok (.cons w_wpNames_ok (.cons s_PilotRight_ok (.cons s_PilotValid_ok (.cons w_wpAt_ok (.cons i_PilotValid_ok (.cons w_wpIn_ok .nil))))))))))) (by kernel_rfl) (by kernel_rfl) (by kernel_rfl) (fun xs=>by kernel_rfl)
end
end Go.Ev
set_option maxRecDepth 8000
namespace Go.Ev
abbrev Str:=ByteArray
structure Lk where
 sel:Str
 w:Int
structure Bt where
 name:Str
 zone:Str
 marks:List Str
 room:Int
 hold:Int
 shut:Bool
structure Sv where
 name:Str
 spare:Int
structure Cp where
 name:Str
 svc:Str
 rank:Int
 born:Int
 room:Int
 hold:Int
 sel:Str
 likes:List Lk
 apart:Int
 near:Str
 fixed:Str
 at_:Str
structure Fl where
 pack:Bool
 bts:List Bt
 svs:List Sv
 cps:List Cp
def sE (s:Str):List C:=[.s s]
def Lk.e (x:Lk):List C:=[.s x.sel,.i x.w]
def Bt.e (b:Bt):List C:=[.s b.name,.s b.zone,.l (b.marks.map sE),.i b.room,.i b.hold,.b b.shut]
def Sv.e (s:Sv):List C:=[.s s.name,.i s.spare]
def Cp.e (c:Cp):List C:=[.s c.name,.s c.svc,.i c.rank,.i c.born,.i c.room,.i c.hold,.s c.sel,.l (c.likes.map Lk.e),.i c.apart,.s c.near,.s c.fixed,.s c.at_]
def Fl.e (f:Fl):List C:=[.b f.pack,.l (f.bts.map Bt.e),.l (f.svs.map Sv.e),.l (f.cps.map Cp.e)]
def Bt.Sz (K:Nat) (b:Bt):Prop:=b.name.size≤K∧b.zone.size≤K∧b.marks.length≤K∧∀m,m∈b.marks→m.size≤K
def Sv.Sz (K:Nat) (s:Sv):Prop:=s.name.size≤K
def Cp.Sz (K:Nat) (c:Cp):Prop:=c.name.size≤K∧c.svc.size≤K∧c.sel.size≤K∧c.near.size≤K∧c.fixed.size≤K∧c.at_.size≤K∧c.likes.length≤K∧∀x,x∈c.likes→x.sel.size≤K
def Fl.Sz (K:Nat) (f:Fl):Prop:=(f.bts.length≤K∧∀b,b∈f.bts→b.Sz K)∧(f.svs.length≤K∧∀s,s∈f.svs→s.Sz K)∧f.cps.length≤K∧∀c,c∈f.cps→c.Sz K
def SsSz (K:Nat) (l:List Str):Prop:=l.length≤K∧∀s,s∈l→s.size≤K
theorem getD_map' {α:Type} (e:α→List C) {l:List α} {i:Nat} (h:i<l.length):(l.map e).getD i []=e l[i]:=getD_map_lt e h []
theorem w1 {i n:Nat} (h:i<n) (hn:n<4611686018427387904):w64 ((i:Int)+1)=((i+1:Nat):Int):=by
 rw[w64_of (by omega) (by omega)];rfl
end Go.Ev
namespace Go.Ev
abbrev big:Nat:=4611686018427387904
end Go.Ev
namespace Go.Ev
def Bt.o (b:Bt):List C:=[.s b.name,.s b.zone,.i b.room,.i b.hold,.b b.shut,.l (b.marks.map sE)]
def Cp.o (c:Cp):List C:=[.s c.name,.s c.svc,.i c.rank,.i c.born,.i c.room,.i c.hold,.s c.sel,.i c.apart,.s c.near,.s c.fixed,.s c.at_,.l (c.likes.map Lk.e)]
end Go.Ev
namespace Go.Ev
def within (a b c:Int):Bool:=decide (b≤a)&&decide (a≤c)
theorem s_l1In_eq (a b c:Int):s_l1In [.i a,.i b,.i c]=some [.b (within a b c)]:=by
 simp only[s_l1In,s_l1In.d1,apL,jC,jD,C.I_i,within]
 cases h:decide (a≥b)<;>simp at h<;>simp[h]<;>omega
theorem i_within_eq (a b c:Int):i_within [.i a,.i b,.i c]=some [.b (within a b c)]:=by
 simp only[i_within,i_within.d1,apL,jC,jD,C.I_i,within]
 cases h:decide (a≥b)<;>simp at h<;>simp[h]<;>omega
def lettI (n:Int):Bool:=(decide (n≥97)&&decide (n≤122))||(decide (n≥48)&&decide (n≤57))||n==45||n==95
def lett (x:UInt8):Bool:=lettI (x.toNat:Int)
theorem s_l1Letter_eq (n:Int):s_l1Letter [.i n]=some [.b (lettI n)]:=by
 simp only[s_l1Letter,s_l1Letter.d1,apL,jC,C.I_i,lettI]
 cases decide (n≥97)<;>cases decide (n≤122)<;>cases decide (n≥48)<;>cases decide (n≤57)<;>cases n==45<;>simp
theorem i_pByte_eq (n:Int):i_pByte [.i n]=some [.b (lettI n)]:=s_l1Letter_eq n
def nameOk (s:Str):Bool:=within s.size 1 20&&s.data.toList.all lett
theorem sz_list (s:Str):s.size=s.data.toList.length:=Array.length_toList.symm
theorem arr_getD {s:Str} {i:Nat} (h:i<s.data.toList.length):s.data.getD i 0=s.data.toList[i]:=by
 have:i<s.data.size:=by simpa using h
 simp only[Array.getD,dif_pos this,Array.getInternal_eq_getElem,Array.getElem_toList]
theorem loopL_all {α:Type} (p:α→Bool) (b:Nat) (ys:List C) (K:List C→R):∀(l:List α) (n:Nat),bindBlk b (some (loopL (fun _ s (_:Unit)=>bif p s then .inl () else .inr (.ret [.b false])) (fun _=>.brk b ys) l n ())) K=bif l.all p then K ys else some (.ret [.b false])
 |[],n=>by simp[loopL]
 |x::r,n=>by
  simp only[loopL,List.all_cons]
  cases p x with
  |true=>simp only[jR,Bool.true_and];exact loopL_all p b ys K r (n+1)
  |false=>simp
theorem s_l1NameOk_eq (s:Str) (hl:s.size≤1048576):s_l1NameOk [.s s]=some [.b (nameOk s)]:=by
 have hsz:=sz_list s
 have h:=lim_list (l:=s.data.toList) (S:=fun i (_:Unit)=>[.s s,.i (i:Nat)]) (body:=ap2 s_l1NameOk.d1)
  (fun _ _=>True) (fun i b _=>bif lett b then .inl () else .inr (.ret [.b false])) (fun _=>.brk 0 [])
  (fun i _ hi _=>by
   have hi':i<s.size:=by omega
   cases hb:lett s.data.toList[i]<;>simp only[lett] at hb
   ·exact ⟨by simp only[apL,jC,jD,s_l1NameOk.d1,C.I_i,C.S_s,jY,arr_getD hi,s_l1Letter_eq,hb,call1];simp[hi'],trivial⟩
   ·exact ⟨by simp only[apL,jC,jD,s_l1NameOk.d1,C.I_i,C.S_s,jY,arr_getD hi,s_l1Letter_eq,hb,call1,w1 hi' (show s.size<big by simp only[big];omega)];simp[hi'],trivial⟩)
  (fun _ _=>⟨by rw[←hsz];simp[s_l1NameOk.d1],trivial⟩) _ 0 () rfl trivial
 simp only[Int.ofNat_zero,List.drop_zero] at h
 simp only[s_l1NameOk,s_l1NameOk.d3,apL,jC,C.S_s,s_l1In_eq,call1,jI,C.B_b,nameOk]
 cases hw:within s.size 1 20 with
 |false=>simp
 |true=>
  simp only[jZ,jS]
  erw[h,loopL_all]
  cases (s.data.toList.all lett)<;>simp[s_l1NameOk.d2]
theorem i_pName_eq (s:Str) (hl:s.size≤1048576):i_pName [.s s]=some [.b (nameOk s)]:=by
 have hsz:=sz_list s
 have h:=lim_list (l:=s.data.toList) (S:=fun i (_:Unit)=>[.s s,.i (s.size:Nat),.i (i:Nat)]) (body:=ap3 i_pName.d1)
  (fun _ _=>True) (fun i b _=>bif lett b then .inl () else .inr (.ret [.b false])) (fun _=>.brk 0 [])
  (fun i _ hi _=>by
   have hi':i<s.size:=by omega
   cases hb:lett s.data.toList[i]<;>simp only[lett] at hb
   ·exact ⟨by simp only[apL,jC,jD,i_pName.d1,C.I_i,C.S_s,jY,arr_getD hi,i_pByte_eq,hb,call1];simp[hi'],trivial⟩
   ·exact ⟨by simp only[apL,jC,jD,i_pName.d1,C.I_i,C.S_s,jY,arr_getD hi,i_pByte_eq,hb,call1,w1 hi' (show s.size<big by simp only[big];omega)];simp[hi'],trivial⟩)
  (fun _ _=>⟨by rw[←hsz];simp[i_pName.d1],trivial⟩) _ 0 () rfl trivial
 simp only[Int.ofNat_zero,List.drop_zero] at h
 simp only[i_pName,i_pName.d3,apL,jC,C.S_s,nameOk,within]
 by_cases q1:(s.size:Int)<1
 ·have:¬(1:Int)≤s.size:=by omega
  simp[q1,this]
 by_cases q2:(s.size:Int)>20
 ·have:¬(s.size:Int)≤20:=by omega
  simp only[q1,q2,this];simp
 ·have e1:(1:Int)≤s.size:=by omega
  have e2:(s.size:Int)≤20:=by omega
  simp only[q1,q2,e1,e2,decide_true,decide_false,ja,jR,jS,Bool.true_and]
  erw[h,loopL_all]
  cases (s.data.toList.all lett)<;>simp[i_pName.d2]
end Go.Ev
namespace Go.Ev
def mkS (l:List UInt8):Str:=⟨l.toArray⟩
theorem mkS_data (l:List UInt8):(mkS l).data.toList=l:=rfl
theorem mkS_size (l:List UInt8):(mkS l).size=l.length:=rfl
theorem mkS_of (s:Str):mkS s.data.toList=s:=rfl
theorem ext_mkS (s:Str) (i j:Nat):s.extract i j=mkS ((s.data.toList.take j).drop i):=by
 have:(s.extract i j).data=((s.data.toList.take j).drop i).toArray:=by
  rw[ByteArray.data_extract]
  apply Array.toList_inj.1
  simp only[Array.toList_extract,List.extract_eq_take_drop]
  rw[List.drop_take]
 cases h:s.extract i j with
 |mk d=>rw[h] at this;simp only at this;subst this;rfl
def sEq (a b:Str):Bool:=a.toList==b.toList
theorem toList_data' (s:Str):s.toList=s.data.toList:=ByteArray.toList_eq s
theorem sEq_iff (a b:Str):sEq a b=true↔a=b:=by
 unfold sEq
 rw[toList_data',toList_data',beq_iff_eq]
 constructor
 ·intro h
  cases a;cases b
  simp only at h
  exact congrArg _ (Array.toList_inj.1 h)
 ·rintro rfl;rfl
theorem sEq_mk (a b:List UInt8):sEq (mkS a) (mkS b)=(a==b):=by
 unfold sEq;rw[toList_data',toList_data',mkS_data,mkS_data]
theorem take_run {α:Type} (p:α→Bool):∀l:List α,l.take (l.takeWhile p).length=l.takeWhile p
 |[]=>rfl
 |x::r=>by
  rw[List.takeWhile_cons]
  cases p x with
  |true=>simp[take_run p r]
  |false=>simp
theorem drop_run {α:Type} (p:α→Bool):∀l:List α,l.drop (l.takeWhile p).length=l.dropWhile p
 |[]=>rfl
 |x::r=>by
  rw[List.takeWhile_cons,List.dropWhile_cons]
  cases p x with
  |true=>simp[drop_run p r]
  |false=>simp
theorem part_drop {α:Type} (l:List α) (i k:Nat):(l.take (i+k)).drop i=(l.drop i).take k:=by rw[List.drop_take];congr 1;omega
theorem run_len {α:Type} (p:α→Bool) (l:List α):(l.takeWhile p).length≤l.length:=(List.takeWhile_prefix p).length_le
theorem drop_cons {α:Type} {l r:List α} {i:Nat} {c:α} (h:l.drop i=c::r):∃hi:i<l.length,l[i]=c∧l.drop (i+1)=r:=by
 have hi:i<l.length:=by
  rcases Nat.lt_or_ge i l.length with h'|h'
  ·exact h'
  ·rw[List.drop_eq_nil_of_le h'] at h;simp at h
 rw[List.drop_eq_getElem_cons hi] at h
 simp only[List.cons.injEq] at h
 exact ⟨hi,h.1,h.2⟩
def lexT:List UInt8→List (List UInt8)
 |[]=>[]
 |c::r=>if c=32 then lexT r else if lett c then (c::r.takeWhile lett)::lexT (r.dropWhile lett) else [c]::lexT r
termination_by l=>l.length
decreasing_by
 ·simp
 ·have:=(List.dropWhile_suffix (l:=r) lett).length_le;simp;omega
 ·simp
def sym (c:UInt8):Bool:=c==124||c==38||c==33||c==40||c==41||c==61
def legal (c:UInt8):Bool:=c==32||lett c||sym c
theorem bn (c x:UInt8) (m:Int) (h:m=(x.toNat:Int)):(((c.toNat:Nat):Int)==m)=(c==x):=by
 subst h
 rw[Bool.eq_iff_iff,beq_iff_eq,beq_iff_eq]
 constructor
 ·intro h
  exact UInt8.toNat_inj.1 (by exact_mod_cast h)
 ·rintro rfl;rfl
theorem tokrun (s:Str) (hl:s.size≤1048576) (i:Nat) (o:C):∀(k n:Nat),k=s.data.toList.length-n→n≤s.data.toList.length→
  lim (ap4 s_l1Tokens.d1) [.s s,.i i,.i n,.l o.L]=some (.brk 2 [.s s,.i i,.i (n+((s.data.toList.drop n).takeWhile lett).length:Nat),.l o.L])
 |0,n,hk,hn=>by
  have e:n=s.size:=by rw[sz_list];omega
  have e2:s.data.toList.drop n=[]:=List.drop_eq_nil_of_le (by omega)
  rw[e2]
  refine lim_brk ?_
  simp[s_l1Tokens.d1,e]
 |k+1,n,hk,hn=>by
  have hi:n<s.data.toList.length:=by omega
  have hi':n<s.size:=by rw[sz_list];omega
  have e2:=List.drop_eq_getElem_cons hi
  rw[e2,List.takeWhile_cons]
  cases hb:lett s.data.toList[n] with
  |false=>
   refine lim_brk ?_
   simp only[lett] at hb
   simp only[apL,jC,jD,s_l1Tokens.d1,C.I_i,C.S_s,jY,arr_getD hi,s_l1Letter_eq,hb,call1]
   simp[hi']
  |true=>
   have h:ap4 s_l1Tokens.d1 [.s s,.i i,.i n,.l o.L]=some (.again [.s s,.i i,.i (n+1:Nat),.l o.L]):=by
    simp only[lett] at hb
    simp only[apL,jC,jD,s_l1Tokens.d1,C.I_i,C.S_s,jY,arr_getD hi,s_l1Letter_eq,hb,call1,w1 hi' (show s.size<big by simp only[big];omega)]
    simp[hi']
   rw[lim_again h,tokrun s hl i o k (n+1) (by omega) (by omega)]
   have:n+1+(List.takeWhile lett (s.data.toList.drop (n+1))).length=n+(s.data.toList[n]::List.takeWhile lett (s.data.toList.drop (n+1))).length:=by
    simp only[List.length_cons];omega
   simp only[if_true,this]
def tk (t:List UInt8):List C:=[.s (mkS t)]
theorem toks (s:Str) (hl:s.size≤1048576):∀(k i:Nat) (out:List (List C)),s.data.toList.length-i≤k→i≤s.data.toList.length→out.length≤i→
  (((s.data.toList.drop i).all legal=true∧lim (ap3 s_l1Tokens.d5) [.s s,.i i,.l out]=some (.brk 0 [.l (out++(lexT (s.data.toList.drop i)).map tk)]))∨
   ((s.data.toList.drop i).all legal=false∧∃o,lim (ap3 s_l1Tokens.d5) [.s s,.i i,.l out]=some (.ret [.b false,.l o])))
 |k,i,out,hk,hi,ho=>by
  cases hd:s.data.toList.drop i with
  |nil=>
   have:s.data.toList.length≤i:=by simpa using hd
   have e:i=s.size:=by rw[sz_list];omega
   left
   refine ⟨rfl,lim_brk ?_⟩
   simp[s_l1Tokens.d5,e,lexT]
  |cons c r=>
   obtain ⟨hi',hc,hr⟩:=drop_cons hd
   have his:i<s.size:=by rw[sz_list];exact hi'
   obtain ⟨k,rfl⟩:∃k',k=k'+1:=⟨k-1,by omega⟩
   have hw:=w1 his (show s.size<big by simp only[big];omega)
   have e32:=bn c 32 32 rfl
   by_cases h32:c=32
   ·subst h32
    have h:ap3 s_l1Tokens.d5 [.s s,.i i,.l out]=some (.again [.s s,.i (i+1:Nat),.l out]):=by
     simp only[apL,jC,jD,s_l1Tokens.d5,C.I_i,C.S_s,C.L_l,jY,arr_getD hi',hc,hw]
     simp[his,s_l1Tokens.d4]
    have ih:=toks s hl k (i+1) out (by omega) (by omega) (by omega)
    rw[lim_again h]
    rw[hr] at ih
    simpa [legal,lexT] using ih
   ·have hrun:=tokrun s hl i (.l out) _ i rfl hi
    rw[hd] at hrun
    simp only[C.L_l] at hrun
    have hne:(((c.toNat:Nat):Int)==32)=false:=by
     rw[e32,beq_eq_false_iff_ne];exact h32
    cases hlt:lett c with
    |true=>
     have hrl:=run_len lett r
     have hrlen:r.length=s.data.toList.length-(i+1):=by rw[←hr];simp
     have h:ap3 s_l1Tokens.d5 [.s s,.i i,.l out]=some (.again [.s s,.i (i+1+(r.takeWhile lett).length:Nat),.l (out++[tk (c::r.takeWhile lett)])]):=by
      have hext:s.extract i (i+1+(r.takeWhile lett).length)=mkS (c::r.takeWhile lett):=by
       rw[ext_mkS,Nat.add_assoc,part_drop,hd,Nat.add_comm 1,List.take_succ_cons,take_run]
      have e1:(((i+1+(r.takeWhile lett).length:Nat):Int)==(i:Int))=false:=by
       rw[beq_eq_false_iff_ne];omega
      have e2:(i:Int)≤((i+1+(r.takeWhile lett).length:Nat):Int):=by omega
      have e3:((i+1+(r.takeWhile lett).length:Nat):Int)≤(s.size:Int):=by rw[sz_list];omega
      have e4:out.length+1≤4294967296:=by omega
      have e0:i+(List.takeWhile lett (c::r)).length=i+1+(r.takeWhile lett).length:=by
       rw[List.takeWhile_cons,hlt];simp;omega
      rw[e0] at hrun
      simp only[apL,jC,jD,s_l1Tokens.d5,C.I_i,C.S_s,C.L_l,jY,arr_getD hi',hc,hne,hrun,bindBlk_self]
      simp only[s_l1Tokens.d3,C.I_i,C.S_s,C.L_l,e1,jY,hext]
      simp only[e2,e3,e4,his,decide_true,jR,jS,jX,rows,List.length_cons,List.length_nil,bindBlk_self,s_l1Tokens.d4,C.L_l,tk]
      simp[his,e4,s_l1Tokens.d4]
     have ih:=toks s hl k (i+1+(r.takeWhile lett).length) (out++[tk (c::r.takeWhile lett)]) (by omega) (by omega) (by simp;omega)
     rw[lim_again h]
     have hdr:s.data.toList.drop (i+1+(r.takeWhile lett).length)=r.dropWhile lett:=by
      rw[←List.drop_drop,hr,drop_run]
     rw[hdr] at ih
     have hall:(c::r).all legal=(r.dropWhile lett).all legal:=by
      have e1:∀r:List UInt8,r.all legal=(r.dropWhile lett).all legal:=by
       intro r
       induction r with
       |nil=>rfl
       |cons x r ih=>
        rw[List.dropWhile_cons]
        cases hx:lett x with
        |true=>simp[legal,hx,←ih]
        |false=>simp
      have:legal c=true:=by simp[legal,hlt]
      rw[List.all_cons,this,Bool.true_and];exact e1 r
     rw[hall]
     have hlex:lexT (c::r)=(c::r.takeWhile lett)::lexT (r.dropWhile lett):=by
      rw[lexT,if_neg h32,if_pos hlt]
     rw[hlex]
     simpa using ih
    |false=>
     have e0:i+(List.takeWhile lett (c::r)).length=i:=by
      rw[List.takeWhile_cons,hlt];simp
     rw[e0] at hrun
     have s1:=bn c 124 124 rfl
     have s2:=bn c 38 38 rfl
     have s3:=bn c 33 33 rfl
     have s4:=bn c 40 40 rfl
     have s5:=bn c 41 41 rfl
     have s6:=bn c 61 61 rfl
     have hsym:s_l1Tokens.d3 (.s s) (.i i) (.i i) (.l out)=s_l1Tokens.d2 (.s s) (.i i) (.i i) (.b (!sym c)) (.l out):=by
      simp only[s_l1Tokens.d3,C.I_i,C.S_s,C.L_l,jY,arr_getD hi',hc,bne,s1,s2,s3,s4,s5,s6,sym]
      cases (c==124)<;>cases (c==38)<;>cases (c==33)<;>cases (c==40)<;>cases (c==41)<;>cases (c==61)<;>simp[his]
     have hd2:s_l1Tokens.d2 (.s s) (.i i) (.i i) (.b (!sym c)) (.l out)=if sym c=true then some (.brk 1 [.s s,.i (i+1:Nat),.l (out++[tk [c]])]) else some (.ret [.b false,.l out]):=by
      have hext:s.extract i (i+1)=mkS [c]:=by
       rw[ext_mkS,part_drop,hd];rfl
      have e2:(i:Int)≤((i+1:Nat):Int):=by omega
      have e3:((i+1:Nat):Int)≤(s.size:Int):=by rw[sz_list];omega
      have e4:out.length+1≤4294967296:=by omega
      cases hs:sym c with
      |false=>simp[s_l1Tokens.d2]
      |true=>
       simp only[s_l1Tokens.d2,C.I_i,C.S_s,C.L_l,C.B_b,hw,jY,hext,e2,e3,decide_true,jR,jS,jX,rows,List.length_cons,List.length_nil,jZ,if_true,tk]
       simp[e4]
     have h0:ap3 s_l1Tokens.d5 [.s s,.i i,.l out]=bindBlk 1 (if sym c=true then some (.brk 1 [.s s,.i (i+1:Nat),.l (out++[tk [c]])]) else some (.ret [.b false,.l out])) (ap3 s_l1Tokens.d4):=by
      rw[←hd2,←hsym]
      simp only[apL,jC,jD,s_l1Tokens.d5,C.I_i,C.S_s,C.L_l,jY,arr_getD hi',hc,hne,hrun,bindBlk_self]
      simp[his]
     cases hs:sym c with
     |false=>
      right
      rw[hs] at h0
      refine ⟨by simp[legal,hlt,hs,h32],out,lim_ret (by rw[h0];simp)⟩
     |true=>
      rw[hs] at h0
      have h:ap3 s_l1Tokens.d5 [.s s,.i i,.l out]=some (.again [.s s,.i (i+1:Nat),.l (out++[tk [c]])]):=by rw[h0];simp[s_l1Tokens.d4]
      rw[lim_again h]
      have ih:=toks s hl k (i+1) (out++[tk [c]]) (by omega) (by omega) (by simp;omega)
      rw[hr] at ih
      have hlex:lexT (c::r)=[c]::lexT r:=by rw[lexT,if_neg h32,if_neg (by rw[hlt];simp)]
      have hall:(c::r).all legal=r.all legal:=by simp[legal,hs]
      rw[hlex,hall]
      simpa using ih
theorem s_l1Tokens_eq (s:Str) (hl:s.size≤1048576):
  (s.data.toList.all legal=true∧s_l1Tokens [.s s]=some [.b true,.l ((lexT s.data.toList).map tk)])∨(s.data.toList.all legal=false∧∃o,s_l1Tokens [.s s]=some [.b false,.l o]):=by
 have h:=toks s hl _ 0 [] (Nat.le_refl _) (by omega) (by simp)
 simp only[List.drop_zero,jB,Int.ofNat_zero] at h
 simp only[s_l1Tokens,s_l1Tokens.d7,apL,jC,nils]
 rcases h with ⟨h1,h2⟩|⟨h1,o,h2⟩
 ·exact .inl ⟨h1,by rw[h2];simp[s_l1Tokens.d6]⟩
 ·exact .inr ⟨h1,o,by rw[h2];simp⟩
end Go.Ev
namespace Go.Ev
abbrev Tok:=List UInt8
inductive Tr where
 |lf (k:Nat) (n v:Tok)
 |un (t:Tr)
 |bn (k:Nat) (a b:Tr)
def node (k:Nat) (n v:Tok) (m:Nat):List C:=[.i (k:Nat),.s (mkS n),.s (mkS v),.i (m:Nat)]
def Tr.flat:Tr→List (List C)
 |.lf k n v=>[node k n v 0]
 |.un t=>t.flat++[node 3 [] [] 1]
 |.bn k a b=>a.flat++b.flat++[node k [] [] 2]
def opL (f:List Tok→Option (Tr×List Tok)) (op:Tok) (kd:Nat):Nat→Tr→List Tok→Option (Tr×List Tok)
 |0,t,r=>some (t,r)
 |m+1,t,r=>match r with
  |[]=>some (t,[])
  |x::r'=>if x=op then match f r' with
    |none=>none
    |some (t',r'')=>opL f op kd m (.bn kd t t') r''
   else some (t,x::r')
def prs:Nat→Nat→List Tok→Option (Tr×List Tok)
 |0,_,_=>none
 |k+1,c,l=>match c with
  |0=>match prs k 1 l with
   |none=>none
   |some (t,r)=>opL (prs k 1) [124] 5 r.length t r
  |1=>match prs k 2 l with
   |none=>none
   |some (t,r)=>opL (prs k 2) [38] 4 r.length t r
  |_=>match l with
   |[]=>none
   |x::r=>if x=[33] then match prs k 2 r with
     |none=>none
     |some (t,r')=>some (.un t,r')
    else if x=[40] then match prs k 0 r with
     |some (t,y::r')=>if y=[41] then some (t,r') else none
     |_=>none
    else if nameOk (mkS x)=true then match r with
     |y::r'=>if y=[61] then match r' with
       |v::r''=>if nameOk (mkS v)=true then some (.lf 2 x v,r'') else none
       |[]=>none
      else some (.lf 1 x [],r)
     |[]=>some (.lf 1 x [],[])
    else none
theorem bs_nil:bs #[]=mkS []:=rfl
theorem s_over2 (k n:Int) (x y:List (List C)) (h:x.length+y.length≤1048576):
  s_l1Over [.i k,.i n,.l [[.l x],[.l y]]]=some [.l [[.l x],[.l y]],.l (x++y++[[.i k,.s (mkS []),.s (mkS []),.i n]])]:=by
 have b1:x.length≤4294967296:=by omega
 have b2:x.length+y.length≤4294967296:=by omega
 have b3:x.length+y.length+1≤4294967296:=by omega
 have b4:x.length+(y.length+1)≤4294967296:=by omega
 have w0:w64 1=1:=w64_of (by omega) (by omega)
 have w1:w64 2=2:=w64_of (by omega) (by omega)
 have h0:ap5 s_l1Over.d1 [.i k,.i n,.i 0,.l [[.l x],[.l y]],.l []]=some (.again [.i k,.i n,.i 1,.l [[.l x],[.l y]],.l x]):=by
  simp[s_l1Over.d1,b1,w0]
 have h1:ap5 s_l1Over.d1 [.i k,.i n,.i 1,.l [[.l x],[.l y]],.l x]=some (.again [.i k,.i n,.i 2,.l [[.l x],[.l y]],.l (x++y)]):=by
  have e:(1:Int)<2:=by omega
  simp[s_l1Over.d1,b2,w1,e]
 have h2:ap5 s_l1Over.d1 [.i k,.i n,.i 2,.l [[.l x],[.l y]],.l (x++y)]=some (.brk 0 [.i k,.i n,.l [[.l x],[.l y]],.l (x++y)]):=by
  simp[s_l1Over.d1]
 simp only[s_l1Over,s_l1Over.d3,apL,jC,jD,C.L_l,nils]
 rw[lim_again h0,lim_again h1,lim_brk h2,bindBlk_self]
 simp[s_l1Over.d2,b3,b4,bs_nil]
theorem s_over1 (k n:Int) (x:List (List C)) (h:x.length≤1048576):
  s_l1Over [.i k,.i n,.l [[.l x]]]=some [.l [[.l x]],.l (x++[[.i k,.s (mkS []),.s (mkS []),.i n]])]:=by
 have b1:x.length≤4294967296:=by omega
 have b3:x.length+1≤4294967296:=by omega
 have w0:w64 1=1:=w64_of (by omega) (by omega)
 have h0:ap5 s_l1Over.d1 [.i k,.i n,.i 0,.l [[.l x]],.l []]=some (.again [.i k,.i n,.i 1,.l [[.l x]],.l x]):=by
  simp[s_l1Over.d1,b1,w0]
 have h2:ap5 s_l1Over.d1 [.i k,.i n,.i 1,.l [[.l x]],.l x]=some (.brk 0 [.i k,.i n,.l [[.l x]],.l x]):=by
  simp[s_l1Over.d1]
 simp only[s_l1Over,s_l1Over.d3,apL,jC,jD,C.L_l,nils]
 rw[lim_again h0,lim_brk h2,bindBlk_self]
 simp[s_l1Over.d2,b3,bs_nil]
section
variable {T:List Tok} (hl:T.length≤1048576)
include hl
theorem s_take_eq (op:Tok) (a:Nat) (bad:Bool) (ha:a≤T.length):s_l1Parser_take [.s (mkS op),.l (T.map tk),.i a,.b bad]=
  match T.drop a with
  |[]=>some [.b false,.l (T.map tk),.i a,.b bad]
  |x::_=>if x=op then some [.b true,.l (T.map tk),.i (a+1:Nat),.b bad] else some [.b false,.l (T.map tk),.i a,.b bad]:=by
 simp only[s_l1Parser_take,s_l1Parser_take.d1,s_l1Parser_is,s_l1Parser_is.d1,apL,jC,jD,C.isP_p,C.P_p,C.I_i,C.L_l,jW,jY,jR]
 cases hd:T.drop a with
 |nil=>
  have:T.length≤a:=by simpa using hd
  have e:a=T.length:=by omega
  subst e
  simp[call1]
 |cons x r=>
  obtain ⟨hi,hx,_⟩:=drop_cons hd
  have hw:=w1 hi (show T.length<big by simp only[big];omega)
  rw[getD_map' tk hi,hx]
  have hq:((mkS x).toList==(mkS op).toList)=(x==op):=sEq_mk x op
  simp only[tk,jC,C.S_s,hq,hw]
  by_cases he:x=op
  ·subst he;simp[hi,call1]
  ·have hb:(x==op)=false:=by rw[beq_eq_false_iff_ne];exact he
   simp[hi,call1,hb,he]
theorem s_name_eq (hs:∀t,t∈T→t.length≤1048576) (a:Nat) (bad:Bool) (ha:a≤T.length):s_l1Parser_name [.l (T.map tk),.i a,.b bad]=
  match T.drop a with
  |[]=>some [.s (mkS []),.l (T.map tk),.i a,.b true]
  |x::_=>if nameOk (mkS x)=true then some [.s (mkS x),.l (T.map tk),.i (a+1:Nat),.b bad] else some [.s (mkS []),.l (T.map tk),.i a,.b true]:=by
 simp only[s_l1Parser_name,s_l1Parser_name.d1,apL,jC,jD,C.I_i,C.L_l,jW,jY]
 cases hd:T.drop a with
 |nil=>
  have:T.length≤a:=by simpa using hd
  have e:a=T.length:=by omega
  subst e
  simp[bs_nil]
 |cons x r=>
  obtain ⟨hi,hx,_⟩:=drop_cons hd
  have hw:=w1 hi (show T.length<big by simp only[big];omega)
  have hw2:w64 (((a+1:Nat):Int)-1)=a:=by rw[w64_of (by omega) (by omega)];omega
  rw[getD_map' tk hi,hx]
  have hxs:(mkS x).size≤1048576:=by rw[mkS_size];exact hs x (by rw[←hx];exact List.getElem_mem hi)
  have hge:¬T.length≤a:=by omega
  simp only[tk,jC,s_l1NameOk_eq _ hxs,call1,jI,C.B_b,hw,hw2,jY,getD_map' tk hi,hx]
  cases hn:nameOk (mkS x)<;>simp[hi,hge,bs_nil]
end
def Res (T:List Tok) (a:Nat) (p:Option (Tr×List Tok)) (nodes:List (List C)) (a':Nat) (bad:Bool):Prop:=
 a≤a'∧a'≤T.length∧nodes.length≤2*(a'-a)+1∧match p with
  |some (t,r)=>bad=false∧nodes=t.flat∧T.drop a'=r∧a<a'
  |none=>bad=true
def SP (T:List Tok) (G:List C→Option (List C)) (f:List Tok→Option (Tr×List Tok)) (a:Nat):Prop:=
 ∃nodes a' bad,G [.l (T.map tk),.i a,.b false]=some [.l nodes,.l (T.map tk),.i (a':Nat),.b bad]∧Res T a (f (T.drop a)) nodes a' bad
end Go.Ev
namespace Go.Ev
section
variable {T:List Tok} (hl:T.length≤1048576/4) (hs:∀t,t∈T→t.length≤1048576)
include hl
theorem s_loop (G:List C→Option (List C)) (f:List Tok→Option (Tr×List Tok)) (op:Tok) (kd:Nat) (body:C→C→C→C→R) (lo:Nat)
  (hb:∀a b c d,body a b c d=(bif (!d.B) then (call4 (s_l1Parser_take [.s (mkS op),b,c,d]) fun e f g h=>(bif e.B then (call4 (G [f,g,h]) fun i j k l=>(call2 (s_l1Over [.i (kd:Nat),.i 2,.l (rows [[a],[i]])]) fun m n=>(some (.again [.l n.L,j,k,l])))) else (some (.brk 0 [a,f,g,h])))) else (some (.brk 0 [a,b,c,d]))))
  (hG:∀a,lo≤a→a≤T.length→SP T G f a):
  ∀(m a:Nat) (t:Tr),T.length-a≤m→lo≤a+1→a≤T.length→t.flat.length≤2*a+1→
   ∃nodes a' bad,lim (ap4 body) [.l t.flat,.l (T.map tk),.i a,.b false]=some (.brk 0 [.l nodes,.l (T.map tk),.i (a':Nat),.b bad])∧
    a≤a'∧a'≤T.length∧nodes.length≤2*(a'-a)+t.flat.length∧match opL f op kd m t (T.drop a) with
     |some (u,r)=>bad=false∧nodes=u.flat∧T.drop a'=r
     |none=>bad=true
 |0,a,t,hm,hlo,ha,ht=>by
  have hd:T.drop a=[]:=List.drop_eq_nil_of_le (by omega)
  refine ⟨t.flat,a,false,lim_brk ?_,Nat.le_refl _,ha,by omega,?_⟩
  ·simp only[apL,jC,jD,hb,C.B_b,ja,jR]
   rw[s_take_eq (by omega) op a false ha,hd]
   simp[call4]
  ·simp[opL]
 |m+1,a,t,hm,hlo,ha,ht=>by
  have hstep:ap4 body [.l t.flat,.l (T.map tk),.i a,.b false]=(call4 (s_l1Parser_take [.s (mkS op),.l (T.map tk),.i a,.b false]) fun e f g h=>(bif e.B then (call4 (G [f,g,h]) fun i j k l=>(call2 (s_l1Over [.i (kd:Nat),.i 2,.l (rows [[.l t.flat],[i]])]) fun m n=>(some (.again [.l n.L,j,k,l])))) else (some (.brk 0 [.l t.flat,f,g,h])))):=by
   simp only[apL,jC,jD,hb,C.B_b,ja,jR]
  rw[s_take_eq (by omega) op a false ha] at hstep
  cases hd:T.drop a with
  |nil=>
   rw[hd] at hstep
   refine ⟨t.flat,a,false,lim_brk ?_,Nat.le_refl _,ha,by omega,?_⟩
   ·rw[hstep];simp[call4]
   ·simp[opL,hd]
  |cons x r=>
   rw[hd] at hstep
   obtain ⟨hi,hx,hr⟩:=drop_cons hd
   by_cases he:x=op
   ·simp only[if_pos he,call4,jI,jC,jD,C.B_b,jR] at hstep
    obtain ⟨nodes,a',bad,hg,h1,h2,h3,h4⟩:=hG (a+1) (by omega) (by omega)
    rw[hr] at h4
    rw[hg] at hstep
    have hsum:t.flat.length+nodes.length≤1048576:=by omega
    simp only[jI,jC,jD,rows,s_over2 (kd:Nat) 2 t.flat nodes hsum,call2,C.L_l] at hstep
    have hnd:t.flat++nodes++[[C.i (kd:Nat),.s (mkS []),.s (mkS []),.i 2]]=t.flat++nodes++[node kd [] [] 2]:=rfl
    rw[hnd] at hstep
    cases hf:f r with
    |none=>
     rw[hf] at h4
     simp only at h4
     subst h4
     have hend:ap4 body [.l (t.flat++nodes++[node kd [] [] 2]),.l (T.map tk),.i (a':Nat),.b true]=some (.brk 0 [.l (t.flat++nodes++[node kd [] [] 2]),.l (T.map tk),.i (a':Nat),.b true]):=by
      simp[hb]
     refine ⟨_,a',true,by rw[lim_again hstep];exact lim_brk hend,by omega,h2,by simp;omega,?_⟩
     simp[opL,hd,he,hf]
    |some p=>
     obtain ⟨u,r'⟩:=p
     rw[hf] at h4
     obtain ⟨rfl,rfl,h5,h6⟩:=h4
     have e:t.flat++u.flat++[node kd [] [] 2]=(Tr.bn kd t u).flat:=rfl
     rw[e] at hstep
     have hlen:(Tr.bn kd t u).flat.length=t.flat.length+u.flat.length+1:=by simp[Tr.flat];omega
     obtain ⟨nodes2,a2,bad2,q1,q2,q3,q4,q5⟩:=s_loop G f op kd body lo hb hG m a' (.bn kd t u) (by omega) (by omega) h2 (by omega)
     refine ⟨nodes2,a2,bad2,by rw[lim_again hstep];exact q1,by omega,q3,by omega,?_⟩
     simp only[opL,hd,if_pos he,hf]
     rw[h5] at q5
     exact q5
   ·simp only[if_neg he,call4,jI,jC,jD,C.B_b,jS] at hstep
    refine ⟨t.flat,a,false,lim_brk hstep,Nat.le_refl _,ha,by omega,?_⟩
    simp[opL,hd,he]
end
end Go.Ev
namespace Go.Ev
section
variable {T:List Tok} (hl:T.length≤1048576/4) (hs:∀t,t∈T→t.length≤1048576)
include hl hs
theorem s_ops (G:List C→Option (List C)) (f:List Tok→Option (Tr×List Tok)) (op:Tok) (kd:Nat) (body:C→C→C→C→R) (d2:C→C→C→C→R) (a:Nat) (ha:a≤T.length)
  (hb:∀a b c d,body a b c d=(bif (!d.B) then (call4 (s_l1Parser_take [.s (mkS op),b,c,d]) fun e f g h=>(bif e.B then (call4 (G [f,g,h]) fun i j k l=>(call2 (s_l1Over [.i (kd:Nat),.i 2,.l (rows [[a],[i]])]) fun m n=>(some (.again [.l n.L,j,k,l])))) else (some (.brk 0 [a,f,g,h])))) else (some (.brk 0 [a,b,c,d]))))
  (h2:∀a b c d,d2 a b c d=some (.ret [a,b,c,d])) (hG:∀b,a≤b→b≤T.length→SP T G f b):
  ∃nodes a' bad,finR (call4 (G [.l (T.map tk),.i a,.b false]) fun d e f g=>(bindBlk 0 (lim (ap4 body) [d,e,f,g]) (ap4 d2)))=some [.l nodes,.l (T.map tk),.i (a':Nat),.b bad]∧
   Res T a (match f (T.drop a) with
   |none=>none
   |some (t,r)=>opL f op kd r.length t r) nodes a' bad:=by
 obtain ⟨nodes,a',bad,hg,q1,q2,q3,q4⟩:=hG a (Nat.le_refl _) ha
 rw[hg]
 simp only[call4,jI,jC,jD]
 cases hf:f (T.drop a) with
 |none=>
  rw[hf] at q4
  simp only at q4
  subst q4
  refine ⟨nodes,a',true,?_,q1,q2,q3,rfl⟩
  rw[lim_brk (ys:=[.l nodes,.l (T.map tk),.i (a':Nat),.b true]) (i:=0) (by simp[hb])]
  simp[h2]
 |some p=>
  obtain ⟨t,r⟩:=p
  rw[hf] at q4
  obtain ⟨rfl,rfl,q5,q6⟩:=q4
  have hrl:r.length=T.length-a':=by rw[←q5];simp
  obtain ⟨n2,a2,b2,p1,p2,p3,p4,p5⟩:=s_loop hl G f op kd body a hb (fun b h1 h2=>hG b h1 h2) r.length a' t (by omega) (by omega) q2 (by omega)
  rw[p1]
  rw[q5] at p5
  have hres:Res T a (opL f op kd r.length t r) n2 a2 b2:=by
   refine ⟨by omega,p3,by omega,?_⟩
   cases ho:opL f op kd r.length t r with
   |none=>rw[ho] at p5;exact p5
   |some z=>
    obtain ⟨u,z⟩:=z
    rw[ho] at p5
    exact ⟨p5.1,p5.2.1,p5.2.2,by omega⟩
  exact ⟨n2,a2,b2,by simp[h2],hres⟩
theorem s_prs:∀(j c k a:Nat),c≤2→a≤T.length→3*(T.length-a)+(3-c)≤j→j≤k→SP T (s_l1Parser_or.g k c) (prs j c) a
 |0,c,k,a,hc,ha,hj,hk=>by omega
 |j+1,c,k,a,hc,ha,hj,hk=>by
  obtain ⟨k,rfl⟩:∃k',k=k'+1:=⟨k-1,by omega⟩
  have ih:=s_prs j
  rcases (show c=0∨c=1∨c=2 by omega) with rfl|rfl|rfl
  ·obtain ⟨nodes,a',bad,h1,h2⟩:=s_ops hl hs (s_l1Parser_or.g k 1) (prs j 1) [124] 5 (s_l1Parser_or.d1 (s_l1Parser_or.g k 0) (s_l1Parser_or.g k 1) (s_l1Parser_or.g k 2)) (s_l1Parser_or.d2 (s_l1Parser_or.g k 0) (s_l1Parser_or.g k 1) (s_l1Parser_or.g k 2)) a ha
    (fun _ _ _ _=>rfl) (fun _ _ _ _=>rfl) (fun b h1 h2=>ih 1 k b (by omega) h2 (by omega) (by omega))
   exact ⟨nodes,a',bad,h1,h2⟩
  ·obtain ⟨nodes,a',bad,h1,h2⟩:=s_ops hl hs (s_l1Parser_or.g k 2) (prs j 2) [38] 4 (s_l1Parser_and.d1 (s_l1Parser_or.g k 0) (s_l1Parser_or.g k 1) (s_l1Parser_or.g k 2)) (s_l1Parser_and.d2 (s_l1Parser_or.g k 0) (s_l1Parser_or.g k 1) (s_l1Parser_or.g k 2)) a ha
    (fun _ _ _ _=>rfl) (fun _ _ _ _=>rfl) (fun b h1 h2=>ih 2 k b (by omega) h2 (by omega) (by omega))
   exact ⟨nodes,a',bad,h1,h2⟩
  ·have hT:T.length≤1048576:=by omega
   have hstep:s_l1Parser_or.g (k+1) 2 [.l (T.map tk),.i a,.b false]=finR (s_l1Parser_not.d1 (s_l1Parser_or.g k 0) (s_l1Parser_or.g k 1) (s_l1Parser_or.g k 2) (.l (T.map tk)) (.i a) (.b false)):=rfl
   unfold SP
   rw[hstep]
   have e33:bs #[33]=mkS [33]:=rfl
   have e40:bs #[40]=mkS [40]:=rfl
   have e41:bs #[41]=mkS [41]:=rfl
   have e61:bs #[61]=mkS [61]:=rfl
   simp only[s_l1Parser_not.d1,C.B_b,jS,e33,e40,e41,e61,s_take_eq hT [33] a false ha]
   cases hd:T.drop a with
   |nil=>
    simp only[call4,jI,jC,jD,C.B_b,jS,s_take_eq hT [40] a false ha,s_name_eq hT hs a false ha,hd]
    simp only[jZ,jS,rows,bs_nil,jV]
    exact ⟨_,a,true,rfl,Nat.le_refl _,ha,by simp,by simp[prs]⟩
   |cons x r=>
    obtain ⟨hi,hx,hr⟩:=drop_cons hd
    have hsx:=hs x (by rw[←hx];exact List.getElem_mem hi)
    by_cases x33:x=[33]
    ·obtain ⟨nodes,a',bad,hg,q1,q2,q3,q4⟩:=ih 2 k (a+1) (by omega) (by omega) (by omega) (by omega)
     rw[hr] at q4
     simp only[if_pos x33,call4,jI,jC,jD,C.B_b,jR,hg,rows,call2]
     rw[show (3:Int)=((3:Nat):Int) from rfl,s_over1 _ _ nodes (by omega)]
     simp only[jI,jC,jD,C.L_l,jV]
     have hnd:nodes++[[C.i ((3:Nat):Int),.s (mkS []),.s (mkS []),.i 1]]=nodes++[node 3 [] [] 1]:=rfl
     rw[hnd]
     refine ⟨_,a',bad,rfl,by omega,q2,by simp;omega,?_⟩
     simp only[prs,x33,if_true]
     cases hf:prs j 2 r with
     |none=>rw[hf] at q4;exact q4
     |some p=>
      rw[hf] at q4
      obtain ⟨rfl,rfl,q5,q6⟩:=q4
      exact ⟨rfl,rfl,q5,by omega⟩
    simp only[if_neg x33,call4,jI,jC,jD,C.B_b,jS,s_take_eq hT [40] a false ha,hd]
    by_cases x40:x=[40]
    ·obtain ⟨nodes,a',bad,hg,q1,q2,q3,q4⟩:=ih 0 k (a+1) (by omega) (by omega) (by omega) (by omega)
     rw[hr] at q4
     simp only[if_pos x40,jI,jC,jD,C.B_b,jR,hg,s_take_eq hT [41] a' bad q2]
     have hp:prs (j+1) 2 (x::r)=match prs j 0 r with
       |some (t,y::r')=>if y=[41] then some (t,r') else none
       |_=>none:=by
      simp only[prs,if_neg x33,if_pos x40]<;>rcases prs j 0 r with _|⟨t,_|⟨y,r'⟩⟩<;>rfl
     rw[hp]
     cases hd2:T.drop a' with
     |nil=>
      simp only[jI,jC,jD,C.B_b,ja,jR,jV]
      refine ⟨_,a',true,rfl,by omega,q2,by omega,?_⟩
      cases hf:prs j 0 r with
      |none=>rfl
      |some p=>
       rw[hf] at q4
       obtain ⟨_,_,q5,_⟩:=q4
       obtain ⟨t,r'⟩:=p
       simp only at q5
       rw[hd2] at q5
       subst q5
       rfl
     |cons y r'=>
      obtain ⟨hi2,hx2,hr2⟩:=drop_cons hd2
      by_cases y41:y=[41]
      ·simp only[if_pos y41,jI,jC,jD,C.B_b,jZ,jS,jV]
       refine ⟨_,a'+1,bad,rfl,by omega,by omega,by omega,?_⟩
       cases hf:prs j 0 r with
       |none=>rw[hf] at q4;exact q4
       |some p=>
        rw[hf] at q4
        obtain ⟨q5,q6,q7,_⟩:=q4
        obtain ⟨t,z⟩:=p
        simp only at q7 q6
        rw[hd2] at q7
        subst q7
        simp only[if_pos y41]
        exact ⟨q5,q6,hr2,by omega⟩
      ·simp only[if_neg y41,jI,jC,jD,C.B_b,ja,jR,jV]
       refine ⟨_,a',true,rfl,by omega,q2,by omega,?_⟩
       cases hf:prs j 0 r with
       |none=>rfl
       |some p=>
        rw[hf] at q4
        obtain ⟨_,_,q7,_⟩:=q4
        obtain ⟨t,z⟩:=p
        simp only at q7
        rw[hd2] at q7
        subst q7
        simp only[if_neg y41]
    simp only[if_neg x40,jI,jC,jD,C.B_b,jS,s_name_eq hT hs a false ha,hd]
    cases hn:nameOk (mkS x) with
    |false=>
     simp only[Bool.false_eq_true,if_false,jI,jC,jD,C.B_b,jZ,jS,rows,jV]
     refine ⟨_,a,true,rfl,Nat.le_refl _,ha,by simp,?_⟩
     simp[prs,x33,x40,hn]
    |true=>
     simp only[if_true,jI,jC,jD,C.B_b,ja,jR,s_take_eq hT [61] (a+1) false (by omega),hr]
     cases r with
     |nil=>
      simp only[jI,jC,jD,C.B_b,jS,rows,bs_nil,jV]
      refine ⟨_,a+1,false,rfl,by omega,by omega,by simp,?_⟩
      simp only[prs,if_neg x33,if_neg x40,hn,if_true]
      exact ⟨by simp,rfl,hr,by omega⟩
     |cons y r'=>
      obtain ⟨hi2,hx2,hr2⟩:=drop_cons hr
      by_cases y61:y=[61]
      ·simp only[if_pos y61,jI,jC,jD,C.B_b,jR,s_name_eq hT hs (a+1+1) false (by omega),hr2]
       cases r' with
       |nil=>
        simp only[jI,jC,jD,rows,jV]
        refine ⟨_,a+1+1,true,rfl,by omega,by omega,by simp,?_⟩
        simp[prs,x33,x40,hn,y61]
       |cons v r''=>
        obtain ⟨hi3,hx3,hr3⟩:=drop_cons hr2
        cases hv:nameOk (mkS v) with
        |false=>
         simp only[hv,Bool.false_eq_true,if_false,jI,jC,jD,rows,jV]
         refine ⟨_,a+1+1,true,rfl,by omega,by omega,by simp,?_⟩
         simp[prs,x33,x40,hn,y61,hv]
        |true=>
         simp only[hv,if_true,jI,jC,jD,rows,jV]
         refine ⟨_,a+1+1+1,false,rfl,by omega,by omega,by simp,?_⟩
         simp only[prs,if_neg x33,if_neg x40,hn,if_true,y61,hv]
         exact ⟨by simp,rfl,hr3,by omega⟩
      ·simp only[if_neg y61,jI,jC,jD,C.B_b,jS,rows,bs_nil,jV]
       refine ⟨_,a+1,false,rfl,by omega,by omega,by simp,?_⟩
       simp only[prs,if_neg x33,if_neg x40,hn,if_true,if_neg y61]
       exact ⟨by simp,rfl,hr,by omega⟩
end
end Go.Ev
namespace Go.Ev
def sp (c:UInt8):Bool:=c==32
theorem lexT_gap:∀l:List UInt8,lexT (l.dropWhile sp)=lexT l
 |[]=>rfl
 |c::r=>by
  rw[List.dropWhile_cons]
  by_cases h:c=32
  ·subst h
   have:sp 32=true:=rfl
   rw[if_pos this,lexT_gap r]
   rw[lexT.eq_2,if_pos rfl]
  ·have:sp c=false:=by simp[sp,h]
   rw[this];simp
theorem gap_head {l r:List UInt8} {c:UInt8} (h:l.dropWhile sp=c::r):c≠32:=by
 have:=List.head?_dropWhile_not sp l
 rw[h] at this
 simp[sp] at this
 exact this
section
variable {s:Str} (hl:s.size≤1048576)
include hl
theorem i_gap_eq:∀(k i:Nat) (ok:Bool),s.data.toList.length-i≤k→i≤s.data.toList.length→
  lim (ap3 i_pParser_gap.d1) [.s s,.i i,.b ok]=some (.brk 0 [.s s,.i (i+((s.data.toList.drop i).takeWhile sp).length:Nat),.b ok])
 |k,i,ok,hk,hi=>by
  cases hd:s.data.toList.drop i with
  |nil=>
   have:s.data.toList.length≤i:=by simpa using hd
   have e:i=s.size:=by rw[sz_list];omega
   refine lim_brk ?_
   simp[i_pParser_gap.d1,e]
  |cons c r=>
   obtain ⟨hi',hc,hr⟩:=drop_cons hd
   have his:i<s.size:=by rw[sz_list];exact hi'
   obtain ⟨k,rfl⟩:∃k',k=k'+1:=⟨k-1,by omega⟩
   have hw:=w1 his (show s.size<big by simp only[big];omega)
   have e32:=bn c 32 32 rfl
   rw[List.takeWhile_cons]
   cases hs:sp c with
   |true=>
    have h:ap3 i_pParser_gap.d1 [.s s,.i i,.b ok]=some (.again [.s s,.i (i+1:Nat),.b ok]):=by
     simp only[sp] at hs
     simp only[apL,jC,jD,i_pParser_gap.d1,C.I_i,C.S_s,jY,arr_getD hi',hc,e32,hs,hw]
     simp[his]
    rw[lim_again h,i_gap_eq k (i+1) ok (by omega) (by omega),hr]
    simp only[if_true,List.length_cons]
    rw[show i+1+(List.takeWhile sp r).length=i+((List.takeWhile sp r).length+1) by omega]
   |false=>
    refine lim_brk ?_
    simp only[sp] at hs
    simp only[apL,jC,jD,i_pParser_gap.d1,C.I_i,C.S_s,jY,arr_getD hi',hc,e32,hs]
    simp[his]
def gp (s:Str) (i:Nat):Nat:=i+((s.data.toList.drop i).takeWhile sp).length
omit hl in
theorem gp_drop (i:Nat):s.data.toList.drop (gp s i)=(s.data.toList.drop i).dropWhile sp:=by
 rw[gp,←List.drop_drop,drop_run]
omit hl in
theorem gp_le {i:Nat} (hi:i≤s.data.toList.length):gp s i≤s.data.toList.length:=by
 have:=run_len sp (s.data.toList.drop i)
 rw[List.length_drop] at this
 unfold gp;omega
theorem i_gap (i:Nat) (ok:Bool) (hi:i≤s.data.toList.length):i_pParser_gap [.s s,.i i,.b ok]=some [.s s,.i (gp s i:Nat),.b ok]:=by
 simp only[i_pParser_gap,i_pParser_gap.d3,apL,jC,jD,i_gap_eq hl _ i ok (Nat.le_refl _) hi]
 simp[i_pParser_gap.d2,gp]
theorem i_take (c:UInt8) (hc:lett c=false) (hc2:c≠32) (i:Nat) (ok:Bool) (hi:i≤s.data.toList.length):∃i',i'≤s.data.toList.length∧∃b,i_pParser_take [.i (c.toNat:Nat),.s s,.i i,.b ok]=some [.b b,.s s,.i (i':Nat),.b ok]∧
  match lexT (s.data.toList.drop i) with
  |[]=>b=false∧lexT (s.data.toList.drop i')=[]
  |x::r=>if x=[c] then b=true∧lexT (s.data.toList.drop i')=r else b=false∧lexT (s.data.toList.drop i')=x::r:=by
 have hg:=gp_drop (s:=s) i
 have hle:=gp_le hi
 have hlex:=lexT_gap (s.data.toList.drop i)
 simp only[i_pParser_take,i_pParser_take.d1,apL,jC,jD,i_gap hl i ok hi,call3,jI,C.I_i,C.S_s,jY]
 rw[←hlex]
 cases hd:(s.data.toList.drop i).dropWhile sp with
 |nil=>
  rw[hd] at hg
  have:s.data.toList.length≤gp s i:=by simpa using hg
  have e:gp s i=s.size:=by rw[sz_list];omega
  refine ⟨gp s i,hle,false,by simp[e],?_⟩
  rw[hg]
  simp[lexT]
 |cons x r=>
  rw[hd] at hg
  obtain ⟨hi',hx,hr⟩:=drop_cons hg
  have his:gp s i<s.size:=by rw[sz_list];exact hi'
  have hw:=w1 his (show s.size<big by simp only[big];omega)
  have hne:=gap_head hd
  simp only[arr_getD hi',hx,bn x c _ rfl,hw]
  by_cases he:x=c
  ·subst he
   refine ⟨gp s i+1,by omega,true,by simp[his],?_⟩
   rw[lexT.eq_2,if_neg hne,if_neg (by rw[hc];simp),hr]
   simp
  ·have hb:(x==c)=false:=by rw[beq_eq_false_iff_ne];exact he
   refine ⟨gp s i,hle,false,by simp[his,hb],?_⟩
   rw[hg]
   have hneq:∀y r',lexT (x::r)=y::r'→y≠[c]:=by
    intro y r' h1 h2
    subst h2
    rw[lexT.eq_2,if_neg hne] at h1
    split at h1
    ·simp at h1;exact he h1.1.1
    ·simp at h1;exact he h1.1
   have hnn:lexT (x::r)≠[]:=by
    rw[lexT.eq_2,if_neg hne];split<;>simp
   cases hq:lexT (x::r) with
   |nil=>exact absurd hq hnn
   |cons y r'=>
    simp only
    rw[if_neg (hneq y r' hq)]
    exact ⟨trivial,trivial⟩
theorem i_run (o:Nat) (ok:Bool):∀(k i:Nat),s.data.toList.length-i≤k→i≤s.data.toList.length→
  lim (ap4 i_pParser_name.d1) [.i o,.s s,.i i,.b ok]=some (.brk 0 [.i o,.s s,.i (i+((s.data.toList.drop i).takeWhile lett).length:Nat),.b ok])
 |k,i,hk,hi=>by
  cases hd:s.data.toList.drop i with
  |nil=>
   have:s.data.toList.length≤i:=by simpa using hd
   have e:i=s.size:=by rw[sz_list];omega
   refine lim_brk ?_
   simp[i_pParser_name.d1,e]
  |cons c r=>
   obtain ⟨hi',hc,hr⟩:=drop_cons hd
   have his:i<s.size:=by rw[sz_list];exact hi'
   obtain ⟨k,rfl⟩:∃k',k=k'+1:=⟨k-1,by omega⟩
   have hw:=w1 his (show s.size<big by simp only[big];omega)
   rw[List.takeWhile_cons]
   cases hs:lett c with
   |true=>
    have h:ap4 i_pParser_name.d1 [.i o,.s s,.i i,.b ok]=some (.again [.i o,.s s,.i (i+1:Nat),.b ok]):=by
     simp only[lett] at hs
     simp only[apL,jC,jD,i_pParser_name.d1,C.I_i,C.S_s,jY,arr_getD hi',hc,i_pByte_eq,hs,hw,call1]
     simp[his]
    rw[lim_again h,i_run o ok k (i+1) (by omega) (by omega),hr]
    simp only[if_true,List.length_cons]
    rw[show i+1+(List.takeWhile lett r).length=i+((List.takeWhile lett r).length+1) by omega]
   |false=>
    refine lim_brk ?_
    simp only[lett] at hs
    simp only[apL,jC,jD,i_pParser_name.d1,C.I_i,C.S_s,jY,arr_getD hi',hc,i_pByte_eq,hs,call1]
    simp[his]
theorem i_name (i:Nat) (ok:Bool) (hi:i≤s.data.toList.length):∃i',i'≤s.data.toList.length∧∃z b,i_pParser_name [.s s,.i i,.b ok]=some [.s z,.s s,.i (i':Nat),.b b]∧
  match lexT (s.data.toList.drop i) with
  |[]=>b=false
  |x::r=>if nameOk (mkS x)=true then b=ok∧z=mkS x∧lexT (s.data.toList.drop i')=r else b=false:=by
 have hg:=gp_drop (s:=s) i
 have hle:=gp_le hi
 have hlex:=lexT_gap (s.data.toList.drop i)
 have hrun:=i_run hl (gp s i) ok _ (gp s i) (Nat.le_refl _) hle
 rw[hg] at hrun
 have hlen:=run_len lett ((s.data.toList.drop i).dropWhile sp)
 rw[←hg,List.length_drop] at hlen
 rw[hg] at hlen
 have hext:s.extract (gp s i) (gp s i+(((s.data.toList.drop i).dropWhile sp).takeWhile lett).length)=mkS (((s.data.toList.drop i).dropWhile sp).takeWhile lett):=by
  rw[ext_mkS,part_drop,hg,take_run]
 have hsz:(mkS (((s.data.toList.drop i).dropWhile sp).takeWhile lett)).size≤1048576:=by
  rw[mkS_size];rw[sz_list] at hl;omega
 have hres:i_pParser_name [.s s,.i i,.b ok]=some [.s (mkS (((s.data.toList.drop i).dropWhile sp).takeWhile lett)),.s s,.i (gp s i+(((s.data.toList.drop i).dropWhile sp).takeWhile lett).length:Nat),.b (nameOk (mkS (((s.data.toList.drop i).dropWhile sp).takeWhile lett))&&ok)]:=by
  have e1:gp s i+(((s.data.toList.drop i).dropWhile sp).takeWhile lett).length≤s.size:=by rw[sz_list];omega
  have e2:(gp s i:Int)≤((gp s i+(((s.data.toList.drop i).dropWhile sp).takeWhile lett).length:Nat):Int):=by omega
  have e3:((gp s i+(((s.data.toList.drop i).dropWhile sp).takeWhile lett).length:Nat):Int)≤(s.size:Int):=by omega
  simp only[i_pParser_name,i_pParser_name.d3,apL,jC,jD,i_gap hl i ok hi,call3,jI,hrun,bindBlk_self]
  simp only[i_pParser_name.d2,C.I_i,C.S_s,jY,hext,jX,e2,e3,decide_true,jR,i_pName_eq _ hsz,call1,jI,jC,C.B_b]
  cases nameOk (mkS (((s.data.toList.drop i).dropWhile sp).takeWhile lett))<;>rfl
 refine ⟨_,by omega,_,_,hres,?_⟩
 rw[←hlex,←List.drop_drop,hg,drop_run]
 have hnil:nameOk (mkS [])=false:=rfl
 cases hd:(s.data.toList.drop i).dropWhile sp with
 |nil=>simp[lexT,hnil]
 |cons x r=>
  have hne:=gap_head hd
  rw[lexT.eq_2,if_neg hne]
  cases hs:lett x with
  |true=>
   rw[if_pos rfl,List.takeWhile_cons,hs,List.dropWhile_cons,hs]
   simp only[if_true]
   cases nameOk (mkS (x::List.takeWhile lett r))<;>simp
  |false=>
   rw[if_neg (by simp),List.takeWhile_cons,hs]
   have h1:nameOk (mkS [x])=false:=by simp[nameOk,mkS_data,hs]
   simp[h1,hnil]
end
end Go.Ev
namespace Go.Ev
def Tr.enc:Tr→C
 |.lf k n v=>.p [.i (k:Nat),.s (mkS n),.s (mkS v),.l []]
 |.un t=>.p [.i 3,.s (mkS []),.s (mkS []),.l [[t.enc]]]
 |.bn k a b=>.p [.i (k:Nat),.s (mkS []),.s (mkS []),.l [[a.enc],[b.enc]]]
def IRes (s:Str) (n:Nat) (p:Option (Tr×List Tok)) (c:C) (i':Nat) (ok:Bool):Prop:=
 i'≤s.data.toList.length∧match p with
  |some (t,r)=>ok=true∧c=t.enc∧lexT (s.data.toList.drop i')=r∧r.length<n
  |none=>ok=false
def IP (s:Str) (G:List C→Option (List C)) (f:List Tok→Option (Tr×List Tok)) (i:Nat):Prop:=
 ∃c i' ok,G [.s s,.i i,.b true]=some [c,.s s,.i (i':Nat),.b ok]∧IRes s (lexT (s.data.toList.drop i)).length (f (lexT (s.data.toList.drop i))) c i' ok
section
variable {s:Str} (hl:s.size≤1048576)
include hl
theorem i_loop (G:List C→Option (List C)) (f:List Tok→Option (Tr×List Tok)) (op:UInt8) (kd:Nat) (body:C→C→C→C→R) (lo:Nat) (h1:lett op=false) (h2:op≠32)
  (hb:∀a b c d,body a b c d=(bif d.B then (call4 (i_pParser_take [.i (op.toNat:Nat),b,c,d]) fun e f g h=>(bif e.B then (call4 (G [f,g,h]) fun i j k l=>(some (.again [.p [.i (kd:Nat),.s (bs #[]),.s (bs #[]),.l (rows [[a],[i]])],j,k,l]))) else (some (.brk 0 [a,f,g,h])))) else (some (.brk 0 [a,b,c,d]))))
  (hG:∀i,i≤s.data.toList.length→(lexT (s.data.toList.drop i)).length≤lo→IP s G f i):
  ∀(m i:Nat) (t:Tr),(lexT (s.data.toList.drop i)).length≤m→(lexT (s.data.toList.drop i)).length≤lo+1→i≤s.data.toList.length→
   ∃c i' ok,lim (ap4 body) [t.enc,.s s,.i i,.b true]=some (.brk 0 [c,.s s,.i (i':Nat),.b ok])∧i'≤s.data.toList.length∧
    match opL f [op] kd m t (lexT (s.data.toList.drop i)) with
     |some (u,r)=>ok=true∧c=u.enc∧lexT (s.data.toList.drop i')=r∧r.length≤(lexT (s.data.toList.drop i)).length
     |none=>ok=false
 |m,i,t,hm,hlo,hi=>by
  obtain ⟨i',hi',b,ht,hm2⟩:=i_take hl op h1 h2 i true hi
  have hstep:ap4 body [t.enc,.s s,.i i,.b true]=(bif b then (call4 (G [.s s,.i (i':Nat),.b true]) fun i j k l=>(some (.again [.p [.i (kd:Nat),.s (mkS []),.s (mkS []),.l [[t.enc],[i]]],j,k,l]))) else (some (.brk 0 [t.enc,.s s,.i (i':Nat),.b true]))):=by
   simp only[apL,jC,jD,hb,C.B_b,jR,ht,call4,jI,bs_nil,rows]
  cases hd:lexT (s.data.toList.drop i) with
  |nil=>
   rw[hd] at hm2
   simp only at hm2
   obtain ⟨rfl,hm3⟩:=hm2
   refine ⟨t.enc,i',true,lim_brk hstep,hi',?_⟩
   cases m<;>simp[opL,hm3]
  |cons x r=>
   rw[hd] at hm2 hm hlo
   simp only[List.length_cons] at hm hlo
   obtain ⟨m,rfl⟩:∃m',m=m'+1:=⟨m-1,by omega⟩
   by_cases he:x=[op]
   ·simp only[if_pos he] at hm2
    obtain ⟨rfl,hm3⟩:=hm2
    obtain ⟨c,i2,ok,hg,q1,q2⟩:=hG i' hi' (by rw[hm3];omega)
    rw[hm3] at q2
    simp only[jR,hg,call4,jI,jC,jD] at hstep
    rw[lim_again hstep]
    simp only[opL,if_pos he]
    cases hf:f r with
    |none=>
     rw[hf] at q2
     simp only at q2
     subst q2
     exact ⟨.p [.i (kd:Nat),.s (mkS []),.s (mkS []),.l [[t.enc],[c]]],i2,false,lim_brk (by simp only[apL,jC,jD,hb,C.B_b,jS]),q1,rfl⟩
    |some p=>
     obtain ⟨u,r'⟩:=p
     rw[hf] at q2
     obtain ⟨rfl,rfl,q3,q4⟩:=q2
     obtain ⟨c3,i3,ok3,p1,p2,p3⟩:=i_loop G f op kd body lo h1 h2 hb hG m i2 (.bn kd t u) (by rw[q3];omega) (by rw[q3];omega) q1
     refine ⟨c3,i3,ok3,p1,p2,?_⟩
     rw[q3] at p3
     simp only
     cases ho:opL f [op] kd m (.bn kd t u) r' with
     |none=>rw[ho] at p3;exact p3
     |some z=>
      rw[ho] at p3
      exact ⟨p3.1,p3.2.1,p3.2.2.1,by simp only[List.length_cons];have:=p3.2.2.2;omega⟩
   ·simp only[if_neg he] at hm2
    obtain ⟨rfl,hm3⟩:=hm2
    refine ⟨t.enc,i',true,lim_brk hstep,hi',?_⟩
    simp[opL,he,hm3]
theorem i_ops (G:List C→Option (List C)) (f:List Tok→Option (Tr×List Tok)) (op:UInt8) (kd:Nat) (body:C→C→C→C→R) (d2:C→C→C→C→R) (i:Nat) (hi:i≤s.data.toList.length) (h1:lett op=false) (h2:op≠32)
  (hb:∀a b c d,body a b c d=(bif d.B then (call4 (i_pParser_take [.i (op.toNat:Nat),b,c,d]) fun e f g h=>(bif e.B then (call4 (G [f,g,h]) fun i j k l=>(some (.again [.p [.i (kd:Nat),.s (bs #[]),.s (bs #[]),.l (rows [[a],[i]])],j,k,l]))) else (some (.brk 0 [a,f,g,h])))) else (some (.brk 0 [a,b,c,d]))))
  (h3:∀a b c d,d2 a b c d=some (.ret [a,b,c,d])) (hG:∀i2,i2≤s.data.toList.length→(lexT (s.data.toList.drop i2)).length≤(lexT (s.data.toList.drop i)).length→IP s G f i2):
  ∃c i' ok,finR (call4 (G [.s s,.i i,.b true]) fun d e f g=>(bindBlk 0 (lim (ap4 body) [d,e,f,g]) (ap4 d2)))=some [c,.s s,.i (i':Nat),.b ok]∧
   IRes s (lexT (s.data.toList.drop i)).length (match f (lexT (s.data.toList.drop i)) with
   |none=>none
   |some (t,r)=>opL f [op] kd r.length t r) c i' ok:=by
 obtain ⟨c,i',ok,hg,q1,q2⟩:=hG i hi (Nat.le_refl _)
 rw[hg]
 simp only[call4,jI,jC,jD]
 cases hf:f (lexT (s.data.toList.drop i)) with
 |none=>
  rw[hf] at q2
  simp only at q2
  subst q2
  refine ⟨c,i',false,?_,q1,rfl⟩
  rw[lim_brk (ys:=[c,.s s,.i (i':Nat),.b false]) (i:=0) (by simp[hb])]
  simp[h3]
 |some p=>
  obtain ⟨t,r⟩:=p
  rw[hf] at q2
  obtain ⟨rfl,rfl,q3,q4⟩:=q2
  obtain ⟨c2,i2,ok2,p1,p2,p3⟩:=i_loop hl G f op kd body (lexT (s.data.toList.drop i)).length h1 h2 hb hG r.length i' t (by rw[q3];omega) (by rw[q3];omega) q1
  rw[p1]
  rw[q3] at p3
  have hres:IRes s (lexT (s.data.toList.drop i)).length (opL f [op] kd r.length t r) c2 i2 ok2:=by
   refine ⟨p2,?_⟩
   cases ho:opL f [op] kd r.length t r with
   |none=>rw[ho] at p3;exact p3
   |some z=>
    rw[ho] at p3
    exact ⟨p3.1,p3.2.1,p3.2.2.1,by have:=p3.2.2.2;omega⟩
  exact ⟨c2,i2,ok2,by simp[h3],hres⟩
theorem i_prs:∀(j c k i:Nat),c≤2→i≤s.data.toList.length→3*(lexT (s.data.toList.drop i)).length+(3-c)≤j→j≤k→IP s (i_pParser_or.g k c) (prs j c) i
 |0,c,k,i,hc,hi,hj,hk=>by omega
 |j+1,c,k,i,hc,hi,hj,hk=>by
  obtain ⟨k,rfl⟩:∃k',k=k'+1:=⟨k-1,by omega⟩
  have ih:=i_prs j
  rcases (show c=0∨c=1∨c=2 by omega) with rfl|rfl|rfl
  ·obtain ⟨c,i',ok,h1,h2⟩:=i_ops hl (i_pParser_or.g k 1) (prs j 1) 124 5 (i_pParser_or.d1 (i_pParser_or.g k 0) (i_pParser_or.g k 1) (i_pParser_or.g k 2)) (i_pParser_or.d2 (i_pParser_or.g k 0) (i_pParser_or.g k 1) (i_pParser_or.g k 2)) i hi rfl (by decide)
    (fun _ _ _ _=>rfl) (fun _ _ _ _=>rfl) (fun b h1 h2=>ih 1 k b (by omega) h1 (by omega) (by omega))
   exact ⟨c,i',ok,h1,h2⟩
  ·obtain ⟨c,i',ok,h1,h2⟩:=i_ops hl (i_pParser_or.g k 2) (prs j 2) 38 4 (i_pParser_and.d1 (i_pParser_or.g k 0) (i_pParser_or.g k 1) (i_pParser_or.g k 2)) (i_pParser_and.d2 (i_pParser_or.g k 0) (i_pParser_or.g k 1) (i_pParser_or.g k 2)) i hi rfl (by decide)
    (fun _ _ _ _=>rfl) (fun _ _ _ _=>rfl) (fun b h1 h2=>ih 2 k b (by omega) h1 (by omega) (by omega))
   exact ⟨c,i',ok,h1,h2⟩
  ·have hstep:i_pParser_or.g (k+1) 2 [.s s,.i i,.b true]=finR (i_pParser_not.d1 (i_pParser_or.g k 0) (i_pParser_or.g k 1) (i_pParser_or.g k 2) (.s s) (.i i) (.b true)):=rfl
   unfold IP
   rw[hstep]
   obtain ⟨i1,hi1,b1,ht1,hm1⟩:=i_take hl 33 rfl (by decide) i true hi
   have ht1:i_pParser_take [.i 33,.s s,.i i,.b true]=_:=ht1
   simp only[i_pParser_not.d1,C.B_b,jZ,jS,ht1,call4,jI,jC,jD]
   cases hd:lexT (s.data.toList.drop i) with
   |nil=>
    rw[hd] at hm1
    simp only at hm1
    obtain ⟨rfl,hm1⟩:=hm1
    obtain ⟨i2,hi2,b2,ht2,hm2⟩:=i_take hl 40 rfl (by decide) i1 true hi1
    have ht2:i_pParser_take [.i 40,.s s,.i i1,.b true]=_:=ht2
    rw[hm1] at hm2
    simp only at hm2
    obtain ⟨rfl,hm2⟩:=hm2
    obtain ⟨i3,hi3,z,b3,hn3,hm3⟩:=i_name hl i2 true hi2
    rw[hm2] at hm3
    simp only at hm3
    subst hm3
    simp only[jS,ht2,hn3,jI,jC,jD,C.B_b,jV]
    exact ⟨_,_,_,rfl,hi3,by simp[prs]⟩
   |cons x r=>
    rw[hd] at hm1 hj
    simp only[List.length_cons] at hj
    by_cases x33:x=[33]
    ·simp only[if_pos x33] at hm1
     obtain ⟨rfl,hm1⟩:=hm1
     obtain ⟨c,i2,ok,hg,q1,q2⟩:=ih 2 k i1 (by omega) hi1 (by rw[hm1];omega) (by omega)
     rw[hm1] at q2
     simp only[jR,hg,jI,jC,jD,rows,bs_nil,jV]
     refine ⟨_,_,_,rfl,q1,?_⟩
     simp only[prs,x33,if_true]
     cases hf:prs j 2 r with
     |none=>rw[hf] at q2;exact q2
     |some p=>
      rw[hf] at q2
      obtain ⟨rfl,rfl,q3,q4⟩:=q2
      exact ⟨rfl,rfl,q3,by simp only[List.length_cons];omega⟩
    simp only[if_neg x33] at hm1
    obtain ⟨rfl,hm1⟩:=hm1
    obtain ⟨i2,hi2,b2,ht2,hm2⟩:=i_take hl 40 rfl (by decide) i1 true hi1
    have ht2:i_pParser_take [.i 40,.s s,.i i1,.b true]=_:=ht2
    rw[hm1] at hm2
    simp only at hm2
    simp only[jS,ht2,jI,jC,jD,C.B_b]
    by_cases x40:x=[40]
    ·simp only[if_pos x40] at hm2
     obtain ⟨rfl,hm2⟩:=hm2
     obtain ⟨c,i3,ok,hg,q1,q2⟩:=ih 0 k i2 (by omega) hi2 (by rw[hm2];omega) (by omega)
     rw[hm2] at q2
     have hp:prs (j+1) 2 (x::r)=match prs j 0 r with
       |some (t,y::r')=>if y=[41] then some (t,r') else none
       |_=>none:=by
      simp only[prs,if_neg x33,if_pos x40]<;>rcases prs j 0 r with _|⟨t,_|⟨y,r'⟩⟩<;>rfl
     rw[hp]
     simp only[jR,hg,jI,jC,jD,C.B_b]
     cases hf:prs j 0 r with
     |none=>
      rw[hf] at q2
      simp only at q2
      subst q2
      simp only[jS,jV]
      exact ⟨_,_,_,rfl,q1,rfl⟩
     |some p=>
      obtain ⟨t,z⟩:=p
      rw[hf] at q2
      obtain ⟨rfl,rfl,q3,q4⟩:=q2
      obtain ⟨i4,hi4,b4,ht4,hm4⟩:=i_take hl 41 rfl (by decide) i3 true q1
      have ht4:i_pParser_take [.i 41,.s s,.i i3,.b true]=_:=ht4
      rw[q3] at hm4
      simp only[jR,ht4,jI,jC,jD,C.B_b,jV]
      refine ⟨_,_,_,rfl,hi4,?_⟩
      cases z with
      |nil=>exact hm4.1
      |cons y r'=>
       simp only at hm4⊢
       by_cases y41:y=[41]
       ·simp only[if_pos y41] at hm4⊢
        simp only[List.length_cons] at q4⊢
        exact ⟨hm4.1,trivial,hm4.2,by omega⟩
       ·simp only[if_neg y41] at hm4⊢
        exact hm4.1
    simp only[if_neg x40] at hm2
    obtain ⟨rfl,hm2⟩:=hm2
    obtain ⟨i3,hi3,z,b3,hn3,hm3⟩:=i_name hl i2 true hi2
    rw[hm2] at hm3
    simp only at hm3
    simp only[jS,hn3,jI,jC,jD,C.B_b]
    cases hn:nameOk (mkS x) with
    |false=>
     rw[hn] at hm3
     simp only[Bool.false_eq_true,if_false] at hm3
     subst hm3
     simp only[jS,jV]
     exact ⟨_,_,_,rfl,hi3,by simp[prs,x33,x40,hn]⟩
    |true=>
     rw[hn] at hm3
     simp only[if_true] at hm3
     obtain ⟨rfl,rfl,hm3⟩:=hm3
     obtain ⟨i4,hi4,b4,ht4,hm4⟩:=i_take hl 61 rfl (by decide) i3 true hi3
     have ht4:i_pParser_take [.i 61,.s s,.i i3,.b true]=_:=ht4
     rw[hm3] at hm4
     simp only[jR,ht4,jI,jC,jD,C.B_b]
     cases r with
     |nil=>
      simp only at hm4
      obtain ⟨rfl,hm4⟩:=hm4
      simp only[jS,rows,nils,bs_nil,jV]
      refine ⟨_,_,_,rfl,hi4,?_⟩
      simp only[prs,if_neg x33,if_neg x40,hn,if_true]
      exact ⟨trivial,rfl,hm4,by simp⟩
     |cons y r'=>
      simp only at hm4
      by_cases y61:y=[61]
      ·simp only[if_pos y61] at hm4
       obtain ⟨rfl,hm4⟩:=hm4
       obtain ⟨i5,hi5,z5,b5,hn5,hm5⟩:=i_name hl i4 true hi4
       rw[hm4] at hm5
       simp only[jR,hn5,jI,jC,jD,rows,nils,jV]
       refine ⟨_,_,_,rfl,hi5,?_⟩
       cases r' with
       |nil=>
        simp only at hm5
        subst hm5
        simp[prs,x33,x40,hn,y61]
       |cons v r''=>
        simp only at hm5
        cases hv:nameOk (mkS v) with
        |false=>
         rw[hv] at hm5
         simp only[Bool.false_eq_true,if_false] at hm5
         subst hm5
         simp[prs,x33,x40,hn,y61,hv]
        |true=>
         rw[hv] at hm5
         simp only[if_true] at hm5
         obtain ⟨rfl,rfl,hm5⟩:=hm5
         simp only[prs,if_neg x33,if_neg x40,hn,if_true,y61,hv]
         exact ⟨trivial,rfl,hm5,by simp only[List.length_cons];omega⟩
      ·simp only[if_neg y61] at hm4
       obtain ⟨rfl,hm4⟩:=hm4
       simp only[jS,rows,nils,bs_nil,jV]
       refine ⟨_,_,_,rfl,hi4,?_⟩
       simp only[prs,if_neg x33,if_neg x40,hn,if_true,if_neg y61]
       exact ⟨trivial,rfl,hm4,by simp⟩
end
end Go.Ev
namespace Go.Ev
def Tr.Wf:Tr→Prop
 |.lf k n v=>nameOk (mkS n)=true∧((k=1∧v=[])∨(k=2∧nameOk (mkS v)=true))
 |.un t=>t.Wf
 |.bn k a b=>(k=4∨k=5)∧a.Wf∧b.Wf
def Tr.sz:Tr→Nat
 |.lf _ _ _=>1
 |.un t=>t.sz+1
 |.bn _ a b=>a.sz+b.sz+1
def Tr.depth:Tr→Nat
 |.lf _ _ _=>0
 |.un t=>t.depth+1
 |.bn _ a b=>max a.depth b.depth+1
theorem Tr.sz_pos:∀t:Tr,0<t.sz
 |.lf _ _ _=>by simp[Tr.sz]
 |.un t=>by simp[Tr.sz]
 |.bn _ a b=>by simp[Tr.sz]
theorem Tr.depth_lt:∀t:Tr,t.depth<t.sz
 |.lf _ _ _=>by simp[Tr.sz,Tr.depth]
 |.un t=>by have:=t.depth_lt;simp[Tr.sz,Tr.depth];exact this
 |.bn _ a b=>by have:=a.depth_lt;have:=b.depth_lt;simp only[Tr.sz,Tr.depth];omega
theorem Tr.flat_len:∀t:Tr,t.flat.length=t.sz
 |.lf _ _ _=>rfl
 |.un t=>by simp[Tr.flat,Tr.sz,t.flat_len]
 |.bn _ a b=>by simp[Tr.flat,Tr.sz,a.flat_len,b.flat_len];omega
def okTok (x:Tok):Prop:=nameOk (mkS x)=true∨x=[33]∨x=[40]∨x=[41]∨x=[61]∨x=[124]∨x=[38]
def Pre (l:List Tok) (t:Tr) (r:List Tok):Prop:=∃p,l=p++r∧(∀x,x∈p→okTok x)∧t.sz≤p.length∧t.Wf
theorem opL_wf (f:List Tok→Option (Tr×List Tok)) (op:Tok) (kd:Nat) (hop:okTok op) (hk:kd=4∨kd=5) (hf:∀l t r,f l=some (t,r)→Pre l t r):∀(m:Nat) (t:Tr) (l:List Tok) (u:Tr) (r l0:List Tok),
  Pre l0 t l→opL f op kd m t l=some (u,r)→Pre l0 u r
 |0,t,l,u,r,l0,h0,h=>by
  simp only[opL,Option.some.injEq,Prod.mk.injEq] at h
  obtain ⟨rfl,rfl⟩:=h;exact h0
 |m+1,t,[],u,r,l0,h0,h=>by
  simp only[opL,Option.some.injEq,Prod.mk.injEq] at h
  obtain ⟨rfl,rfl⟩:=h;exact h0
 |m+1,t,x::l,u,r,l0,h0,h=>by
  simp only[opL] at h
  split at h
  ·rename_i hx
   split at h
   ·simp at h
   ·rename_i t' r'' hq
    refine opL_wf f op kd hop hk hf m _ _ u r l0 ?_ h
    obtain ⟨p,rfl,q2,q3,q4⟩:=h0
    obtain ⟨p',rfl,q2',q3',q4'⟩:=hf _ _ _ hq
    refine ⟨p++x::p',by simp,fun y hy=>?_,by simp[Tr.sz];omega,hk,q4,q4'⟩
    rcases List.mem_append.1 hy with hy|hy
    ·exact q2 y hy
    ·rcases List.mem_cons.1 hy with rfl|hy
     ·rw[hx];exact hop
     ·exact q2' y hy
  ·simp only[Option.some.injEq,Prod.mk.injEq] at h
   obtain ⟨rfl,rfl⟩:=h;exact h0
theorem prs_wf:∀(j c:Nat) (l:List Tok) (t:Tr) (r:List Tok),prs j c l=some (t,r)→Pre l t r
 |0,c,l,t,r,h=>by simp[prs] at h
 |j+1,0,l,t,r,h=>by
  simp only[prs] at h
  split at h
  ·simp at h
  ·rename_i t' r' hq
   exact opL_wf (prs j 1) [124] 5 (by simp[okTok]) (.inr rfl) (fun l t r=>prs_wf j 1 l t r) _ _ _ _ _ l (prs_wf j 1 _ _ _ hq) h
 |j+1,1,l,t,r,h=>by
  simp only[prs] at h
  split at h
  ·simp at h
  ·rename_i t' r' hq
   exact opL_wf (prs j 2) [38] 4 (by simp[okTok]) (.inl rfl) (fun l t r=>prs_wf j 2 l t r) _ _ _ _ _ l (prs_wf j 2 _ _ _ hq) h
 |j+1,c+2,[],t,r,h=>by simp[prs] at h
 |j+1,c+2,x::l,t,r,h=>by
  simp only[prs] at h
  split at h
  ·rename_i hx
   split at h
   ·simp at h
   ·rename_i t' r' hq
    simp only[Option.some.injEq,Prod.mk.injEq] at h
    obtain ⟨rfl,rfl⟩:=h
    obtain ⟨p,rfl,q2,q3,q4⟩:=prs_wf j 2 _ _ _ hq
    refine ⟨x::p,rfl,fun y hy=>?_,by simp[Tr.sz];omega,q4⟩
    rcases List.mem_cons.1 hy with rfl|hy
    ·rw[hx];simp[okTok]
    ·exact q2 y hy
  ·split at h
   ·rename_i hx
    split at h
    ·rename_i t' y r' hq
     split at h
     ·rename_i hy41
      simp only[Option.some.injEq,Prod.mk.injEq] at h
      obtain ⟨rfl,rfl⟩:=h
      obtain ⟨p,hp,q2,q3,q4⟩:=prs_wf j 0 _ _ _ hq
      refine ⟨x::(p++[y]),by rw[hp];simp,fun z hz=>?_,by simp;omega,q4⟩
      rcases List.mem_cons.1 hz with rfl|hz
      ·rw[hx];simp[okTok]
      ·rcases List.mem_append.1 hz with hz|hz
       ·exact q2 z hz
       ·simp at hz;subst hz;rw[hy41];simp[okTok]
     ·simp at h
    ·simp at h
   ·split at h
    ·rename_i hn
     split at h
     ·rename_i y r'
      split at h
      ·rename_i hy61
       split at h
       ·rename_i v r''
        split at h
        ·rename_i hv
         simp only[Option.some.injEq,Prod.mk.injEq] at h
         obtain ⟨rfl,rfl⟩:=h
         refine ⟨[x,y,v],rfl,fun z hz=>?_,by simp[Tr.sz],hn,.inr ⟨rfl,hv⟩⟩
         simp at hz
         rcases hz with rfl|rfl|rfl
         ·exact .inl hn
         ·rw[hy61];simp[okTok]
         ·exact .inl hv
        ·simp at h
       ·simp at h
      ·simp only[Option.some.injEq,Prod.mk.injEq] at h
       obtain ⟨rfl,rfl⟩:=h
       refine ⟨[x],rfl,fun z hz=>?_,by simp[Tr.sz],hn,.inl ⟨rfl,rfl⟩⟩
       simp at hz;subst hz;exact .inl hn
     ·simp only[Option.some.injEq,Prod.mk.injEq] at h
      obtain ⟨rfl,rfl⟩:=h
      refine ⟨[x],rfl,fun z hz=>?_,by simp[Tr.sz],hn,.inl ⟨rfl,rfl⟩⟩
      simp at hz;subst hz;exact .inl hn
    ·simp at h
theorem legal_run:∀r:List UInt8,r.all legal=(r.dropWhile lett).all legal
 |[]=>rfl
 |x::r=>by
  rw[List.dropWhile_cons]
  cases hx:lett x with
  |true=>simp only[if_true,List.all_cons];rw[legal_run r];simp[legal,hx]
  |false=>simp
theorem lex_legal:∀(n:Nat) (l:List UInt8),l.length≤n→(∀x,x∈lexT l→okTok x)→l.all legal=true
 |n,[],hn,h=>rfl
 |0,c::r,hn,h=>by simp at hn
 |n+1,c::r,hn,h=>by
  simp only[List.length_cons] at hn
  rw[lexT.eq_2] at h
  split at h
  ·rename_i h32
   subst h32
   have:=lex_legal n r (by omega) h
   simp[legal] at this⊢
   exact this
  ·rename_i h32
   split at h
   ·rename_i hc
    have hdl:=(List.dropWhile_suffix (l:=r) lett).length_le
    have:=lex_legal n (r.dropWhile lett) (by omega) fun x hx=>h x (by simp[hx])
    rw[List.all_cons,legal_run r,this]
    simp[legal,hc]
   ·rename_i hc
    have h1:=h [c] (by simp)
    have:=lex_legal n r (by omega) fun x hx=>h x (by simp[hx])
    rw[List.all_cons,this]
    have hn1:nameOk (mkS [c])=false:=by simp[nameOk,mkS_data,hc]
    rcases h1 with h1|h1|h1|h1|h1|h1|h1
    ·rw[hn1] at h1;simp at h1
    all_goals (simp at h1;subst h1;rfl)
theorem lex_len:∀(n:Nat) (l:List UInt8),l.length≤n→(lexT l).length≤l.length∧∀x,x∈lexT l→x.length≤l.length
 |n,[],hn=>by simp[lexT]
 |0,c::r,hn=>by simp at hn
 |n+1,c::r,hn=>by
  simp only[List.length_cons] at hn⊢
  rw[lexT.eq_2]
  split
  ·obtain ⟨h1,h2⟩:=lex_len n r (by omega)
   exact ⟨by omega,fun x hx=>by have:=h2 x hx;omega⟩
  ·split
   ·have hdl:=(List.dropWhile_suffix (l:=r) lett).length_le
    have htl:=run_len lett r
    obtain ⟨h1,h2⟩:=lex_len n (r.dropWhile lett) (by omega)
    refine ⟨by simp;omega,fun x hx=>?_⟩
    rcases List.mem_cons.1 hx with rfl|hx
    ·simp;omega
    ·have:=h2 x hx;omega
   ·obtain ⟨h1,h2⟩:=lex_len n r (by omega)
    refine ⟨by simp;omega,fun x hx=>?_⟩
    rcases List.mem_cons.1 hx with rfl|hx
    ·simp
    ·have:=h2 x hx;omega
end Go.Ev
namespace Go.Ev
theorem w64n {n:Nat} (h:n<big):w64 ((n:Int)+1)=((n+1:Nat):Int):=by
 simp only[big] at h;rw[w64_of (by omega) (by omega)];rfl
theorem i_depth:∀(k:Nat) (t:Tr),t.depth<k→t.depth<big→i_pSel_depth.g k 0 [t.enc]=some [.i (t.depth:Nat)]
 |0,t,h,_=>by omega
 |k+1,t,h,hb=>by
  have hs:∀x,i_pSel_depth.g (k+1) 0 x=i_pSel_depth.step (i_pSel_depth.g k 0) x:=fun _=>rfl
  rw[hs]
  have w0:w64 1=1:=w64_of (by omega) (by omega)
  have w2:w64 2=2:=w64_of (by omega) (by omega)
  cases t with
  |lf kd n v=>
   have h0:ap4 (i_pSel_depth.d1 (i_pSel_depth.g k 0)) [.i 0,.l [],.i 0,.i 0]=some (.brk 0 [.i 0]):=by simp[i_pSel_depth.d1]
   simp only[i_pSel_depth.step,i_pSel_depth.d3,apL,jC,jD,Tr.enc,C.isP_p,jR,C.P_p,C.L_l,List.length_nil,Int.ofNat_zero,Int.natCast_zero]
   rw[lim_brk h0]
   simp[i_pSel_depth.d2,Tr.depth]
  |un t=>
   simp only[Tr.depth] at h hb
   have ih:=i_depth k t (by omega) (by omega)
   have h0:ap4 (i_pSel_depth.d1 (i_pSel_depth.g k 0)) [.i 0,.l [[t.enc]],.i 1,.i 0]=some (.again [.i (t.depth+1:Nat),.l [[t.enc]],.i 1,.i 1]):=by
    have hgt:(((t.depth+1:Nat):Int))>0:=by omega
    simp[i_pSel_depth.d1,ih,call1,w64n (show t.depth<big by omega),w0]
   have h1:ap4 (i_pSel_depth.d1 (i_pSel_depth.g k 0)) [.i (t.depth+1:Nat),.l [[t.enc]],.i 1,.i 1]=some (.brk 0 [.i (t.depth+1:Nat)]):=by simp[i_pSel_depth.d1]
   simp only[i_pSel_depth.step,i_pSel_depth.d3,apL,jC,jD,Tr.enc,C.isP_p,jR,C.P_p,C.L_l,List.length_cons,List.length_nil]
   erw[lim_again h0,lim_brk h1]
   simp[i_pSel_depth.d2,Tr.depth]
  |bn kd a b=>
   simp only[Tr.depth] at h hb
   have iha:=i_depth k a (by omega) (by omega)
   have ihb:=i_depth k b (by omega) (by omega)
   have h0:ap4 (i_pSel_depth.d1 (i_pSel_depth.g k 0)) [.i 0,.l [[a.enc],[b.enc]],.i 2,.i 0]=some (.again [.i (a.depth+1:Nat),.l [[a.enc],[b.enc]],.i 2,.i 1]):=by
    simp[i_pSel_depth.d1,iha,call1,w64n (show a.depth<big by omega),w0]
   have h1:ap4 (i_pSel_depth.d1 (i_pSel_depth.g k 0)) [.i (a.depth+1:Nat),.l [[a.enc],[b.enc]],.i 2,.i 1]=some (.again [.i (max a.depth b.depth+1:Nat),.l [[a.enc],[b.enc]],.i 2,.i 2]):=by
    have e:(1:Int)<2:=by omega
    simp only[apL,jC,jD,i_pSel_depth.d1,C.I_i,C.L_l,e,decide_true,jR,List.length_cons,List.length_nil,Int.toNat_one,ihb,call1,jI,w64n (show b.depth<big by omega)]
    have w2':w64 (1+1)=2:=w2
    rw[w2']
    simp
    split<;>omega
   have h2:ap4 (i_pSel_depth.d1 (i_pSel_depth.g k 0)) [.i (max a.depth b.depth+1:Nat),.l [[a.enc],[b.enc]],.i 2,.i 2]=some (.brk 0 [.i (max a.depth b.depth+1:Nat)]):=by simp[i_pSel_depth.d1]
   simp only[i_pSel_depth.step,i_pSel_depth.d3,apL,jC,jD,Tr.enc,C.isP_p,jR,C.P_p,C.L_l,List.length_cons,List.length_nil]
   erw[lim_again h0,lim_again h1,lim_brk h2]
   simp[i_pSel_depth.d2,Tr.depth]
def Tr.kids:Tr→Nat→List (List C)
 |.lf _ _ _,o=>[[.l []]]
 |.un t,o=>t.kids o++[[.l [[.i (o+t.sz-1:Nat)]]]]
 |.bn _ a b,o=>a.kids o++b.kids (o+a.sz)++[[.l [[.i (o+a.sz-1:Nat)],[.i (o+a.sz+b.sz-1:Nat)]]]]
theorem Tr.kids_len:∀(t:Tr) (o:Nat),(t.kids o).length=t.sz
 |.lf _ _ _,o=>rfl
 |.un t,o=>by simp[Tr.kids,Tr.sz,t.kids_len]
 |.bn _ a b,o=>by simp[Tr.kids,Tr.sz,a.kids_len,b.kids_len];omega
theorem kid_step {N:List (List C)} {o m:Nat} {kd:Nat} {n v:Tok} {out stk:List (List C)} (hN:N.length≤1048576) (ho:o<N.length) (hn:N[o]=node kd n v m) (h1:m≤stk.length) (h2:stk.length≤o) (h3:out.length≤o):
  ap4 s_l1Kids.d1 [.i o,.l N,.l out,.l stk]=some (.again [.i (o+1:Nat),.l N,.l (out++[[.l (stk.drop (stk.length-m))]]),.l (stk.take (stk.length-m)++[[.i (o:Nat)]])]):=by
 have hg:N.getD o []=node kd n v m:=by rw[List.getD_eq_getElem?_getD,List.getElem?_eq_getElem ho,hn];rfl
 have hw:w64 ((stk.length:Int)-(m:Int))=((stk.length-m:Nat):Int):=by rw[w64_of (by omega) (by omega)];omega
 have hw1:=w1 ho (show N.length<big by simp only[big];omega)
 have e1:¬((m:Int)<0):=by omega
 have e2:¬((m:Int)>(stk.length:Int)):=by omega
 have e3:((stk.length-m:Nat):Int)≤(stk.length:Int):=by omega
 have e4:(stk.drop (stk.length-m)).length≤4294967296:=by rw[List.length_drop];omega
 have e5:out.length+1≤4294967296:=by omega
 have e6:(stk.take (stk.length-m)).length+1≤4294967296:=by rw[List.length_take];omega
 simp only[apL,jC,jD,s_l1Kids.d1,C.I_i,C.L_l,jY,hg,node,hw,hw1,List.take_length,List.drop_zero,nils,rows,jB,List.length_nil,List.length_cons,Nat.zero_add,e1,e2,e3,e4,e5,e6,decide_true,decide_false,jR,jS,ja,jX,Int.le_refl]
 simp[ho]
theorem drop_at {α:Type} {N l r:List α} {o:Nat} {x:α} (h:N.drop o=l++x::r):∃h:o+l.length<N.length,N[o+l.length]=x:=by
 have h2:N.drop (o+l.length)=x::r:=by rw[←List.drop_drop,h];simp
 obtain ⟨h3,h4,_⟩:=drop_cons h2
 exact ⟨h3,h4⟩
theorem s_kids {N:List (List C)} (hN:N.length≤1048576):∀(t:Tr) (o:Nat) (out stk r:List (List C)),N.drop o=t.flat++r→stk.length≤o→out.length≤o→
  lim (ap4 s_l1Kids.d1) [.i o,.l N,.l out,.l stk]=lim (ap4 s_l1Kids.d1) [.i (o+t.sz:Nat),.l N,.l (out++t.kids o),.l (stk++[[.i (o+t.sz-1:Nat)]])]
 |.lf kd n v,o,out,stk,r,h,hs,ho=>by
  obtain ⟨h1,h2,_⟩:=drop_cons (show N.drop o=node kd n v 0::r from h)
  rw[lim_again (kid_step hN h1 h2 (Nat.zero_le _) hs ho)]
  simp[Tr.sz,Tr.kids]
 |.un t,o,out,stk,r,h,hs,ho=>by
  have h':N.drop o=t.flat++(node 3 [] [] 1::r):=by rw[h];simp[Tr.flat]
  rw[s_kids hN t o out stk _ h' hs ho]
  obtain ⟨h1,h2⟩:=drop_at h'
  rw[t.flat_len] at h1
  have h2:N[o+t.sz]=node 3 [] [] 1:=by simp only[t.flat_len] at h2;exact h2
  rw[lim_again (kid_step hN h1 h2 (by simp) (by have:=t.sz_pos;simp;omega) (by simp[t.kids_len];omega))]
  have e1:(stk++[[C.i (o+t.sz-1:Nat)]]).length-1=stk.length:=by simp
  rw[e1,List.drop_left',List.take_left']<;>simp[Tr.sz,Tr.kids]
  rfl
 |.bn kd a b,o,out,stk,r,h,hs,ho=>by
  have h':N.drop o=a.flat++(b.flat++(node kd [] [] 2::r)):=by rw[h];simp[Tr.flat]
  have h'':N.drop (o+a.sz)=b.flat++(node kd [] [] 2::r):=by rw[←List.drop_drop,h',←a.flat_len];simp
  have ha:=a.sz_pos
  have hb:=b.sz_pos
  rw[s_kids hN a o out stk _ h' hs ho,s_kids hN b (o+a.sz) _ _ _ h'' (by simp;omega) (by simp[a.kids_len];omega)]
  obtain ⟨h1,h2⟩:=drop_at h''
  rw[b.flat_len] at h1
  have h2:N[o+a.sz+b.sz]=node kd [] [] 2:=by simp only[b.flat_len] at h2;exact h2
  rw[lim_again (kid_step hN h1 h2 (by simp) (by simp;omega) (by simp[a.kids_len,b.kids_len];omega))]
  have e1:(stk++[[C.i (o+a.sz-1:Nat)]]++[[C.i (o+a.sz+b.sz-1:Nat)]]).length-2=stk.length:=by simp
  have e2:stk++[[C.i (o+a.sz-1:Nat)]]++[[C.i (o+a.sz+b.sz-1:Nat)]]=stk++[[C.i (o+a.sz-1:Nat)],[C.i (o+a.sz+b.sz-1:Nat)]]:=by simp
  rw[e1,e2,List.drop_left',List.take_left']
  ·have e3:o+(Tr.bn kd a b).sz=o+a.sz+b.sz+1:=by simp only[Tr.sz];omega
   rw[e3]
   simp[Tr.kids]
  ·rfl
  ·rfl
theorem s_l1Kids_eq (t:Tr) (ht:t.sz≤1048576):s_l1Kids [.l t.flat]=some [.b true,.l (t.kids 0)]:=by
 have hN:t.flat.length≤1048576:=by rw[t.flat_len];exact ht
 have h:=s_kids hN t 0 [] [] [] (by simp) (by simp) (by simp)
 have he:ap4 s_l1Kids.d1 [.i (0+t.sz:Nat),.l t.flat,.l ([]++t.kids 0),.l ([]++[[.i (0+t.sz-1:Nat)]])]=some (.brk 0 [.l (t.kids 0),.l [[.i (t.sz-1:Nat)]]]):=by
  simp[s_l1Kids.d1,t.flat_len]
 rw[lim_brk he] at h
 simp only[s_l1Kids,s_l1Kids.d3,apL,jC,nils]
 erw[h]
 simp[s_l1Kids.d2]
end Go.Ev
namespace Go.Ev
section
variable {K:List (List C)} (hK:K.length≤1048576)
include hK
theorem nest_step (G:List C→Option (List C)) {ix:Nat} (hi:ix<K.length) {l:List (List C)} (hr:K[ix]=[.l l]) {d c e:Nat} (hd:d<l.length) (hl:l.length≤2) {kid:Nat} (hk:l[d]=[.i (kid:Nat)])
  (hG:G [.l K,.i (kid:Nat)]=some [.i (e:Nat)]) (he:e<big):
  ap4 (s_l1Nest.d1 G) [.l K,.i (ix:Nat),.i (c:Nat),.i (d:Nat)]=some (.again [.l K,.i (ix:Nat),.i (max c (e+1):Nat),.i (d+1:Nat)]):=by
 have hg:K.getD ix []=[.l l]:=by rw[List.getD_eq_getElem?_getD,List.getElem?_eq_getElem hi,hr];rfl
 have hgd:l.getD d []=[.i (kid:Nat)]:=by rw[List.getD_eq_getElem?_getD,List.getElem?_eq_getElem hd,hk];rfl
 have hw:=w64n he
 have hwd:w64 ((d:Int)+1)=((d+1:Nat):Int):=w64n (by simp only[big];omega)
 simp only[apL,jC,jD,s_l1Nest.d1,C.I_i,C.L_l,jY,hg,hgd,hG,call1,jI,hw,hwd,jX,decide_true,jR]
 have e1:((ix:Int)<(K.length:Int)):=by omega
 have e2:((d:Int)<(l.length:Int)):=by omega
 simp only[e1,e2,decide_true,jR]
 by_cases h:((e+1:Nat):Int)>(c:Int)
 ·have:max c (e+1)=e+1:=by omega
  simp only[h,decide_true,jR,this]
 ·have:max c (e+1)=c:=by omega
  simp only[h,decide_false,jS,this]
theorem nest_end (G:List C→Option (List C)) {ix:Nat} (hi:ix<K.length) {l:List (List C)} (hr:K[ix]=[.l l]) {c:Nat}:
  ap4 (s_l1Nest.d1 G) [.l K,.i (ix:Nat),.i (c:Nat),.i (l.length:Nat)]=some (.brk 0 [.i (c:Nat)]):=by
 have hg:K.getD ix []=[.l l]:=by rw[List.getD_eq_getElem?_getD,List.getElem?_eq_getElem hi,hr];rfl
 simp only[apL,jC,jD,s_l1Nest.d1,C.I_i,C.L_l,jY,hg]
 simp[hi]
theorem s_nest:∀(k:Nat) (t:Tr) (o:Nat) (r:List (List C)),t.depth<k→t.depth<big→K.drop o=t.kids o++r→s_l1Nest.g k 0 [.l K,.i (o+t.sz-1:Nat)]=some [.i (t.depth:Nat)]
 |0,t,o,r,h,_,_=>by omega
 |k+1,t,o,r,h,hb,hd=>by
  have hs:∀x,s_l1Nest.g (k+1) 0 x=s_l1Nest.step (s_l1Nest.g k 0) x:=fun _=>rfl
  rw[hs]
  simp only[s_l1Nest.step,s_l1Nest.d3,apL,jC,jD]
  cases t with
  |lf kd n v=>
   obtain ⟨h1,h2,_⟩:=drop_cons (show K.drop o=[.l []]::r from hd)
   have:=lim_brk (nest_end hK (s_l1Nest.g k 0) h1 h2 (c:=0))
   simp only[List.length_nil,Int.ofNat_zero,Int.natCast_zero] at this
   have e:o+(Tr.lf kd n v).sz-1=o:=by simp[Tr.sz]
   rw[e,this]
   simp[s_l1Nest.d2,Tr.depth]
  |un t=>
   simp only[Tr.depth] at h hb
   have h':K.drop o=t.kids o++([.l [[.i (o+t.sz-1:Nat)]]]::r):=by rw[hd];simp[Tr.kids]
   have ih:=s_nest k t o _ (by omega) (by omega) h'
   obtain ⟨h1,h2⟩:=drop_at h'
   rw[t.kids_len] at h1
   have h2:K[o+t.sz]=[.l [[.i (o+t.sz-1:Nat)]]]:=by simp only[t.kids_len] at h2;exact h2
   have e:o+(Tr.un t).sz-1=o+t.sz:=by simp[Tr.sz]
   have s1:=nest_step hK (s_l1Nest.g k 0) h1 h2 (d:=0) (c:=0) (by simp) (by simp) (kid:=o+t.sz-1) rfl ih (by omega)
   have s2:=nest_end hK (s_l1Nest.g k 0) h1 h2 (c:=max 0 (t.depth+1))
   simp only[Int.natCast_zero,Nat.zero_max,List.length_cons,List.length_nil,Nat.zero_add] at s1 s2
   rw[e,lim_again s1,lim_brk s2]
   simp[s_l1Nest.d2,Tr.depth]
  |bn kd a b=>
   simp only[Tr.depth] at h hb
   have h':K.drop o=a.kids o++(b.kids (o+a.sz)++([.l [[.i (o+a.sz-1:Nat)],[.i (o+a.sz+b.sz-1:Nat)]]]::r)):=by rw[hd];simp[Tr.kids]
   have h'':K.drop (o+a.sz)=b.kids (o+a.sz)++([.l [[.i (o+a.sz-1:Nat)],[.i (o+a.sz+b.sz-1:Nat)]]]::r):=by
    rw[←List.drop_drop,h',←a.kids_len o];simp
   have iha:=s_nest k a o _ (by omega) (by omega) h'
   have ihb:=s_nest k b (o+a.sz) _ (by omega) (by omega) h''
   obtain ⟨h1,h2⟩:=drop_at h''
   rw[b.kids_len] at h1
   have h2:K[o+a.sz+b.sz]=[.l [[.i (o+a.sz-1:Nat)],[.i (o+a.sz+b.sz-1:Nat)]]]:=by simp only[b.kids_len] at h2;exact h2
   have e:o+(Tr.bn kd a b).sz-1=o+a.sz+b.sz:=by simp only[Tr.sz];omega
   have s1:=nest_step hK (s_l1Nest.g k 0) h1 h2 (d:=0) (c:=0) (by simp) (by simp) (kid:=o+a.sz-1) rfl iha (by omega)
   have s2:=nest_step hK (s_l1Nest.g k 0) h1 h2 (d:=1) (c:=max 0 (a.depth+1)) (by simp) (by simp) (kid:=o+a.sz+b.sz-1) rfl ihb (by omega)
   have s3:=nest_end hK (s_l1Nest.g k 0) h1 h2 (c:=max (max 0 (a.depth+1)) (b.depth+1))
   simp only[Int.natCast_zero,List.length_cons,List.length_nil,Nat.zero_add,Nat.reduceAdd] at s1 s2 s3
   rw[e,lim_again s1,lim_again s2,lim_brk s3]
   have e2:max (max 0 (a.depth+1)) (b.depth+1)=max a.depth b.depth+1:=by omega
   rw[e2]
   simp[s_l1Nest.d2,Tr.depth]
end
inductive OkN:List C→Prop
 |n1 (n:Tok) (h:nameOk (mkS n)=true):OkN (node 1 n [] 0)
 |n2 (n v:Tok) (h:nameOk (mkS n)=true) (h2:nameOk (mkS v)=true):OkN (node 2 n v 0)
 |n3:OkN (node 3 [] [] 1)
 |n4:OkN (node 4 [] [] 2)
 |n5:OkN (node 5 [] [] 2)
theorem Tr.okN:∀(t:Tr),t.Wf→∀r,r∈t.flat→OkN r
 |.lf k n v,h,r,hr=>by
  simp only[Tr.flat,List.mem_singleton] at hr
  subst hr
  rcases h with ⟨h1,⟨rfl,rfl⟩|⟨rfl,h2⟩⟩
  ·exact .n1 n h1
  ·exact .n2 n v h1 h2
 |.un t,h,r,hr=>by
  simp only[Tr.flat,List.mem_append,List.mem_singleton] at hr
  rcases hr with hr|rfl
  ·exact t.okN h r hr
  ·exact .n3
 |.bn k a b,h,r,hr=>by
  simp only[Tr.flat,List.mem_append,List.mem_singleton] at hr
  rcases hr with (hr|hr)|rfl
  ·exact a.okN h.2.1 r hr
  ·exact b.okN h.2.2 r hr
  ·rcases h.1 with rfl|rfl
   ·exact .n4
   ·exact .n5
theorem nameOk_size {s:Str} (h:nameOk s=true):s.size≤1048576:=by
 simp only[nameOk,within,Bool.and_eq_true,decide_eq_true_eq] at h
 omega
theorem emp:(mkS []).toList=[]:=toList_data' _
theorem tree_step {N:List (List C)} (hN:N.length≤1048576) {i:Nat} (hi:i<N.length) (ho:OkN N[i]):
  ap2 s_l1Tree.d4 [.i i,.l N]=some (.again [.i (i+1:Nat),.l N]):=by
 have hw1:=w1 hi (show N.length<big by simp only[big];omega)
 have hg:N.getD i []=N[i]:=by rw[List.getD_eq_getElem?_getD,List.getElem?_eq_getElem hi];rfl
 have e0:((i:Int)<(N.length:Int)):=by omega
 have key:∀r,OkN r→N.getD i []=r→ap2 s_l1Tree.d4 [.i i,.l N]=some (.again [.i (i+1:Nat),.l N]):=by
  intro r hr hgr
  have z1:within 1 0 5=true:=rfl
  have z2:within 2 0 5=true:=rfl
  have z3:within 3 0 5=true:=rfl
  have z4:within 4 0 5=true:=rfl
  have z5:within 5 0 5=true:=rfl
  have t2:Int.toNat 2=2:=rfl
  have t3:Int.toNat 3=3:=rfl
  have t4:Int.toNat 4=4:=rfl
  have t5:Int.toNat 5=5:=rfl
  cases hr with
  |n1 n h=>
   simp only[apL,jC,jD,s_l1Tree.d4,C.I_i,C.L_l,jY,hgr,node]
   simp[s_l1Tree.d3,s_l1Tree.d2,s_l1Tree.d1,s_l1In_eq,z1,call1,s_l1NameOk_eq _ (nameOk_size h),h,emp,bs_nil,hw1,hi]
  |n2 n v h h2=>
   simp only[apL,jC,jD,s_l1Tree.d4,C.I_i,C.L_l,jY,hgr,node]
   simp[s_l1Tree.d3,s_l1Tree.d2,s_l1Tree.d1,s_l1In_eq,z2,t2,call1,s_l1NameOk_eq _ (nameOk_size h),s_l1NameOk_eq _ (nameOk_size h2),h,h2,emp,bs_nil,hw1,hi]
  |n3=>
   simp only[apL,jC,jD,s_l1Tree.d4,C.I_i,C.L_l,jY,hgr,node]
   simp[s_l1Tree.d3,s_l1Tree.d2,s_l1Tree.d1,s_l1In_eq,z3,t3,call1,emp,bs_nil,hw1,hi]
  |n4=>
   simp only[apL,jC,jD,s_l1Tree.d4,C.I_i,C.L_l,jY,hgr,node]
   simp[s_l1Tree.d3,s_l1Tree.d2,s_l1Tree.d1,s_l1In_eq,z4,t4,call1,emp,bs_nil,hw1,hi]
  |n5=>
   simp only[apL,jC,jD,s_l1Tree.d4,C.I_i,C.L_l,jY,hgr,node]
   simp[s_l1Tree.d3,s_l1Tree.d2,s_l1Tree.d1,s_l1In_eq,z5,t5,call1,emp,bs_nil,hw1,hi]
 exact key _ ho hg
theorem s_l1Tree_eq (t:Tr) (ht:t.sz≤400) (hw:t.Wf):s_l1Tree [.l t.flat]=some [.b true]:=by
 have hN:t.flat.length≤1048576:=by rw[t.flat_len];omega
 have hloop:∀(k i:Nat),t.flat.length-i≤k→i≤t.flat.length→lim (ap2 s_l1Tree.d4) [.i i,.l t.flat]=some (.brk 0 []):=by
  intro k
  induction k with
  |zero=>
   intro i hk hi
   have:i=t.flat.length:=by omega
   subst this
   exact lim_brk (by simp[s_l1Tree.d4])
  |succ k ih=>
   intro i hk hi
   rcases Nat.lt_or_ge i t.flat.length with h|h
   ·rw[lim_again (tree_step hN h (t.okN hw _ (List.getElem_mem h)))]
    exact ih (i+1) (by omega) (by omega)
   ·have:i=t.flat.length:=by omega
    subst this
    exact lim_brk (by simp[s_l1Tree.d4])
 have h0:=hloop _ 0 (Nat.le_refl _) (Nat.zero_le _)
 simp only[Int.natCast_zero] at h0
 have e:¬((t.flat.length:Int)>400):=by rw[t.flat_len];omega
 simp only[s_l1Tree,s_l1Tree.d6,apL,jC,C.L_l,e,decide_false,jS,s_l1Kids_eq t (by omega),call2,jI,C.B_b,jZ,h0]
 simp[s_l1Tree.d5]
theorem s_l1Valid_eq (t:Tr) (ht:t.sz≤400) (hw:t.Wf):s_l1Valid [.l t.flat]=some [.b (decide (t.depth≤20))]:=by
 have hd:=t.depth_lt
 have hp:=t.sz_pos
 have hF:=FUEL_ge
 have hw1:w64 ((t.flat.length:Int)-1)=((0+t.sz-1:Nat):Int):=by rw[t.flat_len,w64_of (by omega) (by omega)];omega
 have hn:s_l1Nest [.l (t.kids 0),.i (0+t.sz-1:Nat)]=some [.i (t.depth:Nat)]:=
  s_nest (K:=t.kids 0) (by rw[t.kids_len];omega) FUEL t 0 [] (by omega) (by simp only[big];omega) (by simp)
 simp only[s_l1Valid,s_l1Valid.d1,apL,jC,jD,s_l1Tree_eq t ht hw,call1,call2,jI,C.B_b,jZ,jS,s_l1Kids_eq t (by omega),C.L_l,hw1,hn,C.I_i,jV]
 have:decide ((t.depth:Int)≤20)=decide (t.depth≤20):=by
  rw[decide_eq_decide];omega
 rw[this]
end Go.Ev
namespace Go.Ev
theorem lex_nil:∀l:List UInt8,(lexT l=[])↔l.all sp=true
 |[]=>by simp[lexT]
 |c::r=>by
  rw[lexT.eq_2]
  by_cases h:c=32
  ·subst h
   rw[if_pos rfl,List.all_cons,lex_nil r]
   simp[sp]
  ·rw[if_neg h]
   have:sp c=false:=by simp[sp,h]
   split<;>simp[this]
theorem i_trimR (s0:Str):∀(n:Nat) (l:List UInt8),l.length≤n→n≤1048576→∃q,lim (ap2 strings_trimRightByte.d1) [.s (mkS l),.i 32]=some (.brk 0 [.s (mkS q)])∧q.length≤l.length∧q.all sp=l.all sp
 |n,l,hn,hb=>by
  rcases List.eq_nil_or_concat l with rfl|⟨p,c,rfl⟩
  ·exact ⟨[],lim_brk (by simp[strings_trimRightByte.d1,mkS_size]),Nat.le_refl _,rfl⟩
  ·simp only[List.concat_eq_append] at hn⊢
   obtain ⟨n,rfl⟩:∃n',n=n'+1:=⟨n-1,by simp at hn;omega⟩
   have hsz:(mkS (p++[c])).size=p.length+1:=by rw[mkS_size];simp
   have hw:w64 (((p.length+1:Nat):Int)-1)=(p.length:Nat):=by simp at hn;rw[w64_of (by omega) (by omega)];omega
   have hgd:(mkS (p++[c])).data.getD p.length 0=c:=by
    rw[arr_getD (by rw[mkS_data];simp)]
    simp[mkS_data]
   have hext:(mkS (p++[c])).extract 0 p.length=mkS p:=by
    rw[ext_mkS,mkS_data];simp
   have e1:((p.length+1:Nat):Int)>0:=by omega
   have e2:(p.length:Int)<((p.length+1:Nat):Int):=by omega
   have e3:(p.length:Int)≤((p.length+1:Nat):Int):=by omega
   cases hc:sp c with
   |true=>
    have h:ap2 strings_trimRightByte.d1 [.s (mkS (p++[c])),.i 32]=some (.again [.s (mkS p),.i 32]):=by
     simp only[sp] at hc
     simp only[apL,jC,jD,strings_trimRightByte.d1,C.S_s,C.I_i,hsz,hw,jY,hgd,bn c 32 32 rfl,hc,hext,e1,e2,e3,decide_true,jR,jX]
    rw[lim_again h]
    obtain ⟨q,h1,h2,h3⟩:=i_trimR s0 n p (by simp at hn;omega) (by omega)
    exact ⟨q,h1,by simp;omega,by rw[h3];simp[hc]⟩
   |false=>
    refine ⟨p++[c],lim_brk ?_,Nat.le_refl _,rfl⟩
    simp only[sp] at hc
    simp only[apL,jC,jD,strings_trimRightByte.d1,C.S_s,C.I_i,hsz,hw,jY,hgd,bn c 32 32 rfl,hc,e1,e2,decide_true,jR,jS,jX]
theorem i_trimL:∀(l:List UInt8),l.length≤1048576→lim (ap2 strings_trimLeftByte.d1) [.s (mkS l),.i 32]=some (.brk 0 [.s (mkS (l.dropWhile sp))])
 |[],hn=>lim_brk (by simp[strings_trimLeftByte.d1,mkS_size])
 |c::r,hn=>by
  have hsz:(mkS (c::r)).size=r.length+1:=rfl
  have hgd:(mkS (c::r)).data.getD 0 0=c:=by
   rw[arr_getD (by rw[mkS_data];simp)]
   simp[mkS_data]
  have hext:(mkS (c::r)).extract 1 (r.length+1)=mkS r:=by
   rw[ext_mkS,mkS_data];simp
  have e1:((r.length+1:Nat):Int)>0:=by omega
  have e2:(1:Int)≤((r.length+1:Nat):Int):=by omega
  rw[List.dropWhile_cons]
  cases hc:sp c with
  |true=>
   have h:ap2 strings_trimLeftByte.d1 [.s (mkS (c::r)),.i 32]=some (.again [.s (mkS r),.i 32]):=by
    simp only[sp] at hc
    have e1':(0:Int)<((r.length+1:Nat):Int):=by omega
    simp only[apL,jC,jD,strings_trimLeftByte.d1,C.S_s,C.I_i,hsz,jY,hgd,bn c 32 32 rfl,hc,hext,e1,e1',e2,decide_true,jR,Int.le_refl]
   rw[lim_again h]
   simp only[List.length_cons] at hn
   simpa using i_trimL r (by omega)
  |false=>
   refine lim_brk ?_
   simp only[sp] at hc
   have e1':(0:Int)<((r.length+1:Nat):Int):=by omega
   simp only[apL,jC,jD,strings_trimLeftByte.d1,C.S_s,C.I_i,hsz,jY,hgd,bn c 32 32 rfl,hc,e1,e1',decide_true,jR,jS]
   rfl
theorem all_dropWhile (l:List UInt8):l.dropWhile sp=[]↔l.all sp=true:=by
 induction l with
 |nil=>simp
 |cons c r ih=>
  rw[List.dropWhile_cons,List.all_cons]
  cases hc:sp c<;>simp[ih]
theorem i_Trim (s:Str) (hl:s.size≤1048576):∃z,strings_Trim [.s s,.s (bs #[32])]=some [.s z]∧(z.toList==(bs #[]).toList)=s.data.toList.all sp:=by
 have hb32:bs #[32]=mkS [32]:=rfl
 simp only[strings_Trim,strings_Trim.d2,apL,jC,jD,C.S_s]
 cases hq:(s.toList==(bs #[]).toList) with
 |true=>
  have:s=mkS []:=(sEq_iff s (bs #[])).1 hq
  subst this
  refine ⟨mkS [],?_,?_⟩
  ·simp
  ·rw[hq];rfl
 |false=>
  have h32:((bs #[32]).toList==(bs #[]).toList)=false:=by
   rw[hb32,toList_data',bs_nil,toList_data'];rfl
  have hsz:(bs #[32]).size=1:=rfl
  have hgd:(bs #[32]).data.getD 0 0=32:=rfl
  obtain ⟨q,h1,h2,h3⟩:=i_trimR s s.data.toList.length s.data.toList (Nat.le_refl _) (by rw[←sz_list];exact hl)
  rw[mkS_of] at h1
  have h4:=i_trimL q (by rw[←sz_list] at h2;omega)
  refine ⟨mkS (q.dropWhile sp),?_,?_⟩
  ·have e1:(((32:UInt8).toNat:Nat):Int)=32:=rfl
   have e2:((1:Nat):Int)=1:=rfl
   simp only[ja,jR,h32,jS,hsz,hgd,e1,e2,strings_trimRightByte,strings_trimRightByte.d3,strings_trimLeftByte,strings_trimLeftByte.d3,apL,jC,jD,h1,bindBlk_self,strings_trimRightByte.d2,jV,call1,jI]
   simp[h4,strings_trimLeftByte.d2]
  ·rw[←h3,toList_data',bs_nil,toList_data',mkS_data,mkS_data]
   cases hall:q.all sp with
   |true=>rw[(all_dropWhile q).2 hall];rfl
   |false=>
    cases hd:q.dropWhile sp with
    |nil=>rw[(all_dropWhile q).1 hd] at hall;simp at hall
    |cons c r=>rfl
inductive PR where
 |err (n:Nat)
 |all
 |tree (t:Tr)
def pp (s:Str):PR:=
 if 200<s.size then .err 1
 else if s.data.toList.all sp=true then .all
 else match prs 1000 0 (lexT s.data.toList) with
  |some (t,[])=>if t.depth≤20 then .tree t else .err 3
  |_=>.err 2
def PR.nodes:PR→List (List C)
 |.err _=>[]
 |.all=>[node 0 [] [] 0]
 |.tree t=>t.flat
def PR.code:PR→Nat
 |.err n=>n
 |_=>0
def PR.ptr:PR→C
 |.err _=>.nil
 |.all=>.p [.i 0,.s (mkS []),.s (mkS []),.l []]
 |.tree t=>t.enc
theorem pp_tree {s:Str} {t:Tr} (h:pp s=.tree t):t.Wf∧t.sz≤200∧t.depth≤20:=by
 unfold pp at h
 split at h
 ·simp at h
 ·rename_i hs
  split at h
  ·simp at h
  ·split at h
   ·rename_i u hq
    split at h
    ·rename_i hd
     simp only[PR.tree.injEq] at h
     subst h
     obtain ⟨p,h1,h2,h3,h4⟩:=prs_wf _ _ _ _ _ hq
     have:=(lex_len _ s.data.toList (Nat.le_refl _)).1
     rw[h1] at this
     rw[←sz_list] at this
     simp at this
     exact ⟨h4,by omega,hd⟩
    ·simp at h
   ·simp at h
theorem s_PilotParse_eq (s:Str) (hl:s.size≤1048576):s_PilotParse [.s s]=some [.l (pp s).nodes,.i ((pp s).code:Nat)]:=by
 have hF:=FUEL_ge
 simp only[s_PilotParse,s_PilotParse.d1,apL,jC,C.S_s]
 by_cases hs:(s.size:Int)>200
 ·have h200:200<s.size:=by omega
  simp[hs,pp,h200,PR.nodes,PR.code]
 have h200:¬200<s.size:=by omega
 simp only[hs,decide_false,jS]
 have hlen:=lex_len _ s.data.toList (Nat.le_refl _)
 rw[←sz_list] at hlen
 rcases s_l1Tokens_eq s hl with ⟨hg,ht⟩|⟨hg,o,ht⟩
 ·simp only[ht,call2,jI,jC,jD,C.B_b,jZ,jS,C.L_l,jW]
  cases hall:s.data.toList.all sp with
  |true=>
   have:lexT s.data.toList=[]:=(lex_nil _).2 hall
   rw[this]
   simp[pp,h200,hall,PR.nodes,PR.code,node,bs_nil]
  |false=>
   have hne:lexT s.data.toList≠[]:=fun h=>by rw[(lex_nil _).1 h] at hall;simp at hall
   have hlp:0<(lexT s.data.toList).length:=List.length_pos_iff.2 hne
   have hz:(((lexT s.data.toList).length:Int)==0)=false:=by rw[beq_eq_false_iff_ne];omega
   obtain ⟨nodes,a',bad,hgo,q1,q2,q3,q4⟩:=s_prs (T:=lexT s.data.toList) (by omega) (fun t ht=>by have:=hlen.2 t ht;omega) 1000 0 FUEL 0 (by omega) (by omega) (by omega) (by omega)
   have hgo:s_l1Parser_or [.l ((lexT s.data.toList).map tk),.i 0,.b false]=_:=hgo
   simp only[hz,jS,hgo,call4,jI,jC,jD,C.B_b,C.I_i]
   simp only[List.drop_zero] at q4
   simp only[pp,if_neg h200,hall,Bool.false_eq_true,if_false]
   cases hp:prs 1000 0 (lexT s.data.toList) with
   |none=>
    rw[hp] at q4
    simp only at q4
    subst q4
    simp[PR.nodes,PR.code]
   |some z=>
    obtain ⟨t,r⟩:=z
    rw[hp] at q4
    obtain ⟨rfl,rfl,q5,q6⟩:=q4
    simp only[ja,jR]
    have hrl:r.length=(lexT s.data.toList).length-a':=by rw[←q5];simp
    cases r with
    |cons x r=>
     simp only[List.length_cons] at hrl
     have:(a':Int)<((lexT s.data.toList).length:Int):=by omega
     simp[this,PR.nodes,PR.code]
    |nil=>
     simp only[List.length_nil] at hrl
     have:¬(a':Int)<((lexT s.data.toList).length:Int):=by omega
     obtain ⟨p,h1,h2,h3,h4⟩:=prs_wf _ _ _ _ _ hp
     have h5:t.sz≤400:=by
      have:=hlen.1
      rw[h1] at this
      simp at this
      omega
     simp only[this,decide_false,jS,s_l1Valid_eq t h5 h4,call1,jI,jC,C.B_b]
     by_cases hd:t.depth≤20<;>simp[hd,PR.nodes,PR.code]
 ·simp only[ht,call2,jI,jC,jD,C.B_b,ja,jR,jV,nils]
  have hcode:pp s=.err 2:=by
   unfold pp
   rw[if_neg h200,if_neg]
   ·split
    ·rename_i t hq
     obtain ⟨p,h1,h2,h3,h4⟩:=prs_wf _ _ _ _ _ hq
     have:=lex_legal _ s.data.toList (Nat.le_refl _) (fun x hx=>h2 x (by rw[h1] at hx;simpa using hx))
     rw[this] at hg;simp at hg
    ·rfl
   ·intro hall
    have:s.data.toList.all legal=true:=by
     rw[List.all_eq_true] at hall⊢
     intro x hx
     have:=hall x hx
     simp only[sp] at this
     simp[legal,this]
    rw[this] at hg;simp at hg
  rw[hcode]
  rfl
theorem i_pParse_eq (s:Str) (hl:s.size≤1048576):i_pParse [.s s]=some [(pp s).ptr,.i ((pp s).code:Nat)]:=by
 have hF:=FUEL_ge
 simp only[i_pParse,i_pParse.d1,apL,jC,C.S_s]
 by_cases hs:(s.size:Int)>200
 ·have h200:200<s.size:=by omega
  simp[hs,pp,h200,PR.ptr,PR.code]
 have h200:¬200<s.size:=by omega
 have hlen:=lex_len _ s.data.toList (Nat.le_refl _)
 rw[←sz_list] at hlen
 obtain ⟨z,hz,hz2⟩:=i_Trim s hl
 simp only[hs,decide_false,jS,hz,call1,jI,jC,C.S_s,hz2]
 cases hall:s.data.toList.all sp with
 |true=>simp[pp,h200,hall,PR.ptr,PR.code,bs_nil]
 |false=>
  obtain ⟨c,i',ok,hgo,q1,q2⟩:=i_prs (s:=s) hl 1000 0 FUEL 0 (by omega) (by omega) (by simp only[List.drop_zero];omega) (by omega)
  have hgo:i_pParser_or [.s s,.i 0,.b true]=_:=hgo
  simp only[List.drop_zero] at q2
  simp only[jS,hgo,call4,jI,jC,jD,i_gap hl i' ok q1,call3,C.B_b,C.I_i]
  simp only[pp,if_neg h200,hall,Bool.false_eq_true,if_false]
  cases hp:prs 1000 0 (lexT s.data.toList) with
  |none=>
   rw[hp] at q2
   simp only at q2
   subst q2
   simp[PR.ptr,PR.code]
  |some y=>
   obtain ⟨t,r⟩:=y
   rw[hp] at q2
   obtain ⟨rfl,rfl,q3,q4⟩:=q2
   have hgd:=gp_drop (s:=s) i'
   have hlt:=lexT_gap (s.data.toList.drop i')
   rw[q3,←hgd] at hlt
   simp only[jZ,ja,jR,jS]
   cases r with
   |cons x r=>
    have:(gp s i':Int)<(s.size:Int):=by
     rcases Nat.lt_or_ge (gp s i') s.size with h|h
     ·omega
     ·rw[sz_list] at h
      rw[List.drop_eq_nil_of_le h] at hlt
      simp[lexT] at hlt
    simp[this,PR.ptr,PR.code]
   |nil=>
    have:¬(gp s i':Int)<(s.size:Int):=by
     intro h
     have h:gp s i'<s.data.toList.length:=by rw[←sz_list];omega
     have h1:=(lex_nil _).1 hlt
     rw[hgd] at h1
     have h2:((s.data.toList.drop i').dropWhile sp).length=s.data.toList.length-gp s i':=by rw[←hgd];simp
     cases hq:(s.data.toList.drop i').dropWhile sp with
     |nil=>rw[hq] at h2;simp at h2;omega
     |cons x r=>
      have:=gap_head hq
      rw[hq] at h1
      simp[sp] at h1
      exact this h1.1
    obtain ⟨p,h1,h2,h3,h4⟩:=prs_wf _ _ _ _ _ hp
    have h5:t.sz≤400:=by
     have:=hlen.1
     rw[h1] at this
     simp at this
     omega
    have hdl:=t.depth_lt
    have hdep:i_pSel_depth [t.enc]=some [.i (t.depth:Nat)]:=i_depth FUEL t (by omega) (by simp only[big];omega)
    simp only[this,decide_false,jS,hdep,call1,jI,jC,C.I_i]
    by_cases hd:t.depth≤20
    ·have hd':¬(t.depth:Int)>20:=by omega
     simp only[hd',decide_false,jS,jV]
     simp[hd,PR.ptr,PR.code]
    ·have hd':(t.depth:Int)>20:=by omega
     simp only[hd',decide_true,jR,jV]
     simp[hd,PR.ptr,PR.code]
end Go.Ev
