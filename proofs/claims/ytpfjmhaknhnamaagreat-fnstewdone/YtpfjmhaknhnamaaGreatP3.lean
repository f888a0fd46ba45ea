/- Proved here: the law FnStewDone of the given program answers true at every input, and leaves the input as it was; no condition. This text: lemmas on the way (an evaluator of the program's code, sound once for all; the functions it prints; plain proofs on these). -/
import Derived.Test.YtpfjmhaknhnamaaGreatP2
set_option linter.all false
set_option autoImplicit false
set_option maxRecDepth 100000
namespace Go.Ev
open Go.Proofs
noncomputable section
def i_StewBook_ask_8.d1 (t0_0 t0_1 t0_2 t0_3 t0_4 t0_5 t0_6 : C) : R := (some (.ret [.b (t0_4.I == 4)]))
def i_StewBook_ask_8 : List C → Option (List C) := fun xs => finR (i_StewBook_ask_8.d1 (xs.getD 0 .nil) (xs.getD 1 .nil) (xs.getD 2 .nil) (xs.getD 3 .nil) (xs.getD 4 .nil) (xs.getD 5 .nil) (xs.getD 6 .nil))
def i_StewBook_ask_8_fs : FS := ⟨1, ⟨[(0, z11)], []⟩, ⟨[(0, zo)], []⟩, [], i_StewBook_ask_8⟩
theorem i_StewBook_ask_8_ok : FSOk Tryz.checked.prog T0 108 i_StewBook_ask_8_fs := okOf base0 (fn := Tryz.f108) (c := Tryz.f108.body.getD .skip) i_StewBook_ask_8_fs .leaf [] .nil (by kernel_rfl) (by kernel_rfl) (by kernel_rfl) (fun xs => by kernel_rfl)
def i_StewBook_ask_1_v1.d1 (t8 t9 a1296600 a2001 : C) : R := (bif (decide (t9.I < t8.I)) then (bif (decide (0 ≤ t9.I)) then (bif (decide (t9.I < (a2001.L.length : Int))) then (call1 (i_StewBook_ask_8 [((a2001.L.getD t9.I.toNat []).getD 0 .nil), ((a2001.L.getD t9.I.toNat []).getD 1 .nil), ((a2001.L.getD t9.I.toNat []).getD 2 .nil), ((a2001.L.getD t9.I.toNat []).getD 3 .nil), ((a2001.L.getD t9.I.toNat []).getD 4 .nil), ((a2001.L.getD t9.I.toNat []).getD 5 .nil), ((a2001.L.getD t9.I.toNat []).getD 6 .nil)]) fun y1_t0 => (bif y1_t0.B then (bif (decide (a1296600.L.length + (rows [[((a2001.L.getD t9.I.toNat []).getD 0 .nil), ((a2001.L.getD t9.I.toNat []).getD 1 .nil), ((a2001.L.getD t9.I.toNat []).getD 2 .nil), ((a2001.L.getD t9.I.toNat []).getD 3 .nil), ((a2001.L.getD t9.I.toNat []).getD 4 .nil), ((a2001.L.getD t9.I.toNat []).getD 5 .nil), ((a2001.L.getD t9.I.toNat []).getD 6 .nil)]]).length ≤ 4294967296)) then (some (.again [t8, .i (w64 (t9.I + 1)), .l (a1296600.L ++ (rows [[((a2001.L.getD t9.I.toNat []).getD 0 .nil), ((a2001.L.getD t9.I.toNat []).getD 1 .nil), ((a2001.L.getD t9.I.toNat []).getD 2 .nil), ((a2001.L.getD t9.I.toNat []).getD 3 .nil), ((a2001.L.getD t9.I.toNat []).getD 4 .nil), ((a2001.L.getD t9.I.toNat []).getD 5 .nil), ((a2001.L.getD t9.I.toNat []).getD 6 .nil)]])), .l a2001.L])) else none) else (some (.again [t8, .i (w64 (t9.I + 1)), .l a1296600.L, .l a2001.L])))) else none) else none) else (some (.brk 0 [.l a1296600.L, .l a2001.L])))
def i_StewBook_ask_1_v1.d2 (a1296600 a2001 : C) : R := (some (.ret [.l a1296600.L, .l a2001.L]))
def i_StewBook_ask_1_v1.d3 (a2001 : C) : R := (bindBlk 0 (lim (fun xs => i_StewBook_ask_1_v1.d1 (xs.getD 0 .nil) (xs.getD 1 .nil) (xs.getD 2 .nil) (xs.getD 3 .nil)) [.i (a2001.L.length : Int), .i 0, .l nils, .l a2001.L]) (fun xs => i_StewBook_ask_1_v1.d2 (xs.getD 0 .nil) (xs.getD 1 .nil)))
def i_StewBook_ask_1_v1 : List C → Option (List C) := fun xs => finR (i_StewBook_ask_1_v1.d3 (xs.getD 0 .nil))
def i_StewBook_ask_1_v1_fs : FS := ⟨2, ⟨[(0, (.fn 108 [])), (1, (.pt 2000 0))], [(2000, .var 24 [(.ow 2001)]), (2001, .arr 100)]⟩, ⟨[(0, (zl 100))], [(2000, .var 24 [(zl 100)])]⟩, [2000], i_StewBook_ask_1_v1⟩
theorem i_StewBook_ask_1_v1_ok : FSOk Tryz.checked.prog T0 98 i_StewBook_ask_1_v1_fs := okOf base0 (fn := Tryz.f98) (c := Tryz.f98.body.getD .skip) i_StewBook_ask_1_v1_fs (.seq .leaf (.seq .leaf (.seq (.seq .leaf (.block ⟨[(4, (.ow 1296600))], [(2000, .var 24 [(.ow 2001)]), (1296600, .arr 100), (2001, .arr 100)]⟩ (.loop ⟨[(0, (.fn 108 [])), (4, (.ow 1296600)), (7, (.ow 2001)), (8, zi), (9, zi)], [(2000, .var 24 [(.ow 2001)]), (1296600, .arr 100), (2001, .arr 100)]⟩ .leaf))) (.seq .leaf (.frz [2001, 1296600] .leaf))))) [(108, some 15, i_StewBook_ask_8_fs)] (.cons i_StewBook_ask_8_ok .nil) (by kernel_rfl) (by kernel_rfl) (by kernel_rfl) (fun xs => by kernel_rfl)
def i_StewBook_ask_6.d1 (t0 t1 b2000_0 b2000_1 b2000_2 b2000_3 b2000_4 b2000_5 b2000_7 a2001 : C) : R := (some (.ret [b2000_0, b2000_1, b2000_2, t0, t1, .b true, b2000_7, .b true, b2000_0, b2000_1, b2000_2, t0, t1, .b true, b2000_7, .l a2001.L]))
def i_StewBook_ask_6 : List C → Option (List C) := fun xs => finR (i_StewBook_ask_6.d1 (xs.getD 0 .nil) (xs.getD 1 .nil) (xs.getD 2 .nil) (xs.getD 3 .nil) (xs.getD 4 .nil) (xs.getD 5 .nil) (xs.getD 6 .nil) (xs.getD 7 .nil) (xs.getD 8 .nil) (xs.getD 9 .nil))
def i_StewBook_ask_6_fs : FS := ⟨3, ⟨[(0, zi), (1, zi), (2, (.pt 2000 0))], [(2000, z17), (2001, .arr 126)]⟩, ⟨[(0, (.tu [(.ag [zt, zi, zi, zi, zi, zo, (.ow 2001), zo]), zo]))], [(2000, z17), (2001, .arr 126)]⟩, [2000, 2001], i_StewBook_ask_6⟩
theorem i_StewBook_ask_6_ok : FSOk Tryz.checked.prog T0 106 i_StewBook_ask_6_fs := okOf base0 (fn := Tryz.f106) (c := Tryz.f106.body.getD .skip) i_StewBook_ask_6_fs .leaf [] .nil (by kernel_rfl) (by kernel_rfl) (by kernel_rfl) (fun xs => by kernel_rfl)
def i_StewBook_ask_9.d1 (t0_0 t0_1 t0_2 t0_3 t0_4 t0_5 t0_6 b2002_0 b2002_1 b2002_2 b2002_3 b2003_0 : C) : R := (call1 (i_StewBook_drained [.p [b2002_0, b2002_1, b2002_2, b2002_3], t0_0, t0_1, t0_2, t0_3, t0_4, t0_5, t0_6]) fun y1_t0 => (bif y1_t0.B then (call6 (i_StewBook_ask_2 [t0_0, t0_1, t0_2, t0_3, t0_4, t0_5, t0_6, b2003_0, b2002_0, b2002_1, b2002_2, b2002_3]) fun y2_t0 y2_b2001_0 y2_b2002_0 y2_b2002_1 y2_b2002_2 y2_b2002_3 => (some (.ret [.b y2_t0.B, y2_b2002_0, y2_b2002_1, y2_b2002_2, y2_b2002_3, y2_b2001_0]))) else (some (.ret [.b false, b2002_0, b2002_1, b2002_2, b2002_3, b2003_0]))))
def i_StewBook_ask_9 : List C → Option (List C) := fun xs => finR (i_StewBook_ask_9.d1 (xs.getD 0 .nil) (xs.getD 1 .nil) (xs.getD 2 .nil) (xs.getD 3 .nil) (xs.getD 4 .nil) (xs.getD 5 .nil) (xs.getD 6 .nil) (xs.getD 7 .nil) (xs.getD 8 .nil) (xs.getD 9 .nil) (xs.getD 10 .nil) (xs.getD 11 .nil))
def i_StewBook_ask_9_fs : FS := ⟨3, ⟨[(0, z11), (1, (.pt 2000 0)), (2, (.pt 2001 0))], [(2000, .var 143 [(.pt 2002 0)]), (2001, .var 103 [(.fn 99 [(.pt 2000 0), (.pt 2003 0)])]), (2002, z0), (2003, z14)]⟩, ⟨[(0, zo)], [(2000, .var 143 [(.pt 2002 0)]), (2001, .var 103 [(.fn 99 [(.pt 2000 0), (.pt 2003 0)])]), (2002, z0), (2003, z14)]⟩, [2000, 2001, 2002, 2003], i_StewBook_ask_9⟩
theorem i_StewBook_ask_9_ok : FSOk Tryz.checked.prog T0 109 i_StewBook_ask_9_fs := okOf base0 (fn := Tryz.f109) (c := Tryz.f109.body.getD .skip) i_StewBook_ask_9_fs .leaf [(52, some 7, i_StewBook_drained_fs), (99, some 11, i_StewBook_ask_2_fs)] (.cons i_StewBook_drained_ok (.cons i_StewBook_ask_2_ok .nil)) (by kernel_rfl) (by kernel_rfl) (by kernel_rfl) (fun xs => by kernel_rfl)
def i_StewBook_ask_1_v2.d1 (t8 t9 b2003_0 b2003_1 b2003_2 b2003_3 b2004_0 a1296600 a2005 : C) : R := (bif (decide (t9.I < t8.I)) then (bif (decide (0 ≤ t9.I)) then (bif (decide (t9.I < (a2005.L.length : Int))) then (call6 (i_StewBook_ask_9 [((a2005.L.getD t9.I.toNat []).getD 0 .nil), ((a2005.L.getD t9.I.toNat []).getD 1 .nil), ((a2005.L.getD t9.I.toNat []).getD 2 .nil), ((a2005.L.getD t9.I.toNat []).getD 3 .nil), ((a2005.L.getD t9.I.toNat []).getD 4 .nil), ((a2005.L.getD t9.I.toNat []).getD 5 .nil), ((a2005.L.getD t9.I.toNat []).getD 6 .nil), b2003_0, b2003_1, b2003_2, b2003_3, b2004_0]) fun y1_t0 y1_b2002_0 y1_b2002_1 y1_b2002_2 y1_b2002_3 y1_b2003_0 => (bif y1_t0.B then (bif (decide (a1296600.L.length + (rows [[((a2005.L.getD t9.I.toNat []).getD 0 .nil), ((a2005.L.getD t9.I.toNat []).getD 1 .nil), ((a2005.L.getD t9.I.toNat []).getD 2 .nil), ((a2005.L.getD t9.I.toNat []).getD 3 .nil), ((a2005.L.getD t9.I.toNat []).getD 4 .nil), ((a2005.L.getD t9.I.toNat []).getD 5 .nil), ((a2005.L.getD t9.I.toNat []).getD 6 .nil)]]).length ≤ 4294967296)) then (some (.again [t8, .i (w64 (t9.I + 1)), y1_b2002_0, y1_b2002_1, y1_b2002_2, y1_b2002_3, y1_b2003_0, .l (a1296600.L ++ (rows [[((a2005.L.getD t9.I.toNat []).getD 0 .nil), ((a2005.L.getD t9.I.toNat []).getD 1 .nil), ((a2005.L.getD t9.I.toNat []).getD 2 .nil), ((a2005.L.getD t9.I.toNat []).getD 3 .nil), ((a2005.L.getD t9.I.toNat []).getD 4 .nil), ((a2005.L.getD t9.I.toNat []).getD 5 .nil), ((a2005.L.getD t9.I.toNat []).getD 6 .nil)]])), .l a2005.L])) else none) else (some (.again [t8, .i (w64 (t9.I + 1)), y1_b2002_0, y1_b2002_1, y1_b2002_2, y1_b2002_3, y1_b2003_0, .l a1296600.L, .l a2005.L])))) else none) else none) else (some (.brk 0 [b2003_0, b2003_1, b2003_2, b2003_3, b2004_0, .l a1296600.L, .l a2005.L])))
def i_StewBook_ask_1_v2.d2 (b2003_0 b2003_1 b2003_2 b2003_3 b2004_0 a1296600 a2005 : C) : R := (some (.ret [.l a1296600.L, .l a2005.L, b2003_0, b2003_1, b2003_2, b2003_3, b2004_0]))
def i_StewBook_ask_1_v2.d3 (b2003_0 b2003_1 b2003_2 b2003_3 b2004_0 a2005 : C) : R := (bindBlk 0 (lim (fun xs => i_StewBook_ask_1_v2.d1 (xs.getD 0 .nil) (xs.getD 1 .nil) (xs.getD 2 .nil) (xs.getD 3 .nil) (xs.getD 4 .nil) (xs.getD 5 .nil) (xs.getD 6 .nil) (xs.getD 7 .nil) (xs.getD 8 .nil)) [.i (a2005.L.length : Int), .i 0, b2003_0, b2003_1, b2003_2, b2003_3, b2004_0, .l nils, .l a2005.L]) (fun xs => i_StewBook_ask_1_v2.d2 (xs.getD 0 .nil) (xs.getD 1 .nil) (xs.getD 2 .nil) (xs.getD 3 .nil) (xs.getD 4 .nil) (xs.getD 5 .nil) (xs.getD 6 .nil)))
def i_StewBook_ask_1_v2 : List C → Option (List C) := fun xs => finR (i_StewBook_ask_1_v2.d3 (xs.getD 0 .nil) (xs.getD 1 .nil) (xs.getD 2 .nil) (xs.getD 3 .nil) (xs.getD 4 .nil) (xs.getD 5 .nil))
def i_StewBook_ask_1_v2_fs : FS := ⟨2, ⟨[(0, (.fn 109 [(.pt 2000 0), (.pt 2001 0)])), (1, (.pt 2002 0))], [(2000, .var 143 [(.pt 2003 0)]), (2001, .var 103 [(.fn 99 [(.pt 2000 0), (.pt 2004 0)])]), (2002, .var 24 [(.ow 2005)]), (2003, z0), (2004, z14), (2005, .arr 100)]⟩, ⟨[(0, (zl 100))], [(2000, .var 143 [(.pt 2003 0)]), (2001, .var 103 [(.fn 99 [(.pt 2000 0), (.pt 2004 0)])]), (2002, .var 24 [(zl 100)]), (2003, z0), (2004, z14)]⟩, [2000, 2001, 2002, 2003, 2004], i_StewBook_ask_1_v2⟩
theorem i_StewBook_ask_1_v2_ok : FSOk Tryz.checked.prog T0 98 i_StewBook_ask_1_v2_fs := okOf base0 (fn := Tryz.f98) (c := Tryz.f98.body.getD .skip) i_StewBook_ask_1_v2_fs (.seq .leaf (.seq .leaf (.seq (.seq .leaf (.block ⟨[(4, (.ow 1296600))], [(2000, .var 143 [(.pt 2003 0)]), (2001, .var 103 [(.fn 99 [(.pt 2000 0), (.pt 2004 0)])]), (2002, .var 24 [(.ow 2005)]), (2003, z0), (2004, z14), (1296600, .arr 100), (2005, .arr 100)]⟩ (.loop ⟨[(0, (.fn 109 [(.pt 2000 0), (.pt 2001 0)])), (4, (.ow 1296600)), (7, (.ow 2005)), (8, zi), (9, zi)], [(2000, .var 143 [(.pt 2003 0)]), (2001, .var 103 [(.fn 99 [(.pt 2000 0), (.pt 2004 0)])]), (2002, .var 24 [(.ow 2005)]), (2003, z0), (2004, z14), (1296600, .arr 100), (2005, .arr 100)]⟩ .leaf))) (.seq .leaf (.frz [2005, 1296600] .leaf))))) [(109, some 15, i_StewBook_ask_9_fs)] (.cons i_StewBook_ask_9_ok .nil) (by kernel_rfl) (by kernel_rfl) (by kernel_rfl) (fun xs => by kernel_rfl)
def i_StewBook_ask.d1 (t1 t11 t37 t38 t39 t54 b2000_0 b2000_1 b2000_2 b2000_3 b5_0 b6_0 b6_1 b6_2 b6_3 b6_4 b6_5 b6_7 b8_0 b8_1 b8_2 b8_3 b8_4 b8_5 b8_7 b9_0 b9_1 b9_2 b9_3 b9_4 b13_0 b13_1 b13_2 b13_3 b13_4 b13_5 b13_6 a1262700 a1262701 a1262702 : C) : R := (bif t54.B then (bif (decide (a1262702.L.length + (rows [[b13_0, b13_1, b13_2, b13_3, b13_4, b13_5, b13_6]]).length ≤ 4294967296)) then (call1 (i_StewBook_drained [.p [b2000_0, b2000_1, b2000_2, b2000_3], b13_0, b13_1, b13_2, b13_3, b13_4, b13_5, b13_6]) fun y2_t0 => (call1 (i_one [.b y2_t0.B]) fun y3_t0 => (some (.again [t1, .i (w64 (t11.I + y3_t0.I)), t37, t38, .i (w64 (t39.I + 1)), b2000_0, b2000_1, b2000_2, b2000_3, b5_0, b6_0, b6_1, b6_2, b6_3, b6_4, b6_5, b6_7, b8_0, b8_1, b8_2, b8_3, b8_4, b8_5, b8_7, b9_0, b9_1, b9_2, b9_3, b9_4, .l a1262700.L, .l a1262701.L, .l (a1262702.L ++ (rows [[b13_0, b13_1, b13_2, b13_3, b13_4, b13_5, b13_6]]))])))) else none) else (some (.again [t1, t11, t37, t38, .i (w64 (t39.I + 1)), b2000_0, b2000_1, b2000_2, b2000_3, b5_0, b6_0, b6_1, b6_2, b6_3, b6_4, b6_5, b6_7, b8_0, b8_1, b8_2, b8_3, b8_4, b8_5, b8_7, b9_0, b9_1, b9_2, b9_3, b9_4, .l a1262700.L, .l a1262701.L, .l a1262702.L])))
def i_StewBook_ask.d2 (t1 t11 t37 t38 t39 b2000_0 b2000_1 b2000_2 b2000_3 b5_0 b6_0 b6_1 b6_2 b6_3 b6_4 b6_5 b6_7 b8_0 b8_1 b8_2 b8_3 b8_4 b8_5 b8_7 b9_0 b9_1 b9_2 b9_3 b9_4 a1262700 a1262701 a1262702 : C) : R := (bif (decide (t39.I < t38.I)) then (bif (decide (0 ≤ t39.I)) then (bif (decide (t39.I < (t37.L.length : Int))) then (bindNrm (bif b5_0.isP then (bif ((((t37.L.getD t39.I.toNat []).getD 0 .nil).S).toList == ((b5_0.P.getD 0 .nil).S).toList) then (some (.nrm [t1, t11, t37, t38, t39, .b (!(((t37.L.getD t39.I.toNat []).getD 5 .nil).B)), b2000_0, b2000_1, b2000_2, b2000_3, b5_0, b6_0, b6_1, b6_2, b6_3, b6_4, b6_5, b6_7, b8_0, b8_1, b8_2, b8_3, b8_4, b8_5, b8_7, b9_0, b9_1, b9_2, b9_3, b9_4, ((t37.L.getD t39.I.toNat []).getD 0 .nil), ((t37.L.getD t39.I.toNat []).getD 1 .nil), ((t37.L.getD t39.I.toNat []).getD 2 .nil), ((t37.L.getD t39.I.toNat []).getD 3 .nil), ((t37.L.getD t39.I.toNat []).getD 4 .nil), ((t37.L.getD t39.I.toNat []).getD 5 .nil), ((t37.L.getD t39.I.toNat []).getD 6 .nil), .l a1262700.L, .l a1262701.L, .l a1262702.L])) else (some (.nrm [t1, t11, t37, t38, t39, .b false, b2000_0, b2000_1, b2000_2, b2000_3, b5_0, b6_0, b6_1, b6_2, b6_3, b6_4, b6_5, b6_7, b8_0, b8_1, b8_2, b8_3, b8_4, b8_5, b8_7, b9_0, b9_1, b9_2, b9_3, b9_4, ((t37.L.getD t39.I.toNat []).getD 0 .nil), ((t37.L.getD t39.I.toNat []).getD 1 .nil), ((t37.L.getD t39.I.toNat []).getD 2 .nil), ((t37.L.getD t39.I.toNat []).getD 3 .nil), ((t37.L.getD t39.I.toNat []).getD 4 .nil), ((t37.L.getD t39.I.toNat []).getD 5 .nil), ((t37.L.getD t39.I.toNat []).getD 6 .nil), .l a1262700.L, .l a1262701.L, .l a1262702.L]))) else none) (fun xs => i_StewBook_ask.d1 (xs.getD 0 .nil) (xs.getD 1 .nil) (xs.getD 2 .nil) (xs.getD 3 .nil) (xs.getD 4 .nil) (xs.getD 5 .nil) (xs.getD 6 .nil) (xs.getD 7 .nil) (xs.getD 8 .nil) (xs.getD 9 .nil) (xs.getD 10 .nil) (xs.getD 11 .nil) (xs.getD 12 .nil) (xs.getD 13 .nil) (xs.getD 14 .nil) (xs.getD 15 .nil) (xs.getD 16 .nil) (xs.getD 17 .nil) (xs.getD 18 .nil) (xs.getD 19 .nil) (xs.getD 20 .nil) (xs.getD 21 .nil) (xs.getD 22 .nil) (xs.getD 23 .nil) (xs.getD 24 .nil) (xs.getD 25 .nil) (xs.getD 26 .nil) (xs.getD 27 .nil) (xs.getD 28 .nil) (xs.getD 29 .nil) (xs.getD 30 .nil) (xs.getD 31 .nil) (xs.getD 32 .nil) (xs.getD 33 .nil) (xs.getD 34 .nil) (xs.getD 35 .nil) (xs.getD 36 .nil) (xs.getD 37 .nil) (xs.getD 38 .nil) (xs.getD 39 .nil))) else none) else none) else (some (.brk 0 [t1, t11, b2000_0, b2000_1, b2000_2, b2000_3, b5_0, b6_0, b6_1, b6_2, b6_3, b6_4, b6_5, b6_7, b8_0, b8_1, b8_2, b8_3, b8_4, b8_5, b8_7, b9_0, b9_1, b9_2, b9_3, b9_4, .l a1262700.L, .l a1262701.L, .l a1262702.L])))
def i_StewBook_ask.d3 (t147 b2000_0 b2000_1 b2000_2 b2000_3 b5_0 b6_0 b6_1 b6_2 b6_3 b6_4 b6_5 b6_7 b8_0 b8_1 b8_2 b8_3 b8_4 b8_5 b8_7 a1262700 a1262701 a1262702 : C) : R := (bif t147.B then (call7 (i_StewBook_first [.p [b2000_0, b2000_1, b2000_2, b2000_3], b5_0, .l a1262702.L]) fun y6_t0_0 y6_t0_1 y6_t0_2 y6_t0_3 y6_t0_4 y6_t0_5 y6_t0_6 => (call6 (i_StewBook_ask_2 [y6_t0_0, y6_t0_1, y6_t0_2, y6_t0_3, y6_t0_4, y6_t0_5, y6_t0_6, b5_0, b2000_0, b2000_1, b2000_2, b2000_3]) fun y7_t0 y7_b2001_0 y7_b2002_0 y7_b2002_1 y7_b2002_2 y7_b2002_3 => (bif y7_t0.B then (call17 (i_StewBook_ask_3_v1 [.l (rows [[y6_t0_0, y6_t0_1, y6_t0_2, y6_t0_3, y6_t0_4, y6_t0_5, y6_t0_6]]), b8_0, b8_1, b8_2, b8_3, b8_4, b8_5, b8_7, .l a1262701.L]) fun y8_t0_0_0 y8_t0_0_1 y8_t0_0_2 y8_t0_0_3 y8_t0_0_4 y8_t0_0_5 y8_t0_0_7 y8_t0_1 y8_a2000 y8_b2001_0 y8_b2001_1 y8_b2001_2 y8_b2001_3 y8_b2001_4 y8_b2001_5 y8_b2001_7 y8_a2002 => (some (.ret [y8_t0_0_0, y8_t0_0_1, y8_t0_0_2, y8_t0_0_3, y8_t0_0_4, y8_t0_0_5, y8_t0_0_7, .b y8_t0_1.B, y7_b2002_0, y7_b2002_1, y7_b2002_2, y7_b2002_3, .l y8_a2002.L]))) else (some (.ret [b8_0, b8_1, b8_2, b8_3, b8_4, b8_5, b8_7, .b false, y7_b2002_0, y7_b2002_1, y7_b2002_2, y7_b2002_3, .l a1262701.L]))))) else (some (.ret [b8_0, b8_1, b8_2, b8_3, b8_4, b8_5, b8_7, .b false, b2000_0, b2000_1, b2000_2, b2000_3, .l a1262701.L])))
def i_StewBook_ask.d4 (t21 t265 b2000_0 b2000_1 b2000_2 b2000_3 b5_0 b6_0 b6_1 b6_2 b6_3 b6_4 b6_5 b6_7 b8_0 b8_1 b8_2 b8_3 b8_4 b8_5 b8_7 a1262700 a1262701 : C) : R := (bif t265.B then (bif b5_0.isP then (call16 (i_StewBook_ask_6 [.i (w64 ((b5_0.P.getD 4 .nil).I - 1)), .i 0, b8_0, b8_1, b8_2, b8_3, b8_4, b8_5, b8_7, .l a1262701.L]) fun y18_t0_0_0 y18_t0_0_1 y18_t0_0_2 y18_t0_0_3 y18_t0_0_4 y18_t0_0_5 y18_t0_0_7 y18_t0_1 y18_b2000_0 y18_b2000_1 y18_b2000_2 y18_b2000_3 y18_b2000_4 y18_b2000_5 y18_b2000_7 y18_a2001 => (some (.ret [y18_t0_0_0, y18_t0_0_1, y18_t0_0_2, y18_t0_0_3, y18_t0_0_4, y18_t0_0_5, y18_t0_0_7, .b y18_t0_1.B, b2000_0, b2000_1, b2000_2, b2000_3, .l y18_a2001.L]))) else none) else (bif b5_0.isP then (bif (decide (t21.I < (b5_0.P.getD 4 .nil).I)) then (bif b5_0.isP then (bif b5_0.isP then (call16 (i_StewBook_ask_6 [(b5_0.P.getD 4 .nil), .i (w64 ((b5_0.P.getD 12 .nil).I + 1)), b8_0, b8_1, b8_2, b8_3, b8_4, b8_5, b8_7, .l a1262701.L]) fun y19_t0_0_0 y19_t0_0_1 y19_t0_0_2 y19_t0_0_3 y19_t0_0_4 y19_t0_0_5 y19_t0_0_7 y19_t0_1 y19_b2000_0 y19_b2000_1 y19_b2000_2 y19_b2000_3 y19_b2000_4 y19_b2000_5 y19_b2000_7 y19_a2001 => (some (.ret [y19_t0_0_0, y19_t0_0_1, y19_t0_0_2, y19_t0_0_3, y19_t0_0_4, y19_t0_0_5, y19_t0_0_7, .b y19_t0_1.B, b2000_0, b2000_1, b2000_2, b2000_3, .l y19_a2001.L]))) else none) else none) else (bif b5_0.isP then (bif ((b5_0.P.getD 12 .nil).I != 0) then (bif b5_0.isP then (call16 (i_StewBook_ask_6 [(b5_0.P.getD 4 .nil), .i 0, b8_0, b8_1, b8_2, b8_3, b8_4, b8_5, b8_7, .l a1262701.L]) fun y20_t0_0_0 y20_t0_0_1 y20_t0_0_2 y20_t0_0_3 y20_t0_0_4 y20_t0_0_5 y20_t0_0_7 y20_t0_1 y20_b2000_0 y20_b2000_1 y20_b2000_2 y20_b2000_3 y20_b2000_4 y20_b2000_5 y20_b2000_7 y20_a2001 => (some (.ret [y20_t0_0_0, y20_t0_0_1, y20_t0_0_2, y20_t0_0_3, y20_t0_0_4, y20_t0_0_5, y20_t0_0_7, .b y20_t0_1.B, b2000_0, b2000_1, b2000_2, b2000_3, .l y20_a2001.L]))) else none) else (some (.ret [b8_0, b8_1, b8_2, b8_3, b8_4, b8_5, b8_7, .b false, b2000_0, b2000_1, b2000_2, b2000_3, .l a1262701.L]))) else none)) else none))
def i_StewBook_ask.d5 (t1 t11 b2000_0 b2000_1 b2000_2 b2000_3 b5_0 b6_0 b6_1 b6_2 b6_3 b6_4 b6_5 b6_7 b8_0 b8_1 b8_2 b8_3 b8_4 b8_5 b8_7 b9_0 b9_1 b9_2 b9_3 b9_4 a1262700 a1262701 a1262702 : C) : R := (bif (t1.I == 1) then (bif b5_0.isP then (bif (decide (b9_0.I < (b5_0.P.getD 4 .nil).I)) then (bif b5_0.isP then (call16 (i_StewBook_ask_4 [.i (w64 ((b5_0.P.getD 4 .nil).I - b9_0.I)), b8_0, b8_1, b8_2, b8_3, b8_4, b8_5, b8_7, .l a1262701.L]) fun y5_t0_0_0 y5_t0_0_1 y5_t0_0_2 y5_t0_0_3 y5_t0_0_4 y5_t0_0_5 y5_t0_0_7 y5_t0_1 y5_b2000_0 y5_b2000_1 y5_b2000_2 y5_b2000_3 y5_b2000_4 y5_b2000_5 y5_b2000_7 y5_a2001 => (some (.ret [y5_t0_0_0, y5_t0_0_1, y5_t0_0_2, y5_t0_0_3, y5_t0_0_4, y5_t0_0_5, y5_t0_0_7, .b y5_t0_1.B, b2000_0, b2000_1, b2000_2, b2000_3, .l y5_a2001.L]))) else none) else (bindNrm (bif b5_0.isP then (bif (decide (b9_0.I > (b5_0.P.getD 4 .nil).I)) then (bif (b9_2.I == 0) then (bif (!(t11.I == 0)) then (bif b5_0.isP then (bif b5_0.isP then (some (.nrm [.b (decide (b9_0.I > (w64 ((b5_0.P.getD 4 .nil).I + (b5_0.P.getD 6 .nil).I)))), b2000_0, b2000_1, b2000_2, b2000_3, b5_0, b6_0, b6_1, b6_2, b6_3, b6_4, b6_5, b6_7, b8_0, b8_1, b8_2, b8_3, b8_4, b8_5, b8_7, .l a1262700.L, .l a1262701.L, .l a1262702.L])) else none) else none) else (some (.nrm [.b true, b2000_0, b2000_1, b2000_2, b2000_3, b5_0, b6_0, b6_1, b6_2, b6_3, b6_4, b6_5, b6_7, b8_0, b8_1, b8_2, b8_3, b8_4, b8_5, b8_7, .l a1262700.L, .l a1262701.L, .l a1262702.L]))) else (bif b5_0.isP then (bif b5_0.isP then (some (.nrm [.b (decide (b9_0.I > (w64 ((b5_0.P.getD 4 .nil).I + (b5_0.P.getD 6 .nil).I)))), b2000_0, b2000_1, b2000_2, b2000_3, b5_0, b6_0, b6_1, b6_2, b6_3, b6_4, b6_5, b6_7, b8_0, b8_1, b8_2, b8_3, b8_4, b8_5, b8_7, .l a1262700.L, .l a1262701.L, .l a1262702.L])) else none) else none)) else (some (.nrm [.b false, b2000_0, b2000_1, b2000_2, b2000_3, b5_0, b6_0, b6_1, b6_2, b6_3, b6_4, b6_5, b6_7, b8_0, b8_1, b8_2, b8_3, b8_4, b8_5, b8_7, .l a1262700.L, .l a1262701.L, .l a1262702.L]))) else none) (fun xs => i_StewBook_ask.d3 (xs.getD 0 .nil) (xs.getD 1 .nil) (xs.getD 2 .nil) (xs.getD 3 .nil) (xs.getD 4 .nil) (xs.getD 5 .nil) (xs.getD 6 .nil) (xs.getD 7 .nil) (xs.getD 8 .nil) (xs.getD 9 .nil) (xs.getD 10 .nil) (xs.getD 11 .nil) (xs.getD 12 .nil) (xs.getD 13 .nil) (xs.getD 14 .nil) (xs.getD 15 .nil) (xs.getD 16 .nil) (xs.getD 17 .nil) (xs.getD 18 .nil) (xs.getD 19 .nil) (xs.getD 20 .nil) (xs.getD 21 .nil) (xs.getD 22 .nil)))) else none) else (bif (t1.I == 2) then (bif (!(b9_2.I == 0)) then (bif b5_0.isP then (bif (decide (b9_0.I < (b5_0.P.getD 4 .nil).I)) then (some (.ret [b8_0, b8_1, b8_2, b8_3, b8_4, b8_5, b8_7, .b false, b2000_0, b2000_1, b2000_2, b2000_3, .l a1262701.L])) else (bif b5_0.isP then (bif b5_0.isP then (bif (decide (b9_0.I < (w64 ((b5_0.P.getD 4 .nil).I + (b5_0.P.getD 6 .nil).I)))) then (call16 (i_StewBook_ask_4 [.i 1, b8_0, b8_1, b8_2, b8_3, b8_4, b8_5, b8_7, .l a1262701.L]) fun y9_t0_0_0 y9_t0_0_1 y9_t0_0_2 y9_t0_0_3 y9_t0_0_4 y9_t0_0_5 y9_t0_0_7 y9_t0_1 y9_b2000_0 y9_b2000_1 y9_b2000_2 y9_b2000_3 y9_b2000_4 y9_b2000_5 y9_b2000_7 y9_a2001 => (some (.ret [y9_t0_0_0, y9_t0_0_1, y9_t0_0_2, y9_t0_0_3, y9_t0_0_4, y9_t0_0_5, y9_t0_0_7, .b y9_t0_1.B, b2000_0, b2000_1, b2000_2, b2000_3, .l y9_a2001.L]))) else (call7 (i_StewBook_ask_1 [b5_0, .l a1262702.L, b2000_0, b2000_1, b2000_2, b2000_3]) fun y10_t0 y10_b2000_0 y10_b2002_0 y10_b2005_0 y10_b2005_1 y10_b2005_2 y10_b2005_3 => (call21 (i_StewBook_ask_5 [y10_t0, b8_0, b8_1, b8_2, b8_3, b8_4, b8_5, b8_7, y10_b2000_0, .l a1262701.L, y10_b2005_0, y10_b2005_1, y10_b2005_2, y10_b2005_3]) fun y11_t0_0_0 y11_t0_0_1 y11_t0_0_2 y11_t0_0_3 y11_t0_0_4 y11_t0_0_5 y11_t0_0_7 y11_t0_1 y11_b2000_0 y11_b2000_1 y11_b2000_2 y11_b2000_3 y11_b2000_4 y11_b2000_5 y11_b2000_7 y11_b2003_0 y11_b2005_0 y11_b2005_1 y11_b2005_2 y11_b2005_3 y11_a2004 => (some (.ret [y11_t0_0_0, y11_t0_0_1, y11_t0_0_2, y11_t0_0_3, y11_t0_0_4, y11_t0_0_5, y11_t0_0_7, .b y11_t0_1.B, y11_b2005_0, y11_b2005_1, y11_b2005_2, y11_b2005_3, .l y11_a2004.L]))))) else none) else none)) else none) else (some (.ret [b8_0, b8_1, b8_2, b8_3, b8_4, b8_5, b8_7, .b false, b2000_0, b2000_1, b2000_2, b2000_3, .l a1262701.L]))) else (bif (t1.I == 3) then (call2 (i_StewBook_ask_1_v1 [.l a1262702.L]) fun y12_t0 y12_b2000_0 => (call16 (i_StewBook_ask_3 [y12_t0, b8_0, b8_1, b8_2, b8_3, b8_4, b8_5, b8_7, .l a1262701.L]) fun y13_t0_0_0 y13_t0_0_1 y13_t0_0_2 y13_t0_0_3 y13_t0_0_4 y13_t0_0_5 y13_t0_0_7 y13_t0_1 y13_b2000_0 y13_b2000_1 y13_b2000_2 y13_b2000_3 y13_b2000_4 y13_b2000_5 y13_b2000_7 y13_a2001 => (some (.ret [y13_t0_0_0, y13_t0_0_1, y13_t0_0_2, y13_t0_0_3, y13_t0_0_4, y13_t0_0_5, y13_t0_0_7, .b y13_t0_1.B, b2000_0, b2000_1, b2000_2, b2000_3, .l y13_a2001.L])))) else (bif (t1.I == 4) then (bif b5_0.isP then (bif ((b5_0.P.getD 8 .nil).I == 0) then (some (.ret [b8_0, b8_1, b8_2, b8_3, b8_4, b8_5, b8_7, .b false, b2000_0, b2000_1, b2000_2, b2000_3, .l a1262701.L])) else (call1 (i_demand [b5_0]) fun y14_t0 => (bif b5_0.isP then (bif b5_0.isP then (bif (decide ((b5_0.P.getD 4 .nil).I < (b5_0.P.getD 9 .nil).I)) then (bif b5_0.isP then (call16 (i_StewBook_ask_6 [(b5_0.P.getD 9 .nil), .i 0, b8_0, b8_1, b8_2, b8_3, b8_4, b8_5, b8_7, .l a1262701.L]) fun y15_t0_0_0 y15_t0_0_1 y15_t0_0_2 y15_t0_0_3 y15_t0_0_4 y15_t0_0_5 y15_t0_0_7 y15_t0_1 y15_b2000_0 y15_b2000_1 y15_b2000_2 y15_b2000_3 y15_b2000_4 y15_b2000_5 y15_b2000_7 y15_a2001 => (some (.ret [y15_t0_0_0, y15_t0_0_1, y15_t0_0_2, y15_t0_0_3, y15_t0_0_4, y15_t0_0_5, y15_t0_0_7, .b y15_t0_1.B, b2000_0, b2000_1, b2000_2, b2000_3, .l y15_a2001.L]))) else none) else (bif b5_0.isP then (bif b5_0.isP then (bif (decide ((b5_0.P.getD 4 .nil).I > (b5_0.P.getD 10 .nil).I)) then (bif b5_0.isP then (call16 (i_StewBook_ask_6 [(b5_0.P.getD 10 .nil), .i 0, b8_0, b8_1, b8_2, b8_3, b8_4, b8_5, b8_7, .l a1262701.L]) fun y16_t0_0_0 y16_t0_0_1 y16_t0_0_2 y16_t0_0_3 y16_t0_0_4 y16_t0_0_5 y16_t0_0_7 y16_t0_1 y16_b2000_0 y16_b2000_1 y16_b2000_2 y16_b2000_3 y16_b2000_4 y16_b2000_5 y16_b2000_7 y16_a2001 => (some (.ret [y16_t0_0_0, y16_t0_0_1, y16_t0_0_2, y16_t0_0_3, y16_t0_0_4, y16_t0_0_5, y16_t0_0_7, .b y16_t0_1.B, b2000_0, b2000_1, b2000_2, b2000_3, .l y16_a2001.L]))) else none) else (bif b5_0.isP then (bif (decide (y14_t0.I > (b5_0.P.getD 4 .nil).I)) then (call16 (i_StewBook_ask_6 [y14_t0, .i 0, b8_0, b8_1, b8_2, b8_3, b8_4, b8_5, b8_7, .l a1262701.L]) fun y17_t0_0_0 y17_t0_0_1 y17_t0_0_2 y17_t0_0_3 y17_t0_0_4 y17_t0_0_5 y17_t0_0_7 y17_t0_1 y17_b2000_0 y17_b2000_1 y17_b2000_2 y17_b2000_3 y17_b2000_4 y17_b2000_5 y17_b2000_7 y17_a2001 => (some (.ret [y17_t0_0_0, y17_t0_0_1, y17_t0_0_2, y17_t0_0_3, y17_t0_0_4, y17_t0_0_5, y17_t0_0_7, .b y17_t0_1.B, b2000_0, b2000_1, b2000_2, b2000_3, .l y17_a2001.L]))) else (bindNrm (bif b5_0.isP then (bif (decide (y14_t0.I < (b5_0.P.getD 4 .nil).I)) then (bif b5_0.isP then (some (.nrm [y14_t0, .b ((b5_0.P.getD 12 .nil).I == 3), b2000_0, b2000_1, b2000_2, b2000_3, b5_0, b6_0, b6_1, b6_2, b6_3, b6_4, b6_5, b6_7, b8_0, b8_1, b8_2, b8_3, b8_4, b8_5, b8_7, .l a1262700.L, .l a1262701.L])) else none) else (some (.nrm [y14_t0, .b false, b2000_0, b2000_1, b2000_2, b2000_3, b5_0, b6_0, b6_1, b6_2, b6_3, b6_4, b6_5, b6_7, b8_0, b8_1, b8_2, b8_3, b8_4, b8_5, b8_7, .l a1262700.L, .l a1262701.L]))) else none) (fun xs => i_StewBook_ask.d4 (xs.getD 0 .nil) (xs.getD 1 .nil) (xs.getD 2 .nil) (xs.getD 3 .nil) (xs.getD 4 .nil) (xs.getD 5 .nil) (xs.getD 6 .nil) (xs.getD 7 .nil) (xs.getD 8 .nil) (xs.getD 9 .nil) (xs.getD 10 .nil) (xs.getD 11 .nil) (xs.getD 12 .nil) (xs.getD 13 .nil) (xs.getD 14 .nil) (xs.getD 15 .nil) (xs.getD 16 .nil) (xs.getD 17 .nil) (xs.getD 18 .nil) (xs.getD 19 .nil) (xs.getD 20 .nil) (xs.getD 21 .nil) (xs.getD 22 .nil)))) else none)) else none) else none)) else none) else none))) else none) else (bif (t1.I == 6) then (bif (!(decide (b9_2.I > 0))) then (bif (!(t11.I == 0)) then (bif b5_0.isP then (bif (decide (b9_0.I < (b5_0.P.getD 4 .nil).I)) then (some (.ret [b8_0, b8_1, b8_2, b8_3, b8_4, b8_5, b8_7, .b false, b2000_0, b2000_1, b2000_2, b2000_3, .l a1262701.L])) else (bif b5_0.isP then (bif b5_0.isP then (bif (decide (b9_0.I < (w64 ((b5_0.P.getD 4 .nil).I + (b5_0.P.getD 6 .nil).I)))) then (call16 (i_StewBook_ask_4 [.i 1, b8_0, b8_1, b8_2, b8_3, b8_4, b8_5, b8_7, .l a1262701.L]) fun y21_t0_0_0 y21_t0_0_1 y21_t0_0_2 y21_t0_0_3 y21_t0_0_4 y21_t0_0_5 y21_t0_0_7 y21_t0_1 y21_b2000_0 y21_b2000_1 y21_b2000_2 y21_b2000_3 y21_b2000_4 y21_b2000_5 y21_b2000_7 y21_a2001 => (some (.ret [y21_t0_0_0, y21_t0_0_1, y21_t0_0_2, y21_t0_0_3, y21_t0_0_4, y21_t0_0_5, y21_t0_0_7, .b y21_t0_1.B, b2000_0, b2000_1, b2000_2, b2000_3, .l y21_a2001.L]))) else (call7 (i_StewBook_ask_1_v2 [b2000_0, b2000_1, b2000_2, b2000_3, b5_0, .l a1262702.L]) fun y22_t0 y22_b2002_0 y22_b2003_0 y22_b2003_1 y22_b2003_2 y22_b2003_3 y22_b2004_0 => (call21 (i_StewBook_ask_5 [y22_t0, b8_0, b8_1, b8_2, b8_3, b8_4, b8_5, b8_7, y22_b2004_0, .l a1262701.L, y22_b2003_0, y22_b2003_1, y22_b2003_2, y22_b2003_3]) fun y23_t0_0_0 y23_t0_0_1 y23_t0_0_2 y23_t0_0_3 y23_t0_0_4 y23_t0_0_5 y23_t0_0_7 y23_t0_1 y23_b2000_0 y23_b2000_1 y23_b2000_2 y23_b2000_3 y23_b2000_4 y23_b2000_5 y23_b2000_7 y23_b2003_0 y23_b2005_0 y23_b2005_1 y23_b2005_2 y23_b2005_3 y23_a2004 => (some (.ret [y23_t0_0_0, y23_t0_0_1, y23_t0_0_2, y23_t0_0_3, y23_t0_0_4, y23_t0_0_5, y23_t0_0_7, .b y23_t0_1.B, y23_b2005_0, y23_b2005_1, y23_b2005_2, y23_b2005_3, .l y23_a2004.L]))))) else none) else none)) else none) else (some (.ret [b8_0, b8_1, b8_2, b8_3, b8_4, b8_5, b8_7, .b false, b2000_0, b2000_1, b2000_2, b2000_3, .l a1262701.L]))) else (some (.ret [b8_0, b8_1, b8_2, b8_3, b8_4, b8_5, b8_7, .b false, b2000_0, b2000_1, b2000_2, b2000_3, .l a1262701.L]))) else (some (.ret [b8_0, b8_1, b8_2, b8_3, b8_4, b8_5, b8_7, .b false, b2000_0, b2000_1, b2000_2, b2000_3, .l a1262701.L])))))))
def i_StewBook_ask.d6 (t1 t11 b2000_0 b2000_1 b2000_2 b2000_3 b5_0 b6_0 b6_1 b6_2 b6_3 b6_4 b6_5 b6_7 b8_0 b8_1 b8_2 b8_3 b8_4 b8_5 b8_7 b9_0 b9_1 b9_2 b9_3 b9_4 a1262700 a1262701 a1262702 : C) : R := (bindNrm (bif b5_0.isP then (bif (b5_0.P.getD 2 .nil).B then (bif (t1.I == 3) then (some (.nrm [t1, t11, b2000_0, b2000_1, b2000_2, b2000_3, b5_0, b6_0, b6_1, b6_2, b6_3, b6_4, b6_5, b6_7, b8_0, b8_1, b8_2, b8_3, b8_4, b8_5, b8_7, b9_0, b9_1, b9_2, b9_3, b9_4, .l a1262700.L, .l a1262701.L, .l a1262702.L])) else (bif (t1.I != 5) then (some (.ret [b8_0, b8_1, b8_2, b8_3, b8_4, b8_5, b8_7, .b false, b2000_0, b2000_1, b2000_2, b2000_3, .l a1262701.L])) else (bif (decide ((a1262702.L.length : Int) > 0)) then (call16 (i_StewBook_ask_3 [.l a1262702.L, b8_0, b8_1, b8_2, b8_3, b8_4, b8_5, b8_7, .l a1262701.L]) fun y4_t0_0_0 y4_t0_0_1 y4_t0_0_2 y4_t0_0_3 y4_t0_0_4 y4_t0_0_5 y4_t0_0_7 y4_t0_1 y4_b2000_0 y4_b2000_1 y4_b2000_2 y4_b2000_3 y4_b2000_4 y4_b2000_5 y4_b2000_7 y4_a2001 => (some (.ret [y4_t0_0_0, y4_t0_0_1, y4_t0_0_2, y4_t0_0_3, y4_t0_0_4, y4_t0_0_5, y4_t0_0_7, .b y4_t0_1.B, b2000_0, b2000_1, b2000_2, b2000_3, .l y4_a2001.L]))) else (some (.ret [b8_0, b8_1, b8_2, b8_3, b8_4, b8_5, .b true, .b (b9_4.I == 0), b2000_0, b2000_1, b2000_2, b2000_3, .l a1262701.L]))))) else (some (.nrm [t1, t11, b2000_0, b2000_1, b2000_2, b2000_3, b5_0, b6_0, b6_1, b6_2, b6_3, b6_4, b6_5, b6_7, b8_0, b8_1, b8_2, b8_3, b8_4, b8_5, b8_7, b9_0, b9_1, b9_2, b9_3, b9_4, .l a1262700.L, .l a1262701.L, .l a1262702.L]))) else none) (fun xs => i_StewBook_ask.d5 (xs.getD 0 .nil) (xs.getD 1 .nil) (xs.getD 2 .nil) (xs.getD 3 .nil) (xs.getD 4 .nil) (xs.getD 5 .nil) (xs.getD 6 .nil) (xs.getD 7 .nil) (xs.getD 8 .nil) (xs.getD 9 .nil) (xs.getD 10 .nil) (xs.getD 11 .nil) (xs.getD 12 .nil) (xs.getD 13 .nil) (xs.getD 14 .nil) (xs.getD 15 .nil) (xs.getD 16 .nil) (xs.getD 17 .nil) (xs.getD 18 .nil) (xs.getD 19 .nil) (xs.getD 20 .nil) (xs.getD 21 .nil) (xs.getD 22 .nil) (xs.getD 23 .nil) (xs.getD 24 .nil) (xs.getD 25 .nil) (xs.getD 26 .nil) (xs.getD 27 .nil) (xs.getD 28 .nil)))
def i_StewBook_ask.d7 (t1 t2 b2000_0 b2000_1 b2000_2 b2000_3 : C) : R := (bif t2.isP then (bif t2.isP then (call5 (i_StewBook_count [.p [b2000_0, b2000_1, b2000_2, b2000_3], t2]) fun y1_t0_0 y1_t0_1 y1_t0_2 y1_t0_3 y1_t0_4 => (bindBlk 0 (lim (fun xs => i_StewBook_ask.d2 (xs.getD 0 .nil) (xs.getD 1 .nil) (xs.getD 2 .nil) (xs.getD 3 .nil) (xs.getD 4 .nil) (xs.getD 5 .nil) (xs.getD 6 .nil) (xs.getD 7 .nil) (xs.getD 8 .nil) (xs.getD 9 .nil) (xs.getD 10 .nil) (xs.getD 11 .nil) (xs.getD 12 .nil) (xs.getD 13 .nil) (xs.getD 14 .nil) (xs.getD 15 .nil) (xs.getD 16 .nil) (xs.getD 17 .nil) (xs.getD 18 .nil) (xs.getD 19 .nil) (xs.getD 20 .nil) (xs.getD 21 .nil) (xs.getD 22 .nil) (xs.getD 23 .nil) (xs.getD 24 .nil) (xs.getD 25 .nil) (xs.getD 26 .nil) (xs.getD 27 .nil) (xs.getD 28 .nil) (xs.getD 29 .nil) (xs.getD 30 .nil) (xs.getD 31 .nil)) [t1, .i 0, b2000_2, .i (b2000_2.L.length : Int), .i 0, b2000_0, b2000_1, b2000_2, b2000_3, t2, .s (bs #[]), .i 0, .i 0, .i 0, .i 0, .b false, .b false, (t2.P.getD 0 .nil), (t2.P.getD 1 .nil), .i 0, .i 0, .i 0, .b false, .b false, y1_t0_0, y1_t0_1, y1_t0_2, y1_t0_3, y1_t0_4, .l nils, .l nils, .l nils]) (fun xs => i_StewBook_ask.d6 (xs.getD 0 .nil) (xs.getD 1 .nil) (xs.getD 2 .nil) (xs.getD 3 .nil) (xs.getD 4 .nil) (xs.getD 5 .nil) (xs.getD 6 .nil) (xs.getD 7 .nil) (xs.getD 8 .nil) (xs.getD 9 .nil) (xs.getD 10 .nil) (xs.getD 11 .nil) (xs.getD 12 .nil) (xs.getD 13 .nil) (xs.getD 14 .nil) (xs.getD 15 .nil) (xs.getD 16 .nil) (xs.getD 17 .nil) (xs.getD 18 .nil) (xs.getD 19 .nil) (xs.getD 20 .nil) (xs.getD 21 .nil) (xs.getD 22 .nil) (xs.getD 23 .nil) (xs.getD 24 .nil) (xs.getD 25 .nil) (xs.getD 26 .nil) (xs.getD 27 .nil) (xs.getD 28 .nil)))) else none) else none)
def i_StewBook_ask : List C → Option (List C) := fun xs => finR (i_StewBook_ask.d7 (xs.getD 0 .nil) (xs.getD 1 .nil) (xs.getD 2 .nil) (xs.getD 3 .nil) (xs.getD 4 .nil) (xs.getD 5 .nil))
def i_StewBook_ask_fs : FS := ⟨3, ⟨[(0, (.pt 2000 0)), (1, zi), (2, (.d (.pt 38)))], [(2000, z0)]⟩, ⟨[(0, (.tu [(.ag [zt, zi, zi, zi, zi, zo, (.ow 3001), zo]), zo]))], [(2000, z0), (3001, .arr 126)]⟩, [2000], i_StewBook_ask⟩
theorem i_StewBook_ask_ok : FSOk Tryz.checked.prog T0 58 i_StewBook_ask_fs := okOf base0 (fn := Tryz.f58) (c := Tryz.f58.body.getD .skip) i_StewBook_ask_fs (.seq .leaf (.seq .leaf (.seq .leaf (.seq .leaf (.seq .leaf (.seq (.seq .leaf (.block ⟨[(1, zi), (3, (.pt 3 0)), (5, (.pt 5 0)), (6, (.pt 6 0)), (8, (.pt 8 0)), (9, (.pt 9 0)), (10, (.pt 10 0)), (11, zi)], [(2000, z0), (3, .var 143 [(.pt 2000 0)]), (5, z14), (6, z21), (8, z22), (9, z12), (10, .var 24 [(.ow 1262702)]), (1262700, .arr 126), (1262701, .arr 126), (1262702, .arr 100)]⟩ (.loop ⟨[(1, zi), (3, (.pt 3 0)), (5, (.pt 5 0)), (6, (.pt 6 0)), (8, (.pt 8 0)), (9, (.pt 9 0)), (10, (.pt 10 0)), (11, zi), (37, (zl 100)), (38, zi), (39, zi)], [(2000, z0), (3, .var 143 [(.pt 2000 0)]), (5, z14), (6, z21), (8, z22), (9, z12), (10, .var 24 [(.ow 1262702)]), (1262700, .arr 126), (1262701, .arr 126), (1262702, .arr 100)]⟩ (.seq .leaf (.seq .leaf (.seq (.skip (.seq .leaf (.seq (.join ⟨[(1, zi), (3, (.pt 3 0)), (5, (.pt 5 0)), (6, (.pt 6 0)), (8, (.pt 8 0)), (9, (.pt 9 0)), (10, (.pt 10 0)), (11, zi), (13, (.pt 13 0)), (37, (zl 100)), (38, zi), (39, zi), (54, zo)], [(2000, z0), (3, .var 143 [(.pt 2000 0)]), (5, z14), (6, z21), (8, z22), (9, z12), (10, .var 24 [(.ow 1262702)]), (13, z9), (1262700, .arr 126), (1262701, .arr 126), (1262702, .arr 100)]⟩ .leaf) .leaf))) .leaf)))))) (.seq .leaf (.seq .leaf (.seq .leaf (.seq .leaf (.seq .leaf (.seq .leaf (.seq (.join ⟨[(1, zi), (3, (.pt 3 0)), (5, (.pt 5 0)), (6, (.pt 6 0)), (8, (.pt 8 0)), (9, (.pt 9 0)), (10, (.pt 10 0)), (11, zi), (14, (.fn 98 [(.pt 10 0)])), (15, (.pt 15 0)), (16, (.pt 16 0)), (17, (.fn 103 [(.pt 8 0)])), (18, (.fn 104 [(.pt 8 0), (.pt 16 0), (.pt 3 0), (.pt 5 0)])), (19, (.fn 106 [(.pt 8 0)]))], [(2000, z0), (3, .var 143 [(.pt 2000 0)]), (5, z14), (6, z21), (8, z22), (9, z12), (10, .var 24 [(.ow 1262702)]), (15, .var 103 [(.fn 99 [(.pt 3 0), (.pt 5 0)])]), (16, .var 150 [(.fn 102 [(.pt 8 0)])]), (1262700, .arr 126), (1262701, .arr 126), (1262702, .arr 100)]⟩ (.seq .leaf (.cond (.skip (.seq .leaf (.cond .leaf (.seq .leaf (.cond .leaf (.seq .leaf (.cond (.seq (.frz [1262702] .leaf) .leaf) .leaf))))))) .leaf))) (.seq (.seq .leaf (.skip (.seq .leaf (.cond (.seq .leaf (.seq (.join ⟨[(3, (.pt 3 0)), (5, (.pt 5 0)), (6, (.pt 6 0)), (8, (.pt 8 0)), (10, (.pt 10 0)), (15, (.pt 15 0)), (16, (.pt 16 0)), (147, zo)], [(2000, z0), (3, .var 143 [(.pt 2000 0)]), (5, z14), (6, z21), (8, z22), (10, .var 24 [(.ow 1262702)]), (15, .var 103 [(.fn 99 [(.pt 3 0), (.pt 5 0)])]), (16, .var 150 [(.fn 102 [(.pt 8 0)])]), (1262700, .arr 126), (1262701, .arr 126), (1262702, .arr 100)]⟩ .leaf) .leaf)) (.seq .leaf (.cond .leaf (.seq .leaf (.cond .leaf (.seq .leaf (.cond (.seq .leaf (.seq .leaf (.skip (.seq .leaf (.cond .leaf (.seq .leaf (.cond .leaf (.seq .leaf (.cond .leaf (.seq (.join ⟨[(5, (.pt 5 0)), (6, (.pt 6 0)), (8, (.pt 8 0)), (19, (.fn 106 [(.pt 8 0)])), (21, zi), (265, zo)], [(2000, z0), (5, z14), (6, z21), (8, z22), (1262700, .arr 126), (1262701, .arr 126)]⟩ .leaf) .leaf)))))))))) .leaf)))))))))) .leaf)))))))))))))) [(48, some 216, i_demand_fs), (49, some 33, i_StewBook_count_fs), (51, some 63, i_one_fs), (52, some 62, i_StewBook_drained_fs), (98, some 195, i_StewBook_ask_1_fs), (98, some 203, i_StewBook_ask_1_v1_fs), (98, some 360, i_StewBook_ask_1_v2_fs), (99, some 154, i_StewBook_ask_2_fs), (102, some 94, i_StewBook_ask_3_fs), (102, some 158, i_StewBook_ask_3_v1_fs), (102, some 204, i_StewBook_ask_3_fs), (103, some 115, i_StewBook_ask_4_fs), (103, some 189, i_StewBook_ask_4_fs), (103, some 354, i_StewBook_ask_4_fs), (104, some 196, i_StewBook_ask_5_fs), (104, some 361, i_StewBook_ask_5_fs), (105, some 151, i_StewBook_first_fs), (106, some 232, i_StewBook_ask_6_fs), (106, some 250, i_StewBook_ask_6_fs), (106, some 262, i_StewBook_ask_6_fs), (106, some 285, i_StewBook_ask_6_fs), (106, some 305, i_StewBook_ask_6_fs), (106, some 319, i_StewBook_ask_6_fs)] (.cons i_demand_ok (.cons i_StewBook_count_ok (.cons i_one_ok (.cons i_StewBook_drained_ok (.cons i_StewBook_ask_1_ok (.cons i_StewBook_ask_1_v1_ok (.cons i_StewBook_ask_1_v2_ok (.cons i_StewBook_ask_2_ok (.cons i_StewBook_ask_3_ok (.cons i_StewBook_ask_3_v1_ok (.cons i_StewBook_ask_3_ok (.cons i_StewBook_ask_4_ok (.cons i_StewBook_ask_4_ok (.cons i_StewBook_ask_4_ok (.cons i_StewBook_ask_5_ok (.cons i_StewBook_ask_5_ok (.cons i_StewBook_first_ok (.cons i_StewBook_ask_6_ok (.cons i_StewBook_ask_6_ok (.cons i_StewBook_ask_6_ok (.cons i_StewBook_ask_6_ok (.cons i_StewBook_ask_6_ok (.cons i_StewBook_ask_6_ok .nil))))))))))))))))))))))) (by kernel_rfl) (by kernel_rfl) (by kernel_rfl) (fun xs => by kernel_rfl)
def i_StewAsk.d1 (t0 t22 t23 b3_0 b3_1 b3_2 b3_3 a1259100 : C) : R := (bif (decide (t23.I < t22.I)) then (bif (decide (0 ≤ t23.I)) then (bif (decide (t23.I < (b3_1.L.length : Int))) then (call13 (i_StewBook_ask [t0, .p (b3_1.L.getD t23.I.toNat []), b3_0, b3_1, b3_2, b3_3]) fun y2_t0_0_0 y2_t0_0_1 y2_t0_0_2 y2_t0_0_3 y2_t0_0_4 y2_t0_0_5 y2_t0_0_7 y2_t0_1 y2_b2000_0 y2_b2000_1 y2_b2000_2 y2_b2000_3 y2_a3001 => (bif y2_t0_1.B then (bif (decide (a1259100.L.length + (rows [[y2_t0_0_0, y2_t0_0_1, y2_t0_0_2, y2_t0_0_3, y2_t0_0_4, y2_t0_0_5, .l y2_a3001.L, y2_t0_0_7]]).length ≤ 4294967296)) then (some (.again [t0, t22, .i (w64 (t23.I + 1)), y2_b2000_0, y2_b2000_1, y2_b2000_2, y2_b2000_3, .l (a1259100.L ++ (rows [[y2_t0_0_0, y2_t0_0_1, y2_t0_0_2, y2_t0_0_3, y2_t0_0_4, y2_t0_0_5, .l y2_a3001.L, y2_t0_0_7]]))])) else none) else (some (.again [t0, t22, .i (w64 (t23.I + 1)), y2_b2000_0, y2_b2000_1, y2_b2000_2, y2_b2000_3, .l a1259100.L])))) else none) else none) else (some (.brk 0 [.l a1259100.L])))
def i_StewAsk.d2 (a1259100 : C) : R := (some (.ret [.l a1259100.L]))
def i_StewAsk.d3 (t0 t1_0 t1_1 t1_2 t1_3 : C) : R := (call1 (i_StewValid [t1_0, t1_1, t1_2, t1_3]) fun y1_t0 => (bif (!(!y1_t0.B)) then (bif (!(decide (t0.I < 1))) then (bif (decide (t0.I > 6)) then (some (.ret [.l nils])) else (bindBlk 0 (lim (fun xs => i_StewAsk.d1 (xs.getD 0 .nil) (xs.getD 1 .nil) (xs.getD 2 .nil) (xs.getD 3 .nil) (xs.getD 4 .nil) (xs.getD 5 .nil) (xs.getD 6 .nil) (xs.getD 7 .nil)) [t0, .i (t1_1.L.length : Int), .i 0, t1_0, t1_1, t1_2, t1_3, .l nils]) (fun xs => i_StewAsk.d2 (xs.getD 0 .nil)))) else (some (.ret [.l nils]))) else (some (.ret [.l nils]))))
def i_StewAsk : List C → Option (List C) := fun xs => finR (i_StewAsk.d3 (xs.getD 0 .nil) (xs.getD 1 .nil) (xs.getD 2 .nil) (xs.getD 3 .nil) (xs.getD 4 .nil))
def i_StewAsk_fs : FS := ⟨2, ⟨[(0, zi), (1, z1)], []⟩, ⟨[(0, (.ow 3000))], [(3000, .arr 65)]⟩, [], i_StewAsk⟩
theorem i_StewAsk_ok : FSOk Tryz.checked.prog T0 15 i_StewAsk_fs := okOf base0 (fn := Tryz.f15) (c := Tryz.f15.body.getD .skip) i_StewAsk_fs (.seq .leaf (.seq .leaf (.seq .leaf (.seq (.seq .leaf (.block ⟨[(5, (.ow 1259100))], [(1259100, .arr 65)]⟩ (.loop ⟨[(0, zi), (3, (.pt 3 0)), (5, (.ow 1259100)), (22, zi), (23, zi)], [(3, z0), (1259100, .arr 65)]⟩ (.seq .leaf (.seq .leaf (.seq (.skip (.seq .leaf (.seq .leaf (.seq .leaf (.cond (.frz [138169] .leaf) .leaf))))) .leaf)))))) .leaf)))) [(47, some 10, i_StewValid_fs), (58, some 32, i_StewBook_ask_fs)] (.cons i_StewValid_ok (.cons i_StewBook_ask_ok .nil)) (by kernel_rfl) (by kernel_rfl) (by kernel_rfl) (fun xs => by kernel_rfl)
def i_clone.d1 (t0_0 t0_1 t0_2 t0_3 : C) : R := (bif (decide (t0_1.L.length ≤ 4294967296)) then (bif (decide (t0_2.L.length ≤ 4294967296)) then (bif (decide (t0_3.L.length ≤ 4294967296)) then (some (.ret [t0_0, .l t0_1.L, .l t0_2.L, .l t0_3.L])) else none) else none) else none)
def i_clone : List C → Option (List C) := fun xs => finR (i_clone.d1 (xs.getD 0 .nil) (xs.getD 1 .nil) (xs.getD 2 .nil) (xs.getD 3 .nil))
def i_clone_fs : FS := ⟨1, ⟨[(0, z1)], []⟩, ⟨[(0, z24)], [(3000, .arr 38), (3001, .arr 100), (3002, .arr 113)]⟩, [], i_clone⟩
theorem i_clone_ok : FSOk Tryz.checked.prog T0 59 i_clone_fs := okOf base0 (fn := Tryz.f59) (c := Tryz.f59.body.getD .skip) i_clone_fs .leaf [] .nil (by kernel_rfl) (by kernel_rfl) (by kernel_rfl) (fun xs => by kernel_rfl)
def i_StewBook_tick_1.d1 (t0_0 t0_1 t0_2 t0_3 t0_4 t0_5 t0_6 : C) : R := (some (.ret [.b t0_5.B]))
def i_StewBook_tick_1 : List C → Option (List C) := fun xs => finR (i_StewBook_tick_1.d1 (xs.getD 0 .nil) (xs.getD 1 .nil) (xs.getD 2 .nil) (xs.getD 3 .nil) (xs.getD 4 .nil) (xs.getD 5 .nil) (xs.getD 6 .nil))
def i_StewBook_tick_1_fs : FS := ⟨1, ⟨[(0, z11)], []⟩, ⟨[(0, zo)], []⟩, [], i_StewBook_tick_1⟩
theorem i_StewBook_tick_1_ok : FSOk Tryz.checked.prog T0 153 i_StewBook_tick_1_fs := okOf base0 (fn := Tryz.f153) (c := Tryz.f153.body.getD .skip) i_StewBook_tick_1_fs .leaf [] .nil (by kernel_rfl) (by kernel_rfl) (by kernel_rfl) (fun xs => by kernel_rfl)
def slices_IndexFunc.d1 (t0 t7 t8 : C) : R := (bif (decide (t8.I < t7.I)) then (bif (decide (0 ≤ t8.I)) then (bif (decide (t8.I < (t0.L.length : Int))) then (call1 (i_StewBook_tick_1 [((t0.L.getD t8.I.toNat []).getD 0 .nil), ((t0.L.getD t8.I.toNat []).getD 1 .nil), ((t0.L.getD t8.I.toNat []).getD 2 .nil), ((t0.L.getD t8.I.toNat []).getD 3 .nil), ((t0.L.getD t8.I.toNat []).getD 4 .nil), ((t0.L.getD t8.I.toNat []).getD 5 .nil), ((t0.L.getD t8.I.toNat []).getD 6 .nil)]) fun y1_t0 => (bif y1_t0.B then (some (.ret [t8])) else (some (.again [t0, t7, .i (w64 (t8.I + 1))])))) else none) else none) else (some (.brk 0 [])))
def slices_IndexFunc.d2 : R := (some (.ret [.i (-1)]))
def slices_IndexFunc.d3 (t0 : C) : R := (bindBlk 0 (lim (fun xs => slices_IndexFunc.d1 (xs.getD 0 .nil) (xs.getD 1 .nil) (xs.getD 2 .nil)) [t0, .i (t0.L.length : Int), .i 0]) (fun xs => slices_IndexFunc.d2))
def slices_IndexFunc : List C → Option (List C) := fun xs => finR (slices_IndexFunc.d3 (xs.getD 0 .nil))
def slices_IndexFunc_fs : FS := ⟨2, ⟨[(0, (zl 100)), (1, (.fn 153 []))], []⟩, ⟨[(0, zi)], []⟩, [], slices_IndexFunc⟩
theorem slices_IndexFunc_ok : FSOk Tryz.checked.prog T0 156 slices_IndexFunc_fs := okOf base0 (fn := Tryz.f156) (c := Tryz.f156.body.getD .skip) slices_IndexFunc_fs (.seq .leaf (.seq (.seq .leaf (.block ⟨[], []⟩ (.loop ⟨[(0, (zl 100)), (1, (.fn 153 [])), (7, zi), (8, zi)], []⟩ .leaf))) .leaf)) [(153, some 16, i_StewBook_tick_1_fs)] (.cons i_StewBook_tick_1_ok .nil) (by kernel_rfl) (by kernel_rfl) (by kernel_rfl) (fun xs => by kernel_rfl)
def slices_DeleteFunc.d1 (t5 t6 a2000 : C) : R := (bif (decide (t6.I < (a2000.L.length : Int))) then (bif (decide (0 ≤ t6.I)) then (bif (decide (t6.I < (a2000.L.length : Int))) then (call1 (i_StewBook_tick_1 [((a2000.L.getD t6.I.toNat []).getD 0 .nil), ((a2000.L.getD t6.I.toNat []).getD 1 .nil), ((a2000.L.getD t6.I.toNat []).getD 2 .nil), ((a2000.L.getD t6.I.toNat []).getD 3 .nil), ((a2000.L.getD t6.I.toNat []).getD 4 .nil), ((a2000.L.getD t6.I.toNat []).getD 5 .nil), ((a2000.L.getD t6.I.toNat []).getD 6 .nil)]) fun y2_t0 => (bif (!y2_t0.B) then (bif (decide (0 ≤ t5.I)) then (bif (decide (t5.I < (a2000.L.length : Int))) then (some (.again [.i (w64 (t5.I + 1)), .i (w64 (t6.I + 1)), .l (a2000.L.set t5.I.toNat (setCs (a2000.L.getD t5.I.toNat []) 0 [((a2000.L.getD t6.I.toNat []).getD 0 .nil), ((a2000.L.getD t6.I.toNat []).getD 1 .nil), ((a2000.L.getD t6.I.toNat []).getD 2 .nil), ((a2000.L.getD t6.I.toNat []).getD 3 .nil), ((a2000.L.getD t6.I.toNat []).getD 4 .nil), ((a2000.L.getD t6.I.toNat []).getD 5 .nil), ((a2000.L.getD t6.I.toNat []).getD 6 .nil)]))])) else none) else none) else (some (.again [t5, .i (w64 (t6.I + 1)), .l a2000.L])))) else none) else none) else (some (.brk 0 [t5, .l a2000.L])))
def slices_DeleteFunc.d2 (t5 a2000 : C) : R := (bif (decide (0 ≤ t5.I)) then (bif (decide (t5.I ≤ (a2000.L.length : Int))) then (bif (decide ((a2000.L.length : Int) ≤ (a2000.L.length : Int))) then (bif (decide (0 ≤ t5.I)) then (bif (decide (t5.I ≤ ((a2000.L.take t5.I.toNat ++ rows (List.replicate ((a2000.L.length : Int) - t5.I).toNat [(.s (bs #[])), (.i 0), (.i 0), (.i 0), (.i 0), (.b false), (.s (bs #[]))]) ++ a2000.L.drop (t5.I.toNat + ((a2000.L.length : Int) - t5.I).toNat)).length : Int))) then (some (.ret [.l ((a2000.L.take t5.I.toNat ++ rows (List.replicate ((a2000.L.length : Int) - t5.I).toNat [(.s (bs #[])), (.i 0), (.i 0), (.i 0), (.i 0), (.b false), (.s (bs #[]))]) ++ a2000.L.drop (t5.I.toNat + ((a2000.L.length : Int) - t5.I).toNat)).take t5.I.toNat)])) else none) else none) else none) else none) else none)
def slices_DeleteFunc.d3 (a2000 : C) : R := (call1 (slices_IndexFunc [.l a2000.L]) fun y1_t0 => (bif (y1_t0.I == (-1)) then (some (.ret [.l a2000.L])) else (bindBlk 0 (lim (fun xs => slices_DeleteFunc.d1 (xs.getD 0 .nil) (xs.getD 1 .nil) (xs.getD 2 .nil)) [y1_t0, .i (w64 (y1_t0.I + 1)), .l a2000.L]) (fun xs => slices_DeleteFunc.d2 (xs.getD 0 .nil) (xs.getD 1 .nil)))))
def slices_DeleteFunc : List C → Option (List C) := fun xs => finR (slices_DeleteFunc.d3 (xs.getD 0 .nil))
def slices_DeleteFunc_fs : FS := ⟨2, ⟨[(0, (.ow 2000)), (1, (.fn 153 []))], [(2000, .arr 100)]⟩, ⟨[(0, (.ow 2000))], [(2000, .arr 100)]⟩, [], slices_DeleteFunc⟩
theorem slices_DeleteFunc_ok : FSOk Tryz.checked.prog T0 116 slices_DeleteFunc_fs := okOf base0 (fn := Tryz.f116) (c := Tryz.f116.body.getD .skip) slices_DeleteFunc_fs (.seq .leaf (.seq .leaf (.seq .leaf (.seq (.seq .leaf (.block ⟨[(0, (.ow 2000)), (5, zi)], [(2000, .arr 100)]⟩ (.loop ⟨[(0, (.ow 2000)), (1, (.fn 153 [])), (5, zi), (6, zi)], [(2000, .arr 100)]⟩ .leaf))) (.seq .leaf (.seq .leaf (.cut 4 .leaf))))))) [(153, some 28, i_StewBook_tick_1_fs), (156, some 10, slices_IndexFunc_fs)] (.cons i_StewBook_tick_1_ok (.cons slices_IndexFunc_ok .nil)) (by kernel_rfl) (by kernel_rfl) (by kernel_rfl) (fun xs => by kernel_rfl)
end
end Go.Ev
namespace Go.Ev
open Go.Proofs
noncomputable section
def i_StewBook_tick.d1 (t25 t26 b2000_0 a2001 a2003 a2002 : C) : R := (bif (decide (t26.I < t25.I)) then (bif (decide (0 ≤ t26.I)) then (bif (decide (t26.I < (a2002.L.length : Int))) then (bif (((a2002.L.getD t26.I.toNat []).getD 4 .nil).I == 2) then (some (.again [t25, .i (w64 (t26.I + 1)), b2000_0, .l a2001.L, .l a2003.L, .l ((a2002.L.set t26.I.toNat (setCs (a2002.L.getD t26.I.toNat []) 4 [.i 3])).set t26.I.toNat (setCs ((a2002.L.set t26.I.toNat (setCs (a2002.L.getD t26.I.toNat []) 4 [.i 3])).getD t26.I.toNat []) 2 [b2000_0]))])) else (some (.again [t25, .i (w64 (t26.I + 1)), b2000_0, .l a2001.L, .l a2003.L, .l a2002.L]))) else none) else none) else (some (.brk 0 [b2000_0, .l a2001.L, .l a2003.L, .l a2002.L])))
def i_StewBook_tick.d2 (t5ix t6 t7 t10 t55 t56 t74 t75 t85 t86 b2000_0 a2001 a2003 a2002 b9_0 b9_1 : C) : R := (bif (decide (t86.I < t85.I)) then (bif (decide (0 ≤ t86.I)) then (bif (decide (t86.I < (a2002.L.length : Int))) then (bif (((a2002.L.getD t86.I.toNat []).getD 4 .nil).I != 1) then (call1 (i_one [.b ((((a2002.L.getD t86.I.toNat []).getD 6 .nil).S).toList == b9_0.S.toList)]) fun y2_t0 => (some (.again [.i t5ix.I, t6, t7, .i (w64 (t10.I + y2_t0.I)), t55, t56, t74, t75, t85, .i (w64 (t86.I + 1)), b2000_0, .l a2001.L, .l a2003.L, .l a2002.L, b9_0, b9_1]))) else (call1 (i_one [.b false]) fun y3_t0 => (some (.again [.i t5ix.I, t6, t7, .i (w64 (t10.I + y3_t0.I)), t55, t56, t74, t75, t85, .i (w64 (t86.I + 1)), b2000_0, .l a2001.L, .l a2003.L, .l a2002.L, b9_0, b9_1])))) else none) else none) else (some (.brk 6 [.i t5ix.I, t6, t7, t10, t55, t56, t74, t75, b2000_0, .l a2001.L, .l a2003.L, .l a2002.L, b9_0, b9_1])))
def i_StewBook_tick.d3 (t5ix t6 t7 t10 t55 t56 t74 t75 b2000_0 a2001 a2003 a2002 b9_0 b9_1 : C) : R := (bif (!(decide (t7.I < 0))) then (bif (decide (t10.I < t7.I)) then (some (.brk 5 [.i t5ix.I, b9_0, t10, t55, t56, t74, t75, b2000_0, .l a2001.L, .l a2003.L, .l a2002.L])) else (some (.brk 5 [.i t5ix.I, t6, t7, t55, t56, t74, t75, b2000_0, .l a2001.L, .l a2003.L, .l a2002.L]))) else (some (.brk 5 [.i t5ix.I, b9_0, t10, t55, t56, t74, t75, b2000_0, .l a2001.L, .l a2003.L, .l a2002.L])))
def i_StewBook_tick.d4 (t5ix t6 t7 t55 t56 t74 t75 b2000_0 a2001 a2003 a2002 : C) : R := (some (.again [.i t5ix.I, t6, t7, t55, t56, t74, .i (w64 (t75.I + 1)), b2000_0, .l a2001.L, .l a2003.L, .l a2002.L]))
def i_StewBook_tick.d5 (t5ix t6 t7 t55 t56 t74 t75 b2000_0 a2001 a2003 a2002 : C) : R := (bif (decide (t75.I < t74.I)) then (bindBlk 5 (bif (decide (0 ≤ t75.I)) then (bif (decide (t75.I < (a2003.L.length : Int))) then (bif ((a2003.L.getD t75.I.toNat []).getD 1 .nil).B then (some (.brk 5 [.i t5ix.I, t6, t7, t55, t56, t74, t75, b2000_0, .l a2001.L, .l a2003.L, .l a2002.L])) else (bindBlk 6 (lim (fun xs => i_StewBook_tick.d2 (xs.getD 0 .nil) (xs.getD 1 .nil) (xs.getD 2 .nil) (xs.getD 3 .nil) (xs.getD 4 .nil) (xs.getD 5 .nil) (xs.getD 6 .nil) (xs.getD 7 .nil) (xs.getD 8 .nil) (xs.getD 9 .nil) (xs.getD 10 .nil) (xs.getD 11 .nil) (xs.getD 12 .nil) (xs.getD 13 .nil) (xs.getD 14 .nil) (xs.getD 15 .nil)) [.i t5ix.I, t6, t7, .i 0, t55, t56, t74, t75, .i (a2002.L.length : Int), .i 0, b2000_0, .l a2001.L, .l a2003.L, .l a2002.L, ((a2003.L.getD t75.I.toNat []).getD 0 .nil), ((a2003.L.getD t75.I.toNat []).getD 1 .nil)]) (fun xs => i_StewBook_tick.d3 (xs.getD 0 .nil) (xs.getD 1 .nil) (xs.getD 2 .nil) (xs.getD 3 .nil) (xs.getD 4 .nil) (xs.getD 5 .nil) (xs.getD 6 .nil) (xs.getD 7 .nil) (xs.getD 8 .nil) (xs.getD 9 .nil) (xs.getD 10 .nil) (xs.getD 11 .nil) (xs.getD 12 .nil) (xs.getD 13 .nil)))) else none) else none) (fun xs => i_StewBook_tick.d4 (xs.getD 0 .nil) (xs.getD 1 .nil) (xs.getD 2 .nil) (xs.getD 3 .nil) (xs.getD 4 .nil) (xs.getD 5 .nil) (xs.getD 6 .nil) (xs.getD 7 .nil) (xs.getD 8 .nil) (xs.getD 9 .nil) (xs.getD 10 .nil))) else (some (.brk 4 [.i t5ix.I, t6, t7, t55, t56, b2000_0, .l a2001.L, .l a2003.L, .l a2002.L])))
def i_StewBook_tick.d6 (t5ix t6 t7 t55 t56 b2000_0 a2001 a2003 a2002 : C) : R := (bif (decide (t7.I ≥ 0)) then (bif (decide (0 ≤ t5ix.I)) then (bif (decide (0 ≤ t5ix.I)) then (bif (decide (0 ≤ t5ix.I)) then (some (.brk 3 [t55, t56, b2000_0, .l a2001.L, .l a2003.L, .l (((a2002.L.set t5ix.I.toNat (setCs (a2002.L.getD t5ix.I.toNat []) 4 [.i 2])).set t5ix.I.toNat (setCs ((a2002.L.set t5ix.I.toNat (setCs (a2002.L.getD t5ix.I.toNat []) 4 [.i 2])).getD t5ix.I.toNat []) 2 [b2000_0])).set t5ix.I.toNat (setCs (((a2002.L.set t5ix.I.toNat (setCs (a2002.L.getD t5ix.I.toNat []) 4 [.i 2])).set t5ix.I.toNat (setCs ((a2002.L.set t5ix.I.toNat (setCs (a2002.L.getD t5ix.I.toNat []) 4 [.i 2])).getD t5ix.I.toNat []) 2 [b2000_0])).getD t5ix.I.toNat []) 6 [t6]))])) else none) else none) else none) else (some (.brk 3 [t55, t56, b2000_0, .l a2001.L, .l a2003.L, .l a2002.L])))
def i_StewBook_tick.d7 (t55 t56 b2000_0 a2001 a2003 a2002 : C) : R := (some (.again [t55, .i (w64 (t56.I + 1)), b2000_0, .l a2001.L, .l a2003.L, .l a2002.L]))
def i_StewBook_tick.d8 (t55 t56 b2000_0 a2001 a2003 a2002 : C) : R := (bif (decide (t56.I < t55.I)) then (bindBlk 3 (bif (decide (0 ≤ t56.I)) then (bif (decide (t56.I < (a2002.L.length : Int))) then (bif (((a2002.L.getD t56.I.toNat []).getD 4 .nil).I != 1) then (some (.brk 3 [t55, t56, b2000_0, .l a2001.L, .l a2003.L, .l a2002.L])) else (bindBlk 4 (lim (fun xs => i_StewBook_tick.d5 (xs.getD 0 .nil) (xs.getD 1 .nil) (xs.getD 2 .nil) (xs.getD 3 .nil) (xs.getD 4 .nil) (xs.getD 5 .nil) (xs.getD 6 .nil) (xs.getD 7 .nil) (xs.getD 8 .nil) (xs.getD 9 .nil) (xs.getD 10 .nil)) [.i t56.I, .s (bs #[]), .i (-1), t55, t56, .i (a2003.L.length : Int), .i 0, b2000_0, .l a2001.L, .l a2003.L, .l a2002.L]) (fun xs => i_StewBook_tick.d6 (xs.getD 0 .nil) (xs.getD 1 .nil) (xs.getD 2 .nil) (xs.getD 3 .nil) (xs.getD 4 .nil) (xs.getD 5 .nil) (xs.getD 6 .nil) (xs.getD 7 .nil) (xs.getD 8 .nil)))) else none) else none) (fun xs => i_StewBook_tick.d7 (xs.getD 0 .nil) (xs.getD 1 .nil) (xs.getD 2 .nil) (xs.getD 3 .nil) (xs.getD 4 .nil) (xs.getD 5 .nil))) else (some (.brk 2 [b2000_0, .l a2001.L, .l a2003.L, .l a2002.L])))
def i_StewBook_tick.d9 (b2000_0 a2001 a2003 a2002 : C) : R := (some (.ret [b2000_0, .l a2001.L, .l a2003.L, .l a2002.L]))
def i_StewBook_tick.d10 (b2000_0 a2001 a2003 a2002 : C) : R := (bindBlk 2 (lim (fun xs => i_StewBook_tick.d8 (xs.getD 0 .nil) (xs.getD 1 .nil) (xs.getD 2 .nil) (xs.getD 3 .nil) (xs.getD 4 .nil) (xs.getD 5 .nil)) [.i (a2002.L.length : Int), .i 0, b2000_0, .l a2001.L, .l a2003.L, .l a2002.L]) (fun xs => i_StewBook_tick.d9 (xs.getD 0 .nil) (xs.getD 1 .nil) (xs.getD 2 .nil) (xs.getD 3 .nil)))
def i_StewBook_tick.d11 (b2000_0 a2001 a2002 a2003 : C) : R := (call1 (slices_DeleteFunc [.l a2002.L]) fun y1_a2000 => (bindBlk 0 (lim (fun xs => i_StewBook_tick.d1 (xs.getD 0 .nil) (xs.getD 1 .nil) (xs.getD 2 .nil) (xs.getD 3 .nil) (xs.getD 4 .nil) (xs.getD 5 .nil)) [.i (y1_a2000.L.length : Int), .i 0, b2000_0, .l a2001.L, .l a2003.L, .l y1_a2000.L]) (fun xs => i_StewBook_tick.d10 (xs.getD 0 .nil) (xs.getD 1 .nil) (xs.getD 2 .nil) (xs.getD 3 .nil))))
def i_StewBook_tick : List C → Option (List C) := fun xs => finR (i_StewBook_tick.d11 (xs.getD 0 .nil) (xs.getD 1 .nil) (xs.getD 2 .nil) (xs.getD 3 .nil))
def i_StewBook_tick_fs : FS := ⟨1, ⟨[(0, (.pt 2000 0))], [(2000, z3), (2001, .arr 38), (2002, .arr 100), (2003, .arr 113)]⟩, ⟨[(0, (.tu []))], [(2000, z3), (2001, .arr 38), (2003, .arr 113), (2002, .arr 100)]⟩, [2000, 2001, 2003], i_StewBook_tick⟩
theorem i_StewBook_tick_ok : FSOk Tryz.checked.prog T0 110 i_StewBook_tick_fs := okOf base0 (fn := Tryz.f110) (c := Tryz.f110.body.getD .skip) i_StewBook_tick_fs (.seq .leaf (.seq (.seq .leaf (.block ⟨[(0, (.pt 2000 0))], [(2000, z3), (2001, .arr 38), (2003, .arr 113), (2002, .arr 100)]⟩ (.loop ⟨[(0, (.pt 2000 0)), (25, zi), (26, zi)], [(2000, z3), (2001, .arr 38), (2003, .arr 113), (2002, .arr 100)]⟩ .leaf))) (.seq .leaf (.block ⟨[], [(2000, z3), (2001, .arr 38), (2003, .arr 113), (2002, .arr 100)]⟩ (.loop ⟨[(0, (.pt 2000 0)), (55, zi), (56, zi)], [(2000, z3), (2001, .arr 38), (2003, .arr 113), (2002, .arr 100)]⟩ (.seq .leaf (.seq .leaf (.seq (.block ⟨[(0, (.pt 2000 0)), (55, zi), (56, zi)], [(2000, z3), (2001, .arr 38), (2003, .arr 113), (2002, .arr 100)]⟩ (.seq .leaf (.seq .leaf (.seq .leaf (.seq .leaf (.seq (.seq .leaf (.block ⟨[(0, (.pt 2000 0)), (5, (.pe 2002 0)), (6, zt), (7, zi), (55, zi), (56, zi)], [(2000, z3), (2001, .arr 38), (2003, .arr 113), (2002, .arr 100)]⟩ (.loop ⟨[(0, (.pt 2000 0)), (5, (.pe 2002 0)), (6, zt), (7, zi), (55, zi), (56, zi), (73, (.ow 2003)), (74, zi), (75, zi)], [(2000, z3), (2001, .arr 38), (2003, .arr 113), (2002, .arr 100)]⟩ (.seq .leaf (.seq .leaf (.seq (.block ⟨[(0, (.pt 2000 0)), (5, (.pe 2002 0)), (6, zt), (7, zi), (55, zi), (56, zi), (73, (.ow 2003)), (74, zi), (75, zi)], [(2000, z3), (2001, .arr 38), (2003, .arr 113), (2002, .arr 100)]⟩ (.seq .leaf (.seq .leaf (.seq .leaf (.seq (.seq .leaf (.block ⟨[(0, (.pt 2000 0)), (5, (.pe 2002 0)), (6, zt), (7, zi), (9, (.pt 9 0)), (10, zi), (55, zi), (56, zi), (73, (.ow 2003)), (74, zi), (75, zi)], [(2000, z3), (2001, .arr 38), (2003, .arr 113), (2002, .arr 100), (9, .var 113 [zt, zo])]⟩ (.loop ⟨[(0, (.pt 2000 0)), (5, (.pe 2002 0)), (6, zt), (7, zi), (9, (.pt 9 0)), (10, zi), (55, zi), (56, zi), (73, (.ow 2003)), (74, zi), (75, zi), (84, (.ow 2002)), (85, zi), (86, zi)], [(2000, z3), (2001, .arr 38), (2003, .arr 113), (2002, .arr 100), (9, .var 113 [zt, zo])]⟩ .leaf))) .leaf))))) .leaf)))))) .leaf)))))) .leaf)))))))) [(51, some 101, i_one_fs), (116, some 18, slices_DeleteFunc_fs)] (.cons i_one_ok (.cons slices_DeleteFunc_ok .nil)) (by kernel_rfl) (by kernel_rfl) (by kernel_rfl) (fun xs => by kernel_rfl)
def i_StewBook_service_v1.d1 (t1 t10 t11 b2000_0 a2001 a2002 a2003 : C) : R := (bif (decide (t11.I < t10.I)) then (bif (decide (0 ≤ t11.I)) then (bif (decide (t11.I < (a2001.L.length : Int))) then (bif ((((a2001.L.getD t11.I.toNat []).getD 0 .nil).S).toList == t1.S.toList) then (bif (decide (0 ≤ t11.I)) then (bif (decide (t11.I < (a2001.L.length : Int))) then (some (.ret [.i t11.I, b2000_0, .l a2001.L, .l a2002.L, .l a2003.L])) else none) else none) else (some (.again [t1, t10, .i (w64 (t11.I + 1)), b2000_0, .l a2001.L, .l a2002.L, .l a2003.L]))) else none) else none) else (some (.brk 0 [b2000_0, .l a2001.L, .l a2002.L, .l a2003.L])))
def i_StewBook_service_v1.d2 (b2000_0 a2001 a2002 a2003 : C) : R := (some (.ret [.i (-1), b2000_0, .l a2001.L, .l a2002.L, .l a2003.L]))
def i_StewBook_service_v1.d3 (t1 b2000_0 a2001 a2002 a2003 : C) : R := (bindBlk 0 (lim (fun xs => i_StewBook_service_v1.d1 (xs.getD 0 .nil) (xs.getD 1 .nil) (xs.getD 2 .nil) (xs.getD 3 .nil) (xs.getD 4 .nil) (xs.getD 5 .nil) (xs.getD 6 .nil)) [t1, .i (a2001.L.length : Int), .i 0, b2000_0, .l a2001.L, .l a2002.L, .l a2003.L]) (fun xs => i_StewBook_service_v1.d2 (xs.getD 0 .nil) (xs.getD 1 .nil) (xs.getD 2 .nil) (xs.getD 3 .nil)))
def i_StewBook_service_v1 : List C → Option (List C) := fun xs => finR (i_StewBook_service_v1.d3 (xs.getD 0 .nil) (xs.getD 1 .nil) (xs.getD 2 .nil) (xs.getD 3 .nil) (xs.getD 4 .nil))
def i_StewBook_service_v1_fs : FS := ⟨2, ⟨[(0, (.pt 2000 0)), (1, zt)], [(2000, z3), (2001, .arr 38), (2002, .arr 100), (2003, .arr 113)]⟩, ⟨[(0, (.pe 2001 0))], [(2000, z3), (2001, .arr 38), (2002, .arr 100), (2003, .arr 113)]⟩, [2000, 2001, 2002, 2003], i_StewBook_service_v1⟩
theorem i_StewBook_service_v1_ok : FSOk Tryz.checked.prog T0 50 i_StewBook_service_v1_fs := okOf base0 (fn := Tryz.f50) (c := Tryz.f50.body.getD .skip) i_StewBook_service_v1_fs (.seq .leaf (.seq (.seq .leaf (.block ⟨[], [(2000, z3), (2001, .arr 38), (2002, .arr 100), (2003, .arr 113)]⟩ (.loop ⟨[(0, (.pt 2000 0)), (1, zt), (10, zi), (11, zi)], [(2000, z3), (2001, .arr 38), (2002, .arr 100), (2003, .arr 113)]⟩ .leaf))) .leaf)) [] .nil (by kernel_rfl) (by kernel_rfl) (by kernel_rfl) (fun xs => by kernel_rfl)
def i_StewBook_sea_1.d1 (t0_0 t0_1 t0_2 t0_3 t0_4 t0_5 t0_6 t0_7 t0_8 t0_9 t0_10 t0_11 t0_12 t1 : C) : R := (bif t1.isP then (some (.ret [.b (!((Op.bytesLess t0_0.S.toList ((t1.P.getD 0 .nil).S).toList) || (t0_0.S.toList == ((t1.P.getD 0 .nil).S).toList)))])) else none)
def i_StewBook_sea_1 : List C → Option (List C) := fun xs => finR (i_StewBook_sea_1.d1 (xs.getD 0 .nil) (xs.getD 1 .nil) (xs.getD 2 .nil) (xs.getD 3 .nil) (xs.getD 4 .nil) (xs.getD 5 .nil) (xs.getD 6 .nil) (xs.getD 7 .nil) (xs.getD 8 .nil) (xs.getD 9 .nil) (xs.getD 10 .nil) (xs.getD 11 .nil) (xs.getD 12 .nil) (xs.getD 13 .nil))
def i_StewBook_sea_1_fs : FS := ⟨2, ⟨[(0, z7), (1, (.d (.pt 38)))], []⟩, ⟨[(0, zo)], []⟩, [], i_StewBook_sea_1⟩
theorem i_StewBook_sea_1_ok : FSOk Tryz.checked.prog T0 112 i_StewBook_sea_1_fs := okOf base0 (fn := Tryz.f112) (c := Tryz.f112.body.getD .skip) i_StewBook_sea_1_fs .leaf [] .nil (by kernel_rfl) (by kernel_rfl) (by kernel_rfl) (fun xs => by kernel_rfl)
def slices_IndexFunc_v1.d1 (t0 t1f0 t7 t8 : C) : R := (bif (decide (t8.I < t7.I)) then (bif (decide (0 ≤ t8.I)) then (bif (decide (t8.I < (t0.L.length : Int))) then (call1 (i_StewBook_sea_1 [((t0.L.getD t8.I.toNat []).getD 0 .nil), ((t0.L.getD t8.I.toNat []).getD 1 .nil), ((t0.L.getD t8.I.toNat []).getD 2 .nil), ((t0.L.getD t8.I.toNat []).getD 3 .nil), ((t0.L.getD t8.I.toNat []).getD 4 .nil), ((t0.L.getD t8.I.toNat []).getD 5 .nil), ((t0.L.getD t8.I.toNat []).getD 6 .nil), ((t0.L.getD t8.I.toNat []).getD 7 .nil), ((t0.L.getD t8.I.toNat []).getD 8 .nil), ((t0.L.getD t8.I.toNat []).getD 9 .nil), ((t0.L.getD t8.I.toNat []).getD 10 .nil), ((t0.L.getD t8.I.toNat []).getD 11 .nil), ((t0.L.getD t8.I.toNat []).getD 12 .nil), t1f0]) fun y1_t0 => (bif y1_t0.B then (some (.ret [t8])) else (some (.again [t0, t1f0, t7, .i (w64 (t8.I + 1))])))) else none) else none) else (some (.brk 0 [])))
def slices_IndexFunc_v1.d2 : R := (some (.ret [.i (-1)]))
def slices_IndexFunc_v1.d3 (t0 t1f0 : C) : R := (bindBlk 0 (lim (fun xs => slices_IndexFunc_v1.d1 (xs.getD 0 .nil) (xs.getD 1 .nil) (xs.getD 2 .nil) (xs.getD 3 .nil)) [t0, t1f0, .i (t0.L.length : Int), .i 0]) (fun xs => slices_IndexFunc_v1.d2))
def slices_IndexFunc_v1 : List C → Option (List C) := fun xs => finR (slices_IndexFunc_v1.d3 (xs.getD 0 .nil) (xs.getD 1 .nil))
def slices_IndexFunc_v1_fs : FS := ⟨2, ⟨[(0, (zl 38)), (1, (.fn 112 [(.d (.pt 38))]))], []⟩, ⟨[(0, zi)], []⟩, [], slices_IndexFunc_v1⟩
theorem slices_IndexFunc_v1_ok : FSOk Tryz.checked.prog T0 111 slices_IndexFunc_v1_fs := okOf base0 (fn := Tryz.f111) (c := Tryz.f111.body.getD .skip) slices_IndexFunc_v1_fs (.seq .leaf (.seq (.seq .leaf (.block ⟨[], []⟩ (.loop ⟨[(0, (zl 38)), (1, (.fn 112 [(.d (.pt 38))])), (7, zi), (8, zi)], []⟩ .leaf))) .leaf)) [(112, some 16, i_StewBook_sea_1_fs)] (.cons i_StewBook_sea_1_ok .nil) (by kernel_rfl) (by kernel_rfl) (by kernel_rfl) (fun xs => by kernel_rfl)
def slices_Insert.d1 (t1 a2000 a2001 : C) : R := (bif (decide (0 ≤ t1.I)) then (bif (decide (t1.I ≤ (a2000.L.length : Int))) then (bif (decide ((a2000.L.length : Int) ≤ (a2000.L.length : Int))) then (bif ((a2001.L.length : Int) == 0) then (some (.ret [.l a2001.L, .l a2000.L])) else (bif (t1.I == (a2000.L.length : Int)) then (bif (decide (a2000.L.length + a2001.L.length ≤ 4294967296)) then (some (.ret [.l a2001.L, .l (a2000.L ++ a2001.L)])) else none) else none)) else none) else none) else none)
def slices_Insert : List C → Option (List C) := fun xs => finR (slices_Insert.d1 (xs.getD 0 .nil) (xs.getD 1 .nil) (xs.getD 2 .nil))
def slices_Insert_fs : FS := ⟨3, ⟨[(0, (.ow 2000)), (1, zi), (2, (.ow 2001))], [(2000, .arr 38), (2001, .arr 38)]⟩, ⟨[(0, (.ow 2000))], [(2001, .arr 38), (2000, .arr 38)]⟩, [2001], slices_Insert⟩
theorem slices_Insert_ok : FSOk Tryz.checked.prog T0 113 slices_Insert_fs := okOf base0 (fn := Tryz.f113) (c := Tryz.f113.body.getD .skip) slices_Insert_fs .leaf [] .nil (by kernel_rfl) (by kernel_rfl) (by kernel_rfl) (fun xs => by kernel_rfl)
def i_StewBook_copy_v1.d1 (t1 t2 t12 t13 b2000_0 a2001 a2002 a2003 : C) : R := (bif (decide (t13.I < t12.I)) then (bif (decide (0 ≤ t13.I)) then (bif (decide (t13.I < (a2002.L.length : Int))) then (bif ((((a2002.L.getD t13.I.toNat []).getD 0 .nil).S).toList == t1.S.toList) then (bif (decide (0 ≤ t13.I)) then (bif (decide (t13.I < (a2002.L.length : Int))) then (bif (((a2002.L.getD t13.I.toNat []).getD 1 .nil).I == t2.I) then (bif (decide (0 ≤ t13.I)) then (bif (decide (t13.I < (a2002.L.length : Int))) then (some (.ret [.i t13.I, b2000_0, .l a2001.L, .l a2002.L, .l a2003.L])) else none) else none) else (some (.again [t1, t2, t12, .i (w64 (t13.I + 1)), b2000_0, .l a2001.L, .l a2002.L, .l a2003.L]))) else none) else none) else (some (.again [t1, t2, t12, .i (w64 (t13.I + 1)), b2000_0, .l a2001.L, .l a2002.L, .l a2003.L]))) else none) else none) else (some (.brk 0 [b2000_0, .l a2001.L, .l a2002.L, .l a2003.L])))
def i_StewBook_copy_v1.d2 (b2000_0 a2001 a2002 a2003 : C) : R := (some (.ret [.i (-1), b2000_0, .l a2001.L, .l a2002.L, .l a2003.L]))
def i_StewBook_copy_v1.d3 (t1 t2 b2000_0 a2001 a2002 a2003 : C) : R := (bindBlk 0 (lim (fun xs => i_StewBook_copy_v1.d1 (xs.getD 0 .nil) (xs.getD 1 .nil) (xs.getD 2 .nil) (xs.getD 3 .nil) (xs.getD 4 .nil) (xs.getD 5 .nil) (xs.getD 6 .nil) (xs.getD 7 .nil)) [t1, t2, .i (a2002.L.length : Int), .i 0, b2000_0, .l a2001.L, .l a2002.L, .l a2003.L]) (fun xs => i_StewBook_copy_v1.d2 (xs.getD 0 .nil) (xs.getD 1 .nil) (xs.getD 2 .nil) (xs.getD 3 .nil)))
def i_StewBook_copy_v1 : List C → Option (List C) := fun xs => finR (i_StewBook_copy_v1.d3 (xs.getD 0 .nil) (xs.getD 1 .nil) (xs.getD 2 .nil) (xs.getD 3 .nil) (xs.getD 4 .nil) (xs.getD 5 .nil))
def i_StewBook_copy_v1_fs : FS := ⟨3, ⟨[(0, (.pt 2000 0)), (1, zt), (2, zi)], [(2000, z3), (2001, .arr 38), (2002, .arr 100), (2003, .arr 113)]⟩, ⟨[(0, (.pe 2002 0))], [(2000, z3), (2001, .arr 38), (2002, .arr 100), (2003, .arr 113)]⟩, [2000, 2001, 2002, 2003], i_StewBook_copy_v1⟩
theorem i_StewBook_copy_v1_ok : FSOk Tryz.checked.prog T0 101 i_StewBook_copy_v1_fs := okOf base0 (fn := Tryz.f101) (c := Tryz.f101.body.getD .skip) i_StewBook_copy_v1_fs (.seq .leaf (.seq (.seq .leaf (.block ⟨[], [(2000, z3), (2001, .arr 38), (2002, .arr 100), (2003, .arr 113)]⟩ (.loop ⟨[(0, (.pt 2000 0)), (1, zt), (2, zi), (12, zi), (13, zi)], [(2000, z3), (2001, .arr 38), (2002, .arr 100), (2003, .arr 113)]⟩ .leaf))) .leaf)) [] .nil (by kernel_rfl) (by kernel_rfl) (by kernel_rfl) (fun xs => by kernel_rfl)
def i_StewBook_berth_v2.d1 (t1 t10 t11 b2000_0 a2001 a2002 a2003 : C) : R := (bif (decide (t11.I < t10.I)) then (bif (decide (0 ≤ t11.I)) then (bif (decide (t11.I < (a2003.L.length : Int))) then (bif ((((a2003.L.getD t11.I.toNat []).getD 0 .nil).S).toList == t1.S.toList) then (bif (decide (0 ≤ t11.I)) then (bif (decide (t11.I < (a2003.L.length : Int))) then (some (.ret [.i t11.I, b2000_0, .l a2001.L, .l a2002.L, .l a2003.L])) else none) else none) else (some (.again [t1, t10, .i (w64 (t11.I + 1)), b2000_0, .l a2001.L, .l a2002.L, .l a2003.L]))) else none) else none) else (some (.brk 0 [b2000_0, .l a2001.L, .l a2002.L, .l a2003.L])))
def i_StewBook_berth_v2.d2 (b2000_0 a2001 a2002 a2003 : C) : R := (some (.ret [.i (-1), b2000_0, .l a2001.L, .l a2002.L, .l a2003.L]))
def i_StewBook_berth_v2.d3 (t1 b2000_0 a2001 a2002 a2003 : C) : R := (bindBlk 0 (lim (fun xs => i_StewBook_berth_v2.d1 (xs.getD 0 .nil) (xs.getD 1 .nil) (xs.getD 2 .nil) (xs.getD 3 .nil) (xs.getD 4 .nil) (xs.getD 5 .nil) (xs.getD 6 .nil)) [t1, .i (a2003.L.length : Int), .i 0, b2000_0, .l a2001.L, .l a2002.L, .l a2003.L]) (fun xs => i_StewBook_berth_v2.d2 (xs.getD 0 .nil) (xs.getD 1 .nil) (xs.getD 2 .nil) (xs.getD 3 .nil)))
def i_StewBook_berth_v2 : List C → Option (List C) := fun xs => finR (i_StewBook_berth_v2.d3 (xs.getD 0 .nil) (xs.getD 1 .nil) (xs.getD 2 .nil) (xs.getD 3 .nil) (xs.getD 4 .nil))
def i_StewBook_berth_v2_fs : FS := ⟨2, ⟨[(0, (.pt 2000 0)), (1, zt)], [(2000, z3), (2001, .arr 38), (2002, .arr 100), (2003, .arr 113)]⟩, ⟨[(0, (.pe 2003 0))], [(2000, z3), (2001, .arr 38), (2002, .arr 100), (2003, .arr 113)]⟩, [2000, 2001, 2002, 2003], i_StewBook_berth_v2⟩
theorem i_StewBook_berth_v2_ok : FSOk Tryz.checked.prog T0 90 i_StewBook_berth_v2_fs := okOf base0 (fn := Tryz.f90) (c := Tryz.f90.body.getD .skip) i_StewBook_berth_v2_fs (.seq .leaf (.seq (.seq .leaf (.block ⟨[], [(2000, z3), (2001, .arr 38), (2002, .arr 100), (2003, .arr 113)]⟩ (.loop ⟨[(0, (.pt 2000 0)), (1, zt), (10, zi), (11, zi)], [(2000, z3), (2001, .arr 38), (2002, .arr 100), (2003, .arr 113)]⟩ .leaf))) .leaf)) [] .nil (by kernel_rfl) (by kernel_rfl) (by kernel_rfl) (fun xs => by kernel_rfl)
def i_StewBook_sea_2.d1 (t0_0 t0_1 t1 : C) : R := (bif t1.isP then (some (.ret [.b (t0_0.S.toList == ((t1.P.getD 14 .nil).S).toList)])) else none)
def i_StewBook_sea_2 : List C → Option (List C) := fun xs => finR (i_StewBook_sea_2.d1 (xs.getD 0 .nil) (xs.getD 1 .nil) (xs.getD 2 .nil))
def i_StewBook_sea_2_fs : FS := ⟨2, ⟨[(0, (.ag [zt, zo])), (1, (.d (.pt 40)))], []⟩, ⟨[(0, zo)], []⟩, [], i_StewBook_sea_2⟩
theorem i_StewBook_sea_2_ok : FSOk Tryz.checked.prog T0 115 i_StewBook_sea_2_fs := okOf base0 (fn := Tryz.f115) (c := Tryz.f115.body.getD .skip) i_StewBook_sea_2_fs .leaf [] .nil (by kernel_rfl) (by kernel_rfl) (by kernel_rfl) (fun xs => by kernel_rfl)
def slices_IndexFunc_v2.d1 (t0 t1f0 t7 t8 : C) : R := (bif (decide (t8.I < t7.I)) then (bif (decide (0 ≤ t8.I)) then (bif (decide (t8.I < (t0.L.length : Int))) then (call1 (i_StewBook_sea_2 [((t0.L.getD t8.I.toNat []).getD 0 .nil), ((t0.L.getD t8.I.toNat []).getD 1 .nil), t1f0]) fun y1_t0 => (bif y1_t0.B then (some (.ret [t8])) else (some (.again [t0, t1f0, t7, .i (w64 (t8.I + 1))])))) else none) else none) else (some (.brk 0 [])))
def slices_IndexFunc_v2.d2 : R := (some (.ret [.i (-1)]))
def slices_IndexFunc_v2.d3 (t0 t1f0 : C) : R := (bindBlk 0 (lim (fun xs => slices_IndexFunc_v2.d1 (xs.getD 0 .nil) (xs.getD 1 .nil) (xs.getD 2 .nil) (xs.getD 3 .nil)) [t0, t1f0, .i (t0.L.length : Int), .i 0]) (fun xs => slices_IndexFunc_v2.d2))
def slices_IndexFunc_v2 : List C → Option (List C) := fun xs => finR (slices_IndexFunc_v2.d3 (xs.getD 0 .nil) (xs.getD 1 .nil))
def slices_IndexFunc_v2_fs : FS := ⟨2, ⟨[(0, (zl 113)), (1, (.fn 115 [(.d (.pt 40))]))], []⟩, ⟨[(0, zi)], []⟩, [], slices_IndexFunc_v2⟩
theorem slices_IndexFunc_v2_ok : FSOk Tryz.checked.prog T0 118 slices_IndexFunc_v2_fs := okOf base0 (fn := Tryz.f118) (c := Tryz.f118.body.getD .skip) slices_IndexFunc_v2_fs (.seq .leaf (.seq (.seq .leaf (.block ⟨[], []⟩ (.loop ⟨[(0, (zl 113)), (1, (.fn 115 [(.d (.pt 40))])), (7, zi), (8, zi)], []⟩ .leaf))) .leaf)) [(115, some 16, i_StewBook_sea_2_fs)] (.cons i_StewBook_sea_2_ok .nil) (by kernel_rfl) (by kernel_rfl) (by kernel_rfl) (fun xs => by kernel_rfl)
def slices_DeleteFunc_v1.d1 (t5 t6 b2001_0 b2001_1 b2001_2 b2001_3 b2001_4 b2001_5 b2001_6 b2001_7 b2001_8 b2001_9 b2001_10 b2001_11 b2001_12 b2001_13 b2001_14 b2001_15 b2001_16 a2000 : C) : R := (bif (decide (t6.I < (a2000.L.length : Int))) then (bif (decide (0 ≤ t6.I)) then (bif (decide (t6.I < (a2000.L.length : Int))) then (call1 (i_StewBook_sea_2 [((a2000.L.getD t6.I.toNat []).getD 0 .nil), ((a2000.L.getD t6.I.toNat []).getD 1 .nil), .p [b2001_0, b2001_1, b2001_2, b2001_3, b2001_4, b2001_5, b2001_6, b2001_7, b2001_8, b2001_9, b2001_10, b2001_11, b2001_12, b2001_13, b2001_14, b2001_15, b2001_16]]) fun y2_t0 => (bif (!y2_t0.B) then (bif (decide (0 ≤ t5.I)) then (bif (decide (t5.I < (a2000.L.length : Int))) then (some (.again [.i (w64 (t5.I + 1)), .i (w64 (t6.I + 1)), b2001_0, b2001_1, b2001_2, b2001_3, b2001_4, b2001_5, b2001_6, b2001_7, b2001_8, b2001_9, b2001_10, b2001_11, b2001_12, b2001_13, b2001_14, b2001_15, b2001_16, .l (a2000.L.set t5.I.toNat (setCs (a2000.L.getD t5.I.toNat []) 0 [((a2000.L.getD t6.I.toNat []).getD 0 .nil), ((a2000.L.getD t6.I.toNat []).getD 1 .nil)]))])) else none) else none) else (some (.again [t5, .i (w64 (t6.I + 1)), b2001_0, b2001_1, b2001_2, b2001_3, b2001_4, b2001_5, b2001_6, b2001_7, b2001_8, b2001_9, b2001_10, b2001_11, b2001_12, b2001_13, b2001_14, b2001_15, b2001_16, .l a2000.L])))) else none) else none) else (some (.brk 0 [t5, b2001_0, b2001_1, b2001_2, b2001_3, b2001_4, b2001_5, b2001_6, b2001_7, b2001_8, b2001_9, b2001_10, b2001_11, b2001_12, b2001_13, b2001_14, b2001_15, b2001_16, .l a2000.L])))
def slices_DeleteFunc_v1.d2 (t5 b2001_0 b2001_1 b2001_2 b2001_3 b2001_4 b2001_5 b2001_6 b2001_7 b2001_8 b2001_9 b2001_10 b2001_11 b2001_12 b2001_13 b2001_14 b2001_15 b2001_16 a2000 : C) : R := (bif (decide (0 ≤ t5.I)) then (bif (decide (t5.I ≤ (a2000.L.length : Int))) then (bif (decide ((a2000.L.length : Int) ≤ (a2000.L.length : Int))) then (bif (decide (0 ≤ t5.I)) then (bif (decide (t5.I ≤ ((a2000.L.take t5.I.toNat ++ rows (List.replicate ((a2000.L.length : Int) - t5.I).toNat [(.s (bs #[])), (.b false)]) ++ a2000.L.drop (t5.I.toNat + ((a2000.L.length : Int) - t5.I).toNat)).length : Int))) then (some (.ret [b2001_0, b2001_1, b2001_2, b2001_3, b2001_4, b2001_5, b2001_6, b2001_7, b2001_8, b2001_9, b2001_10, b2001_11, b2001_12, b2001_13, b2001_14, b2001_15, b2001_16, .l ((a2000.L.take t5.I.toNat ++ rows (List.replicate ((a2000.L.length : Int) - t5.I).toNat [(.s (bs #[])), (.b false)]) ++ a2000.L.drop (t5.I.toNat + ((a2000.L.length : Int) - t5.I).toNat)).take t5.I.toNat)])) else none) else none) else none) else none) else none)
def slices_DeleteFunc_v1.d3 (a2000 b2001_0 b2001_1 b2001_2 b2001_3 b2001_4 b2001_5 b2001_6 b2001_7 b2001_8 b2001_9 b2001_10 b2001_11 b2001_12 b2001_13 b2001_14 b2001_15 b2001_16 : C) : R := (call1 (slices_IndexFunc_v2 [.l a2000.L, .p [b2001_0, b2001_1, b2001_2, b2001_3, b2001_4, b2001_5, b2001_6, b2001_7, b2001_8, b2001_9, b2001_10, b2001_11, b2001_12, b2001_13, b2001_14, b2001_15, b2001_16]]) fun y1_t0 => (bif (y1_t0.I == (-1)) then (some (.ret [b2001_0, b2001_1, b2001_2, b2001_3, b2001_4, b2001_5, b2001_6, b2001_7, b2001_8, b2001_9, b2001_10, b2001_11, b2001_12, b2001_13, b2001_14, b2001_15, b2001_16, .l a2000.L])) else (bindBlk 0 (lim (fun xs => slices_DeleteFunc_v1.d1 (xs.getD 0 .nil) (xs.getD 1 .nil) (xs.getD 2 .nil) (xs.getD 3 .nil) (xs.getD 4 .nil) (xs.getD 5 .nil) (xs.getD 6 .nil) (xs.getD 7 .nil) (xs.getD 8 .nil) (xs.getD 9 .nil) (xs.getD 10 .nil) (xs.getD 11 .nil) (xs.getD 12 .nil) (xs.getD 13 .nil) (xs.getD 14 .nil) (xs.getD 15 .nil) (xs.getD 16 .nil) (xs.getD 17 .nil) (xs.getD 18 .nil) (xs.getD 19 .nil)) [y1_t0, .i (w64 (y1_t0.I + 1)), b2001_0, b2001_1, b2001_2, b2001_3, b2001_4, b2001_5, b2001_6, b2001_7, b2001_8, b2001_9, b2001_10, b2001_11, b2001_12, b2001_13, b2001_14, b2001_15, b2001_16, .l a2000.L]) (fun xs => slices_DeleteFunc_v1.d2 (xs.getD 0 .nil) (xs.getD 1 .nil) (xs.getD 2 .nil) (xs.getD 3 .nil) (xs.getD 4 .nil) (xs.getD 5 .nil) (xs.getD 6 .nil) (xs.getD 7 .nil) (xs.getD 8 .nil) (xs.getD 9 .nil) (xs.getD 10 .nil) (xs.getD 11 .nil) (xs.getD 12 .nil) (xs.getD 13 .nil) (xs.getD 14 .nil) (xs.getD 15 .nil) (xs.getD 16 .nil) (xs.getD 17 .nil) (xs.getD 18 .nil)))))
def slices_DeleteFunc_v1 : List C → Option (List C) := fun xs => finR (slices_DeleteFunc_v1.d3 (xs.getD 0 .nil) (xs.getD 1 .nil) (xs.getD 2 .nil) (xs.getD 3 .nil) (xs.getD 4 .nil) (xs.getD 5 .nil) (xs.getD 6 .nil) (xs.getD 7 .nil) (xs.getD 8 .nil) (xs.getD 9 .nil) (xs.getD 10 .nil) (xs.getD 11 .nil) (xs.getD 12 .nil) (xs.getD 13 .nil) (xs.getD 14 .nil) (xs.getD 15 .nil) (xs.getD 16 .nil) (xs.getD 17 .nil))
def slices_DeleteFunc_v1_fs : FS := ⟨2, ⟨[(0, (.ow 2000)), (1, (.fn 115 [(.pt 2001 0)]))], [(2000, .arr 113), (2001, z4)]⟩, ⟨[(0, (.ow 2000))], [(2001, z4), (2000, .arr 113)]⟩, [2001], slices_DeleteFunc_v1⟩
theorem slices_DeleteFunc_v1_ok : FSOk Tryz.checked.prog T0 114 slices_DeleteFunc_v1_fs := okOf base0 (fn := Tryz.f114) (c := Tryz.f114.body.getD .skip) slices_DeleteFunc_v1_fs (.seq .leaf (.seq .leaf (.seq .leaf (.seq (.seq .leaf (.block ⟨[(0, (.ow 2000)), (5, zi)], [(2001, z4), (2000, .arr 113)]⟩ (.loop ⟨[(0, (.ow 2000)), (1, (.fn 115 [(.pt 2001 0)])), (5, zi), (6, zi)], [(2001, z4), (2000, .arr 113)]⟩ .leaf))) (.seq .leaf (.seq .leaf (.cut 4 .leaf))))))) [(115, some 28, i_StewBook_sea_2_fs), (118, some 10, slices_IndexFunc_v2_fs)] (.cons i_StewBook_sea_2_ok (.cons slices_IndexFunc_v2_ok .nil)) (by kernel_rfl) (by kernel_rfl) (by kernel_rfl) (fun xs => by kernel_rfl)
def i_StewBook_sea_3.d1 (t0_0 t0_1 t0_2 t0_3 t0_4 t0_5 t0_6 t1 : C) : R := (bif (t0_4.I != 1) then (bif t1.isP then (some (.ret [.b (t0_6.S.toList == ((t1.P.getD 14 .nil).S).toList)])) else none) else (some (.ret [.b false])))
def i_StewBook_sea_3 : List C → Option (List C) := fun xs => finR (i_StewBook_sea_3.d1 (xs.getD 0 .nil) (xs.getD 1 .nil) (xs.getD 2 .nil) (xs.getD 3 .nil) (xs.getD 4 .nil) (xs.getD 5 .nil) (xs.getD 6 .nil) (xs.getD 7 .nil))
def i_StewBook_sea_3_fs : FS := ⟨2, ⟨[(0, z11), (1, (.d (.pt 40)))], []⟩, ⟨[(0, zo)], []⟩, [], i_StewBook_sea_3⟩
theorem i_StewBook_sea_3_ok : FSOk Tryz.checked.prog T0 117 i_StewBook_sea_3_fs := okOf base0 (fn := Tryz.f117) (c := Tryz.f117.body.getD .skip) i_StewBook_sea_3_fs .leaf [] .nil (by kernel_rfl) (by kernel_rfl) (by kernel_rfl) (fun xs => by kernel_rfl)
def slices_IndexFunc_v3.d1 (t0 t1f0 t7 t8 : C) : R := (bif (decide (t8.I < t7.I)) then (bif (decide (0 ≤ t8.I)) then (bif (decide (t8.I < (t0.L.length : Int))) then (call1 (i_StewBook_sea_3 [((t0.L.getD t8.I.toNat []).getD 0 .nil), ((t0.L.getD t8.I.toNat []).getD 1 .nil), ((t0.L.getD t8.I.toNat []).getD 2 .nil), ((t0.L.getD t8.I.toNat []).getD 3 .nil), ((t0.L.getD t8.I.toNat []).getD 4 .nil), ((t0.L.getD t8.I.toNat []).getD 5 .nil), ((t0.L.getD t8.I.toNat []).getD 6 .nil), t1f0]) fun y1_t0 => (bif y1_t0.B then (some (.ret [t8])) else (some (.again [t0, t1f0, t7, .i (w64 (t8.I + 1))])))) else none) else none) else (some (.brk 0 [])))
def slices_IndexFunc_v3.d2 : R := (some (.ret [.i (-1)]))
def slices_IndexFunc_v3.d3 (t0 t1f0 : C) : R := (bindBlk 0 (lim (fun xs => slices_IndexFunc_v3.d1 (xs.getD 0 .nil) (xs.getD 1 .nil) (xs.getD 2 .nil) (xs.getD 3 .nil)) [t0, t1f0, .i (t0.L.length : Int), .i 0]) (fun xs => slices_IndexFunc_v3.d2))
def slices_IndexFunc_v3 : List C → Option (List C) := fun xs => finR (slices_IndexFunc_v3.d3 (xs.getD 0 .nil) (xs.getD 1 .nil))
def slices_IndexFunc_v3_fs : FS := ⟨2, ⟨[(0, (zl 100)), (1, (.fn 117 [(.d (.pt 40))]))], []⟩, ⟨[(0, zi)], []⟩, [], slices_IndexFunc_v3⟩
theorem slices_IndexFunc_v3_ok : FSOk Tryz.checked.prog T0 156 slices_IndexFunc_v3_fs := okOf base0 (fn := Tryz.f156) (c := Tryz.f156.body.getD .skip) slices_IndexFunc_v3_fs (.seq .leaf (.seq (.seq .leaf (.block ⟨[], []⟩ (.loop ⟨[(0, (zl 100)), (1, (.fn 117 [(.d (.pt 40))])), (7, zi), (8, zi)], []⟩ .leaf))) .leaf)) [(117, some 16, i_StewBook_sea_3_fs)] (.cons i_StewBook_sea_3_ok .nil) (by kernel_rfl) (by kernel_rfl) (by kernel_rfl) (fun xs => by kernel_rfl)
def slices_DeleteFunc_v2.d1 (t5 t6 b2001_0 b2001_1 b2001_2 b2001_3 b2001_4 b2001_5 b2001_6 b2001_7 b2001_8 b2001_9 b2001_10 b2001_11 b2001_12 b2001_13 b2001_14 b2001_15 b2001_16 a2000 : C) : R := (bif (decide (t6.I < (a2000.L.length : Int))) then (bif (decide (0 ≤ t6.I)) then (bif (decide (t6.I < (a2000.L.length : Int))) then (call1 (i_StewBook_sea_3 [((a2000.L.getD t6.I.toNat []).getD 0 .nil), ((a2000.L.getD t6.I.toNat []).getD 1 .nil), ((a2000.L.getD t6.I.toNat []).getD 2 .nil), ((a2000.L.getD t6.I.toNat []).getD 3 .nil), ((a2000.L.getD t6.I.toNat []).getD 4 .nil), ((a2000.L.getD t6.I.toNat []).getD 5 .nil), ((a2000.L.getD t6.I.toNat []).getD 6 .nil), .p [b2001_0, b2001_1, b2001_2, b2001_3, b2001_4, b2001_5, b2001_6, b2001_7, b2001_8, b2001_9, b2001_10, b2001_11, b2001_12, b2001_13, b2001_14, b2001_15, b2001_16]]) fun y2_t0 => (bif (!y2_t0.B) then (bif (decide (0 ≤ t5.I)) then (bif (decide (t5.I < (a2000.L.length : Int))) then (some (.again [.i (w64 (t5.I + 1)), .i (w64 (t6.I + 1)), b2001_0, b2001_1, b2001_2, b2001_3, b2001_4, b2001_5, b2001_6, b2001_7, b2001_8, b2001_9, b2001_10, b2001_11, b2001_12, b2001_13, b2001_14, b2001_15, b2001_16, .l (a2000.L.set t5.I.toNat (setCs (a2000.L.getD t5.I.toNat []) 0 [((a2000.L.getD t6.I.toNat []).getD 0 .nil), ((a2000.L.getD t6.I.toNat []).getD 1 .nil), ((a2000.L.getD t6.I.toNat []).getD 2 .nil), ((a2000.L.getD t6.I.toNat []).getD 3 .nil), ((a2000.L.getD t6.I.toNat []).getD 4 .nil), ((a2000.L.getD t6.I.toNat []).getD 5 .nil), ((a2000.L.getD t6.I.toNat []).getD 6 .nil)]))])) else none) else none) else (some (.again [t5, .i (w64 (t6.I + 1)), b2001_0, b2001_1, b2001_2, b2001_3, b2001_4, b2001_5, b2001_6, b2001_7, b2001_8, b2001_9, b2001_10, b2001_11, b2001_12, b2001_13, b2001_14, b2001_15, b2001_16, .l a2000.L])))) else none) else none) else (some (.brk 0 [t5, b2001_0, b2001_1, b2001_2, b2001_3, b2001_4, b2001_5, b2001_6, b2001_7, b2001_8, b2001_9, b2001_10, b2001_11, b2001_12, b2001_13, b2001_14, b2001_15, b2001_16, .l a2000.L])))
def slices_DeleteFunc_v2.d2 (t5 b2001_0 b2001_1 b2001_2 b2001_3 b2001_4 b2001_5 b2001_6 b2001_7 b2001_8 b2001_9 b2001_10 b2001_11 b2001_12 b2001_13 b2001_14 b2001_15 b2001_16 a2000 : C) : R := (bif (decide (0 ≤ t5.I)) then (bif (decide (t5.I ≤ (a2000.L.length : Int))) then (bif (decide ((a2000.L.length : Int) ≤ (a2000.L.length : Int))) then (bif (decide (0 ≤ t5.I)) then (bif (decide (t5.I ≤ ((a2000.L.take t5.I.toNat ++ rows (List.replicate ((a2000.L.length : Int) - t5.I).toNat [(.s (bs #[])), (.i 0), (.i 0), (.i 0), (.i 0), (.b false), (.s (bs #[]))]) ++ a2000.L.drop (t5.I.toNat + ((a2000.L.length : Int) - t5.I).toNat)).length : Int))) then (some (.ret [b2001_0, b2001_1, b2001_2, b2001_3, b2001_4, b2001_5, b2001_6, b2001_7, b2001_8, b2001_9, b2001_10, b2001_11, b2001_12, b2001_13, b2001_14, b2001_15, b2001_16, .l ((a2000.L.take t5.I.toNat ++ rows (List.replicate ((a2000.L.length : Int) - t5.I).toNat [(.s (bs #[])), (.i 0), (.i 0), (.i 0), (.i 0), (.b false), (.s (bs #[]))]) ++ a2000.L.drop (t5.I.toNat + ((a2000.L.length : Int) - t5.I).toNat)).take t5.I.toNat)])) else none) else none) else none) else none) else none)
def slices_DeleteFunc_v2.d3 (a2000 b2001_0 b2001_1 b2001_2 b2001_3 b2001_4 b2001_5 b2001_6 b2001_7 b2001_8 b2001_9 b2001_10 b2001_11 b2001_12 b2001_13 b2001_14 b2001_15 b2001_16 : C) : R := (call1 (slices_IndexFunc_v3 [.l a2000.L, .p [b2001_0, b2001_1, b2001_2, b2001_3, b2001_4, b2001_5, b2001_6, b2001_7, b2001_8, b2001_9, b2001_10, b2001_11, b2001_12, b2001_13, b2001_14, b2001_15, b2001_16]]) fun y1_t0 => (bif (y1_t0.I == (-1)) then (some (.ret [b2001_0, b2001_1, b2001_2, b2001_3, b2001_4, b2001_5, b2001_6, b2001_7, b2001_8, b2001_9, b2001_10, b2001_11, b2001_12, b2001_13, b2001_14, b2001_15, b2001_16, .l a2000.L])) else (bindBlk 0 (lim (fun xs => slices_DeleteFunc_v2.d1 (xs.getD 0 .nil) (xs.getD 1 .nil) (xs.getD 2 .nil) (xs.getD 3 .nil) (xs.getD 4 .nil) (xs.getD 5 .nil) (xs.getD 6 .nil) (xs.getD 7 .nil) (xs.getD 8 .nil) (xs.getD 9 .nil) (xs.getD 10 .nil) (xs.getD 11 .nil) (xs.getD 12 .nil) (xs.getD 13 .nil) (xs.getD 14 .nil) (xs.getD 15 .nil) (xs.getD 16 .nil) (xs.getD 17 .nil) (xs.getD 18 .nil) (xs.getD 19 .nil)) [y1_t0, .i (w64 (y1_t0.I + 1)), b2001_0, b2001_1, b2001_2, b2001_3, b2001_4, b2001_5, b2001_6, b2001_7, b2001_8, b2001_9, b2001_10, b2001_11, b2001_12, b2001_13, b2001_14, b2001_15, b2001_16, .l a2000.L]) (fun xs => slices_DeleteFunc_v2.d2 (xs.getD 0 .nil) (xs.getD 1 .nil) (xs.getD 2 .nil) (xs.getD 3 .nil) (xs.getD 4 .nil) (xs.getD 5 .nil) (xs.getD 6 .nil) (xs.getD 7 .nil) (xs.getD 8 .nil) (xs.getD 9 .nil) (xs.getD 10 .nil) (xs.getD 11 .nil) (xs.getD 12 .nil) (xs.getD 13 .nil) (xs.getD 14 .nil) (xs.getD 15 .nil) (xs.getD 16 .nil) (xs.getD 17 .nil) (xs.getD 18 .nil)))))
def slices_DeleteFunc_v2 : List C → Option (List C) := fun xs => finR (slices_DeleteFunc_v2.d3 (xs.getD 0 .nil) (xs.getD 1 .nil) (xs.getD 2 .nil) (xs.getD 3 .nil) (xs.getD 4 .nil) (xs.getD 5 .nil) (xs.getD 6 .nil) (xs.getD 7 .nil) (xs.getD 8 .nil) (xs.getD 9 .nil) (xs.getD 10 .nil) (xs.getD 11 .nil) (xs.getD 12 .nil) (xs.getD 13 .nil) (xs.getD 14 .nil) (xs.getD 15 .nil) (xs.getD 16 .nil) (xs.getD 17 .nil))
def slices_DeleteFunc_v2_fs : FS := ⟨2, ⟨[(0, (.ow 2000)), (1, (.fn 117 [(.pt 2001 0)]))], [(2000, .arr 100), (2001, z4)]⟩, ⟨[(0, (.ow 2000))], [(2001, z4), (2000, .arr 100)]⟩, [2001], slices_DeleteFunc_v2⟩
theorem slices_DeleteFunc_v2_ok : FSOk Tryz.checked.prog T0 116 slices_DeleteFunc_v2_fs := okOf base0 (fn := Tryz.f116) (c := Tryz.f116.body.getD .skip) slices_DeleteFunc_v2_fs (.seq .leaf (.seq .leaf (.seq .leaf (.seq (.seq .leaf (.block ⟨[(0, (.ow 2000)), (5, zi)], [(2001, z4), (2000, .arr 100)]⟩ (.loop ⟨[(0, (.ow 2000)), (1, (.fn 117 [(.pt 2001 0)])), (5, zi), (6, zi)], [(2001, z4), (2000, .arr 100)]⟩ .leaf))) (.seq .leaf (.seq .leaf (.cut 4 .leaf))))))) [(117, some 28, i_StewBook_sea_3_fs), (156, some 10, slices_IndexFunc_v3_fs)] (.cons i_StewBook_sea_3_ok (.cons slices_IndexFunc_v3_ok .nil)) (by kernel_rfl) (by kernel_rfl) (by kernel_rfl) (fun xs => by kernel_rfl)
def i_StewBook_sea_4.d1 (t0_0 t0_1 t1 : C) : R := (bif t1.isP then (some (.ret [.b (!((Op.bytesLess t0_0.S.toList ((t1.P.getD 14 .nil).S).toList) || (t0_0.S.toList == ((t1.P.getD 14 .nil).S).toList)))])) else none)
def i_StewBook_sea_4 : List C → Option (List C) := fun xs => finR (i_StewBook_sea_4.d1 (xs.getD 0 .nil) (xs.getD 1 .nil) (xs.getD 2 .nil))
def i_StewBook_sea_4_fs : FS := ⟨2, ⟨[(0, (.ag [zt, zo])), (1, (.d (.pt 40)))], []⟩, ⟨[(0, zo)], []⟩, [], i_StewBook_sea_4⟩
theorem i_StewBook_sea_4_ok : FSOk Tryz.checked.prog T0 119 i_StewBook_sea_4_fs := okOf base0 (fn := Tryz.f119) (c := Tryz.f119.body.getD .skip) i_StewBook_sea_4_fs .leaf [] .nil (by kernel_rfl) (by kernel_rfl) (by kernel_rfl) (fun xs => by kernel_rfl)
def slices_IndexFunc_v4.d1 (t0 t1f0 t7 t8 : C) : R := (bif (decide (t8.I < t7.I)) then (bif (decide (0 ≤ t8.I)) then (bif (decide (t8.I < (t0.L.length : Int))) then (call1 (i_StewBook_sea_4 [((t0.L.getD t8.I.toNat []).getD 0 .nil), ((t0.L.getD t8.I.toNat []).getD 1 .nil), t1f0]) fun y1_t0 => (bif y1_t0.B then (some (.ret [t8])) else (some (.again [t0, t1f0, t7, .i (w64 (t8.I + 1))])))) else none) else none) else (some (.brk 0 [])))
def slices_IndexFunc_v4.d2 : R := (some (.ret [.i (-1)]))
def slices_IndexFunc_v4.d3 (t0 t1f0 : C) : R := (bindBlk 0 (lim (fun xs => slices_IndexFunc_v4.d1 (xs.getD 0 .nil) (xs.getD 1 .nil) (xs.getD 2 .nil) (xs.getD 3 .nil)) [t0, t1f0, .i (t0.L.length : Int), .i 0]) (fun xs => slices_IndexFunc_v4.d2))
def slices_IndexFunc_v4 : List C → Option (List C) := fun xs => finR (slices_IndexFunc_v4.d3 (xs.getD 0 .nil) (xs.getD 1 .nil))
def slices_IndexFunc_v4_fs : FS := ⟨2, ⟨[(0, (zl 113)), (1, (.fn 119 [(.d (.pt 40))]))], []⟩, ⟨[(0, zi)], []⟩, [], slices_IndexFunc_v4⟩
theorem slices_IndexFunc_v4_ok : FSOk Tryz.checked.prog T0 118 slices_IndexFunc_v4_fs := okOf base0 (fn := Tryz.f118) (c := Tryz.f118.body.getD .skip) slices_IndexFunc_v4_fs (.seq .leaf (.seq (.seq .leaf (.block ⟨[], []⟩ (.loop ⟨[(0, (zl 113)), (1, (.fn 119 [(.d (.pt 40))])), (7, zi), (8, zi)], []⟩ .leaf))) .leaf)) [(119, some 16, i_StewBook_sea_4_fs)] (.cons i_StewBook_sea_4_ok .nil) (by kernel_rfl) (by kernel_rfl) (by kernel_rfl) (fun xs => by kernel_rfl)
def slices_Insert_v1.d1 (t1 a2000 a2001 : C) : R := (bif (decide (0 ≤ t1.I)) then (bif (decide (t1.I ≤ (a2000.L.length : Int))) then (bif (decide ((a2000.L.length : Int) ≤ (a2000.L.length : Int))) then (bif ((a2001.L.length : Int) == 0) then (some (.ret [.l a2001.L, .l a2000.L])) else (bif (t1.I == (a2000.L.length : Int)) then (bif (decide (a2000.L.length + a2001.L.length ≤ 4294967296)) then (some (.ret [.l a2001.L, .l (a2000.L ++ a2001.L)])) else none) else none)) else none) else none) else none)
def slices_Insert_v1 : List C → Option (List C) := fun xs => finR (slices_Insert_v1.d1 (xs.getD 0 .nil) (xs.getD 1 .nil) (xs.getD 2 .nil))
def slices_Insert_v1_fs : FS := ⟨3, ⟨[(0, (.ow 2000)), (1, zi), (2, (.ow 2001))], [(2000, .arr 113), (2001, .arr 113)]⟩, ⟨[(0, (.ow 2000))], [(2001, .arr 113), (2000, .arr 113)]⟩, [2001], slices_Insert_v1⟩
theorem slices_Insert_v1_ok : FSOk Tryz.checked.prog T0 120 slices_Insert_v1_fs := okOf base0 (fn := Tryz.f120) (c := Tryz.f120.body.getD .skip) slices_Insert_v1_fs .leaf [] .nil (by kernel_rfl) (by kernel_rfl) (by kernel_rfl) (fun xs => by kernel_rfl)
end
end Go.Ev
namespace Go.Ev
open Go.Proofs
noncomputable section
def i_StewBook_sea.d1 (t7 b2000_0 b5_0 b5_1 b5_2 b5_3 b5_4 b5_5 b5_6 b5_7 b5_8 b5_9 b5_10 b5_11 b5_12 a2001 a2002 a2003 : C) : R := (call2 (slices_Insert [t7, .l a2001.L, .l (rows [[b5_0, .i 0, .b false, .i 0, .i 0, .i 0, .i 0, .i 0, .i 0, .i 0, .i 0, .i 0, .i 0]])]) fun y4_a2001 y4_a2000 => (some (.nrm [b2000_0, b5_0, b5_1, b5_2, b5_3, b5_4, b5_5, b5_6, b5_7, b5_8, b5_9, b5_10, b5_11, b5_12, .l y4_a2000.L, .l a2002.L, .l a2003.L])))
def i_StewBook_sea.d2 (b2000_0 b5_0 b5_1 b5_2 b5_3 b5_4 b5_5 b5_6 b5_7 b5_8 b5_9 b5_10 b5_11 b5_12 a2001 a2002 a2003 : C) : R := (call5 (i_StewBook_service_v1 [b5_0, b2000_0, .l a2001.L, .l a2002.L, .l a2003.L]) fun y5_t0ix y5_b2000_0 y5_a2001 y5_a2002 y5_a2003 => (bif (decide (0 ≤ y5_t0ix.I)) then (call1 (i_StewValid [y5_b2000_0, .l (y5_a2001.L.set y5_t0ix.I.toNat (setCs (y5_a2001.L.getD y5_t0ix.I.toNat []) 0 [b5_0, b2000_0, b5_2, b5_3, b5_4, b5_5, b5_6, b5_7, b5_8, b5_9, b5_10, b5_11, .i 0])), .l y5_a2002.L, .l y5_a2003.L]) fun y17_t0 => (bif (!y17_t0.B) then (some (.ret [.i 2, y5_b2000_0, .l (y5_a2001.L.set y5_t0ix.I.toNat (setCs (y5_a2001.L.getD y5_t0ix.I.toNat []) 0 [b5_0, b2000_0, b5_2, b5_3, b5_4, b5_5, b5_6, b5_7, b5_8, b5_9, b5_10, b5_11, .i 0])), .l y5_a2002.L, .l y5_a2003.L])) else (some (.ret [.i 0, y5_b2000_0, .l (y5_a2001.L.set y5_t0ix.I.toNat (setCs (y5_a2001.L.getD y5_t0ix.I.toNat []) 0 [b5_0, b2000_0, b5_2, b5_3, b5_4, b5_5, b5_6, b5_7, b5_8, b5_9, b5_10, b5_11, .i 0])), .l y5_a2002.L, .l y5_a2003.L])))) else none))
def i_StewBook_sea.d3 (t9 b2000_0 b3_0 b3_1 b3_2 b3_3 b3_4 b3_5 b3_6 b3_7 b3_8 b3_9 b3_10 b3_11 b3_12 b3_13 b3_14 b3_15 b3_16 a2001 a2002 a2003 : C) : R := (call2 (slices_Insert_v1 [t9, .l a2003.L, .l (rows [[b3_14, .b false]])]) fun y12_a2001 y12_a2000 => (call5 (i_StewBook_berth_v2 [b3_14, b2000_0, .l a2001.L, .l a2002.L, .l y12_a2000.L]) fun y13_t0ix y13_b2000_0 y13_a2001 y13_a2002 y13_a2003 => (bif (decide (0 ≤ y13_t0ix.I)) then (call1 (i_StewValid [y13_b2000_0, .l y13_a2001.L, .l y13_a2002.L, .l (y13_a2003.L.set y13_t0ix.I.toNat (setCs (y13_a2003.L.getD y13_t0ix.I.toNat []) 1 [.b b3_16.B]))]) fun y21_t0 => (bif (!y21_t0.B) then (some (.ret [.i 2, y13_b2000_0, .l y13_a2001.L, .l y13_a2002.L, .l (y13_a2003.L.set y13_t0ix.I.toNat (setCs (y13_a2003.L.getD y13_t0ix.I.toNat []) 1 [.b b3_16.B]))])) else (some (.ret [.i 0, y13_b2000_0, .l y13_a2001.L, .l y13_a2002.L, .l (y13_a2003.L.set y13_t0ix.I.toNat (setCs (y13_a2003.L.getD y13_t0ix.I.toNat []) 1 [.b b3_16.B]))])))) else none)))
def i_StewBook_sea.d4 (t1_0 t1_1 t1_2 t1_3 t1_4 t1_5 t1_6 t1_7 t1_8 t1_9 t1_10 t1_11 t1_12 t1_13 t1_14 t1_15 t1_16 b2000_0 a2001 a2002 a2003 : C) : R := (bif (!(decide (t1_0.I < 1))) then (bif (decide (t1_0.I > 6)) then (some (.ret [.i 4, b2000_0, .l a2001.L, .l a2002.L, .l a2003.L])) else (bif (b2000_0.I == 1000000) then (some (.ret [.i 7, b2000_0, .l a2001.L, .l a2002.L, .l a2003.L])) else (bif (t1_0.I == 1) then (call4 (i_StewBook_tick [.i (w64 (b2000_0.I + 1)), .l a2001.L, .l a2002.L, .l a2003.L]) fun y1_b2000_0 y1_a2001 y1_a2003 y1_a2002 => (call1 (i_StewValid [y1_b2000_0, .l y1_a2001.L, .l y1_a2002.L, .l y1_a2003.L]) fun y16_t0 => (bif (!y16_t0.B) then (some (.ret [.i 2, y1_b2000_0, .l y1_a2001.L, .l y1_a2002.L, .l y1_a2003.L])) else (some (.ret [.i 0, y1_b2000_0, .l y1_a2001.L, .l y1_a2002.L, .l y1_a2003.L]))))) else (bif (t1_0.I == 2) then (bindNrm (call5 (i_StewBook_service_v1 [t1_1, .i (w64 (b2000_0.I + 1)), .l a2001.L, .l a2002.L, .l a2003.L]) fun y2_t0ix y2_b2000_0 y2_a2001 y2_a2002 y2_a2003 => (bif (!(decide (y2_t0ix.I < 0))) then (bif (decide (0 ≤ y2_t0ix.I)) then (some (.nrm [y2_b2000_0, t1_1, t1_2, t1_3, t1_4, t1_5, t1_6, t1_7, ((y2_a2001.L.getD y2_t0ix.I.toNat []).getD 7 .nil), t1_9, t1_10, t1_11, t1_12, t1_13, .l y2_a2001.L, .l y2_a2002.L, .l y2_a2003.L])) else none) else (call1 (slices_IndexFunc_v1 [.l y2_a2001.L, .p [t1_1, t1_2, t1_3, t1_4, t1_5, t1_6, t1_7, .i 1, t1_9, t1_10, t1_11, t1_12, t1_13]]) fun y3_t0 => (bindNrm (bif (decide (y3_t0.I < 0)) then (some (.nrm [.i (y2_a2001.L.length : Int), y2_b2000_0, t1_1, t1_2, t1_3, t1_4, t1_5, t1_6, t1_7, .i 1, t1_9, t1_10, t1_11, t1_12, t1_13, .l y2_a2001.L, .l y2_a2002.L, .l y2_a2003.L])) else (some (.nrm [y3_t0, y2_b2000_0, t1_1, t1_2, t1_3, t1_4, t1_5, t1_6, t1_7, .i 1, t1_9, t1_10, t1_11, t1_12, t1_13, .l y2_a2001.L, .l y2_a2002.L, .l y2_a2003.L]))) (fun xs => i_StewBook_sea.d1 (xs.getD 0 .nil) (xs.getD 1 .nil) (xs.getD 2 .nil) (xs.getD 3 .nil) (xs.getD 4 .nil) (xs.getD 5 .nil) (xs.getD 6 .nil) (xs.getD 7 .nil) (xs.getD 8 .nil) (xs.getD 9 .nil) (xs.getD 10 .nil) (xs.getD 11 .nil) (xs.getD 12 .nil) (xs.getD 13 .nil) (xs.getD 14 .nil) (xs.getD 15 .nil) (xs.getD 16 .nil) (xs.getD 17 .nil)))))) (fun xs => i_StewBook_sea.d2 (xs.getD 0 .nil) (xs.getD 1 .nil) (xs.getD 2 .nil) (xs.getD 3 .nil) (xs.getD 4 .nil) (xs.getD 5 .nil) (xs.getD 6 .nil) (xs.getD 7 .nil) (xs.getD 8 .nil) (xs.getD 9 .nil) (xs.getD 10 .nil) (xs.getD 11 .nil) (xs.getD 12 .nil) (xs.getD 13 .nil) (xs.getD 14 .nil) (xs.getD 15 .nil) (xs.getD 16 .nil))) else (bif (t1_0.I == 3) then (call5 (i_StewBook_copy_v1 [t1_14, t1_15, .i (w64 (b2000_0.I + 1)), .l a2001.L, .l a2002.L, .l a2003.L]) fun y6_t0ix y6_b2000_0 y6_a2001 y6_a2002 y6_a2003 => (bif (!(decide (y6_t0ix.I < 0))) then (bif (decide (0 ≤ y6_t0ix.I)) then (bif (((y6_a2002.L.getD y6_t0ix.I.toNat []).getD 4 .nil).I != 3) then (bif (decide (0 ≤ y6_t0ix.I)) then (bif (((y6_a2002.L.getD y6_t0ix.I.toNat []).getD 4 .nil).I != 2) then (some (.ret [.i 3, y6_b2000_0, .l y6_a2001.L, .l y6_a2002.L, .l y6_a2003.L])) else (bif (decide (0 ≤ y6_t0ix.I)) then (bif (decide (0 ≤ y6_t0ix.I)) then (call1 (i_StewValid [y6_b2000_0, .l y6_a2001.L, .l ((y6_a2002.L.set y6_t0ix.I.toNat (setCs (y6_a2002.L.getD y6_t0ix.I.toNat []) 4 [.i 4])).set y6_t0ix.I.toNat (setCs ((y6_a2002.L.set y6_t0ix.I.toNat (setCs (y6_a2002.L.getD y6_t0ix.I.toNat []) 4 [.i 4])).getD y6_t0ix.I.toNat []) 2 [y6_b2000_0])), .l y6_a2003.L]) fun y18_t0 => (bif (!y18_t0.B) then (some (.ret [.i 2, y6_b2000_0, .l y6_a2001.L, .l ((y6_a2002.L.set y6_t0ix.I.toNat (setCs (y6_a2002.L.getD y6_t0ix.I.toNat []) 4 [.i 4])).set y6_t0ix.I.toNat (setCs ((y6_a2002.L.set y6_t0ix.I.toNat (setCs (y6_a2002.L.getD y6_t0ix.I.toNat []) 4 [.i 4])).getD y6_t0ix.I.toNat []) 2 [y6_b2000_0])), .l y6_a2003.L])) else (some (.ret [.i 0, y6_b2000_0, .l y6_a2001.L, .l ((y6_a2002.L.set y6_t0ix.I.toNat (setCs (y6_a2002.L.getD y6_t0ix.I.toNat []) 4 [.i 4])).set y6_t0ix.I.toNat (setCs ((y6_a2002.L.set y6_t0ix.I.toNat (setCs (y6_a2002.L.getD y6_t0ix.I.toNat []) 4 [.i 4])).getD y6_t0ix.I.toNat []) 2 [y6_b2000_0])), .l y6_a2003.L])))) else none) else none)) else none) else (bif (decide (0 ≤ y6_t0ix.I)) then (bif (decide (0 ≤ y6_t0ix.I)) then (call1 (i_StewValid [y6_b2000_0, .l y6_a2001.L, .l ((y6_a2002.L.set y6_t0ix.I.toNat (setCs (y6_a2002.L.getD y6_t0ix.I.toNat []) 4 [.i 4])).set y6_t0ix.I.toNat (setCs ((y6_a2002.L.set y6_t0ix.I.toNat (setCs (y6_a2002.L.getD y6_t0ix.I.toNat []) 4 [.i 4])).getD y6_t0ix.I.toNat []) 2 [y6_b2000_0])), .l y6_a2003.L]) fun y19_t0 => (bif (!y19_t0.B) then (some (.ret [.i 2, y6_b2000_0, .l y6_a2001.L, .l ((y6_a2002.L.set y6_t0ix.I.toNat (setCs (y6_a2002.L.getD y6_t0ix.I.toNat []) 4 [.i 4])).set y6_t0ix.I.toNat (setCs ((y6_a2002.L.set y6_t0ix.I.toNat (setCs (y6_a2002.L.getD y6_t0ix.I.toNat []) 4 [.i 4])).getD y6_t0ix.I.toNat []) 2 [y6_b2000_0])), .l y6_a2003.L])) else (some (.ret [.i 0, y6_b2000_0, .l y6_a2001.L, .l ((y6_a2002.L.set y6_t0ix.I.toNat (setCs (y6_a2002.L.getD y6_t0ix.I.toNat []) 4 [.i 4])).set y6_t0ix.I.toNat (setCs ((y6_a2002.L.set y6_t0ix.I.toNat (setCs (y6_a2002.L.getD y6_t0ix.I.toNat []) 4 [.i 4])).getD y6_t0ix.I.toNat []) 2 [y6_b2000_0])), .l y6_a2003.L])))) else none) else none)) else none) else (some (.ret [.i 3, y6_b2000_0, .l y6_a2001.L, .l y6_a2002.L, .l y6_a2003.L])))) else (bif (t1_0.I == 4) then (call5 (i_StewBook_berth_v2 [t1_14, .i (w64 (b2000_0.I + 1)), .l a2001.L, .l a2002.L, .l a2003.L]) fun y7_t0ix y7_b2000_0 y7_a2001 y7_a2002 y7_a2003 => (bif (decide (y7_t0ix.I < 0)) then (some (.ret [.i 3, y7_b2000_0, .l y7_a2001.L, .l y7_a2002.L, .l y7_a2003.L])) else (call18 (slices_DeleteFunc_v1 [.l y7_a2003.L, t1_0, t1_1, t1_2, t1_3, t1_4, t1_5, t1_6, t1_7, t1_8, t1_9, t1_10, t1_11, t1_12, t1_13, t1_14, t1_15, t1_16]) fun y8_b2001_0 y8_b2001_1 y8_b2001_2 y8_b2001_3 y8_b2001_4 y8_b2001_5 y8_b2001_6 y8_b2001_7 y8_b2001_8 y8_b2001_9 y8_b2001_10 y8_b2001_11 y8_b2001_12 y8_b2001_13 y8_b2001_14 y8_b2001_15 y8_b2001_16 y8_a2000 => (call18 (slices_DeleteFunc_v2 [.l y7_a2002.L, y8_b2001_0, y8_b2001_1, y8_b2001_2, y8_b2001_3, y8_b2001_4, y8_b2001_5, y8_b2001_6, y8_b2001_7, y8_b2001_8, y8_b2001_9, y8_b2001_10, y8_b2001_11, y8_b2001_12, y8_b2001_13, y8_b2001_14, y8_b2001_15, y8_b2001_16]) fun y9_b2001_0 y9_b2001_1 y9_b2001_2 y9_b2001_3 y9_b2001_4 y9_b2001_5 y9_b2001_6 y9_b2001_7 y9_b2001_8 y9_b2001_9 y9_b2001_10 y9_b2001_11 y9_b2001_12 y9_b2001_13 y9_b2001_14 y9_b2001_15 y9_b2001_16 y9_a2000 => (call1 (i_StewValid [y7_b2000_0, .l y7_a2001.L, .l y9_a2000.L, .l y8_a2000.L]) fun y20_t0 => (bif (!y20_t0.B) then (some (.ret [.i 2, y7_b2000_0, .l y7_a2001.L, .l y9_a2000.L, .l y8_a2000.L])) else (some (.ret [.i 0, y7_b2000_0, .l y7_a2001.L, .l y9_a2000.L, .l y8_a2000.L])))))))) else (bif (t1_0.I == 5) then (call5 (i_StewBook_berth_v2 [t1_14, .i (w64 (b2000_0.I + 1)), .l a2001.L, .l a2002.L, .l a2003.L]) fun y10_t0ix y10_b2000_0 y10_a2001 y10_a2002 y10_a2003 => (bif (decide (y10_t0ix.I < 0)) then (call1 (slices_IndexFunc_v4 [.l y10_a2003.L, .p [t1_0, t1_1, t1_2, t1_3, t1_4, t1_5, t1_6, t1_7, t1_8, t1_9, t1_10, t1_11, t1_12, t1_13, t1_14, t1_15, t1_16]]) fun y11_t0 => (bindNrm (bif (decide (y11_t0.I < 0)) then (some (.nrm [.i (y10_a2003.L.length : Int), y10_b2000_0, t1_0, t1_1, t1_2, t1_3, t1_4, t1_5, t1_6, t1_7, t1_8, t1_9, t1_10, t1_11, t1_12, t1_13, t1_14, t1_15, t1_16, .l y10_a2001.L, .l y10_a2002.L, .l y10_a2003.L])) else (some (.nrm [y11_t0, y10_b2000_0, t1_0, t1_1, t1_2, t1_3, t1_4, t1_5, t1_6, t1_7, t1_8, t1_9, t1_10, t1_11, t1_12, t1_13, t1_14, t1_15, t1_16, .l y10_a2001.L, .l y10_a2002.L, .l y10_a2003.L]))) (fun xs => i_StewBook_sea.d3 (xs.getD 0 .nil) (xs.getD 1 .nil) (xs.getD 2 .nil) (xs.getD 3 .nil) (xs.getD 4 .nil) (xs.getD 5 .nil) (xs.getD 6 .nil) (xs.getD 7 .nil) (xs.getD 8 .nil) (xs.getD 9 .nil) (xs.getD 10 .nil) (xs.getD 11 .nil) (xs.getD 12 .nil) (xs.getD 13 .nil) (xs.getD 14 .nil) (xs.getD 15 .nil) (xs.getD 16 .nil) (xs.getD 17 .nil) (xs.getD 18 .nil) (xs.getD 19 .nil) (xs.getD 20 .nil) (xs.getD 21 .nil)))) else (call5 (i_StewBook_berth_v2 [t1_14, y10_b2000_0, .l y10_a2001.L, .l y10_a2002.L, .l y10_a2003.L]) fun y14_t0ix y14_b2000_0 y14_a2001 y14_a2002 y14_a2003 => (bif (decide (0 ≤ y14_t0ix.I)) then (call1 (i_StewValid [y14_b2000_0, .l y14_a2001.L, .l y14_a2002.L, .l (y14_a2003.L.set y14_t0ix.I.toNat (setCs (y14_a2003.L.getD y14_t0ix.I.toNat []) 1 [.b t1_16.B]))]) fun y22_t0 => (bif (!y22_t0.B) then (some (.ret [.i 2, y14_b2000_0, .l y14_a2001.L, .l y14_a2002.L, .l (y14_a2003.L.set y14_t0ix.I.toNat (setCs (y14_a2003.L.getD y14_t0ix.I.toNat []) 1 [.b t1_16.B]))])) else (some (.ret [.i 0, y14_b2000_0, .l y14_a2001.L, .l y14_a2002.L, .l (y14_a2003.L.set y14_t0ix.I.toNat (setCs (y14_a2003.L.getD y14_t0ix.I.toNat []) 1 [.b t1_16.B]))])))) else none)))) else (bif (t1_0.I == 6) then (call5 (i_StewBook_service_v1 [t1_14, .i (w64 (b2000_0.I + 1)), .l a2001.L, .l a2002.L, .l a2003.L]) fun y15_t0ix y15_b2000_0 y15_a2001 y15_a2002 y15_a2003 => (bif (!(decide (y15_t0ix.I < 0))) then (bif (decide (0 ≤ y15_t0ix.I)) then (bif (((y15_a2001.L.getD y15_t0ix.I.toNat []).getD 8 .nil).I == 0) then (some (.ret [.i 3, y15_b2000_0, .l y15_a2001.L, .l y15_a2002.L, .l y15_a2003.L])) else (bif (decide (0 ≤ y15_t0ix.I)) then (bif (decide (0 ≤ y15_t0ix.I)) then (call1 (i_StewValid [y15_b2000_0, .l ((y15_a2001.L.set y15_t0ix.I.toNat (setCs (y15_a2001.L.getD y15_t0ix.I.toNat []) 11 [t1_15])).set y15_t0ix.I.toNat (setCs ((y15_a2001.L.set y15_t0ix.I.toNat (setCs (y15_a2001.L.getD y15_t0ix.I.toNat []) 11 [t1_15])).getD y15_t0ix.I.toNat []) 1 [y15_b2000_0])), .l y15_a2002.L, .l y15_a2003.L]) fun y23_t0 => (bif (!y23_t0.B) then (some (.ret [.i 2, y15_b2000_0, .l ((y15_a2001.L.set y15_t0ix.I.toNat (setCs (y15_a2001.L.getD y15_t0ix.I.toNat []) 11 [t1_15])).set y15_t0ix.I.toNat (setCs ((y15_a2001.L.set y15_t0ix.I.toNat (setCs (y15_a2001.L.getD y15_t0ix.I.toNat []) 11 [t1_15])).getD y15_t0ix.I.toNat []) 1 [y15_b2000_0])), .l y15_a2002.L, .l y15_a2003.L])) else (some (.ret [.i 0, y15_b2000_0, .l ((y15_a2001.L.set y15_t0ix.I.toNat (setCs (y15_a2001.L.getD y15_t0ix.I.toNat []) 11 [t1_15])).set y15_t0ix.I.toNat (setCs ((y15_a2001.L.set y15_t0ix.I.toNat (setCs (y15_a2001.L.getD y15_t0ix.I.toNat []) 11 [t1_15])).getD y15_t0ix.I.toNat []) 1 [y15_b2000_0])), .l y15_a2002.L, .l y15_a2003.L])))) else none) else none)) else none) else (some (.ret [.i 3, y15_b2000_0, .l y15_a2001.L, .l y15_a2002.L, .l y15_a2003.L])))) else (call1 (i_StewValid [.i (w64 (b2000_0.I + 1)), .l a2001.L, .l a2002.L, .l a2003.L]) fun y24_t0 => (bif (!y24_t0.B) then (some (.ret [.i 2, .i (w64 (b2000_0.I + 1)), .l a2001.L, .l a2002.L, .l a2003.L])) else (some (.ret [.i 0, .i (w64 (b2000_0.I + 1)), .l a2001.L, .l a2002.L, .l a2003.L])))))))))))) else (some (.ret [.i 4, b2000_0, .l a2001.L, .l a2002.L, .l a2003.L])))
def i_StewBook_sea : List C → Option (List C) := fun xs => finR (i_StewBook_sea.d4 (xs.getD 0 .nil) (xs.getD 1 .nil) (xs.getD 2 .nil) (xs.getD 3 .nil) (xs.getD 4 .nil) (xs.getD 5 .nil) (xs.getD 6 .nil) (xs.getD 7 .nil) (xs.getD 8 .nil) (xs.getD 9 .nil) (xs.getD 10 .nil) (xs.getD 11 .nil) (xs.getD 12 .nil) (xs.getD 13 .nil) (xs.getD 14 .nil) (xs.getD 15 .nil) (xs.getD 16 .nil) (xs.getD 17 .nil) (xs.getD 18 .nil) (xs.getD 19 .nil) (xs.getD 20 .nil))
def i_StewBook_sea_fs : FS := ⟨2, ⟨[(0, (.pt 2000 0)), (1, z18)], [(2000, z3), (2001, .arr 38), (2002, .arr 100), (2003, .arr 113)]⟩, ⟨[(0, zi)], [(2000, z3), (2001, .arr 38), (2002, .arr 100), (2003, .arr 113)]⟩, [2000], i_StewBook_sea⟩
theorem i_StewBook_sea_ok : FSOk Tryz.checked.prog T0 60 i_StewBook_sea_fs := okOf base0 (fn := Tryz.f60) (c := Tryz.f60.body.getD .skip) i_StewBook_sea_fs (.seq .leaf (.seq .leaf (.seq .leaf (.seq .leaf (.seq (.seq .leaf (.skip (.seq .leaf (.cond .leaf (.seq .leaf (.cond (.seq .leaf (.seq (.join ⟨[(0, (.pt 2000 0)), (5, (.pt 5 0))], [(2000, z3), (5, z2), (2001, .arr 38), (2002, .arr 100), (2003, .arr 113)]⟩ (.seq .leaf (.seq .leaf (.cond .leaf (.seq .leaf (.seq .leaf (.seq (.join ⟨[(0, (.pt 2000 0)), (5, (.pt 5 0)), (7, zi)], [(2000, z3), (5, z2), (2001, .arr 38), (2002, .arr 100), (2003, .arr 113)]⟩ .leaf) .leaf))))))) .leaf)) (.seq .leaf (.cond .leaf (.seq .leaf (.cond .leaf (.seq .leaf (.cond (.seq (.seq .leaf (.cond (.seq .leaf (.seq (.join ⟨[(0, (.pt 2000 0)), (3, (.pt 3 0)), (9, zi)], [(2000, z3), (3, z4), (2001, .arr 38), (2002, .arr 100), (2003, .arr 113)]⟩ .leaf) .leaf)) .leaf)) .leaf) .leaf)))))))))))) .leaf))))) [(47, some 221, i_StewValid_fs), (50, some 44, i_StewBook_service_v1_fs), (50, some 88, i_StewBook_service_v1_fs), (50, some 196, i_StewBook_service_v1_fs), (90, some 130, i_StewBook_berth_v2_fs), (90, some 155, i_StewBook_berth_v2_fs), (90, some 186, i_StewBook_berth_v2_fs), (101, some 98, i_StewBook_copy_v1_fs), (110, some 36, i_StewBook_tick_fs), (111, some 58, slices_IndexFunc_v1_fs), (113, some 76, slices_Insert_fs), (114, some 138, slices_DeleteFunc_v1_fs), (116, some 147, slices_DeleteFunc_v2_fs), (118, some 162, slices_IndexFunc_v4_fs), (120, some 180, slices_Insert_v1_fs)] (.cons i_StewValid_ok (.cons i_StewBook_service_v1_ok (.cons i_StewBook_service_v1_ok (.cons i_StewBook_service_v1_ok (.cons i_StewBook_berth_v2_ok (.cons i_StewBook_berth_v2_ok (.cons i_StewBook_berth_v2_ok (.cons i_StewBook_copy_v1_ok (.cons i_StewBook_tick_ok (.cons slices_IndexFunc_v1_ok (.cons slices_Insert_ok (.cons slices_DeleteFunc_v1_ok (.cons slices_DeleteFunc_v2_ok (.cons slices_IndexFunc_v4_ok (.cons slices_Insert_v1_ok .nil))))))))))))))) (by kernel_rfl) (by kernel_rfl) (by kernel_rfl) (fun xs => by kernel_rfl)
def i_StewSea.d1 (t0_0 t0_1 t0_2 t0_3 t1_0 t1_1 t1_2 t1_3 t1_4 t1_5 t1_6 t1_7 t1_8 t1_9 t1_10 t1_11 t1_12 t1_13 t1_14 t1_15 t1_16 : C) : R := (call1 (i_StewValid [t0_0, t0_1, t0_2, t0_3]) fun y1_t0 => (bif (!y1_t0.B) then (some (.ret [.i 0, .i 1, .l nils, .l nils, .l nils])) else (call4 (i_clone [t0_0, t0_1, t0_2, t0_3]) fun y2_t0_0 y2_a3000 y2_a3001 y2_a3002 => (call5 (i_StewBook_sea [t1_0, t1_1, t1_2, t1_3, t1_4, t1_5, t1_6, t1_7, t1_8, t1_9, t1_10, t1_11, t1_12, t1_13, t1_14, t1_15, t1_16, y2_t0_0, .l y2_a3000.L, .l y2_a3001.L, .l y2_a3002.L]) fun y3_t0 y3_b2000_0 y3_a2001 y3_a2002 y3_a2003 => (bif (y3_t0.I != 0) then (call4 (i_clone [t0_0, t0_1, t0_2, t0_3]) fun y4_t0_0 y4_a3000 y4_a3001 y4_a3002 => (some (.ret [y4_t0_0, y3_t0, .l y4_a3000.L, .l y4_a3001.L, .l y4_a3002.L]))) else (some (.ret [y3_b2000_0, .i 0, .l y3_a2001.L, .l y3_a2002.L, .l y3_a2003.L])))))))
def i_StewSea : List C → Option (List C) := fun xs => finR (i_StewSea.d1 (xs.getD 0 .nil) (xs.getD 1 .nil) (xs.getD 2 .nil) (xs.getD 3 .nil) (xs.getD 4 .nil) (xs.getD 5 .nil) (xs.getD 6 .nil) (xs.getD 7 .nil) (xs.getD 8 .nil) (xs.getD 9 .nil) (xs.getD 10 .nil) (xs.getD 11 .nil) (xs.getD 12 .nil) (xs.getD 13 .nil) (xs.getD 14 .nil) (xs.getD 15 .nil) (xs.getD 16 .nil) (xs.getD 17 .nil) (xs.getD 18 .nil) (xs.getD 19 .nil) (xs.getD 20 .nil))
def i_StewSea_fs : FS := ⟨2, ⟨[(0, z1), (1, z18)], []⟩, ⟨[(0, (.tu [z24, zi]))], [(3000, .arr 38), (3001, .arr 100), (3002, .arr 113)]⟩, [], i_StewSea⟩
theorem i_StewSea_ok : FSOk Tryz.checked.prog T0 16 i_StewSea_fs := okOf base0 (fn := Tryz.f16) (c := Tryz.f16.body.getD .skip) i_StewSea_fs .leaf [(47, some 9, i_StewValid_fs), (59, some 13, i_clone_fs), (59, some 19, i_clone_fs), (60, some 15, i_StewBook_sea_fs)] (.cons i_StewValid_ok (.cons i_clone_ok (.cons i_clone_ok (.cons i_StewBook_sea_ok .nil)))) (by kernel_rfl) (by kernel_rfl) (by kernel_rfl) (fun xs => by kernel_rfl)
def w_wsBook.d1 (t5 b2_0 b2_1 b2_2 b2_3 b3_0 b3_1 b3_2 b3_3 : C) : R := (bif (decide (t5.I < (b2_1.L.length : Int))) then (bif (decide (0 ≤ t5.I)) then (bif (decide (t5.I < (b2_1.L.length : Int))) then (bif (decide (0 ≤ t5.I)) then (bif (decide (t5.I < (b3_1.L.length : Int))) then (bif (!(((((b2_1.L.getD t5.I.toNat []).getD 0 .nil).S).toList == (((b3_1.L.getD t5.I.toNat []).getD 0 .nil).S).toList) && ((((b2_1.L.getD t5.I.toNat []).getD 1 .nil).I == ((b3_1.L.getD t5.I.toNat []).getD 1 .nil).I) && ((((b2_1.L.getD t5.I.toNat []).getD 2 .nil).B == ((b3_1.L.getD t5.I.toNat []).getD 2 .nil).B) && ((((b2_1.L.getD t5.I.toNat []).getD 3 .nil).I == ((b3_1.L.getD t5.I.toNat []).getD 3 .nil).I) && ((((b2_1.L.getD t5.I.toNat []).getD 4 .nil).I == ((b3_1.L.getD t5.I.toNat []).getD 4 .nil).I) && ((((b2_1.L.getD t5.I.toNat []).getD 5 .nil).I == ((b3_1.L.getD t5.I.toNat []).getD 5 .nil).I) && ((((b2_1.L.getD t5.I.toNat []).getD 6 .nil).I == ((b3_1.L.getD t5.I.toNat []).getD 6 .nil).I) && ((((b2_1.L.getD t5.I.toNat []).getD 7 .nil).I == ((b3_1.L.getD t5.I.toNat []).getD 7 .nil).I) && ((((b2_1.L.getD t5.I.toNat []).getD 8 .nil).I == ((b3_1.L.getD t5.I.toNat []).getD 8 .nil).I) && ((((b2_1.L.getD t5.I.toNat []).getD 9 .nil).I == ((b3_1.L.getD t5.I.toNat []).getD 9 .nil).I) && ((((b2_1.L.getD t5.I.toNat []).getD 10 .nil).I == ((b3_1.L.getD t5.I.toNat []).getD 10 .nil).I) && ((((b2_1.L.getD t5.I.toNat []).getD 11 .nil).I == ((b3_1.L.getD t5.I.toNat []).getD 11 .nil).I) && ((((b2_1.L.getD t5.I.toNat []).getD 12 .nil).I == ((b3_1.L.getD t5.I.toNat []).getD 12 .nil).I) && true)))))))))))))) then (some (.ret [.b false])) else (some (.again [.i (w64 (t5.I + 1)), b2_0, b2_1, b2_2, b2_3, b3_0, b3_1, b3_2, b3_3]))) else none) else none) else none) else none) else (some (.brk 0 [b2_0, b2_1, b2_2, b2_3, b3_0, b3_1, b3_2, b3_3])))
def w_wsBook.d2 (t6 b2_0 b2_1 b2_2 b2_3 b3_0 b3_1 b3_2 b3_3 : C) : R := (bif (decide (t6.I < (b2_2.L.length : Int))) then (bif (decide (0 ≤ t6.I)) then (bif (decide (t6.I < (b2_2.L.length : Int))) then (bif (decide (0 ≤ t6.I)) then (bif (decide (t6.I < (b3_2.L.length : Int))) then (bif (!(((((b2_2.L.getD t6.I.toNat []).getD 0 .nil).S).toList == (((b3_2.L.getD t6.I.toNat []).getD 0 .nil).S).toList) && ((((b2_2.L.getD t6.I.toNat []).getD 1 .nil).I == ((b3_2.L.getD t6.I.toNat []).getD 1 .nil).I) && ((((b2_2.L.getD t6.I.toNat []).getD 2 .nil).I == ((b3_2.L.getD t6.I.toNat []).getD 2 .nil).I) && ((((b2_2.L.getD t6.I.toNat []).getD 3 .nil).I == ((b3_2.L.getD t6.I.toNat []).getD 3 .nil).I) && ((((b2_2.L.getD t6.I.toNat []).getD 4 .nil).I == ((b3_2.L.getD t6.I.toNat []).getD 4 .nil).I) && ((((b2_2.L.getD t6.I.toNat []).getD 5 .nil).B == ((b3_2.L.getD t6.I.toNat []).getD 5 .nil).B) && (((((b2_2.L.getD t6.I.toNat []).getD 6 .nil).S).toList == (((b3_2.L.getD t6.I.toNat []).getD 6 .nil).S).toList) && true)))))))) then (some (.ret [.b false])) else (some (.again [.i (w64 (t6.I + 1)), b2_0, b2_1, b2_2, b2_3, b3_0, b3_1, b3_2, b3_3]))) else none) else none) else none) else none) else (some (.brk 2 [b2_0, b2_1, b2_2, b2_3, b3_0, b3_1, b3_2, b3_3])))
def w_wsBook.d3 (t7 b2_0 b2_1 b2_2 b2_3 b3_0 b3_1 b3_2 b3_3 : C) : R := (bif (decide (t7.I < (b2_3.L.length : Int))) then (bif (decide (0 ≤ t7.I)) then (bif (decide (t7.I < (b2_3.L.length : Int))) then (bif (decide (0 ≤ t7.I)) then (bif (decide (t7.I < (b3_3.L.length : Int))) then (bif (!(((((b2_3.L.getD t7.I.toNat []).getD 0 .nil).S).toList == (((b3_3.L.getD t7.I.toNat []).getD 0 .nil).S).toList) && ((((b2_3.L.getD t7.I.toNat []).getD 1 .nil).B == ((b3_3.L.getD t7.I.toNat []).getD 1 .nil).B) && true))) then (some (.ret [.b false])) else (some (.again [.i (w64 (t7.I + 1)), b2_0, b2_1, b2_2, b2_3, b3_0, b3_1, b3_2, b3_3]))) else none) else none) else none) else none) else (some (.brk 4 [])))
def w_wsBook.d4 : R := (some (.ret [.b true]))
def w_wsBook.d5 (b2_0 b2_1 b2_2 b2_3 b3_0 b3_1 b3_2 b3_3 : C) : R := (bindBlk 4 (lim (fun xs => w_wsBook.d3 (xs.getD 0 .nil) (xs.getD 1 .nil) (xs.getD 2 .nil) (xs.getD 3 .nil) (xs.getD 4 .nil) (xs.getD 5 .nil) (xs.getD 6 .nil) (xs.getD 7 .nil) (xs.getD 8 .nil)) [.i 0, b2_0, b2_1, b2_2, b2_3, b3_0, b3_1, b3_2, b3_3]) (fun xs => w_wsBook.d4))
def w_wsBook.d6 (b2_0 b2_1 b2_2 b2_3 b3_0 b3_1 b3_2 b3_3 : C) : R := (bindBlk 2 (lim (fun xs => w_wsBook.d2 (xs.getD 0 .nil) (xs.getD 1 .nil) (xs.getD 2 .nil) (xs.getD 3 .nil) (xs.getD 4 .nil) (xs.getD 5 .nil) (xs.getD 6 .nil) (xs.getD 7 .nil) (xs.getD 8 .nil)) [.i 0, b2_0, b2_1, b2_2, b2_3, b3_0, b3_1, b3_2, b3_3]) (fun xs => w_wsBook.d5 (xs.getD 0 .nil) (xs.getD 1 .nil) (xs.getD 2 .nil) (xs.getD 3 .nil) (xs.getD 4 .nil) (xs.getD 5 .nil) (xs.getD 6 .nil) (xs.getD 7 .nil)))
def w_wsBook.d7 (t0_0 t0_1 t0_2 t0_3 t1_0 t1_1 t1_2 t1_3 : C) : R := (bif (!(t0_0.I != t1_0.I)) then (bif (!((t0_1.L.length : Int) != (t1_1.L.length : Int))) then (bif (!((t0_2.L.length : Int) != (t1_2.L.length : Int))) then (bif ((t0_3.L.length : Int) != (t1_3.L.length : Int)) then (some (.ret [.b false])) else (bindBlk 0 (lim (fun xs => w_wsBook.d1 (xs.getD 0 .nil) (xs.getD 1 .nil) (xs.getD 2 .nil) (xs.getD 3 .nil) (xs.getD 4 .nil) (xs.getD 5 .nil) (xs.getD 6 .nil) (xs.getD 7 .nil) (xs.getD 8 .nil)) [.i 0, t0_0, t0_1, t0_2, t0_3, t1_0, t1_1, t1_2, t1_3]) (fun xs => w_wsBook.d6 (xs.getD 0 .nil) (xs.getD 1 .nil) (xs.getD 2 .nil) (xs.getD 3 .nil) (xs.getD 4 .nil) (xs.getD 5 .nil) (xs.getD 6 .nil) (xs.getD 7 .nil)))) else (some (.ret [.b false]))) else (some (.ret [.b false]))) else (some (.ret [.b false])))
def w_wsBook : List C → Option (List C) := fun xs => finR (w_wsBook.d7 (xs.getD 0 .nil) (xs.getD 1 .nil) (xs.getD 2 .nil) (xs.getD 3 .nil) (xs.getD 4 .nil) (xs.getD 5 .nil) (xs.getD 6 .nil) (xs.getD 7 .nil))
def w_wsBook_fs : FS := ⟨2, ⟨[(0, z1), (1, z1)], []⟩, ⟨[(0, zo)], []⟩, [], w_wsBook⟩
theorem w_wsBook_ok : FSOk Tryz.checked.prog T0 17 w_wsBook_fs := okOf base0 (fn := Tryz.f17) (c := Tryz.f17.body.getD .skip) w_wsBook_fs (.seq .leaf (.seq .leaf (.seq (.seq .leaf (.block ⟨[(2, (.pt 2 0)), (3, (.pt 3 0))], [(2, z0), (3, z0)]⟩ (.loop ⟨[(2, (.pt 2 0)), (3, (.pt 3 0)), (5, zi)], [(2, z0), (3, z0)]⟩ .leaf))) (.seq (.seq .leaf (.block ⟨[(2, (.pt 2 0)), (3, (.pt 3 0))], [(2, z0), (3, z0)]⟩ (.loop ⟨[(2, (.pt 2 0)), (3, (.pt 3 0)), (6, zi)], [(2, z0), (3, z0)]⟩ .leaf))) (.seq (.seq .leaf (.block ⟨[], []⟩ (.loop ⟨[(2, (.pt 2 0)), (3, (.pt 3 0)), (7, zi)], [(2, z0), (3, z0)]⟩ .leaf))) .leaf))))) [] .nil (by kernel_rfl) (by kernel_rfl) (by kernel_rfl) (fun xs => by kernel_rfl)
def w_FnStewDone.d1 (t4 t6 t7 b3_0 b3_1 b3_2 b3_3 a80824 : C) : R := (bif (decide (t7.I ≤ 6)) then (call1 (i_StewAsk [t7, b3_0, b3_1, b3_2, b3_3]) fun y7_a3000 => (some (.again [t4, .i (w64 (t6.I + (y7_a3000.L.length : Int))), .i (w64 (t7.I + 1)), b3_0, b3_1, b3_2, b3_3, .l a80824.L]))) else (some (.brk 0 [t4, t6, b3_0, b3_1, b3_2, b3_3, .l a80824.L])))
def w_FnStewDone.d2 (t4 t6 b3_0 b3_1 b3_2 b3_3 a80824 : C) : R := (bif (!t4.B) then (some (.ret [.b true])) else (call5 (i_StewSea [b3_0, b3_1, b3_2, b3_3, .i 1, .s (bs #[]), .i 0, .b false, .i 0, .i 0, .i 0, .i 0, .i 0, .i 0, .i 0, .i 0, .i 0, .i 0, .s (bs #[]), .i 0, .b false]) fun y8_t0_0_0 y8_t0_1 y8_a3000 y8_a3001 y8_a3002 => (bif (t6.I == 0) then (bif (!(y8_t0_1.I == 7)) then (bif (y8_t0_1.I == 0) then (call1 (w_wsBook [.i (w64 (y8_t0_0_0.I - 1)), .l y8_a3000.L, .l y8_a3001.L, .l y8_a3002.L, b3_0, b3_1, b3_2, b3_3]) fun y9_t0 => (bif y9_t0.B then (bif (decide (0 < (a80824.L.length : Int))) then (bif (decide (1 < (a80824.L.length : Int))) then (bif (decide (2 < (a80824.L.length : Int))) then (bif (decide (3 < (a80824.L.length : Int))) then (bif (decide (4 < (a80824.L.length : Int))) then (some (.ret [.b ((w64 ((w64 ((w64 ((w64 (((a80824.L.getD 0 []).getD 0 .nil).I + ((a80824.L.getD 1 []).getD 0 .nil).I)) + ((a80824.L.getD 2 []).getD 0 .nil).I)) + ((a80824.L.getD 3 []).getD 0 .nil).I)) + ((a80824.L.getD 4 []).getD 0 .nil).I)) == 0)])) else none) else none) else none) else none) else none) else (some (.ret [.b false])))) else (some (.ret [.b false]))) else (bif (decide (0 < (a80824.L.length : Int))) then (bif (decide (1 < (a80824.L.length : Int))) then (bif (decide (2 < (a80824.L.length : Int))) then (bif (decide (3 < (a80824.L.length : Int))) then (bif (decide (4 < (a80824.L.length : Int))) then (some (.ret [.b ((w64 ((w64 ((w64 ((w64 (((a80824.L.getD 0 []).getD 0 .nil).I + ((a80824.L.getD 1 []).getD 0 .nil).I)) + ((a80824.L.getD 2 []).getD 0 .nil).I)) + ((a80824.L.getD 3 []).getD 0 .nil).I)) + ((a80824.L.getD 4 []).getD 0 .nil).I)) == 0)])) else none) else none) else none) else none) else none)) else (some (.ret [.b false])))))
def w_FnStewDone.d3 (t0 : C) : R := (bif (decide ((t0.L.length : Int) > 1048576)) then (some (.ret [.b true])) else (call4 (s_DrawStewDone [t0]) fun y1_t0_0 y1_a3000 y1_a3001 y1_a3002 => (call1 (i_StewDone [y1_t0_0, .l y1_a3000.L, .l y1_a3001.L, .l y1_a3002.L]) fun y2_t0 => (call1 (i_StewRank [y1_t0_0, .l y1_a3000.L, .l y1_a3001.L, .l y1_a3002.L]) fun y3_a3000 => (call1 (s_StewDone [y1_t0_0, .l y1_a3000.L, .l y1_a3001.L, .l y1_a3002.L]) fun y4_t0 => (bif (!(!(y2_t0.B == y4_t0.B))) then (call1 (s_StewRank [y1_t0_0, .l y1_a3000.L, .l y1_a3001.L, .l y1_a3002.L]) fun y5_a3000 => (call1 (w_wsCodes [.l y3_a3000.L, .l y5_a3000.L]) fun y6_t0 => (bif (!(!y6_t0.B)) then (bif ((y3_a3000.L.length : Int) != 5) then (some (.ret [.b false])) else (bindBlk 0 (lim (fun xs => w_FnStewDone.d1 (xs.getD 0 .nil) (xs.getD 1 .nil) (xs.getD 2 .nil) (xs.getD 3 .nil) (xs.getD 4 .nil) (xs.getD 5 .nil) (xs.getD 6 .nil) (xs.getD 7 .nil)) [.b y2_t0.B, .i 0, .i 1, y1_t0_0, .l y1_a3000.L, .l y1_a3001.L, .l y1_a3002.L, .l y3_a3000.L]) (fun xs => w_FnStewDone.d2 (xs.getD 0 .nil) (xs.getD 1 .nil) (xs.getD 2 .nil) (xs.getD 3 .nil) (xs.getD 4 .nil) (xs.getD 5 .nil) (xs.getD 6 .nil)))) else (some (.ret [.b false]))))) else (some (.ret [.b false]))))))))
def w_FnStewDone : List C → Option (List C) := fun xs => finR (w_FnStewDone.d3 (xs.getD 0 .nil))
def w_FnStewDone_fs : FS := ⟨1, ⟨[(0, (zl 5))], []⟩, ⟨[(0, zo)], []⟩, [], w_FnStewDone⟩
theorem w_FnStewDone_ok : FSOk Tryz.checked.prog T0 3 w_FnStewDone_fs := okOf base0 (fn := Tryz.f3) (c := Tryz.f3.body.getD .skip) w_FnStewDone_fs (.seq .leaf (.seq .leaf (.seq .leaf (.seq .leaf (.seq (.frz [64440, 64441, 64442] .leaf) (.seq .leaf (.seq .leaf (.seq (.seq .leaf (.block ⟨[(3, (.pt 3 0)), (4, zo), (5, (.ow 80824)), (6, zi)], [(3, z0), (80824, .arr 3)]⟩ (.loop ⟨[(3, (.pt 3 0)), (4, zo), (5, (.ow 80824)), (6, zi), (7, zi)], [(3, z0), (80824, .arr 3)]⟩ .leaf))) .leaf)))))))) [(9, some 14, s_DrawStewDone_fs), (10, some 16, i_StewDone_fs), (11, some 18, i_StewRank_fs), (12, some 21, s_StewDone_fs), (13, some 27, w_wsCodes_fs), (14, some 26, s_StewRank_fs), (15, some 42, i_StewAsk_fs), (16, some 50, i_StewSea_fs), (17, some 68, w_wsBook_fs)] (.cons s_DrawStewDone_ok (.cons i_StewDone_ok (.cons i_StewRank_ok (.cons s_StewDone_ok (.cons w_wsCodes_ok (.cons s_StewRank_ok (.cons i_StewAsk_ok (.cons i_StewSea_ok (.cons w_wsBook_ok .nil))))))))) (by kernel_rfl) (by kernel_rfl) (by kernel_rfl) (fun xs => by kernel_rfl)
end
end Go.Ev
namespace Go.Ev
@[simp] theorem C.I_i (n : Int) : (C.i n).I = n := rfl
@[simp] theorem C.B_b (x : Bool) : (C.b x).B = x := rfl
@[simp] theorem C.S_s (x : ByteArray) : (C.s x).S = x := rfl
@[simp] theorem C.L_l (x : List (List C)) : (C.l x).L = x := rfl
@[simp] theorem C.P_p (x : List C) : (C.p x).P = x := rfl
@[simp] theorem C.isP_p (x : List C) : (C.p x).isP = true := rfl
@[simp] theorem C.isP_nil : C.nil.isP = false := rfl
@[simp] theorem C.L_nil : C.nil.L = [] := rfl
@[simp] theorem finR_ret (ys : List C) : finR (some (.ret ys)) = some ys := rfl
@[simp] theorem bindF_some (ys : List C) (K : List C → R) : bindF (some ys) K = K ys := rfl
@[simp] theorem bindNrm_nrm (xs : List C) (K : List C → R) : bindNrm (some (.nrm xs)) K = K xs := rfl
@[simp] theorem bindNrm_ret (xs : List C) (K : List C → R) : bindNrm (some (.ret xs)) K = some (.ret xs) := rfl
@[simp] theorem bindNrm_brk (i : Nat) (xs : List C) (K : List C → R) : bindNrm (some (.brk i xs)) K = some (.brk i xs) := rfl
@[simp] theorem bindNrm_again (xs : List C) (K : List C → R) : bindNrm (some (.again xs)) K = some (.again xs) := rfl
@[simp] theorem bindBlk_ret (i : Nat) (xs : List C) (K : List C → R) : bindBlk i (some (.ret xs)) K = some (.ret xs) := rfl
@[simp] theorem bindBlk_again (i : Nat) (xs : List C) (K : List C → R) : bindBlk i (some (.again xs)) K = some (.again xs) := rfl
@[simp] theorem bindBlk_nrm (i : Nat) (xs : List C) (K : List C → R) : bindBlk i (some (.nrm xs)) K = some (.nrm xs) := rfl
theorem bindBlk_brk (i j : Nat) (xs : List C) (K : List C → R) : bindBlk i (some (.brk j xs)) K = if j = i then K xs else some (.brk j xs) := by
  show sif (Nat.beq j i) (K xs) (some (.brk j xs)) = _
  by_cases h : j = i
  · subst h; rw [Nat.beq_refl, sif_true, if_pos rfl]
  · have : Nat.beq j i = false := by
      cases hb : Nat.beq j i with
      | false => rfl
      | true => exact absurd (Nat.eq_of_beq_eq_true hb) h
    rw [this, sif_false, if_neg h]
@[simp] theorem bindBlk_self (i : Nat) (xs : List C) (K : List C → R) : bindBlk i (some (.brk i xs)) K = K xs := by rw [bindBlk_brk, if_pos rfl]
attribute [simp] nils
attribute [simp] rows
@[simp] theorem Int_toNat_nat (n : Nat) : ((n : Int)).toNat = n := Int.toNat_natCast n
theorem jA {α : Type} {a : α} {us vs : List α} : a :: us ++ vs = a :: (us ++ vs) := rfl
theorem jB {α : Type} (us : List α) : [] ++ us = us := rfl
theorem jC {α : Type} {x : α} {xs : List α} {d : α} : (x :: xs).getD 0 d = x := List.getD_cons_zero
theorem jD {α : Type} {x : α} {xs : List α} {n : Nat} {d : α} : (x :: xs).getD (n + 1) d = xs.getD n d := List.getD_cons_succ
theorem jE (n : Int) : (C.i n).I = n := rfl
theorem jF (x : Bool) : (C.b x).B = x := rfl
theorem jG (x : ByteArray) : (C.s x).S = x := rfl
theorem jH (x : List (List C)) : (C.l x).L = x := rfl
theorem jI (ys : List C) (K : List C → R) : bindF (some ys) K = K ys := rfl
theorem jJ (xs : List C) (K : List C → R) : bindNrm (some (.nrm xs)) K = K xs := rfl
theorem jK (xs : List C) (K : List C → R) : bindNrm (some (.ret xs)) K = some (.ret xs) := rfl
theorem jL (xs : List C) (K : List C → R) : bindNrm (some (.again xs)) K = some (.again xs) := rfl
theorem jM (i : Nat) (xs : List C) (K : List C → R) : bindNrm (some (.brk i xs)) K = some (.brk i xs) := rfl
theorem jN (i : Nat) (xs : List C) (K : List C → R) : bindBlk i (some (.brk i xs)) K = K xs := bindBlk_self i xs K
theorem jO (i : Nat) (xs : List C) (K : List C → R) : bindBlk i (some (.ret xs)) K = some (.ret xs) := rfl
theorem jP (i : Nat) (xs : List C) (K : List C → R) : bindBlk i (some (.again xs)) K = some (.again xs) := rfl
theorem jQ (i : Nat) (xs : List C) (K : List C → R) : bindBlk i (some (.nrm xs)) K = some (.nrm xs) := rfl
theorem jR {α : Type} (a b : α) : (bif true then a else b) = a := rfl
theorem jS {α : Type} (a b : α) : (bif false then a else b) = b := rfl
theorem jT (h : Decidable True) : decide True = true := decide_true h
theorem jU (h : Decidable False) : decide False = false := decide_false h
theorem jV (ys : List C) : finR (some (.ret ys)) = some ys := rfl
theorem jW {α β : Type} {us : List α} (f : α → β) : (List.map f us).length = us.length := List.length_map f
theorem jX (n : Nat) : 0 ≤ (n : Int) := Int.natCast_nonneg n
theorem jY (n : Nat) : ((n : Int)).toNat = n := Int.toNat_natCast n
theorem jZ : (!true) = false := rfl
theorem ja : (!false) = true := rfl
theorem jb {α : Type} {a : α} : [a].length = 1 := rfl
theorem jc {α : Type} : ([] : List α).length = 0 := rfl
theorem jd (n : Nat) : 0 + n = n := Nat.zero_add n
theorem iter_mono {body : List C → R} : ∀ {k m : Nat} {xs : List C} {o : Out}, k ≤ m → iter body k xs = some o → iter body m xs = some o
  | 0, _, xs, o, _, h => by simp [iter] at h
  | k + 1, 0, xs, o, hk, h => by omega
  | k + 1, m + 1, xs, o, hk, h => by
    simp only [iter] at h ⊢
    split
    · rename_i ys hb
      rw [hb] at h
      exact iter_mono (by omega) h
    · rename_i hb
      split at h
      · rename_i ys hb'; exact absurd hb' (hb ys)
      · exact h
theorem lim_of_iter {body : List C → R} {k : Nat} {xs : List C} {o : Out} (h : iter body k xs = some o) : lim body xs = some o := by
  have hex : ∃ k, (iter body k xs).isSome := ⟨k, by rw [h]; rfl⟩
  unfold lim
  rw [dif_pos hex]
  have hs := Classical.choose_spec hex
  obtain ⟨o', ho'⟩ := Option.isSome_iff_exists.1 hs
  rw [ho']
  rcases Nat.le_total k (Classical.choose hex) with hle | hle
  · rw [iter_mono hle h] at ho'; exact ho'.symm
  · rw [iter_mono hle ho'] at h; exact h
theorem lim_again {body : List C → R} {xs ys : List C} (h : body xs = some (.again ys)) : lim body xs = lim body ys := by
  have key : ∀ k, iter body (k + 1) xs = iter body k ys := fun k => by simp only [iter, h]
  cases hr : lim body ys with
  | some o =>
    obtain ⟨k, hk⟩ := lim_some hr
    exact lim_of_iter (k := k + 1) (by rw [key]; exact hk)
  | none =>
    cases hl : lim body xs with
    | none => rfl
    | some o =>
      obtain ⟨k, hk⟩ := lim_some hl
      cases k with
      | zero => simp [iter] at hk
      | succ k => rw [key] at hk; rw [lim_of_iter hk] at hr; simp at hr
theorem lim_ret {body : List C → R} {xs ys : List C} (h : body xs = some (.ret ys)) : lim body xs = some (.ret ys) := lim_of_iter (k := 1) (by simp only [iter, h])
theorem lim_brk {body : List C → R} {xs ys : List C} {i : Nat} (h : body xs = some (.brk i ys)) : lim body xs = some (.brk i ys) := lim_of_iter (k := 1) (by simp only [iter, h])
theorem w64_of {n : Int} (h1 : -9223372036854775808 ≤ n) (h2 : n ≤ 9223372036854775807) : w64 n = n := by
  show (if (true && decide (n % 18446744073709551616 ≥ 9223372036854775808)) = true then n % 18446744073709551616 - 18446744073709551616 else n % 18446744073709551616) = n
  split
  · rename_i h; simp only [Bool.true_and, decide_eq_true_eq] at h; omega
  · rename_i h; simp only [Bool.true_and, decide_eq_true_eq] at h; omega
theorem getD_map_lt {α β : Type} (f : α → β) {l : List α} {i : Nat} (h : i < l.length) (d : β) : (l.map f).getD i d = f l[i] := by
  rw [List.getD_eq_getElem?_getD, List.getElem?_map, List.getElem?_eq_getElem h]; rfl
def loopL {α σ : Type} (f : Nat → α → σ → σ ⊕ Out) (fin : σ → Out) : List α → Nat → σ → Out
  | [], _, a => fin a
  | x :: r, i, a => match f i x a with
    | .inl b => loopL f fin r (i + 1) b
    | .inr o => o
def Out.stops : Out → Prop | .again _ => False | _ => True
theorem lim_stop {body : List C → R} {xs : List C} {o : Out} (h : body xs = some o) (ho : o.stops) : lim body xs = some o := by
  cases o with
  | ret ys => exact lim_ret h
  | brk i ys => exact lim_brk h
  | nrm ys => exact lim_of_iter (k := 1) (by simp only [iter, h])
  | again ys => exact ho.elim
def StepOk {σ : Type} (body : List C → R) (S : Nat → σ → List C) (Inv : Nat → σ → Prop) (i : Nat) (a : σ) : σ ⊕ Out → Prop
  | .inl b => body (S i a) = some (.again (S (i + 1) b)) ∧ Inv (i + 1) b
  | .inr o => body (S i a) = some o ∧ o.stops
theorem lim_list {α σ : Type} {l : List α} {body : List C → R} {S : Nat → σ → List C} (Inv : Nat → σ → Prop) (f : Nat → α → σ → σ ⊕ Out) (fin : σ → Out)
    (hstep : ∀ (i : Nat) (a : σ) (h : i < l.length), Inv i a → StepOk body S Inv i a (f i l[i] a))
    (hend : ∀ a, Inv l.length a → body (S l.length a) = some (fin a) ∧ (fin a).stops) :
    ∀ (n i : Nat) (a : σ), n + i = l.length → Inv i a → lim body (S i a) = some (loopL f fin (l.drop i) i a)
  | 0, i, a, hn, ha => by
    have : i = l.length := by omega
    subst this
    obtain ⟨h1, h2⟩ := hend a ha
    rw [lim_stop h1 h2, List.drop_length]; rfl
  | n + 1, i, a, hn, ha => by
    have hi : i < l.length := by omega
    have hs := hstep i a hi ha
    rw [List.drop_eq_getElem_cons hi]
    show _ = some (match f i l[i] a with
      | .inl b => loopL f fin (l.drop (i + 1)) (i + 1) b
      | .inr o => o)
    cases hf : f i l[i] a with
    | inl b =>
      rw [hf] at hs
      rw [lim_again hs.1]
      exact lim_list Inv f fin hstep hend n (i + 1) b (by omega) hs.2
    | inr o =>
      rw [hf] at hs
      exact lim_stop hs.1 hs.2
end Go.Ev
set_option maxRecDepth 8000
namespace Go.Ev
abbrev Str := ByteArray
structure Svc where
  name : Str
  ver : Int
  gone : Bool
  image : Int
  want : Int
  down : Int
  over : Int
  next : Int
  per : Int
  least : Int
  most : Int
  load : Int
  cool : Int
structure Cpy where
  svc : Str
  num : Int
  ver : Int
  image : Int
  state : Int
  ending : Bool
  berth : Str
structure Brt where
  name : Str
  drain : Bool
structure Book where
  now : Int
  svcs : List Svc
  cpys : List Cpy
  brts : List Brt
def Svc.e (s : Svc) : List C := [.s s.name, .i s.ver, .b s.gone, .i s.image, .i s.want, .i s.down, .i s.over, .i s.next, .i s.per, .i s.least, .i s.most, .i s.load, .i s.cool]
def Cpy.e (c : Cpy) : List C := [.s c.svc, .i c.num, .i c.ver, .i c.image, .i c.state, .b c.ending, .s c.berth]
def Brt.e (b : Brt) : List C := [.s b.name, .b b.drain]
def Book.e (b : Book) : List C := [.i b.now, .l (b.svcs.map Svc.e), .l (b.cpys.map Cpy.e), .l (b.brts.map Brt.e)]
def sEq (a b : Str) : Bool := a.toList == b.toList
def sLt (a b : Str) : Bool := Op.bytesLess a.toList b.toList
def within (a b c : Int) : Bool := decide (b ≤ a) && decide (a ≤ c)
def findIx {α : Type} (p : α → Bool) : List α → Nat → Int
  | [], _ => -1
  | x :: r, n => bif p x then n else findIx p r (n + 1)
theorem findIx_or {α : Type} (p : α → Bool) : ∀ (l : List α) (n : Nat), findIx p l n = -1 ∨ ∃ i, ∃ h : i < l.length, findIx p l n = n + i ∧ p l[i] = true
  | [], n => .inl rfl
  | x :: r, n => by
    cases hx : p x with
    | true => exact .inr ⟨0, by simp, by simp [findIx, hx], by simpa using hx⟩
    | false =>
      rcases findIx_or p r (n + 1) with h | ⟨i, h, h1, h2⟩
      · exact .inl (by simp [findIx, hx, h])
      · exact .inr ⟨i + 1, by simpa using h, by simp [findIx, hx, h1]; omega, by simpa using h2⟩
theorem loopL_find {α : Type} (p : α → Bool) (b : Nat) : ∀ (l : List α) (n : Nat), (bindBlk b (some (loopL (fun i s (_ : Unit) => bif p s then .inr (.ret [.i (i : Nat)]) else .inl ()) (fun _ => .brk b []) l n ())) fun _ => some (.ret [.i (-1)])) = some (.ret [.i (findIx p l n)])
  | [], n => by simp [loopL, findIx]
  | x :: r, n => by
    have ih := loopL_find p b r (n + 1)
    cases hx : p x <;> simp [loopL, findIx, hx, ih]
theorem loopL_all {α : Type} (p : Nat → α → Bool) (b : Nat) (ys : List C) (K : List C → R) : ∀ (l : List α) (n : Nat), bindBlk b (some (loopL (fun i s (_ : Unit) => bif p i s then .inl () else .inr (.ret [.b false])) (fun _ => .brk b ys) l n ())) K =
    bif (l.zipIdx n).all (fun x => p x.2 x.1) then K ys else some (.ret [.b false])
  | [], n => by simp [loopL]
  | x :: r, n => by
    have ih := loopL_all p b ys K r (n + 1)
    cases hx : p n x <;> simp [loopL, hx, ih]
theorem s_l18In_eq (a b c : Int) : s_l18In [.i a, .i b, .i c] = some [.b (within a b c)] := by
  simp only [s_l18In, s_l18In.d1, jC, jD, C.I_i, ge_iff_le, within]
  cases decide (b ≤ a) <;> simp
def byteBad (n : Int) : Bool := !((decide (n ≥ 97) && decide (n ≤ 122)) || (decide (n ≥ 48) && decide (n ≤ 57)) || n == 45)
def nameOk (s : Str) : Bool := within s.size 1 20 && s.data.toList.all fun b => !byteBad b.toNat
theorem arr_getD {s : Str} {i : Nat} (h : i < s.data.toList.length) : s.data.getD i 0 = s.data.toList[i] := by
  have : i < s.data.size := by simpa using h
  simp only [Array.getD, dif_pos this, Array.getInternal_eq_getElem, Array.getElem_toList]
theorem s_l18NameOk_eq (s : Str) (hl : s.size < 4611686018427387904) : s_l18NameOk [.s s] = some [.b (nameOk s)] := by
  have hsz : s.size = s.data.toList.length := Array.length_toList.symm
  have h := lim_list (l := s.data.toList) (S := fun i (_ : Unit) => [.s s, .i (i : Nat)]) (body := fun xs => s_l18NameOk.d2 (xs.getD 0 .nil) (xs.getD 1 .nil))
    (fun _ _ => True) (fun i b _ => bif !byteBad b.toNat then .inl () else .inr (.ret [.b false])) (fun _ => .brk 0 [])
    (fun i _ hi _ => by
      have hi' : i < s.size := by omega
      have key : s_l18NameOk.d2 (.s s) (.i i) = s_l18NameOk.d1 (.s s) (.i i) (.b (byteBad s.data.toList[i].toNat)) := by
        simp only [s_l18NameOk.d2, C.I_i, C.S_s, jY, arr_getD hi, byteBad]
        generalize ((s.data.toList[i].toNat : Nat) : Int) = m
        have e1 : decide ((i : Int) < (s.size : Int)) = true := by simp; exact hi'
        simp only [e1, jR, jX, decide_true]
        cases decide (m ≥ 97) <;> cases decide (m ≤ 122) <;> cases decide (m ≥ 48) <;> cases decide (m ≤ 57) <;> simp [hi']
      cases hb : byteBad s.data.toList[i].toNat with
      | true => exact ⟨by show s_l18NameOk.d2 (.s s) (.i i) = _; rw [key, hb]; simp [s_l18NameOk.d1], trivial⟩
      | false => exact ⟨by show s_l18NameOk.d2 (.s s) (.i i) = _; rw [key, hb]; simp [s_l18NameOk.d1, w64_of (n := (i : Int) + 1) (by omega) (by omega)], trivial⟩)
    (fun _ _ => ⟨by show s_l18NameOk.d2 (.s s) (.i (s.data.toList.length : Nat)) = _; rw [← hsz]; simp [s_l18NameOk.d2], trivial⟩) _ 0 () rfl trivial
  simp only [Int.ofNat_zero, List.drop_zero] at h
  simp only [s_l18NameOk, s_l18NameOk.d4, jC, C.S_s, s_l18In_eq, call1, jI, C.B_b]
  cases hw : within s.size 1 20 with
  | false => simp [nameOk, hw]
  | true =>
    simp only [jZ, jS]
    erw [h, loopL_all]
    have : (s.data.toList.zipIdx 0).all (fun x => !byteBad x.1.toNat) = s.data.toList.all fun b => !byteBad b.toNat := by
      have e : ∀ (l : List UInt8) n, (l.zipIdx n).all (fun x => !byteBad x.1.toNat) = l.all fun b => !byteBad b.toNat := by
        intro l
        induction l with
        | nil => intro n; rfl
        | cons x r ih => intro n; simp [ih]
      exact e _ _
    rw [this]
    simp only [nameOk, hw, Bool.true_and]
    cases (s.data.toList.all fun b => !byteBad b.toNat) <;> simp [s_l18NameOk.d3]
def svcOk (s : Svc) (now : Int) : Bool :=
  nameOk s.name && within s.ver 1 now && within s.image 1 1000000 && within s.next 1 1000000 && within s.want 0 10 && within s.down 0 10 && within s.over 0 10 && !(w64 (s.down + s.over) == 0) &&
  (bif s.per == 0 then s.least == 0 && (s.most == 0 && (s.load == 0 && s.cool == 0)) else within s.per 0 1000000 && (within s.load 0 1000000 && (within s.least 0 10 && (within s.most s.least 10 && within s.cool 0 3))))
theorem s_l18ServiceOk_eq (s : Svc) (now : Int) (hl : s.name.size < 4611686018427387904) : s_l18ServiceOk (s.e ++ [.i now]) = some [.b (svcOk s now)] := by
  simp only [s_l18ServiceOk, s_l18ServiceOk.d1, Svc.e, jA, jB, jC, jD, s_l18NameOk_eq s.name hl, s_l18In_eq, call1, jI, C.B_b, C.I_i, svcOk]
  cases nameOk s.name <;> simp only [jZ, ja, jR, jS, Bool.true_and, Bool.false_and, jV]
  cases within s.ver 1 now <;> simp only [jZ, ja, jR, jS, Bool.true_and, Bool.false_and, jV]
  cases within s.image 1 1000000 <;> simp only [jZ, ja, jR, jS, Bool.true_and, Bool.false_and, jV]
  cases within s.next 1 1000000 <;> simp only [jZ, ja, jR, jS, Bool.true_and, Bool.false_and, jV]
  cases within s.want 0 10 <;> simp only [jZ, ja, jR, jS, Bool.true_and, Bool.false_and, jV]
  cases within s.down 0 10 <;> simp only [jZ, ja, jR, jS, Bool.true_and, Bool.false_and, jV]
  cases within s.over 0 10 <;> simp only [jZ, ja, jR, jS, Bool.true_and, Bool.false_and, jV]
  cases (w64 (s.down + s.over) == 0) <;> simp only [jZ, ja, jR, jS, Bool.true_and, Bool.false_and, jV]
  cases s.per == 0 <;> simp only [jZ, ja, jR, jS, Bool.true_and, Bool.false_and, jV]
  · cases within s.per 0 1000000 <;> cases within s.load 0 1000000 <;> cases within s.least 0 10 <;> cases within s.most s.least 10 <;> simp
  · cases s.least == 0 <;> cases s.most == 0 <;> cases s.load == 0 <;> simp
def svcIx (l : List Svc) (nm : Str) : Int := findIx (fun s => sEq s.name nm) l 0
def brtIx (l : List Brt) (nm : Str) : Int := findIx (fun s => sEq s.name nm) l 0
def cpyIx (l : List Cpy) (nm : Str) (n : Int) : Int := findIx (fun c => sEq c.svc nm && c.num == n) l 0
theorem s_l18Service_eq (b : Book) (nm : Str) (hl : b.svcs.length < 4611686018427387904) : s_l18Service (b.e ++ [.s nm]) = some [.i (svcIx b.svcs nm)] := by
  have h := lim_list (l := b.svcs) (S := fun i (_ : Unit) => [.s nm, .i (i : Nat), .i b.now, .l (b.svcs.map Svc.e), .l (b.cpys.map Cpy.e), .l (b.brts.map Brt.e)])
    (body := fun xs => s_l18Service.d1 (xs.getD 0 .nil) (xs.getD 1 .nil) (xs.getD 2 .nil) (xs.getD 3 .nil) (xs.getD 4 .nil) (xs.getD 5 .nil))
    (fun _ _ => True) (fun i s _ => bif sEq s.name nm then .inr (.ret [.i (i : Nat)]) else .inl ()) (fun _ => .brk 0 [])
    (fun i _ hi _ => by
      cases hs : sEq b.svcs[i].name nm <;> simp only [sEq] at hs
      · exact ⟨by simp [s_l18Service.d1, Svc.e, hs, hi, w64_of (n := (i : Int) + 1) (by omega) (by omega)], trivial⟩
      · exact ⟨by simp [s_l18Service.d1, Svc.e, hs, hi], trivial⟩)
    (fun _ _ => ⟨by simp [s_l18Service.d1], trivial⟩) _ 0 () rfl trivial
  simp only [Int.ofNat_zero, List.drop_zero] at h
  simp only [s_l18Service, s_l18Service.d3, Book.e, jA, jB, jC, jD]
  erw [h, loopL_find]
  rfl
theorem s_l18Berth_eq (b : Book) (nm : Str) (hl : b.brts.length < 4611686018427387904) : s_l18Berth (b.e ++ [.s nm]) = some [.i (brtIx b.brts nm)] := by
  have h := lim_list (l := b.brts) (S := fun i (_ : Unit) => [.s nm, .i (i : Nat), .i b.now, .l (b.svcs.map Svc.e), .l (b.cpys.map Cpy.e), .l (b.brts.map Brt.e)])
    (body := fun xs => s_l18Berth.d1 (xs.getD 0 .nil) (xs.getD 1 .nil) (xs.getD 2 .nil) (xs.getD 3 .nil) (xs.getD 4 .nil) (xs.getD 5 .nil))
    (fun _ _ => True) (fun i s _ => bif sEq s.name nm then .inr (.ret [.i (i : Nat)]) else .inl ()) (fun _ => .brk 0 [])
    (fun i _ hi _ => by
      cases hs : sEq b.brts[i].name nm <;> simp only [sEq] at hs
      · exact ⟨by simp [s_l18Berth.d1, Brt.e, hs, hi, w64_of (n := (i : Int) + 1) (by omega) (by omega)], trivial⟩
      · exact ⟨by simp [s_l18Berth.d1, Brt.e, hs, hi], trivial⟩)
    (fun _ _ => ⟨by simp [s_l18Berth.d1], trivial⟩) _ 0 () rfl trivial
  simp only [Int.ofNat_zero, List.drop_zero] at h
  simp only [s_l18Berth, s_l18Berth.d3, Book.e, jA, jB, jC, jD]
  erw [h, loopL_find]
  rfl
theorem s_l18Copy_eq (b : Book) (nm : Str) (n : Int) (hl : b.cpys.length < 4611686018427387904) : s_l18Copy (b.e ++ [.s nm, .i n]) = some [.i (cpyIx b.cpys nm n)] := by
  have h := lim_list (l := b.cpys) (S := fun i (_ : Unit) => [.s nm, .i n, .i (i : Nat), .i b.now, .l (b.svcs.map Svc.e), .l (b.cpys.map Cpy.e), .l (b.brts.map Brt.e)])
    (body := fun xs => s_l18Copy.d1 (xs.getD 0 .nil) (xs.getD 1 .nil) (xs.getD 2 .nil) (xs.getD 3 .nil) (xs.getD 4 .nil) (xs.getD 5 .nil) (xs.getD 6 .nil))
    (fun _ _ => True) (fun i c _ => bif sEq c.svc nm && c.num == n then .inr (.ret [.i (i : Nat)]) else .inl ()) (fun _ => .brk 0 [])
    (fun i _ hi _ => by
      cases hs : sEq b.cpys[i].svc nm <;> cases hn : b.cpys[i].num == n <;> simp only [sEq] at hs
      all_goals exact ⟨by simp [s_l18Copy.d1, Cpy.e, hs, hn, hi, w64_of (n := (i : Int) + 1) (by omega) (by omega)], trivial⟩)
    (fun _ _ => ⟨by simp [s_l18Copy.d1], trivial⟩) _ 0 () rfl trivial
  simp only [Int.ofNat_zero, List.drop_zero] at h
  simp only [s_l18Copy, s_l18Copy.d3, Book.e, jA, jB, jC, jD]
  erw [h, loopL_find]
  rfl
end Go.Ev
namespace Go.Ev
theorem findIx_spec {α : Type} (p : α → Bool) : ∀ (l : List α) (n : Nat), (l.find? p = none ∧ findIx p l n = -1) ∨ ∃ i, ∃ h : i < l.length, findIx p l n = ((n + i : Nat) : Int) ∧ l.find? p = some l[i] ∧ p l[i] = true
  | [], n => .inl ⟨rfl, rfl⟩
  | x :: r, n => by
    cases hx : p x with
    | true => exact .inr ⟨0, by simp, by simp [findIx, hx], by simp [hx], by simpa using hx⟩
    | false =>
      rcases findIx_spec p r (n + 1) with ⟨h0, h⟩ | ⟨i, h, h1, h2, h3⟩
      · exact .inl ⟨by simp [hx, h0], by simp [findIx, hx, h]⟩
      · exact .inr ⟨i + 1, by simpa using h, by simp [findIx, hx, h1]; omega, by simp [hx, h2], by simpa using h3⟩
def svcOf (b : Book) (nm : Str) : Option Svc := b.svcs.find? fun s => sEq s.name nm
def brtOf (b : Book) (nm : Str) : Option Brt := b.brts.find? fun s => sEq s.name nm
def cpyOf (b : Book) (nm : Str) (n : Int) : Option Cpy := b.cpys.find? fun c => sEq c.svc nm && c.num == n
def cpyOk (b : Book) (c : Cpy) : Bool := match svcOf b c.svc with
  | none => false
  | some s => within c.num 1 (w64 (s.next - 1)) && within c.ver 1 b.now && within c.image 1 1000000 && within c.state 1 4 &&
    (bif c.state == 1 then sEq c.berth (bs #[]) else (brtOf b c.berth).isSome)
structure Small (b : Book) : Prop where
  s : b.svcs.length < 4611686018427387904
  c : b.cpys.length < 4611686018427387904
  t : b.brts.length < 4611686018427387904
theorem brtIx_ge (b : Book) (nm : Str) : decide (brtIx b.brts nm ≥ 0) = (brtOf b nm).isSome := by
  rcases findIx_spec (fun s : Brt => sEq s.name nm) b.brts 0 with ⟨h1, h2⟩ | ⟨i, h, h1, h2, _⟩
  · simp [brtIx, brtOf, h1, h2]
  · simp [brtIx, brtOf, h1, h2]
theorem s_l18CopyOk_eq (b : Book) (c : Cpy) (hb : Small b) : s_l18CopyOk (b.e ++ c.e) = some [.b (cpyOk b c)] := by
  have e1 := s_l18Service_eq b c.svc hb.s
  have e2 := s_l18Berth_eq b c.berth hb.t
  have e3 := brtIx_ge b c.berth
  simp only [Book.e, jA, jB] at e1 e2
  simp only [s_l18CopyOk, s_l18CopyOk.d1, Book.e, Cpy.e, jA, jB, jC, jD, e1, e2, s_l18In_eq, call1, jI, C.B_b, C.I_i, C.L_l, C.S_s, e3, cpyOk]
  rcases findIx_spec (fun s : Svc => sEq s.name c.svc) b.svcs 0 with ⟨h1, h2⟩ | ⟨i, h, h1, h2, _⟩
  · simp [svcIx, svcOf, h1, h2]
  · simp only [Nat.zero_add] at h1
    simp only [svcIx, svcOf, h1, h2, jW, jY, getD_map_lt Svc.e h]
    have q1 : decide ((i : Int) < 0) = false := by simp
    have q2 : decide ((i : Int) < (b.svcs.length : Int)) = true := by simp [h]
    simp only [q1, q2, jX, decide_true, ja, jZ, jR, Svc.e, jC, jD, C.I_i]
    cases within c.num 1 (w64 (b.svcs[i].next - 1)) <;> simp only [jZ, ja, jR, jS, Bool.true_and, Bool.false_and, jV]
    cases within c.ver 1 b.now <;> simp only [jZ, ja, jR, jS, Bool.true_and, Bool.false_and, jV]
    cases within c.image 1 1000000 <;> simp only [jZ, ja, jR, jS, Bool.true_and, Bool.false_and, jV]
    cases within c.state 1 4 <;> simp only [jZ, ja, jR, jS, Bool.true_and, Bool.false_and, jV]
    cases c.state == 1 <;> simp [sEq]
def cLt (a b : Cpy) : Bool := sLt a.svc b.svc || (sEq a.svc b.svc && decide (a.num < b.num))
theorem s_l18Ahead_eq (a b : Cpy) : s_l18Ahead (a.e ++ b.e) = some [.b (cLt a b)] := by
  simp only [s_l18Ahead, s_l18Ahead.d1, Cpy.e, jA, jB, jC, jD, C.S_s, C.I_i, cLt, sLt, sEq]
  cases Op.bytesLess a.svc.toList b.svc.toList <;> cases a.svc.toList == b.svc.toList <;> simp
def prevOk {α : Type} (lt : α → α → Bool) (l : List α) (i : Nat) (s : α) : Bool := i == 0 || match l[i - 1]? with | some y => lt y s | none => false
def chainOk {α : Type} (ok : α → Bool) (lt : α → α → Bool) (l : List α) : Bool := (l.zipIdx 0).all fun x => ok x.1 && prevOk lt l x.2 x.1
def validB (b : Book) : Bool :=
  within b.now 0 1000000 && decide (b.svcs.length ≤ 8) && decide (b.cpys.length ≤ 200) && decide (b.brts.length ≤ 6) &&
  chainOk (fun s => svcOk s b.now) (fun s t => sLt s.name t.name) b.svcs && chainOk (fun s => nameOk s.name) (fun s t : Brt => sLt s.name t.name) b.brts && chainOk (cpyOk b) cLt b.cpys
structure Names (b : Book) : Prop where
  s : ∀ s, s ∈ b.svcs → s.name.size < 4611686018427387904
  t : ∀ s, s ∈ b.brts → s.name.size < 4611686018427387904
theorem w64_1 : w64 1 = 1 := w64_of (by omega) (by omega)
theorem chain_loop {α : Type} (ok : α → Bool) (lt : α → α → Bool) (b : Nat) (ys : List C) (K : List C → R) (l : List α) :
    bindBlk b (some (loopL (fun i s (_ : Unit) => bif ok s && prevOk lt l i s then .inl () else .inr (.ret [.b false])) (fun _ => .brk b ys) l 0 ())) K = bif chainOk ok lt l then K ys else some (.ret [.b false]) := by
  have := loopL_all (fun i s => ok s && prevOk lt l i s) b ys K l 0
  exact this
theorem s_StewValid_l1 (b : Book) (hb : Small b) (hn : Names b) (K : List C → R) :
    bindBlk 0 (lim (fun xs => s_StewValid.d1 (xs.getD 0 .nil) (xs.getD 1 .nil) (xs.getD 2 .nil) (xs.getD 3 .nil) (xs.getD 4 .nil)) (.i 0 :: b.e)) K
      = bif chainOk (fun s => svcOk s b.now) (fun s t => sLt s.name t.name) b.svcs then K b.e else some (.ret [.b false]) := by
  have L1 := lim_list (l := b.svcs) (S := fun i (_ : Unit) => .i (i : Nat) :: b.e)
    (body := fun xs => s_StewValid.d1 (xs.getD 0 .nil) (xs.getD 1 .nil) (xs.getD 2 .nil) (xs.getD 3 .nil) (xs.getD 4 .nil))
    (fun _ _ => True) (fun i s _ => bif svcOk s b.now && prevOk (fun s t => sLt s.name t.name) b.svcs i s then .inl () else .inr (.ret [.b false]))
    (fun _ => .brk 0 b.e)
    (fun i _ hi _ => by
      have e1 := s_l18ServiceOk_eq b.svcs[i] b.now (hn.s _ (List.getElem_mem hi))
      simp only [Svc.e, jA, jB] at e1
      have hs := hb.s
      have w1 : w64 ((i : Int) + 1) = (i : Int) + 1 := w64_of (by omega) (by omega)
      cases i with
      | zero =>
        cases hk : svcOk b.svcs[0] b.now
        all_goals exact ⟨by simp [Book.e, s_StewValid.d1, getD_map_lt Svc.e hi, Svc.e, hi, e1, hk, call1, w64_1, prevOk], trivial⟩
      | succ i =>
        have w2 : w64 (i : Int) = (i : Int) := w64_of (by omega) (by omega)
        have hi' : i < b.svcs.length := by omega
        have q1 : (i : Int) + 1 < (b.svcs.length : Int) := by omega
        have q2 : (i : Int) < (b.svcs.length : Int) := by omega
        have q3 : (0 : Int) < (i : Int) + 1 := by omega
        have q4 : (0 : Int) ≤ (i : Int) + 1 := by omega
        have q5 : ((i : Int) + 1).toNat = i + 1 := by omega
        simp only [prevOk, Nat.add_sub_cancel, List.getElem?_eq_getElem hi']
        simp only [Int.natCast_add, Int.natCast_one] at w1
        cases hk : svcOk b.svcs[i + 1] b.now <;> cases hq : sLt b.svcs[i].name b.svcs[i + 1].name <;> simp only [sLt] at hq
        all_goals exact ⟨by simp [Book.e, s_StewValid.d1, getD_map_lt Svc.e hi, getD_map_lt Svc.e hi', Svc.e, hi, hi', e1, hk, hq, call1, w1, w2, q1, q2, q3, q4, q5], trivial⟩)
    (fun _ _ => ⟨by simp [Book.e, s_StewValid.d1], trivial⟩) _ 0 () rfl trivial
  simp only [Int.ofNat_zero, List.drop_zero] at L1
  erw [L1]
  exact chain_loop _ _ _ _ _ _
theorem s_StewValid_l2 (b : Book) (hb : Small b) (hn : Names b) (K : List C → R) :
    bindBlk 2 (lim (fun xs => s_StewValid.d2 (xs.getD 0 .nil) (xs.getD 1 .nil) (xs.getD 2 .nil) (xs.getD 3 .nil) (xs.getD 4 .nil)) (.i 0 :: b.e)) K
      = bif chainOk (fun s => nameOk s.name) (fun s t : Brt => sLt s.name t.name) b.brts then K b.e else some (.ret [.b false]) := by
  have L1 := lim_list (l := b.brts) (S := fun i (_ : Unit) => .i (i : Nat) :: b.e)
    (body := fun xs => s_StewValid.d2 (xs.getD 0 .nil) (xs.getD 1 .nil) (xs.getD 2 .nil) (xs.getD 3 .nil) (xs.getD 4 .nil))
    (fun _ _ => True) (fun i s _ => bif nameOk s.name && prevOk (fun s t => sLt s.name t.name) b.brts i s then .inl () else .inr (.ret [.b false]))
    (fun _ => .brk 2 b.e)
    (fun i _ hi _ => by
      have e1 := s_l18NameOk_eq b.brts[i].name (hn.t _ (List.getElem_mem hi))
      have hs := hb.t
      have w1 : w64 ((i : Int) + 1) = (i : Int) + 1 := w64_of (by omega) (by omega)
      cases i with
      | zero =>
        cases hk : nameOk b.brts[0].name
        all_goals exact ⟨by simp [Book.e, s_StewValid.d2, getD_map_lt Brt.e hi, Brt.e, hi, e1, hk, call1, w64_1, prevOk], trivial⟩
      | succ i =>
        have w2 : w64 (i : Int) = (i : Int) := w64_of (by omega) (by omega)
        have hi' : i < b.brts.length := by omega
        have q1 : (i : Int) + 1 < (b.brts.length : Int) := by omega
        have q2 : (i : Int) < (b.brts.length : Int) := by omega
        have q3 : (0 : Int) < (i : Int) + 1 := by omega
        have q4 : (0 : Int) ≤ (i : Int) + 1 := by omega
        have q5 : ((i : Int) + 1).toNat = i + 1 := by omega
        simp only [prevOk, Nat.add_sub_cancel, List.getElem?_eq_getElem hi']
        simp only [Int.natCast_add, Int.natCast_one] at w1
        cases hk : nameOk b.brts[i + 1].name <;> cases hq : sLt b.brts[i].name b.brts[i + 1].name <;> simp only [sLt] at hq
        all_goals exact ⟨by simp [Book.e, s_StewValid.d2, getD_map_lt Brt.e hi, getD_map_lt Brt.e hi', Brt.e, hi, hi', e1, hk, hq, call1, w1, w2, q1, q2, q3, q4, q5], trivial⟩)
    (fun _ _ => ⟨by simp [Book.e, s_StewValid.d2], trivial⟩) _ 0 () rfl trivial
  simp only [Int.ofNat_zero, List.drop_zero] at L1
  erw [L1]
  exact chain_loop _ _ _ _ _ _
theorem s_StewValid_l3 (b : Book) (hb : Small b) (K : List C → R) :
    bindBlk 4 (lim (fun xs => s_StewValid.d3 (xs.getD 0 .nil) (xs.getD 1 .nil) (xs.getD 2 .nil) (xs.getD 3 .nil) (xs.getD 4 .nil)) (.i 0 :: b.e)) K
      = bif chainOk (cpyOk b) cLt b.cpys then K [] else some (.ret [.b false]) := by
  have L1 := lim_list (l := b.cpys) (S := fun i (_ : Unit) => .i (i : Nat) :: b.e)
    (body := fun xs => s_StewValid.d3 (xs.getD 0 .nil) (xs.getD 1 .nil) (xs.getD 2 .nil) (xs.getD 3 .nil) (xs.getD 4 .nil))
    (fun _ _ => True) (fun i s _ => bif cpyOk b s && prevOk cLt b.cpys i s then .inl () else .inr (.ret [.b false]))
    (fun _ => .brk 4 [])
    (fun i _ hi _ => by
      have e1 := s_l18CopyOk_eq b b.cpys[i] hb
      simp only [Book.e, Cpy.e, jA, jB] at e1
      have hs := hb.c
      have w1 : w64 ((i : Int) + 1) = (i : Int) + 1 := w64_of (by omega) (by omega)
      cases i with
      | zero =>
        cases hk : cpyOk b b.cpys[0]
        all_goals exact ⟨by simp [Book.e, s_StewValid.d3, getD_map_lt Cpy.e hi, Cpy.e, hi, e1, hk, call1, w64_1, prevOk], trivial⟩
      | succ i =>
        have w2 : w64 (i : Int) = (i : Int) := w64_of (by omega) (by omega)
        have hi' : i < b.cpys.length := by omega
        have e2 := s_l18Ahead_eq b.cpys[i] b.cpys[i + 1]
        simp only [Cpy.e, jA, jB] at e2
        have q1 : (i : Int) + 1 < (b.cpys.length : Int) := by omega
        have q2 : (i : Int) < (b.cpys.length : Int) := by omega
        have q3 : (0 : Int) < (i : Int) + 1 := by omega
        have q4 : (0 : Int) ≤ (i : Int) + 1 := by omega
        have q5 : ((i : Int) + 1).toNat = i + 1 := by omega
        simp only [prevOk, Nat.add_sub_cancel, List.getElem?_eq_getElem hi']
        simp only [Int.natCast_add, Int.natCast_one] at w1
        cases hk : cpyOk b b.cpys[i + 1] <;> cases hq : cLt b.cpys[i] b.cpys[i + 1]
        all_goals exact ⟨by simp [Book.e, s_StewValid.d3, getD_map_lt Cpy.e hi, getD_map_lt Cpy.e hi', Cpy.e, hi, hi', e1, e2, hk, hq, call1, w1, w2, q1, q2, q3, q4, q5], trivial⟩)
    (fun _ _ => ⟨by simp [Book.e, s_StewValid.d3], trivial⟩) _ 0 () rfl trivial
  simp only [Int.ofNat_zero, List.drop_zero] at L1
  erw [L1]
  exact chain_loop _ _ _ _ _ _
theorem s_StewValid_eq (b : Book) (hb : Small b) (hn : Names b) : s_StewValid b.e = some [.b (validB b)] := by
  have l1 := s_StewValid_l1 b hb hn
  have l2 := s_StewValid_l2 b hb hn
  have l3 := s_StewValid_l3 b hb
  simp only [Book.e] at l1 l2 l3
  simp only [s_StewValid, s_StewValid.d7, Book.e, jC, jD, C.I_i, C.L_l, s_l18In_eq, call1, jI, C.B_b, jW, l1, validB]
  cases within b.now 0 1000000 <;> simp only [jZ, ja, jR, jS, Bool.true_and, Bool.false_and, jV]
  by_cases h1 : b.svcs.length ≤ 8
  · have a1 : decide ((b.svcs.length : Int) > 8) = false := by simp; omega
    simp only [a1, h1, decide_true, ja, jR, Bool.true_and]
    by_cases h2 : b.cpys.length ≤ 200
    · have a2 : decide ((b.cpys.length : Int) > 200) = false := by simp; omega
      simp only [a2, h2, decide_true, ja, jR, Bool.true_and]
      by_cases h3 : b.brts.length ≤ 6
      · have a3 : decide ((b.brts.length : Int) > 6) = false := by simp; omega
        simp only [a3, h3, decide_true, jS, Bool.true_and]
        cases chainOk (fun s => svcOk s b.now) (fun s t => sLt s.name t.name) b.svcs <;> simp only [jR, jS, Bool.true_and, Bool.false_and, jV]
        simp only [s_StewValid.d6, jC, jD, l2]
        cases chainOk (fun s => nameOk s.name) (fun s t : Brt => sLt s.name t.name) b.brts <;> simp only [jR, jS, Bool.true_and, Bool.false_and, jV]
        simp only [s_StewValid.d5, jC, jD, l3]
        cases chainOk (cpyOk b) cLt b.cpys <;> simp [s_StewValid.d4]
      · have a3 : decide ((b.brts.length : Int) > 6) = true := by simp; omega
        simp [a3, h3]
    · have a2 : decide ((b.cpys.length : Int) > 200) = true := by simp; omega
      simp [a2, h2]
  · have a1 : decide ((b.svcs.length : Int) > 8) = true := by simp; omega
    simp [a1, h1]
end Go.Ev
namespace Go.Ev
theorem bytesLess_not : ∀ (a b : List UInt8), (Op.bytesLess a b || a == b) = !Op.bytesLess b a
  | [], [] => by simp [Op.bytesLess]
  | [], _ :: _ => by simp [Op.bytesLess]
  | _ :: _, [] => by simp [Op.bytesLess]
  | x :: a, y :: b => by
    have ih := bytesLess_not a b
    simp only [Op.bytesLess]
    rcases Nat.lt_trichotomy x.toNat y.toNat with h | h | h
    · have h1 : x < y := h
      have h2 : ¬ y < x := fun h' => Nat.lt_asymm h h'
      have h3 : ¬ y = x := fun e => by subst e; exact Nat.lt_irrefl _ h
      simp [h1, h2, h3]
    · have e : x = y := UInt8.toNat_inj.1 h
      subst e
      have : ¬ x < x := Nat.lt_irrefl x.toNat
      simp only [this, decide_false, beq_self_eq_true, Bool.false_or, Bool.true_and]
      simpa using ih
    · have h1 : ¬ x < y := fun h' => Nat.lt_asymm h h'
      have h2 : y < x := h
      have h3 : ¬ x = y := fun e => by subst e; exact Nat.lt_irrefl _ h
      simp [h1, h2, h3]
theorem sLt_not (a b : Str) : (sLt a b || sEq a b) = !sLt b a := bytesLess_not _ _
theorem i_within_eq (a b c : Int) : i_within [.i a, .i b, .i c] = some [.b (within a b c)] := by
  simp only [i_within, i_within.d1, jC, jD, C.I_i, ge_iff_le, within]
  cases decide (b ≤ a) <;> simp
theorem i_isName_eq (s : Str) (hl : s.size < 4611686018427387904) : i_isName [.s s] = some [.b (nameOk s)] := by
  have hsz : s.size = s.data.toList.length := Array.length_toList.symm
  have h := lim_list (l := s.data.toList) (S := fun i (_ : Unit) => [.s s, .i (s.size : Nat), .i (i : Nat)]) (body := fun xs => i_isName.d2 (xs.getD 0 .nil) (xs.getD 1 .nil) (xs.getD 2 .nil))
    (fun _ _ => True) (fun i b _ => bif !byteBad b.toNat then .inl () else .inr (.ret [.b false])) (fun _ => .brk 0 [])
    (fun i _ hi _ => by
      have hi' : i < s.size := by omega
      have key : i_isName.d2 (.s s) (.i (s.size : Nat)) (.i i) = i_isName.d1 (.s s) (.i (s.size : Nat)) (.i i) (.b (byteBad s.data.toList[i].toNat)) := by
        simp only [i_isName.d2, C.I_i, C.S_s, jY, arr_getD hi, byteBad]
        generalize ((s.data.toList[i].toNat : Nat) : Int) = m
        have e1 : decide ((i : Int) < (s.size : Int)) = true := by simp; exact hi'
        simp only [e1, jR, jX, decide_true]
        cases decide (m ≥ 97) <;> cases decide (m ≤ 122) <;> cases decide (m ≥ 48) <;> cases decide (m ≤ 57) <;> simp [hi']
      cases hb : byteBad s.data.toList[i].toNat with
      | true => exact ⟨by show i_isName.d2 (.s s) (.i (s.size : Nat)) (.i i) = _; rw [key, hb]; simp [i_isName.d1], trivial⟩
      | false => exact ⟨by show i_isName.d2 (.s s) (.i (s.size : Nat)) (.i i) = _; rw [key, hb]; simp [i_isName.d1, w64_of (n := (i : Int) + 1) (by omega) (by omega)], trivial⟩)
    (fun _ _ => ⟨by show i_isName.d2 (.s s) (.i (s.size : Nat)) (.i (s.data.toList.length : Nat)) = _; rw [← hsz]; simp [i_isName.d2], trivial⟩) _ 0 () rfl trivial
  simp only [Int.ofNat_zero, List.drop_zero] at h
  have all_eq : (s.data.toList.zipIdx 0).all (fun x => !byteBad x.1.toNat) = s.data.toList.all fun b => !byteBad b.toNat := by
    have e : ∀ (l : List UInt8) n, (l.zipIdx n).all (fun x => !byteBad x.1.toNat) = l.all fun b => !byteBad b.toNat := by
      intro l
      induction l with
      | nil => intro n; rfl
      | cons x r ih => intro n; simp [ih]
    exact e _ _
  simp only [i_isName, i_isName.d4, jC, C.S_s]
  have w1 : decide ((s.size : Int) < 1) = !decide (1 ≤ (s.size : Int)) := by
    by_cases h : (s.size : Int) < 1
    · have : ¬ (1 ≤ (s.size : Int)) := by omega
      simp only [h, this, decide_true, decide_false, ja]
    · have : (1 ≤ (s.size : Int)) := by omega
      simp only [h, this, decide_true, decide_false, jZ]
  have w2 : decide ((s.size : Int) > 20) = !decide ((s.size : Int) ≤ 20) := by
    by_cases h : (s.size : Int) > 20
    · have : ¬ ((s.size : Int) ≤ 20) := by omega
      simp only [h, this, decide_true, decide_false, ja]
    · have : ((s.size : Int) ≤ 20) := by omega
      simp only [h, this, decide_true, decide_false, jZ]
  rw [w1, w2]
  simp only [nameOk, within]
  cases decide (1 ≤ (s.size : Int)) <;> simp only [Bool.not_not, jZ, ja, jR, jS, Bool.true_and, Bool.false_and, jV]
  cases decide ((s.size : Int) ≤ 20) <;> simp only [jZ, ja, jR, jS, Bool.true_and, Bool.false_and, jV]
  erw [h, loopL_all, all_eq]
  cases (s.data.toList.all fun b => !byteBad b.toNat) <;> simp [i_isName.d3]
theorem i_serviceOk_eq (s : Svc) (now : Int) (hl : s.name.size < 4611686018427387904) : i_serviceOk (s.e ++ [.i now]) = some [.b (svcOk s now)] := by
  simp only [i_serviceOk, i_serviceOk.d1, Svc.e, jA, jB, jC, jD, i_isName_eq s.name hl, i_within_eq, call1, jI, C.B_b, C.I_i, svcOk]
  cases nameOk s.name <;> simp only [jZ, ja, jR, jS, Bool.true_and, Bool.false_and, jV]
  cases within s.ver 1 now <;> simp only [jZ, ja, jR, jS, Bool.true_and, Bool.false_and, jV]
  cases within s.image 1 1000000 <;> simp only [jZ, ja, jR, jS, Bool.true_and, Bool.false_and, jV]
  cases within s.next 1 1000000 <;> simp only [jZ, ja, jR, jS, Bool.true_and, Bool.false_and, jV]
  cases within s.want 0 10 <;> simp only [jZ, ja, jR, jS, Bool.true_and, Bool.false_and, jV]
  cases within s.down 0 10 <;> simp only [jZ, ja, jR, jS, Bool.true_and, Bool.false_and, jV]
  cases within s.over 0 10 <;> simp only [jZ, ja, jR, jS, Bool.true_and, Bool.false_and, jV]
  cases (w64 (s.down + s.over) == 0) <;> simp only [jZ, ja, jR, jS, Bool.true_and, Bool.false_and, jV]
  by_cases hp : s.per = 0
  · rw [hp]
    have e1 : within 0 0 1000000 = true := by decide
    simp only [e1, beq_self_eq_true, jR, jZ, ja]
    by_cases h1 : s.load = 0
    · by_cases h2 : s.least = 0
      · by_cases h3 : s.most = 0
        · by_cases h4 : s.cool = 0
          · rw [h1, h2, h3, h4]; rfl
          · have : (s.cool == 0) = false := by simp [h4]
            rw [h1, h2, h3, this]
            cases within s.cool 0 3 <;> rfl
        · have : (s.most == 0) = false := by simp [h3]
          rw [h1, h2, this]
          cases within s.most 0 10 <;> cases decide ((0 : Int) > s.most) <;> cases within s.cool 0 3 <;> rfl
      · have : (s.least == 0) = false := by simp [h2]
        rw [h1, this]
        cases within s.least 0 10 <;> cases within s.most 0 10 <;> cases decide (s.least > s.most) <;> cases within s.cool 0 3 <;> rfl
    · have : (s.load == 0) = false := by simp [h1]
      rw [this]
      cases within s.load 0 1000000 <;> cases within s.least 0 10 <;> cases within s.most 0 10 <;> cases decide (s.least > s.most) <;> cases within s.cool 0 3 <;> cases s.least == 0 <;> cases s.most == 0 <;> rfl
  · have e1 : (s.per == 0) = false := by simp [hp]
    simp only [e1, jS]
    by_cases hq : s.per > 0
    · have e2 : decide (s.per > 0) = true := by simp [hq]
      rw [e2]
      have e3 : within s.most s.least 10 = (within s.most s.least 10) := rfl
      by_cases h1 : within s.least 0 10 = true
      · by_cases h2 : s.least > s.most
        · have a1 : decide (s.least > s.most) = true := by simp [h2]
          have a2 : within s.most s.least 10 = false := by simp only [within, Bool.and_eq_false_iff, decide_eq_false_iff_not]; omega
          rw [a1, a2, h1]
          cases within s.per 0 1000000 <;> cases within s.load 0 1000000 <;> cases within s.most 0 10 <;> rfl
        · have a1 : decide (s.least > s.most) = false := by simp; omega
          have a2 : within s.most s.least 10 = within s.most 0 10 := by
            simp only [within, Bool.and_eq_true, decide_eq_true_eq] at h1 ⊢
            have b1 : s.least ≤ s.most := by omega
            have b2 : (0 : Int) ≤ s.most := by omega
            simp [b1, b2]
          rw [a1, a2, h1]
          cases within s.per 0 1000000 <;> cases within s.load 0 1000000 <;> cases within s.most 0 10 <;> cases within s.cool 0 3 <;> rfl
      · have h1' : within s.least 0 10 = false := by simpa using h1
        rw [h1']
        cases within s.per 0 1000000 <;> cases within s.load 0 1000000 <;> rfl
    · have e2 : within s.per 0 1000000 = false := by simp only [within, Bool.and_eq_false_iff, decide_eq_false_iff_not]; omega
      rw [e2]; rfl
end Go.Ev
namespace Go.Ev
def rowP {α : Type} (e : α → List C) : Option α → C
  | none => .nil
  | some x => .p (e x)
@[simp] theorem rowP_none {α : Type} (e : α → List C) : rowP e none = .nil := rfl
@[simp] theorem rowP_some {α : Type} (e : α → List C) (x : α) : rowP e (some x) = .p (e x) := rfl
theorem loopL_findP {α : Type} (p : α → Bool) (b : Nat) (ex : α → List C) (ys : List C) (K : List C → R) (hK : K ys = some (.ret (.nil :: ys))) : ∀ (l : List α) (n : Nat),
    bindBlk b (some (loopL (fun i s (_ : Unit) => bif p s then .inr (.ret (.p (ex s) :: ys)) else .inl ()) (fun _ => .brk b ys) l n ())) K = some (.ret (rowP ex (l.find? p) :: ys))
  | [], n => by simp [loopL, hK]
  | x :: r, n => by
    have ih := loopL_findP p b ex ys K hK r (n + 1)
    cases hx : p x <;> simp [loopL, hx, ih]
theorem i_service_eq (b : Book) (nm : Str) (hb : Small b) : i_StewBook_service (.s nm :: b.e) = some (rowP Svc.e (svcOf b nm) :: b.e) := by
  have hl := hb.s
  have h := lim_list (l := b.svcs) (S := fun i (_ : Unit) => .s nm :: .i (b.svcs.length : Nat) :: .i (i : Nat) :: b.e)
    (body := fun xs => i_StewBook_service.d1 (xs.getD 0 .nil) (xs.getD 1 .nil) (xs.getD 2 .nil) (xs.getD 3 .nil) (xs.getD 4 .nil) (xs.getD 5 .nil) (xs.getD 6 .nil))
    (fun _ _ => True) (fun i s _ => bif sEq s.name nm then .inr (.ret (.p s.e :: b.e)) else .inl ()) (fun _ => .brk 0 b.e)
    (fun i _ hi _ => by
      cases hs : sEq b.svcs[i].name nm <;> simp only [sEq] at hs
      · exact ⟨by simp [Book.e, i_StewBook_service.d1, getD_map_lt Svc.e hi, Svc.e, hs, hi, w64_of (n := (i : Int) + 1) (by omega) (by omega)], trivial⟩
      · exact ⟨by simp [Book.e, i_StewBook_service.d1, getD_map_lt Svc.e hi, Svc.e, hs, hi], trivial⟩)
    (fun _ _ => ⟨by simp [Book.e, i_StewBook_service.d1], trivial⟩) _ 0 () rfl trivial
  simp only [Int.ofNat_zero, List.drop_zero] at h
  simp only [Book.e] at h
  simp only [i_StewBook_service, i_StewBook_service.d3, Book.e, jC, jD, C.L_l, jW]
  erw [h]
  rw [loopL_findP _ _ _ _ _ (by rfl)]
  rfl
theorem i_berth_eq (b : Book) (nm : Str) (hb : Small b) : i_StewBook_berth (.s nm :: b.e) = some (rowP Brt.e (brtOf b nm) :: b.e) := by
  have hl := hb.t
  have h := lim_list (l := b.brts) (S := fun i (_ : Unit) => .s nm :: .i (b.brts.length : Nat) :: .i (i : Nat) :: b.e)
    (body := fun xs => i_StewBook_berth.d1 (xs.getD 0 .nil) (xs.getD 1 .nil) (xs.getD 2 .nil) (xs.getD 3 .nil) (xs.getD 4 .nil) (xs.getD 5 .nil) (xs.getD 6 .nil))
    (fun _ _ => True) (fun i s _ => bif sEq s.name nm then .inr (.ret (.p s.e :: b.e)) else .inl ()) (fun _ => .brk 0 b.e)
    (fun i _ hi _ => by
      cases hs : sEq b.brts[i].name nm <;> simp only [sEq] at hs
      · exact ⟨by simp [Book.e, i_StewBook_berth.d1, getD_map_lt Brt.e hi, Brt.e, hs, hi, w64_of (n := (i : Int) + 1) (by omega) (by omega)], trivial⟩
      · exact ⟨by simp [Book.e, i_StewBook_berth.d1, getD_map_lt Brt.e hi, Brt.e, hs, hi], trivial⟩)
    (fun _ _ => ⟨by simp [Book.e, i_StewBook_berth.d1], trivial⟩) _ 0 () rfl trivial
  simp only [Int.ofNat_zero, List.drop_zero] at h
  simp only [Book.e] at h
  simp only [i_StewBook_berth, i_StewBook_berth.d3, Book.e, jC, jD, C.L_l, jW]
  erw [h]
  rw [loopL_findP _ _ _ _ _ (by rfl)]
  rfl
theorem bytesLess_irrefl (a : List UInt8) : Op.bytesLess a a = false := by
  have := bytesLess_not a a
  cases h : Op.bytesLess a a <;> simp [h] at this ⊢
theorem i_StewValid_l1 (b : Book) (hb : Small b) (hn : Names b) (K : List C → R) :
    bindBlk 0 (lim (fun xs => i_StewValid.d1 (xs.getD 0 .nil) (xs.getD 1 .nil) (xs.getD 2 .nil) (xs.getD 3 .nil) (xs.getD 4 .nil) (xs.getD 5 .nil) (xs.getD 6 .nil)) (.l (b.svcs.map Svc.e) :: .i (b.svcs.length : Nat) :: .i 0 :: b.e)) K
      = bif chainOk (fun s => svcOk s b.now) (fun s t => sLt s.name t.name) b.svcs then K b.e else some (.ret [.b false]) := by
  have L1 := lim_list (l := b.svcs) (S := fun i (_ : Unit) => .l (b.svcs.map Svc.e) :: .i (b.svcs.length : Nat) :: .i (i : Nat) :: b.e)
    (body := fun xs => i_StewValid.d1 (xs.getD 0 .nil) (xs.getD 1 .nil) (xs.getD 2 .nil) (xs.getD 3 .nil) (xs.getD 4 .nil) (xs.getD 5 .nil) (xs.getD 6 .nil))
    (fun _ _ => True) (fun i s _ => bif svcOk s b.now && prevOk (fun s t => sLt s.name t.name) b.svcs i s then .inl () else .inr (.ret [.b false]))
    (fun _ => .brk 0 b.e)
    (fun i _ hi _ => by
      have e1 := i_serviceOk_eq b.svcs[i] b.now (hn.s _ (List.getElem_mem hi))
      simp only [Svc.e, jA, jB] at e1
      have hs := hb.s
      have w1 : w64 ((i : Int) + 1) = (i : Int) + 1 := w64_of (by omega) (by omega)
      cases i with
      | zero =>
        cases hk : svcOk b.svcs[0] b.now
        all_goals exact ⟨by simp [Book.e, i_StewValid.d1, getD_map_lt Svc.e hi, Svc.e, hi, e1, hk, call1, w64_1, prevOk], trivial⟩
      | succ i =>
        have w2 : w64 (i : Int) = (i : Int) := w64_of (by omega) (by omega)
        have hi' : i < b.svcs.length := by omega
        have q1 : (i : Int) + 1 < (b.svcs.length : Int) := by omega
        have q2 : (i : Int) < (b.svcs.length : Int) := by omega
        have q3 : (0 : Int) < (i : Int) + 1 := by omega
        have q4 : (0 : Int) ≤ (i : Int) + 1 := by omega
        have q5 : ((i : Int) + 1).toNat = i + 1 := by omega
        simp only [prevOk, Nat.add_sub_cancel, List.getElem?_eq_getElem hi']
        simp only [Int.natCast_add, Int.natCast_one] at w1
        cases hk : svcOk b.svcs[i + 1] b.now <;> cases hq : sLt b.svcs[i].name b.svcs[i + 1].name <;> simp only [sLt] at hq
        all_goals exact ⟨by simp [Book.e, i_StewValid.d1, bytesLess_not, getD_map_lt Svc.e hi, getD_map_lt Svc.e hi', Svc.e, hi, hi', e1, hk, hq, call1, w1, w2, q1, q2, q3, q4, q5], trivial⟩)
    (fun _ _ => ⟨by simp [Book.e, i_StewValid.d1], trivial⟩) _ 0 () rfl trivial
  simp only [Int.ofNat_zero, List.drop_zero] at L1
  erw [L1]
  exact chain_loop _ _ _ _ _ _
theorem i_StewValid_l2 (b : Book) (hb : Small b) (hn : Names b) (K : List C → R) :
    bindBlk 2 (lim (fun xs => i_StewValid.d2 (xs.getD 0 .nil) (xs.getD 1 .nil) (xs.getD 2 .nil) (xs.getD 3 .nil) (xs.getD 4 .nil) (xs.getD 5 .nil) (xs.getD 6 .nil)) (.l (b.brts.map Brt.e) :: .i (b.brts.length : Nat) :: .i 0 :: b.e)) K
      = bif chainOk (fun s => nameOk s.name) (fun s t : Brt => sLt s.name t.name) b.brts then K b.e else some (.ret [.b false]) := by
  have L1 := lim_list (l := b.brts) (S := fun i (_ : Unit) => .l (b.brts.map Brt.e) :: .i (b.brts.length : Nat) :: .i (i : Nat) :: b.e)
    (body := fun xs => i_StewValid.d2 (xs.getD 0 .nil) (xs.getD 1 .nil) (xs.getD 2 .nil) (xs.getD 3 .nil) (xs.getD 4 .nil) (xs.getD 5 .nil) (xs.getD 6 .nil))
    (fun _ _ => True) (fun i s _ => bif nameOk s.name && prevOk (fun s t => sLt s.name t.name) b.brts i s then .inl () else .inr (.ret [.b false]))
    (fun _ => .brk 2 b.e)
    (fun i _ hi _ => by
      have e1 := i_isName_eq b.brts[i].name (hn.t _ (List.getElem_mem hi))
      have hs := hb.t
      have w1 : w64 ((i : Int) + 1) = (i : Int) + 1 := w64_of (by omega) (by omega)
      cases i with
      | zero =>
        cases hk : nameOk b.brts[0].name
        all_goals exact ⟨by simp [Book.e, i_StewValid.d2, getD_map_lt Brt.e hi, Brt.e, hi, e1, hk, call1, w64_1, prevOk], trivial⟩
      | succ i =>
        have w2 : w64 (i : Int) = (i : Int) := w64_of (by omega) (by omega)
        have hi' : i < b.brts.length := by omega
        have q1 : (i : Int) + 1 < (b.brts.length : Int) := by omega
        have q2 : (i : Int) < (b.brts.length : Int) := by omega
        have q3 : (0 : Int) < (i : Int) + 1 := by omega
        have q4 : (0 : Int) ≤ (i : Int) + 1 := by omega
        have q5 : ((i : Int) + 1).toNat = i + 1 := by omega
        simp only [prevOk, Nat.add_sub_cancel, List.getElem?_eq_getElem hi']
        simp only [Int.natCast_add, Int.natCast_one] at w1
        cases hk : nameOk b.brts[i + 1].name <;> cases hq : sLt b.brts[i].name b.brts[i + 1].name <;> simp only [sLt] at hq
        all_goals exact ⟨by simp [Book.e, i_StewValid.d2, bytesLess_not, getD_map_lt Brt.e hi, getD_map_lt Brt.e hi', Brt.e, hi, hi', e1, hk, hq, call1, w1, w2, q1, q2, q3, q4, q5], trivial⟩)
    (fun _ _ => ⟨by simp [Book.e, i_StewValid.d2], trivial⟩) _ 0 () rfl trivial
  simp only [Int.ofNat_zero, List.drop_zero] at L1
  erw [L1]
  exact chain_loop _ _ _ _ _ _
theorem i_StewValid_l4 (b : Book) (hb : Small b) (K : List C → R) :
    bindBlk 4 (lim (fun xs => i_StewValid.d4 (xs.getD 0 .nil) (xs.getD 1 .nil) (xs.getD 2 .nil) (xs.getD 3 .nil) (xs.getD 4 .nil) (xs.getD 5 .nil) (xs.getD 6 .nil)) (.l (b.cpys.map Cpy.e) :: .i (b.cpys.length : Nat) :: .i 0 :: b.e)) K
      = bif chainOk (cpyOk b) cLt b.cpys then K [] else some (.ret [.b false]) := by
  have L1 := lim_list (l := b.cpys) (S := fun i (_ : Unit) => .l (b.cpys.map Cpy.e) :: .i (b.cpys.length : Nat) :: .i (i : Nat) :: b.e)
    (body := fun xs => i_StewValid.d4 (xs.getD 0 .nil) (xs.getD 1 .nil) (xs.getD 2 .nil) (xs.getD 3 .nil) (xs.getD 4 .nil) (xs.getD 5 .nil) (xs.getD 6 .nil))
    (fun _ _ => True) (fun i s _ => bif cpyOk b s && prevOk cLt b.cpys i s then .inl () else .inr (.ret [.b false]))
    (fun _ => .brk 4 [])
    (fun i _ hi _ => by
      have e1 := i_service_eq b b.cpys[i].svc hb
      have e2 := i_berth_eq b b.cpys[i].berth hb
      have hs := hb.c
      have w1 : w64 ((i : Int) + 1) = (i : Int) + 1 := w64_of (by omega) (by omega)
      have d3 : ∀ v : Bool, i_StewValid.d3 (.i i) (.l (b.cpys.map Cpy.e)) (.i (b.cpys.length : Nat)) (.i i) (.b v) (.i b.now) (.l (b.svcs.map Svc.e)) (.l (b.cpys.map Cpy.e)) (.l (b.brts.map Brt.e))
          (.s b.cpys[i].svc) (.i b.cpys[i].num) (.i b.cpys[i].ver) (.i b.cpys[i].image) (.i b.cpys[i].state) (.b b.cpys[i].ending) (.s b.cpys[i].berth)
          = bif !v && prevOk cLt b.cpys i b.cpys[i] then some (.again (.l (b.cpys.map Cpy.e) :: .i (b.cpys.length : Nat) :: .i ((i + 1 : Nat) : Int) :: b.e)) else some (.ret [.b false]) := by
        intro v
        cases v with
        | true => simp [i_StewValid.d3]
        | false =>
          cases i with
          | zero => simp [i_StewValid.d3, prevOk, w64_1, Book.e]
          | succ i =>
            have w2 : w64 (i : Int) = (i : Int) := w64_of (by omega) (by omega)
            have hi' : i < b.cpys.length := by omega
            have q2 : (i : Int) < (b.cpys.length : Int) := by omega
            have q3 : (0 : Int) < (i : Int) + 1 := by omega
            simp only [Int.natCast_add, Int.natCast_one] at w1
            simp only [prevOk, Nat.add_sub_cancel, List.getElem?_eq_getElem hi', cLt, sLt, sEq]
            have tri := bytesLess_not b.cpys[i + 1].svc.toList b.cpys[i].svc.toList
            cases hL : Op.bytesLess b.cpys[i + 1].svc.toList b.cpys[i].svc.toList
            · rw [hL, Bool.false_or] at tri
              by_cases hE : b.cpys[i + 1].svc.toList = b.cpys[i].svc.toList
              · have hG := bytesLess_irrefl b.cpys[i].svc.toList
                by_cases hn : b.cpys[i + 1].num ≤ b.cpys[i].num
                · have hn' : ¬ b.cpys[i].num < b.cpys[i + 1].num := by omega
                  simp [i_StewValid.d3, getD_map_lt Cpy.e hi', Cpy.e, hi', hL, hE, hG, hn, hn', w1, w2, q2, q3, Book.e]
                · have hn' : b.cpys[i].num < b.cpys[i + 1].num := by omega
                  simp [i_StewValid.d3, getD_map_lt Cpy.e hi', Cpy.e, hi', hL, hE, hG, hn, hn', w1, w2, q2, q3, Book.e]
              · have hE' : (b.cpys[i + 1].svc.toList == b.cpys[i].svc.toList) = false := by simp [hE]
                have hG : Op.bytesLess b.cpys[i].svc.toList b.cpys[i + 1].svc.toList = true := by rw [hE'] at tri; simpa using tri.symm
                simp [i_StewValid.d3, getD_map_lt Cpy.e hi', Cpy.e, hi', hL, hE', hG, w1, w2, q2, q3, Book.e]
            · rw [hL, Bool.true_or] at tri
              have hG : Op.bytesLess b.cpys[i].svc.toList b.cpys[i + 1].svc.toList = false := by simpa using tri.symm
              have hE : ¬ b.cpys[i].svc.toList = b.cpys[i + 1].svc.toList := by
                intro e; rw [e, bytesLess_irrefl] at hL; simp at hL
              have hE' : (b.cpys[i].svc.toList == b.cpys[i + 1].svc.toList) = false := by simp [hE]
              simp [i_StewValid.d3, getD_map_lt Cpy.e hi', Cpy.e, hi', hL, hE', hG, w1, w2, q2, q3, Book.e]
      have hlt : (i : Int) < (b.cpys.length : Int) := by omega
      have body : i_StewValid.d4 (.l (b.cpys.map Cpy.e)) (.i (b.cpys.length : Nat)) (.i i) (.i b.now) (.l (b.svcs.map Svc.e)) (.l (b.cpys.map Cpy.e)) (.l (b.brts.map Brt.e))
          = bif cpyOk b b.cpys[i] && prevOk cLt b.cpys i b.cpys[i] then some (.again (.l (b.cpys.map Cpy.e) :: .i (b.cpys.length : Nat) :: .i ((i + 1 : Nat) : Int) :: b.e)) else some (.ret [.b false]) := by
        simp only [Book.e] at e1 e2
        simp only [i_StewValid.d4, C.I_i, C.L_l, jW, jY, getD_map_lt Cpy.e hi, Cpy.e, jC, jD, C.S_s, C.B_b, hlt, decide_true, jR, jX, e1, e2, call5, call1, jI, i_within_eq, cpyOk]
        cases hsv : svcOf b b.cpys[i].svc with
        | none => simp
        | some s =>
          simp only [rowP_some, C.isP_p, jZ, ja, jR, C.P_p, Svc.e, jC, jD, C.I_i, i_within_eq, jI, C.B_b]
          cases within b.cpys[i].num 1 (w64 (s.next - 1)) <;> simp only [jZ, ja, jR, jS, Bool.true_and, Bool.false_and]
          cases within b.cpys[i].ver 1 b.now <;> simp only [jZ, ja, jR, jS, Bool.true_and, Bool.false_and]
          cases within b.cpys[i].image 1 1000000 <;> simp only [jZ, ja, jR, jS, Bool.true_and, Bool.false_and]
          cases within b.cpys[i].state 1 4 <;> simp only [jZ, ja, jR, jS, Bool.true_and, Bool.false_and]
          have hp : (rowP Brt.e (brtOf b b.cpys[i].berth)).isP = (brtOf b b.cpys[i].berth).isSome := by cases brtOf b b.cpys[i].berth <;> rfl
          cases hst : b.cpys[i].state == 1
          · have hst' : (b.cpys[i].state != 1) = true := by simp [bne, hst]
            simp only [hst', jR, jS, jJ, jC, jD, d3, hp, Bool.not_not]
          · have hst' : (b.cpys[i].state != 1) = false := by simp [bne, hst]
            simp only [hst', jR, jS, sEq]
            cases b.cpys[i].berth.toList == (bs #[]).toList <;> simp only [jZ, ja, jR, jS, jJ, jC, jD, d3, Bool.true_and, Bool.false_and, Bool.not_not]
      cases hk : (cpyOk b b.cpys[i] && prevOk cLt b.cpys i b.cpys[i])
      · exact ⟨by rw [hk, jS] at body; exact body, trivial⟩
      · exact ⟨by rw [hk, jR] at body; exact body, trivial⟩)
    (fun _ _ => ⟨by simp [Book.e, i_StewValid.d4], trivial⟩) _ 0 () rfl trivial
  simp only [Int.ofNat_zero, List.drop_zero] at L1
  erw [L1]
  exact chain_loop _ _ _ _ _ _
end Go.Ev
namespace Go.Ev
theorem i_StewValid_eq (b : Book) (hb : Small b) (hn : Names b) : i_StewValid b.e = some [.b (validB b)] := by
  have l1 := i_StewValid_l1 b hb hn
  have l2 := i_StewValid_l2 b hb hn
  have l3 := i_StewValid_l4 b hb
  simp only [Book.e] at l1 l2 l3
  simp only [i_StewValid, i_StewValid.d8, Book.e, jC, jD, C.I_i, C.L_l, i_within_eq, call1, jI, C.B_b, jW, l1, validB]
  cases within b.now 0 1000000 <;> simp only [jZ, ja, jR, jS, Bool.true_and, Bool.false_and, jV]
  by_cases h1 : b.svcs.length ≤ 8
  · have a1 : decide ((b.svcs.length : Int) > 8) = false := by simp; omega
    simp only [a1, h1, decide_true, ja, jR, Bool.true_and]
    by_cases h2 : b.cpys.length ≤ 200
    · have a2 : decide ((b.cpys.length : Int) > 200) = false := by simp; omega
      simp only [a2, h2, decide_true, ja, jR, Bool.true_and]
      by_cases h3 : b.brts.length ≤ 6
      · have a3 : decide ((b.brts.length : Int) > 6) = false := by simp; omega
        simp only [a3, h3, decide_true, jS, Bool.true_and]
        cases chainOk (fun s => svcOk s b.now) (fun s t => sLt s.name t.name) b.svcs <;> simp only [jR, jS, Bool.true_and, Bool.false_and, jV]
        simp only [i_StewValid.d7, jC, jD, C.L_l, jW, l2]
        cases chainOk (fun s => nameOk s.name) (fun s t : Brt => sLt s.name t.name) b.brts <;> simp only [jR, jS, Bool.true_and, Bool.false_and, jV]
        simp only [i_StewValid.d6, jC, jD, C.L_l, jW, l3]
        cases chainOk (cpyOk b) cLt b.cpys <;> simp [i_StewValid.d5]
      · have a3 : decide ((b.brts.length : Int) > 6) = true := by simp; omega
        simp [a3, h3]
    · have a2 : decide ((b.cpys.length : Int) > 200) = true := by simp; omega
      simp [a2, h2]
  · have a1 : decide ((b.svcs.length : Int) > 8) = true := by simp; omega
    simp [a1, h1]
end Go.Ev
namespace Go.Ev
theorem lim_ex {σ : Type} {body : List C → R} (S : σ → List C) (m : σ → Nat) (Inv : σ → Prop) (Post : Out → Prop)
    (h : ∀ a, Inv a → (∃ b, body (S a) = some (.again (S b)) ∧ Inv b ∧ m b < m a) ∨ ∃ o, body (S a) = some o ∧ o.stops ∧ Post o) :
    ∀ (n : Nat) (a : σ), m a < n → Inv a → ∃ o, lim body (S a) = some o ∧ Post o
  | 0, a, hn, _ => by omega
  | n + 1, a, hn, ha => by
    rcases h a ha with ⟨b, h1, h2, h3⟩ | ⟨o, h1, h2, h3⟩
    · obtain ⟨o, q1, q2⟩ := lim_ex S m Inv Post h n b (by omega) h2
      exact ⟨o, by rw [lim_again h1]; exact q1, q2⟩
    · exact ⟨o, lim_stop h1 h2, h3⟩
theorem lim_exs {σ : Type} {body : List C → R} (S : σ → List C) (m : σ → Nat) (Inv : σ → Prop) (Post : Out → Prop) (a : σ) (ha : Inv a)
    (h : ∀ a, Inv a → (∃ b, body (S a) = some (.again (S b)) ∧ Inv b ∧ m b < m a) ∨ ∃ o, body (S a) = some o ∧ o.stops ∧ Post o) : ∃ o, lim body (S a) = some o ∧ Post o :=
  lim_ex S m Inv Post h (m a + 1) a (by omega) ha
theorem s_l18Book_eq (b : Book) (h1 : b.svcs.length ≤ 4294967296) (h2 : b.cpys.length ≤ 4294967296) (h3 : b.brts.length ≤ 4294967296) : s_l18Book b.e = some b.e := by
  simp [s_l18Book, s_l18Book.d1, Book.e, h1, h2, h3]
theorem s_l18Book_v1_eq (b : Book) (h1 : b.svcs.length ≤ 4294967296) (h2 : b.cpys.length ≤ 4294967296) (h3 : b.brts.length ≤ 4294967296) : s_l18Book_v1 b.e = some b.e := by
  simp [s_l18Book_v1, s_l18Book_v1.d1, Book.e, h1, h2, h3]
structure Fit (b : Book) : Prop where
  s : b.svcs.length ≤ 4294967296
  c : b.cpys.length ≤ 4294967296
  t : b.brts.length ≤ 4294967296
theorem Fit.small {b : Book} (h : Fit b) : Small b := ⟨by have := h.s; omega, by have := h.c; omega, by have := h.t; omega⟩
structure Wrd (b : Book) : Prop extends Names b where
  c : ∀ c, c ∈ b.cpys → c.svc.size < 4611686018427387904 ∧ c.berth.size < 4611686018427387904
theorem s_l23Least_ex (b : Book) (hb : Fit b) : ∃ s : Str, s_l23Least b.e = some [.s s] ∧ (s = bs #[] ∨ ∃ t, t ∈ b.brts ∧ s = t.name) := by
  have ht := hb.t
  have hc := hb.c
  have inner : ∀ (best : Str) (least : Int) (i : Nat) (hi : i < b.brts.length), ∃ o, lim (fun xs => s_l23Least.d1 (xs.getD 0 .nil) (xs.getD 1 .nil) (xs.getD 2 .nil) (xs.getD 3 .nil) (xs.getD 4 .nil) (xs.getD 5 .nil) (xs.getD 6 .nil) (xs.getD 7 .nil) (xs.getD 8 .nil)) (.s best :: .i least :: .i (i : Nat) :: .i 0 :: .i 0 :: b.e) = some o ∧
      ∃ n : Int, o = .brk 2 (.s best :: .i least :: .i (i : Nat) :: .i n :: b.e) := by
    intro best least i hi
    refine lim_exs (fun a : Int × Nat => .s best :: .i least :: .i (i : Nat) :: .i a.1 :: .i (a.2 : Nat) :: b.e) (fun a => b.cpys.length - a.2) (fun a => a.2 ≤ b.cpys.length) _ (0, 0) (Nat.zero_le _) ?_
    rintro ⟨n, k⟩ hk
    simp only at hk
    have q1 : (i : Int) < (b.brts.length : Int) := by omega
    have w1 : w64 ((k : Int) + 1) = (k : Int) + 1 := w64_of (by omega) (by omega)
    by_cases hlt : k < b.cpys.length
    · left
      cases he : (b.cpys[k].berth.toList == b.brts[i].name.toList)
      · exact ⟨(n, k + 1), by simp [s_l23Least.d1, Book.e, getD_map_lt Cpy.e hlt, getD_map_lt Brt.e hi, Cpy.e, Brt.e, hlt, hi, he, w1], Nat.succ_le_of_lt hlt, by simp only; omega⟩
      · exact ⟨(w64 (n + 1), k + 1), by simp [s_l23Least.d1, Book.e, getD_map_lt Cpy.e hlt, getD_map_lt Brt.e hi, Cpy.e, Brt.e, hlt, hi, he, w1], Nat.succ_le_of_lt hlt, by simp only; omega⟩
    · right
      have : k = b.cpys.length := by omega
      subst this
      exact ⟨.brk 2 (.s best :: .i least :: .i (i : Nat) :: .i n :: b.e), by simp [s_l23Least.d1, Book.e], trivial, n, rfl⟩
  have outer : ∃ o, lim (fun xs => s_l23Least.d4 (xs.getD 0 .nil) (xs.getD 1 .nil) (xs.getD 2 .nil) (xs.getD 3 .nil) (xs.getD 4 .nil) (xs.getD 5 .nil) (xs.getD 6 .nil)) (.s (bs #[]) :: .i 0 :: .i 0 :: b.e) = some o ∧
      ∃ s : Str, o = .brk 0 [.s s] ∧ (s = bs #[] ∨ ∃ t, t ∈ b.brts ∧ s = t.name) := by
    refine lim_exs (fun a : Str × Int × Nat => .s a.1 :: .i a.2.1 :: .i (a.2.2 : Nat) :: b.e) (fun a => b.brts.length - a.2.2) (fun a => a.2.2 ≤ b.brts.length ∧ (a.1 = bs #[] ∨ ∃ t, t ∈ b.brts ∧ a.1 = t.name)) _ (bs #[], 0, 0) ⟨Nat.zero_le _, .inl rfl⟩ ?_
    rintro ⟨best, least, i⟩ ⟨hi, hbest⟩
    simp only at hi hbest
    have w1 : w64 ((i : Int) + 1) = (i : Int) + 1 := w64_of (by omega) (by omega)
    by_cases hlt : i < b.brts.length
    · left
      obtain ⟨o, h1, n, rfl⟩ := inner best least i hlt
      simp only [Book.e] at h1
      have step : ∃ best' least', s_l23Least.d4 (.s best) (.i least) (.i (i : Nat)) (.i b.now) (.l (b.svcs.map Svc.e)) (.l (b.cpys.map Cpy.e)) (.l (b.brts.map Brt.e)) = some (.again (.s best' :: .i least' :: .i ((i + 1 : Nat) : Int) :: b.e)) ∧ (best' = bs #[] ∨ ∃ t, t ∈ b.brts ∧ best' = t.name) := by
        have hd : decide ((i : Int) < (b.brts.length : Int)) = true := by simp [hlt]
        have keep : ∀ v : Bool, ∃ best' least', s_l23Least.d2 (.s best) (.i least) (.i (i : Nat)) (.i n) (.b v) (.i b.now) (.l (b.svcs.map Svc.e)) (.l (b.cpys.map Cpy.e)) (.l (b.brts.map Brt.e)) = some (.again (.s best' :: .i least' :: .i ((i + 1 : Nat) : Int) :: b.e)) ∧ (best' = bs #[] ∨ ∃ t, t ∈ b.brts ∧ best' = t.name) := by
          intro v
          cases v with
          | true => exact ⟨b.brts[i].name, n, by simp [s_l23Least.d2, getD_map_lt Brt.e hlt, Brt.e, hlt, w1, Book.e], .inr ⟨_, List.getElem_mem hlt, rfl⟩⟩
          | false => exact ⟨best, least, by simp [s_l23Least.d2, w1, Book.e], hbest⟩
        simp only [s_l23Least.d4, C.I_i, C.L_l, jW, hd, jR]
        rw [h1]
        simp only [bindBlk_self, jC, jD, s_l23Least.d3, C.I_i, C.L_l, jW, jY, getD_map_lt Brt.e hlt, Brt.e, C.B_b, C.S_s, hd, jX, decide_true, jR]
        cases !b.brts[i].drain <;> simp only [jR, jS, jJ, jC, jD]
        · exact keep _
        · cases !(best.toList == (bs #[]).toList) <;> simp only [jR, jS, jJ, jC, jD]
          · exact keep _
          · exact keep _
      obtain ⟨best', least', h2, h3⟩ := step
      exact ⟨(best', least', i + 1), h2, ⟨Nat.succ_le_of_lt hlt, h3⟩, by simp only; omega⟩
    · right
      have : i = b.brts.length := by omega
      subst this
      exact ⟨.brk 0 [.s best], by simp [s_l23Least.d4, Book.e], trivial, best, rfl, hbest⟩
  obtain ⟨o, h1, s, rfl, h2⟩ := outer
  simp only [Book.e] at h1
  refine ⟨s, ?_, h2⟩
  simp only [s_l23Least, s_l23Least.d6, Book.e, jC, jD]
  rw [h1]
  rfl
end Go.Ev
namespace Go.Ev
def Wc (c : Cpy) : Prop := c.svc.size < 4611686018427387904 ∧ c.berth.size < 4611686018427387904
theorem set_cpy (cs : List Cpy) (i : Nat) (c : Cpy) : (cs.map Cpy.e).set i c.e = (cs.set i c).map Cpy.e := List.map_set.symm
theorem setCs_state (c : Cpy) (n : Int) : setCs c.e 4 [.i n] = ({ c with state := n } : Cpy).e := rfl
theorem setCs_ver (c : Cpy) (n : Int) : setCs c.e 2 [.i n] = ({ c with ver := n } : Cpy).e := rfl
theorem setCs_berth (c : Cpy) (s : Str) : setCs c.e 6 [.s s] = ({ c with berth := s } : Cpy).e := rfl
theorem setCs_ending (c : Cpy) (v : Bool) : setCs c.e 5 [.b v] = ({ c with ending := v } : Cpy).e := rfl
theorem size_empty : (bs #[]).size = 0 := rfl
theorem s_l23Tick_ex (b : Book) (v : Int) (hb : Fit b) (hw : Wrd b) : ∃ cs : List Cpy, s_l23Tick (b.e ++ [.i v]) = some [.i b.now, .l (b.svcs.map Svc.e), .l (b.brts.map Brt.e), .l (cs.map Cpy.e)] ∧ cs.length ≤ b.cpys.length ∧ ∀ c, c ∈ cs → Wc c := by
  have hc := hb.c
  have L1 : ∃ o, lim (fun xs => s_l23Tick.d2 (xs.getD 0 .nil) (xs.getD 1 .nil) (xs.getD 2 .nil) (xs.getD 3 .nil) (xs.getD 4 .nil) (xs.getD 5 .nil) (xs.getD 6 .nil) (xs.getD 7 .nil) (xs.getD 8 .nil) (xs.getD 9 .nil) (xs.getD 10 .nil)) (.i v :: .i 0 :: b.e ++ [.i 0, .l [], .l [], .l [], .l []]) = some o ∧
      ∃ cs : List Cpy, o = .brk 0 (.i v :: b.e ++ [.i 0, .l (cs.map Cpy.e), .l [], .l [], .l []]) ∧ cs.length ≤ b.cpys.length ∧ ∀ c, c ∈ cs → Wc c := by
    refine lim_exs (fun a : List Cpy × Nat => .i v :: .i (a.2 : Nat) :: b.e ++ [.i 0, .l (a.1.map Cpy.e), .l [], .l [], .l []]) (fun a => b.cpys.length - a.2) (fun a => a.2 ≤ b.cpys.length ∧ a.1.length ≤ a.2 ∧ ∀ c, c ∈ a.1 → Wc c) _ ([], 0) ⟨Nat.zero_le _, Nat.zero_le _, by simp⟩ ?_
    rintro ⟨cs, i⟩ ⟨hi, hcs, hcw⟩
    simp only at hi hcs hcw
    have w1 : w64 ((i : Int) + 1) = (i : Int) + 1 := w64_of (by omega) (by omega)
    by_cases hlt : i < b.cpys.length
    · left
      have hwi := hw.c _ (List.getElem_mem hlt)
      have q1 : cs.length + 1 ≤ 4294967296 := by omega
      cases he : b.cpys[i].ending
      · by_cases hs : b.cpys[i].state = 2
        · refine ⟨(cs ++ [{ b.cpys[i] with state := 3, ver := v }], i + 1), ?_, ⟨Nat.succ_le_of_lt hlt, by simpa using hcs, fun c hc => ?_⟩, by simp only; omega⟩
          · simp [s_l23Tick.d2, s_l23Tick.d1, Book.e, getD_map_lt Cpy.e hlt, Cpy.e, hlt, he, hs, w1, q1]
          · rcases List.mem_append.1 hc with h | h
            · exact hcw c h
            · simp at h; subst h; exact hwi
        · refine ⟨(cs ++ [b.cpys[i]], i + 1), ?_, ⟨Nat.succ_le_of_lt hlt, by simpa using hcs, fun c hc => ?_⟩, by simp only; omega⟩
          · have hs' : (b.cpys[i].state == 2) = false := by simp [hs]
            simp [s_l23Tick.d2, s_l23Tick.d1, Book.e, getD_map_lt Cpy.e hlt, Cpy.e, hlt, he, hs', w1, q1]
          · rcases List.mem_append.1 hc with h | h
            · exact hcw c h
            · simp at h; subst h; exact hwi
      · exact ⟨(cs, i + 1), by simp [s_l23Tick.d2, s_l23Tick.d1, Book.e, getD_map_lt Cpy.e hlt, Cpy.e, hlt, he, w1], ⟨Nat.succ_le_of_lt hlt, by simp only; omega, hcw⟩, by simp only; omega⟩
    · right
      have : i = b.cpys.length := by omega
      subst this
      exact ⟨.brk 0 (.i v :: b.e ++ [.i 0, .l (cs.map Cpy.e), .l [], .l [], .l []]), by simp [s_l23Tick.d2, Book.e], trivial, cs, rfl, hcs, hcw⟩
  obtain ⟨o1, h1, cs, rfl, hcs, hcw⟩ := L1
  have L2 : ∃ o, lim (fun xs => s_l23Tick.d4 (xs.getD 0 .nil) (xs.getD 1 .nil) (xs.getD 2 .nil) (xs.getD 3 .nil) (xs.getD 4 .nil) (xs.getD 5 .nil) (xs.getD 6 .nil) (xs.getD 7 .nil) (xs.getD 8 .nil) (xs.getD 9 .nil)) [.i v, .i 0, .i b.now, .l (b.svcs.map Svc.e), .l (b.brts.map Brt.e), .i 0, .l (cs.map Cpy.e), .l [], .l [], .l []] = some o ∧
      ∃ ds : List Cpy, o = .brk 2 [.i b.now, .l (b.svcs.map Svc.e), .l (b.brts.map Brt.e), .i 0, .l (ds.map Cpy.e), .l [], .l [], .l []] ∧ ds.length ≤ b.cpys.length ∧ ∀ c, c ∈ ds → Wc c := by
    refine lim_exs (fun a : List Cpy × Nat => [.i v, .i (a.2 : Nat), .i b.now, .l (b.svcs.map Svc.e), .l (b.brts.map Brt.e), .i 0, .l (a.1.map Cpy.e), .l [], .l [], .l []]) (fun a => b.cpys.length - a.2) (fun a => a.2 ≤ a.1.length ∧ a.1.length ≤ b.cpys.length ∧ ∀ c, c ∈ a.1 → Wc c) _ (cs, 0) ⟨Nat.zero_le _, hcs, hcw⟩ ?_
    rintro ⟨ds, i⟩ ⟨hi, hds, hdw⟩
    simp only at hi hds hdw
    have w1 : w64 ((i : Int) + 1) = (i : Int) + 1 := w64_of (by omega) (by omega)
    by_cases hlt : i < ds.length
    · left
      obtain ⟨s, hs, hsw⟩ := s_l23Least_ex ⟨b.now, b.svcs, ds, b.brts⟩ ⟨hb.s, by simp only; omega, hb.t⟩
      have hsz : s.size < 4611686018427387904 := by
        rcases hsw with rfl | ⟨t, ht, rfl⟩
        · rw [size_empty]; omega
        · exact hw.t t ht
      simp only [Book.e] at hs
      have hwi := hdw _ (List.getElem_mem hlt)
      have go : ∀ u : Bool, ∃ es : List Cpy, s_l23Tick.d3 (.i v) (.i (i : Nat)) (.s s) (.b u) (.i b.now) (.l (b.svcs.map Svc.e)) (.l (b.brts.map Brt.e)) (.i 0) (.l (ds.map Cpy.e)) (.l []) (.l []) (.l []) = some (.again [.i v, .i ((i + 1 : Nat) : Int), .i b.now, .l (b.svcs.map Svc.e), .l (b.brts.map Brt.e), .i 0, .l (es.map Cpy.e), .l [], .l [], .l []]) ∧ es.length = ds.length ∧ ∀ c, c ∈ es → Wc c := by
        intro u
        cases u with
        | false => exact ⟨ds, by simp [s_l23Tick.d3, w1], rfl, hdw⟩
        | true =>
          refine ⟨ds.set i { ds[i] with state := 2, berth := s, ver := v }, ?_, by simp, fun c hc => ?_⟩
          · have g : (ds.map Cpy.e).getD i [] = ds[i].e := getD_map_lt Cpy.e hlt []
            simp only [s_l23Tick.d3, C.B_b, jR, C.I_i, C.L_l, jY, g, setCs_state, set_cpy, jW, List.length_set]
            have g2 : ((ds.set i { ds[i] with state := 2 }).map Cpy.e).getD i [] = ({ ds[i] with state := 2 } : Cpy).e := by
              rw [getD_map_lt Cpy.e (by simpa using hlt)]; simp
            simp only [g2, setCs_berth, set_cpy, jW, List.length_set, List.set_set]
            have g3 : ((ds.set i { ds[i] with state := 2, berth := s }).map Cpy.e).getD i [] = ({ ds[i] with state := 2, berth := s } : Cpy).e := by
              rw [getD_map_lt Cpy.e (by simpa using hlt)]; simp
            simp only [g3, setCs_ver, set_cpy, List.set_set]
            simp [hlt, w1]
          · rcases List.mem_or_eq_of_mem_set hc with h | rfl
            · exact hdw c h
            · exact ⟨hwi.1, hsz⟩
      have q : decide ((i : Int) < (ds.length : Int)) = true := by simp [hlt]
      have fin : ∃ es : List Cpy, s_l23Tick.d4 (.i v) (.i (i : Nat)) (.i b.now) (.l (b.svcs.map Svc.e)) (.l (b.brts.map Brt.e)) (.i 0) (.l (ds.map Cpy.e)) (.l []) (.l []) (.l []) = some (.again [.i v, .i ((i + 1 : Nat) : Int), .i b.now, .l (b.svcs.map Svc.e), .l (b.brts.map Brt.e), .i 0, .l (es.map Cpy.e), .l [], .l [], .l []]) ∧ es.length = ds.length ∧ ∀ c, c ∈ es → Wc c := by
        simp only [s_l23Tick.d4, C.I_i, C.L_l, jW, q, jR, hs, call1, jI, jC, jX, decide_true, jY, getD_map_lt Cpy.e hlt]
        cases (ds[i].e.getD 4 .nil).I == 1 <;> simp only [jR, jS, jJ, jC, jD]
        · exact go _
        · exact go _
      obtain ⟨es, e1, e2, e3⟩ := fin
      exact ⟨(es, i + 1), e1, ⟨by simp only; omega, by simp only; omega, e3⟩, by simp only; omega⟩
    · right
      have : i = ds.length := by omega
      subst this
      exact ⟨.brk 2 [.i b.now, .l (b.svcs.map Svc.e), .l (b.brts.map Brt.e), .i 0, .l (ds.map Cpy.e), .l [], .l [], .l []], by simp [s_l23Tick.d4], trivial, ds, rfl, hds, hdw⟩
  obtain ⟨o2, h2, ds, rfl, hds, hdw⟩ := L2
  refine ⟨ds, ?_, hds, hdw⟩
  simp only [Book.e, jA, jB] at h1
  simp only [s_l23Tick, s_l23Tick.d7, Book.e, jA, jB, jC, jD]
  erw [h1]
  simp only [bindBlk_self, jC, jD, s_l23Tick.d6, C.L_l]
  erw [h2]
  rfl
end Go.Ev
namespace Go.Ev
theorem take_all {α : Type} (l : List α) (n : Nat) (h : l.length ≤ n) : l.take n = l := List.take_of_length_le h
theorem s_l23Wish_ex (b : Book) (w : Svc) (v : Int) (hb : Fit b) (hs : b.svcs.length ≤ 1000) : ∃ ss : List Svc, s_l23Wish (b.e ++ w.e ++ [.i v]) = some [.i b.now, .l (b.cpys.map Cpy.e), .l (b.brts.map Brt.e), .l (ss.map Svc.e)] ∧
    ss.length ≤ b.svcs.length + 1 ∧ ∀ s, s ∈ ss → s.name = w.name ∨ s ∈ b.svcs := by
  have L1 : ∃ o, lim (fun xs => s_l23Wish.d1 (xs.getD 0 .nil) (xs.getD 1 .nil) (xs.getD 2 .nil) (xs.getD 3 .nil) (xs.getD 4 .nil) (xs.getD 5 .nil) (xs.getD 6 .nil) (xs.getD 7 .nil) (xs.getD 8 .nil) (xs.getD 9 .nil) (xs.getD 10 .nil) (xs.getD 11 .nil) (xs.getD 12 .nil) (xs.getD 13 .nil) (xs.getD 14 .nil) (xs.getD 15 .nil) (xs.getD 16 .nil) (xs.getD 17 .nil) (xs.getD 18 .nil) (xs.getD 19 .nil) (xs.getD 20 .nil) (xs.getD 21 .nil) (xs.getD 22 .nil))
      (.i v :: .i 0 :: (b.e ++ w.e ++ [.i 0, .l [], .l [], .l []])) = some o ∧ ∃ k : Nat, k ≤ b.svcs.length ∧ o = .brk 0 (.i v :: .i (k : Nat) :: (b.e ++ w.e ++ [.i 0, .l [], .l [], .l []])) := by
    refine lim_exs (fun k : Nat => .i v :: .i (k : Nat) :: (b.e ++ w.e ++ [.i 0, .l [], .l [], .l []])) (fun k => b.svcs.length - k) (fun k => k ≤ b.svcs.length) _ 0 (Nat.zero_le _) ?_
    intro k hk
    have w1 : w64 ((k : Int) + 1) = (k : Int) + 1 := w64_of (by omega) (by omega)
    by_cases hlt : k < b.svcs.length
    · cases hq : Op.bytesLess b.svcs[k].name.toList w.name.toList
      · right
        exact ⟨.brk 0 (.i v :: .i (k : Nat) :: (b.e ++ w.e ++ [.i 0, .l [], .l [], .l []])), by simp only [s_l23Wish.d1, Book.e, Svc.e, jA, jB, jC, jD, C.I_i, C.L_l, jW, jY, getD_map_lt Svc.e hlt, C.S_s, hq]; simp [hlt], trivial, k, hk, rfl⟩
      · left
        exact ⟨k + 1, by simp only [s_l23Wish.d1, Book.e, Svc.e, jA, jB, jC, jD, C.I_i, C.L_l, jW, jY, getD_map_lt Svc.e hlt, C.S_s, hq]; simp [hlt, w1], Nat.succ_le_of_lt hlt, by omega⟩
    · right
      have : k = b.svcs.length := by omega
      subst this
      exact ⟨.brk 0 (.i v :: .i (b.svcs.length : Nat) :: (b.e ++ w.e ++ [.i 0, .l [], .l [], .l []])), by simp only [s_l23Wish.d1, Book.e, Svc.e, jA, jB, jC, jD, C.I_i, C.L_l, jW, C.S_s]; simp, trivial, _, hk, rfl⟩
  obtain ⟨o, h1, k, hk, rfl⟩ := L1
  have ht : (b.svcs.map Svc.e).take b.svcs.length = b.svcs.map Svc.e := take_all _ _ (by simp)
  have hd : (b.svcs.map Svc.e).drop k = (b.svcs.drop k).map Svc.e := List.map_drop.symm
  have htk : (b.svcs.map Svc.e).take k = (b.svcs.take k).map Svc.e := List.map_take.symm
  have key2 : ∀ (w' : Svc) (rs : List Svc), rs.length ≤ b.svcs.length → s_l23Wish.d2 (.i (k : Nat)) (.l (rs.map Svc.e)) (.i b.now) (.l (b.svcs.map Svc.e)) (.l (b.cpys.map Cpy.e)) (.l (b.brts.map Brt.e)) (.s w'.name) (.i w'.ver) (.b w'.gone) (.i w'.image) (.i w'.want) (.i w'.down) (.i w'.over) (.i w'.next) (.i w'.per) (.i w'.least) (.i w'.most) (.i w'.load) (.i w'.cool) (.i 0) (.l []) (.l []) (.l [])
      = some (.ret [.i b.now, .l (b.cpys.map Cpy.e), .l (b.brts.map Brt.e), .l ((b.svcs.take k ++ [w'] ++ rs).map Svc.e)]) := by
    intro w' rs hrs
    have q1 : (k : Int) ≤ (b.svcs.length : Int) := by omega
    simp only [s_l23Wish.d2, C.I_i, C.L_l, jW, jY, htk, List.drop_zero, nils, jB, rows, jX, q1, decide_true, jR, List.length_nil, List.length_append, List.length_singleton, List.length_take]
    have a1 : 0 + min k b.svcs.length ≤ 4294967296 := by omega
    have a2 : min k b.svcs.length + 1 ≤ 4294967296 := by omega
    have a3 : min k b.svcs.length + 1 + rs.length ≤ 4294967296 := by omega
    simp only [a1, a2, a3, decide_true, jR, List.map_append, List.map_cons, List.map_nil, Svc.e]
  have fin : ∃ ss : List Svc, s_l23Wish.d3 (.i v) (.i (k : Nat)) (.i b.now) (.l (b.svcs.map Svc.e)) (.l (b.cpys.map Cpy.e)) (.l (b.brts.map Brt.e)) (.s w.name) (.i w.ver) (.b w.gone) (.i w.image) (.i w.want) (.i w.down) (.i w.over) (.i w.next) (.i w.per) (.i w.least) (.i w.most) (.i w.load) (.i w.cool) (.i 0) (.l []) (.l []) (.l [])
      = some (.ret [.i b.now, .l (b.cpys.map Cpy.e), .l (b.brts.map Brt.e), .l (ss.map Svc.e)]) ∧ ss.length ≤ b.svcs.length + 1 ∧ ∀ s, s ∈ ss → s.name = w.name ∨ s ∈ b.svcs := by
    have q1 : (k : Int) ≤ (b.svcs.length : Int) := by omega
    simp only [s_l23Wish.d3, C.I_i, C.L_l, jW, jY, jX, q1, Int.le_refl, decide_true, jR, ht, hd]
    have mem : ∀ (w' : Svc) (rs : List Svc), w'.name = w.name → (∀ s, s ∈ rs → s ∈ b.svcs) → ∀ s, s ∈ b.svcs.take k ++ [w'] ++ rs → s.name = w.name ∨ s ∈ b.svcs := by
      intro w' rs hw' hrs s hs
      rcases List.mem_append.1 hs with h | h
      · rcases List.mem_append.1 h with h | h
        · exact .inr (List.mem_of_mem_take h)
        · simp at h; subst h; exact .inl hw'
      · exact .inr (hrs s h)
    cases hr : b.svcs.drop k with
    | nil =>
      refine ⟨b.svcs.take k ++ [{ w with ver := v, next := 1, cool := 0 }] ++ [], ?_, by simp; omega, mem _ _ rfl (by simp)⟩
      have := key2 { w with ver := v, next := 1, cool := 0 } [] (by simp)
      simp only [List.map_nil] at this
      simpa using this
    | cons r rs =>
      have hlen : rs.length + 1 = b.svcs.length - k := by have := congrArg List.length hr; simp at this; omega
      have hmem : ∀ s, s ∈ r :: rs → s ∈ b.svcs := fun s hs => List.mem_of_mem_drop (by rw [hr]; exact hs)
      have p1 : (0 : Int) < (rs.length : Int) + 1 := by omega
      have p2 : (1 : Int) ≤ (rs.length : Int) + 1 := by omega
      have p3 : ((rs.length : Int) + 1).toNat = rs.length + 1 := by omega
      have p4 : (rs.map Svc.e).take rs.length = rs.map Svc.e := take_all _ _ (by simp)
      cases he : (r.name.toList == w.name.toList)
      · refine ⟨b.svcs.take k ++ [{ w with ver := v, next := 1, cool := 0 }] ++ (r :: rs), ?_, by simp; omega, mem _ _ rfl hmem⟩
        have := key2 { w with ver := v, next := 1, cool := 0 } (r :: rs) (by simp; omega)
        simp only [List.map_cons, List.length_cons, jW, jC, Int.natCast_add, Int.natCast_one, gt_iff_lt, p1, decide_true, jR, Svc.e, C.S_s, he, jS, jJ, jD] at this ⊢
        exact this
      · refine ⟨b.svcs.take k ++ [{ w with ver := v, next := r.next, cool := 0 }] ++ rs, ?_, by simp; omega, mem _ _ rfl (fun s hs => hmem s (List.mem_cons_of_mem _ hs))⟩
        have := key2 { w with ver := v, next := r.next, cool := 0 } rs (by omega)
        simp only [List.map_cons, List.length_cons, jW, jC, Int.natCast_add, Int.natCast_one, gt_iff_lt, p1, p2, decide_true, jR, Svc.e, C.S_s, he, jS, jJ, jD, Int.le_refl, decide_true, p3, List.take_succ_cons, List.drop_succ_cons, List.drop_zero, p4] at this ⊢
        exact this
  obtain ⟨ss, h2, h3, h4⟩ := fin
  refine ⟨ss, ?_, h3, h4⟩
  simp only [Book.e, Svc.e, jA, jB] at h1
  simp only [s_l23Wish, s_l23Wish.d4, Book.e, Svc.e, jA, jB, jC, jD]
  erw [h1]
  simp only [bindBlk_self, jC, jD]
  erw [h2]
  rfl
end Go.Ev
namespace Go.Ev
theorem s_l23Raise_ex (b : Book) (nm : Str) (fl : Bool) (hb : Fit b) (hs : b.brts.length ≤ 1000) : ∃ ss : List Brt, s_l23Raise (b.e ++ [.s nm, .b fl]) = some [.i b.now, .l (b.svcs.map Svc.e), .l (b.cpys.map Cpy.e), .l (ss.map Brt.e)] ∧
    ss.length ≤ b.brts.length + 1 ∧ ∀ s, s ∈ ss → s.name = nm ∨ s ∈ b.brts := by
  have L1 : ∃ o, lim (fun xs => s_l23Raise.d1 (xs.getD 0 .nil) (xs.getD 1 .nil) (xs.getD 2 .nil) (xs.getD 3 .nil) (xs.getD 4 .nil) (xs.getD 5 .nil) (xs.getD 6 .nil) (xs.getD 7 .nil) (xs.getD 8 .nil) (xs.getD 9 .nil) (xs.getD 10 .nil))
      (.s nm :: .b fl :: .i 0 :: (b.e ++ [.i 0, .l [], .l [], .l []])) = some o ∧ ∃ k : Nat, k ≤ b.brts.length ∧ o = .brk 0 (.s nm :: .b fl :: .i (k : Nat) :: (b.e ++ [.i 0, .l [], .l [], .l []])) := by
    refine lim_exs (fun k : Nat => .s nm :: .b fl :: .i (k : Nat) :: (b.e ++ [.i 0, .l [], .l [], .l []])) (fun k => b.brts.length - k) (fun k => k ≤ b.brts.length) _ 0 (Nat.zero_le _) ?_
    intro k hk
    have w1 : w64 ((k : Int) + 1) = (k : Int) + 1 := w64_of (by omega) (by omega)
    by_cases hlt : k < b.brts.length
    · cases hq : Op.bytesLess b.brts[k].name.toList nm.toList
      · right
        exact ⟨.brk 0 (.s nm :: .b fl :: .i (k : Nat) :: (b.e ++ [.i 0, .l [], .l [], .l []])), by simp only [s_l23Raise.d1, Book.e, Brt.e, jA, jB, jC, jD, C.I_i, C.L_l, jW, jY, getD_map_lt Brt.e hlt, C.S_s, hq]; simp [hlt], trivial, k, hk, rfl⟩
      · left
        exact ⟨k + 1, by simp only [s_l23Raise.d1, Book.e, Brt.e, jA, jB, jC, jD, C.I_i, C.L_l, jW, jY, getD_map_lt Brt.e hlt, C.S_s, hq]; simp [hlt, w1], Nat.succ_le_of_lt hlt, by omega⟩
    · right
      have : k = b.brts.length := by omega
      subst this
      exact ⟨.brk 0 (.s nm :: .b fl :: .i (b.brts.length : Nat) :: (b.e ++ [.i 0, .l [], .l [], .l []])), by simp only [s_l23Raise.d1, Book.e, Brt.e, jA, jB, jC, jD, C.I_i, C.L_l, jW, C.S_s]; simp, trivial, _, hk, rfl⟩
  obtain ⟨o, h1, k, hk, rfl⟩ := L1
  have ht : (b.brts.map Brt.e).take b.brts.length = b.brts.map Brt.e := take_all _ _ (by simp)
  have hd : (b.brts.map Brt.e).drop k = (b.brts.drop k).map Brt.e := List.map_drop.symm
  have htk : (b.brts.map Brt.e).take k = (b.brts.take k).map Brt.e := List.map_take.symm
  have key2 : ∀ (rs : List Brt), rs.length ≤ b.brts.length → s_l23Raise.d2 (.s nm) (.b fl) (.i (k : Nat)) (.l (rs.map Brt.e)) (.i b.now) (.l (b.svcs.map Svc.e)) (.l (b.cpys.map Cpy.e)) (.l (b.brts.map Brt.e)) (.i 0) (.l []) (.l []) (.l [])
      = some (.ret [.i b.now, .l (b.svcs.map Svc.e), .l (b.cpys.map Cpy.e), .l ((b.brts.take k ++ [(⟨nm, fl⟩ : Brt)] ++ rs).map Brt.e)]) := by
    intro rs hrs
    have q1 : (k : Int) ≤ (b.brts.length : Int) := by omega
    simp only [s_l23Raise.d2, C.I_i, C.L_l, C.B_b, jW, jY, htk, List.drop_zero, nils, jB, rows, jX, q1, decide_true, jR, List.length_nil, List.length_append, List.length_singleton, List.length_take]
    have a1 : 0 + min k b.brts.length ≤ 4294967296 := by omega
    have a2 : min k b.brts.length + 1 ≤ 4294967296 := by omega
    have a3 : min k b.brts.length + 1 + rs.length ≤ 4294967296 := by omega
    simp only [a1, a2, a3, decide_true, jR, List.map_append, List.map_cons, List.map_nil, Brt.e]
  have fin : ∃ ss : List Brt, s_l23Raise.d3 (.s nm) (.b fl) (.i (k : Nat)) (.i b.now) (.l (b.svcs.map Svc.e)) (.l (b.cpys.map Cpy.e)) (.l (b.brts.map Brt.e)) (.i 0) (.l []) (.l []) (.l [])
      = some (.ret [.i b.now, .l (b.svcs.map Svc.e), .l (b.cpys.map Cpy.e), .l (ss.map Brt.e)]) ∧ ss.length ≤ b.brts.length + 1 ∧ ∀ s, s ∈ ss → s.name = nm ∨ s ∈ b.brts := by
    have q1 : (k : Int) ≤ (b.brts.length : Int) := by omega
    simp only [s_l23Raise.d3, C.I_i, C.L_l, jW, jY, jX, q1, Int.le_refl, decide_true, jR, ht, hd]
    have mem : ∀ (rs : List Brt), (∀ s, s ∈ rs → s ∈ b.brts) → ∀ s, s ∈ b.brts.take k ++ [(⟨nm, fl⟩ : Brt)] ++ rs → s.name = nm ∨ s ∈ b.brts := by
      intro rs hrs s hs
      rcases List.mem_append.1 hs with h | h
      · rcases List.mem_append.1 h with h | h
        · exact .inr (List.mem_of_mem_take h)
        · simp at h; subst h; exact .inl rfl
      · exact .inr (hrs s h)
    cases hr : b.brts.drop k with
    | nil =>
      refine ⟨b.brts.take k ++ [(⟨nm, fl⟩ : Brt)] ++ [], ?_, by simp; omega, mem _ (by simp)⟩
      have := key2 [] (by simp)
      simp only [List.map_nil] at this
      simpa using this
    | cons r rs =>
      have hlen : rs.length + 1 = b.brts.length - k := by have := congrArg List.length hr; simp at this; omega
      have hmem : ∀ s, s ∈ r :: rs → s ∈ b.brts := fun s hs => List.mem_of_mem_drop (by rw [hr]; exact hs)
      have p1 : (0 : Int) < (rs.length : Int) + 1 := by omega
      have p2 : (1 : Int) ≤ (rs.length : Int) + 1 := by omega
      have p3 : ((rs.length : Int) + 1).toNat = rs.length + 1 := by omega
      have p4 : (rs.map Brt.e).take rs.length = rs.map Brt.e := take_all _ _ (by simp)
      cases he : (r.name.toList == nm.toList)
      · refine ⟨b.brts.take k ++ [(⟨nm, fl⟩ : Brt)] ++ (r :: rs), ?_, by simp; omega, mem _ hmem⟩
        have := key2 (r :: rs) (by simp; omega)
        simp only [List.map_cons, List.length_cons, jW, jC, Int.natCast_add, Int.natCast_one, gt_iff_lt, p1, decide_true, jR, Brt.e, C.S_s, he, jS, jJ, jD] at this ⊢
        exact this
      · refine ⟨b.brts.take k ++ [(⟨nm, fl⟩ : Brt)] ++ rs, ?_, by simp; omega, mem _ (fun s hs => hmem s (List.mem_cons_of_mem _ hs))⟩
        have := key2 rs (by omega)
        simp only [List.map_cons, List.length_cons, jW, jC, Int.natCast_add, Int.natCast_one, gt_iff_lt, p1, p2, decide_true, jR, Brt.e, C.S_s, he, jS, jJ, jD, Int.le_refl, p3, List.take_succ_cons, List.drop_succ_cons, List.drop_zero, p4] at this ⊢
        exact this
  obtain ⟨ss, h2, h3, h4⟩ := fin
  refine ⟨ss, ?_, h3, h4⟩
  simp only [Book.e, jA, jB] at h1
  simp only [s_l23Raise, s_l23Raise.d4, Book.e, jA, jB, jC, jD]
  erw [h1]
  simp only [bindBlk_self, jC, jD]
  erw [h2]
  rfl
structure Ev1 where
  kind : Int
  w : Svc
  name : Str
  number : Int
  flag : Bool
def Ev1.e (v : Ev1) : List C := .i v.kind :: (v.w.e ++ [.s v.name, .i v.number, .b v.flag])
structure Evw (v : Ev1) : Prop where
  w : v.w.name.size < 4611686018427387904
  n : v.name.size < 4611686018427387904
theorem set_svc (cs : List Svc) (i : Nat) (c : Svc) : (cs.map Svc.e).set i c.e = (cs.set i c).map Svc.e := List.map_set.symm
theorem setS_load (c : Svc) (n : Int) : setCs c.e 11 [.i n] = ({ c with load := n } : Svc).e := rfl
theorem setS_ver (c : Svc) (n : Int) : setCs c.e 1 [.i n] = ({ c with ver := n } : Svc).e := rfl
structure Grw (b b' : Book) : Prop where
  s : b'.svcs.length ≤ b.svcs.length + 1
  c : b'.cpys.length ≤ b.cpys.length
  t : b'.brts.length ≤ b.brts.length + 1
  w : Wrd b'
def Book.r5 (b : Book) (code : Int) : List C := [.i b.now, .l (b.svcs.map Svc.e), .l (b.cpys.map Cpy.e), .l (b.brts.map Brt.e), .i code]
end Go.Ev
namespace Go.Ev
theorem ix_cases {α : Type} (p : α → Bool) (l : List α) : findIx p l 0 = -1 ∨ ∃ i : Nat, ∃ h : i < l.length, findIx p l 0 = (i : Int) ∧ p l[i] = true := by
  rcases findIx_spec p l 0 with ⟨_, h⟩ | ⟨i, h, h1, _, h2⟩
  · exact .inl h
  · exact .inr ⟨i, h, by simpa using h1, h2⟩
theorem s_l23Sea_ex (b : Book) (v : Ev1) (hb : Fit b) (hs : b.svcs.length ≤ 1000) (ht : b.brts.length ≤ 1000) (hw : Wrd b) (hv : Evw v) :
    ∃ (b' : Book) (code : Int), s_l23Sea (.i b.now :: (v.e ++ [.l (b.svcs.map Svc.e), .l (b.cpys.map Cpy.e), .l (b.brts.map Brt.e)])) = some (b'.r5 code) ∧ Grw b b' := by
  have same : Grw b b := ⟨by omega, by omega, by omega, hw⟩
  have hbc := hb.c
  simp only [s_l23Sea, Ev1.e, Svc.e, jA, jB, jC, jD, s_l23Sea.d4, C.I_i, C.L_l]
  cases k1 : v.kind == 1
  rotate_left
  · obtain ⟨cs, h1, h2, h3⟩ := s_l23Tick_ex b (w64 (b.now + 1)) hb hw
    simp only [Book.e, jA, jB] at h1
    refine ⟨⟨w64 (b.now + 1), b.svcs, cs, b.brts⟩, 0, ?_, ⟨by simp, h2, by simp, ⟨⟨hw.s, hw.t⟩, h3⟩⟩⟩
    simp [h1, call4, Book.r5]
  simp only [jS]
  cases k2 : v.kind == 2
  rotate_left
  · obtain ⟨ss, h1, h2, h3⟩ := s_l23Wish_ex b v.w (w64 (b.now + 1)) hb hs
    simp only [Book.e, Svc.e, jA, jB] at h1
    refine ⟨⟨w64 (b.now + 1), ss, b.cpys, b.brts⟩, 0, ?_, ⟨h2, by simp, by simp, ⟨⟨fun s hs => ?_, hw.t⟩, hw.c⟩⟩⟩
    · simp [h1, call4, Book.r5]
    · rcases h3 s hs with e | h
      · rw [e]; exact hv.w
      · exact hw.s s h
  simp only [jS]
  cases k3 : v.kind == 3
  rotate_left
  · have e1 := s_l18Copy_eq b v.name v.number hb.small.c
    simp only [Book.e, jA, jB] at e1
    simp only [jR, e1, call1, jI, jC, C.I_i, C.L_l, jW, cpyIx]
    rcases ix_cases (fun c : Cpy => sEq c.svc v.name && c.num == v.number) b.cpys with h | ⟨i, h, h1, _⟩
    · exact ⟨b, 3, by simp [h, Book.r5], same⟩
    · have q1 : (i : Int) < (b.cpys.length : Int) := by omega
      have q2 : ¬ (i : Int) < 0 := by omega
      have g : (b.cpys.map Cpy.e).getD i [] = b.cpys[i].e := getD_map_lt Cpy.e h []
      have fin : ∃ b' : Book, s_l23Sea.d1 (.i (w64 (b.now + 1))) (.i (i : Nat)) (.i b.now) (.i 0) (.l (b.svcs.map Svc.e)) (.l (b.cpys.map Cpy.e)) (.l (b.brts.map Brt.e)) (.l []) (.l []) (.l []) = some (.ret (b'.r5 0)) ∧ Grw b b' := by
        refine ⟨⟨w64 (b.now + 1), b.svcs, b.cpys.set i { b.cpys[i] with state := 4, ver := w64 (b.now + 1) }, b.brts⟩, ?_, ⟨by simp, by simp, by simp, ⟨⟨hw.s, hw.t⟩, fun c hc => ?_⟩⟩⟩
        · simp only [s_l23Sea.d1, C.I_i, C.L_l, jY, g, setCs_state, set_cpy, jW, List.length_set]
          have g2 : ((b.cpys.set i { b.cpys[i] with state := 4 }).map Cpy.e).getD i [] = ({ b.cpys[i] with state := 4 } : Cpy).e := by
            rw [getD_map_lt Cpy.e (by simpa using h)]; simp
          simp only [g2, setCs_ver, set_cpy, List.set_set, q1, jX, decide_true, jR, Book.r5]
        · rcases List.mem_or_eq_of_mem_set hc with h' | rfl
          · exact hw.c c h'
          · exact hw.c b.cpys[i] (List.getElem_mem h)
      obtain ⟨b', f1, f2⟩ := fin
      simp only [h1, q1, q2, decide_true, decide_false, ja, jR, jX, jY, g, nils]
      cases (b.cpys[i].e.getD 4 .nil).I != 3
      · exact ⟨b', 0, by simp only [jS, jJ, jC, jD, f1, jV], f2⟩
      · cases (b.cpys[i].e.getD 4 .nil).I != 2
        · exact ⟨b', 0, by simp only [jR, jS, jJ, jC, jD, f1, jV], f2⟩
        · exact ⟨b, 3, by simp [Book.r5], same⟩
  simp only [jS]
  cases k4 : v.kind == 4
  rotate_left
  · have e1 := s_l18Berth_eq b v.name hb.small.t
    simp only [Book.e, jA, jB] at e1
    simp only [jR, e1, call1, jI, jC, C.I_i, C.L_l, jW, brtIx]
    rcases ix_cases (fun c : Brt => sEq c.name v.name) b.brts with h | ⟨i, h, h1, _⟩
    · exact ⟨b, 3, by simp [h, Book.r5], same⟩
    · have q1 : (i : Int) < (b.brts.length : Int) := by omega
      have q2 : ¬ (i : Int) < 0 := by omega
      have q3 : (i : Int) ≤ (b.brts.length : Int) := by omega
      have w1 : w64 ((i : Int) + 1) = ((i + 1 : Nat) : Int) := by rw [w64_of (by omega) (by omega)]; rfl
      have q4 : ((i + 1 : Nat) : Int) ≤ (b.brts.length : Int) := by omega
      have tk : (b.brts.map Brt.e).take i = (b.brts.take i).map Brt.e := List.map_take.symm
      have ta : (b.brts.map Brt.e).take b.brts.length = b.brts.map Brt.e := take_all _ _ (by simp)
      have dr : (b.brts.map Brt.e).drop (i + 1) = (b.brts.drop (i + 1)).map Brt.e := List.map_drop.symm
      have L2 : ∃ o, lim (fun xs => s_l23Sea.d2 (xs.getD 0 .nil) (xs.getD 1 .nil) (xs.getD 2 .nil) (xs.getD 3 .nil) (xs.getD 4 .nil) (xs.getD 5 .nil) (xs.getD 6 .nil) (xs.getD 7 .nil) (xs.getD 8 .nil) (xs.getD 9 .nil) (xs.getD 10 .nil) (xs.getD 11 .nil) (xs.getD 12 .nil) (xs.getD 13 .nil) (xs.getD 14 .nil) (xs.getD 15 .nil) (xs.getD 16 .nil) (xs.getD 17 .nil) (xs.getD 18 .nil) (xs.getD 19 .nil) (xs.getD 20 .nil) (xs.getD 21 .nil) (xs.getD 22 .nil) (xs.getD 23 .nil) (xs.getD 24 .nil) (xs.getD 25 .nil) (xs.getD 26 .nil) (xs.getD 27 .nil))
          [.i (w64 (b.now + 1)), .i 0, .i b.now, .i v.kind, .s v.w.name, .i v.w.ver, .b v.w.gone, .i v.w.image, .i v.w.want, .i v.w.down, .i v.w.over, .i v.w.next, .i v.w.per, .i v.w.least, .i v.w.most, .i v.w.load, .i v.w.cool, .s v.name, .i v.number, .b v.flag, .i 0, .l [], .l (b.svcs.map Svc.e), .l (b.cpys.map Cpy.e), .l ((b.brts.take i).map Brt.e ++ (b.brts.drop (i + 1)).map Brt.e), .l [], .l [], .l []] = some o ∧
          ∃ cs : List Cpy, o = .brk 1 [.i (w64 (b.now + 1)), .i b.now, .i 0, .l (cs.map Cpy.e), .l (b.svcs.map Svc.e), .l (b.cpys.map Cpy.e), .l ((b.brts.take i).map Brt.e ++ (b.brts.drop (i + 1)).map Brt.e), .l [], .l [], .l []] ∧ cs.length ≤ b.cpys.length ∧ ∀ c, c ∈ cs → Wc c := by
        refine lim_exs (fun a : List Cpy × Nat => [.i (w64 (b.now + 1)), .i (a.2 : Nat), .i b.now, .i v.kind, .s v.w.name, .i v.w.ver, .b v.w.gone, .i v.w.image, .i v.w.want, .i v.w.down, .i v.w.over, .i v.w.next, .i v.w.per, .i v.w.least, .i v.w.most, .i v.w.load, .i v.w.cool, .s v.name, .i v.number, .b v.flag, .i 0, .l (a.1.map Cpy.e), .l (b.svcs.map Svc.e), .l (b.cpys.map Cpy.e), .l ((b.brts.take i).map Brt.e ++ (b.brts.drop (i + 1)).map Brt.e), .l [], .l [], .l []])
          (fun a => b.cpys.length - a.2) (fun a => a.2 ≤ b.cpys.length ∧ a.1.length ≤ a.2 ∧ ∀ c, c ∈ a.1 → Wc c) _ ([], 0) ⟨Nat.zero_le _, Nat.zero_le _, by simp⟩ ?_
        rintro ⟨cs, j⟩ ⟨hj, hcs, hcw⟩
        simp only at hj hcs hcw
        have w1 : w64 ((j : Int) + 1) = (j : Int) + 1 := w64_of (by omega) (by omega)
        by_cases hlt : j < b.cpys.length
        · left
          have hwi := hw.c _ (List.getElem_mem hlt)
          have p1 : cs.length + 1 ≤ 4294967296 := by omega
          have p2 : (j : Int) < (b.cpys.length : Int) := by omega
          have g : (b.cpys.map Cpy.e).getD j [] = b.cpys[j].e := getD_map_lt Cpy.e hlt []
          cases he : (b.cpys[j].berth.toList == v.name.toList)
          · refine ⟨(cs ++ [b.cpys[j]], j + 1), ?_, ⟨Nat.succ_le_of_lt hlt, by simpa using hcs, fun c hc => ?_⟩, by simp only; omega⟩
            · simp [s_l23Sea.d2, g, Cpy.e, he, w1, p1, hlt]
            · rcases List.mem_append.1 hc with h | h
              · exact hcw c h
              · simp at h; subst h; exact hwi
          · exact ⟨(cs, j + 1), by simp [s_l23Sea.d2, g, Cpy.e, he, w1, hlt], ⟨Nat.succ_le_of_lt hlt, by simp only; omega, hcw⟩, by simp only; omega⟩
        · right
          have : j = b.cpys.length := by omega
          subst this
          exact ⟨.brk 1 [.i (w64 (b.now + 1)), .i b.now, .i 0, .l (cs.map Cpy.e), .l (b.svcs.map Svc.e), .l (b.cpys.map Cpy.e), .l ((b.brts.take i).map Brt.e ++ (b.brts.drop (i + 1)).map Brt.e), .l [], .l [], .l []], by simp [s_l23Sea.d2], trivial, cs, rfl, hcs, hcw⟩
      obtain ⟨o, h2, cs, rfl, hcs, hcw⟩ := L2
      refine ⟨⟨w64 (b.now + 1), b.svcs, cs, b.brts.take i ++ b.brts.drop (i + 1)⟩, 0, ?_, ⟨by simp, hcs, by simp; omega, ⟨⟨hw.s, fun s hs => ?_⟩, hcw⟩⟩⟩
      · have a1 : 0 + min i b.brts.length ≤ 4294967296 := by omega
        have a2 : min i b.brts.length + (b.brts.length - (i + 1)) ≤ 4294967296 := by omega
        simp only [h1, q2, q3, q4, w1, decide_true, decide_false, jR, jS, jX, jY, nils, List.length_nil, jB, List.drop_zero, tk, ta, dr, jW, List.length_take, List.length_drop, a1, a2, Int.le_refl]
        erw [h2]
        simp [s_l23Sea.d3, Book.r5]
      · rcases List.mem_append.1 hs with h' | h'
        · exact hw.t s (List.mem_of_mem_take h')
        · exact hw.t s (List.mem_of_mem_drop h')
  simp only [jS]
  cases k5 : v.kind == 5
  rotate_left
  · obtain ⟨ss, h1, h2, h3⟩ := s_l23Raise_ex b v.name v.flag hb ht
    simp only [Book.e, jA, jB] at h1
    refine ⟨⟨w64 (b.now + 1), b.svcs, b.cpys, ss⟩, 0, ?_, ⟨by simp, by simp, h2, ⟨⟨hw.s, fun s hs => ?_⟩, hw.c⟩⟩⟩
    · simp [h1, call4, Book.r5]
    · rcases h3 s hs with e | h
      · rw [e]; exact hv.n
      · exact hw.t s h
  simp only [jS]
  cases k6 : v.kind == 6
  rotate_left
  · have e1 := s_l18Service_eq b v.name hb.small.s
    simp only [Book.e, jA, jB] at e1
    simp only [jR, e1, call1, jI, jC, C.I_i, C.L_l, jW, svcIx]
    rcases ix_cases (fun c : Svc => sEq c.name v.name) b.svcs with h | ⟨i, h, h1, _⟩
    · exact ⟨b, 3, by simp [h, Book.r5], same⟩
    · have q1 : (i : Int) < (b.svcs.length : Int) := by omega
      have q2 : ¬ (i : Int) < 0 := by omega
      have g : (b.svcs.map Svc.e).getD i [] = b.svcs[i].e := getD_map_lt Svc.e h []
      simp only [h1, q1, q2, decide_true, decide_false, ja, jR, jX, jY, g, setS_load, set_svc, jW, List.length_set]
      have g2 : ((b.svcs.set i { b.svcs[i] with load := v.number }).map Svc.e).getD i [] = ({ b.svcs[i] with load := v.number } : Svc).e := by
        rw [getD_map_lt Svc.e (by simpa using h)]; simp
      cases (b.svcs[i].e.getD 8 .nil).I == 0
      · refine ⟨⟨w64 (b.now + 1), b.svcs.set i { b.svcs[i] with load := v.number, ver := w64 (b.now + 1) }, b.cpys, b.brts⟩, 0, ?_, ⟨by simp, by simp, by simp, ⟨⟨fun s hs => ?_, hw.t⟩, hw.c⟩⟩⟩
        · simp only [jS, g2, setS_ver, set_svc, List.set_set, q1, decide_true, jR, jV, Book.r5]
        · rcases List.mem_or_eq_of_mem_set hs with h' | rfl
          · exact hw.s s h'
          · exact hw.s b.svcs[i] (List.getElem_mem h)
      · exact ⟨b, 3, by simp [Book.r5], same⟩
  exact ⟨b, 4, by simp [Book.r5], same⟩
end Go.Ev
namespace Go.Ev
structure Bnd (b : Book) : Prop where
  s : b.svcs.length ≤ 8
  c : b.cpys.length ≤ 200
  t : b.brts.length ≤ 6
  w : Wrd b
theorem Bnd.fit {b : Book} (h : Bnd b) : Fit b := ⟨by have := h.s; omega, by have := h.c; omega, by have := h.t; omega⟩
theorem Bnd.small {b : Book} (h : Bnd b) : Small b := h.fit.small
def Book.nil : Book := ⟨0, [], [], []⟩
theorem Bnd.nil : Bnd Book.nil := ⟨by simp [Book.nil], by simp [Book.nil], by simp [Book.nil], ⟨⟨by simp [Book.nil], by simp [Book.nil]⟩, by simp [Book.nil]⟩⟩
theorem validB_bnd {b : Book} (h : validB b = true) (hw : Wrd b) : Bnd b := by
  simp only [validB, Bool.and_eq_true, decide_eq_true_eq] at h
  exact ⟨h.1.1.1.1.1.2, h.1.1.1.1.2, h.1.1.1.2, hw⟩
def Book.r2 (b : Book) (code : Int) : List C := [.i b.now, .i code, .l (b.svcs.map Svc.e), .l (b.cpys.map Cpy.e), .l (b.brts.map Brt.e)]
theorem s_StewSea_ex (b : Book) (v : Ev1) (hb : Fit b) (hw : Wrd b) (hv : Evw v) : ∃ (b' : Book) (code : Int), s_StewSea (b.e ++ v.e) = some (b'.r2 code) ∧ Bnd b' := by
  have e1 := s_StewValid_eq b hb.small hw.toNames
  simp only [Book.e] at e1
  simp only [s_StewSea, s_StewSea.d2, Book.e, Ev1.e, Svc.e, jA, jB, jC, jD, e1, call1, jI, C.B_b, C.I_i]
  cases hvb : validB b
  · exact ⟨Book.nil, 1, by simp [Book.r2, Book.nil], Bnd.nil⟩
  · have hbn := validB_bnd hvb hw
    have e2 := s_l18Book_eq b hb.s hb.c hb.t
    simp only [Book.e] at e2
    simp only [jZ, jS, e2, call4, jI, jC, jD, C.L_l, s_l18In_eq, C.B_b]
    cases decide (b.now ≥ 1000000)
    · obtain ⟨x, code, h1, h2⟩ := s_l23Sea_ex b v hb (by have := hbn.s; omega) (by have := hbn.t; omega) hw hv
      simp only [Ev1.e, Svc.e, jA, jB] at h1
      have hx : Fit x := ⟨by have := h2.s; have := hbn.s; omega, by have := h2.c; have := hbn.c; omega, by have := h2.t; have := hbn.t; omega⟩
      have e3 := s_StewValid_eq x hx.small h2.w.toNames
      have e4 := s_l18Book_eq x hx.s hx.c hx.t
      simp only [Book.e] at e3 e4
      simp only [jS, h1, call5, jI, Book.r5, jC, jD, C.I_i, e3, C.B_b]
      have fin : ∀ c : Int, c ≠ 0 ∨ validB x = true → ∃ (b' : Book) (code : Int), finR (s_StewSea.d1 (.i c) (.i b.now) (.l (b.svcs.map Svc.e)) (.l (b.cpys.map Cpy.e)) (.l (b.brts.map Brt.e)) (.i 0) (.i x.now) (.l (x.svcs.map Svc.e)) (.l (x.cpys.map Cpy.e)) (.l (x.brts.map Brt.e)) (.l nils) (.l nils) (.l nils)) = some (b'.r2 code) ∧ Bnd b' := by
        intro c hc
        simp only [s_StewSea.d1, C.I_i, e2, e4, call4, jI, jC, jD, C.L_l]
        by_cases h0 : c = 0
        · subst h0
          exact ⟨x, 0, by simp [Book.r2], validB_bnd (hc.resolve_left (by simp)) h2.w⟩
        · have : (c != 0) = true := by simp [h0]
          exact ⟨b, c, by simp [this, Book.r2], hbn⟩
      by_cases h0 : code = 0
      · have k0 : (code == 0) = true := by simp [h0]
        simp only [k0, jR]
        cases hvx : validB x
        · simp only [ja, jR, jJ, jC, jD]
          exact fin 2 (.inl (by decide))
        · simp only [jZ, jS, jJ, jC, jD]
          exact fin code (.inr hvx)
      · have k0 : (code == 0) = false := by simp [h0]
        simp only [k0, jS, jJ, jC, jD]
        exact fin code (.inl h0)
    · cases within v.kind 1 6
      · exact ⟨b, 4, by simp [Book.r2], hbn⟩
      · exact ⟨b, 7, by simp [Book.r2], hbn⟩
structure Wld where
  past : List Book
  book : Book
def Wld.e (w : Wld) : List C := .l (w.past.map Book.e) :: w.book.e
structure WOk (w : Wld) : Prop where
  l : w.past.length ≤ 8
  p : ∀ p, p ∈ w.past → Bnd p
  b : Bnd w.book
theorem s_l25Next_ex (w : Wld) (b : Book) (hw : WOk w) (hb : Bnd b) : ∃ w' : Wld, s_l25Next (w.e ++ b.e) = some w'.e ∧ WOk w' := by
  simp only [s_l25Next, s_l25Next.d1, Wld.e, Book.e, jA, jB, jC, jD, C.I_i, C.L_l]
  have hl := hw.l
  cases b.now == w.book.now
  · have a1 : 0 + w.past.length ≤ 4294967296 := by omega
    have a2 : w.past.length + 1 ≤ 4294967296 := by omega
    have mp : ∀ p, p ∈ w.past ++ [w.book] → Bnd p := by
      intro p hp
      rcases List.mem_append.1 hp with h | h
      · exact hw.p p h
      · simp at h; subst h; exact hw.b
    have er : List.map Book.e w.past ++ [[C.i w.book.now, C.l (List.map Svc.e w.book.svcs), C.l (List.map Cpy.e w.book.cpys), C.l (List.map Brt.e w.book.brts)]] = List.map Book.e (w.past ++ [w.book]) := by simp [Book.e]
    have er0 : List.map (fun b => [C.i b.now, C.l (List.map Svc.e b.svcs), C.l (List.map Cpy.e b.cpys), C.l (List.map Brt.e b.brts)]) = List.map Book.e := rfl
    simp only [jS, nils, List.length_nil, jB, List.length_append, jW, rows, List.length_singleton, a1, a2, decide_true, jR, er, er0]
    by_cases h8 : w.past.length = 8
    · have p1 : ((w.past.length + 1 : Nat) : Int) > 8 := by omega
      have p2 : (1 : Int) ≤ ((w.past.length + 1 : Nat) : Int) := by omega
      refine ⟨⟨(w.past ++ [w.book]).drop 1, b⟩, ?_, ⟨by simp; omega, fun p hp => mp p (List.mem_of_mem_drop hp), hb⟩⟩
      have ta : (List.map Book.e (w.past ++ [w.book])).take (w.past.length + 1) = List.map Book.e (w.past ++ [w.book]) := take_all _ _ (by simp)
      simp only [p1, p2, Int.le_refl, decide_true, jR, jY, ta, jV, List.map_drop]
    · have p1 : ¬ ((w.past.length + 1 : Nat) : Int) > 8 := by omega
      exact ⟨⟨w.past ++ [w.book], b⟩, by simp only [p1, decide_false, jS, jV], ⟨by simp; omega, mp, hb⟩⟩
  · exact ⟨w, rfl, hw⟩
theorem s_l25View_ex (w : Wld) (age : Int) (hw : WOk w) : ∃ b : Book, s_l25View (w.e ++ [.i age]) = some b.e ∧ Bnd b := by
  have hl := hw.l
  simp only [s_l25View, s_l25View.d1, Wld.e, Book.e, jA, jB, jC, jD, C.I_i, C.L_l, jW]
  by_cases h0 : age ≤ 0
  · simp only [h0, decide_true, jZ, jS]
    exact ⟨w.book, rfl, hw.b⟩
  · simp only [h0, decide_false, ja, jR]
    cases hn : ((w.past.length : Int) == 0)
    · have hpos : 0 < w.past.length := by
        rcases Nat.eq_zero_or_pos w.past.length with h | h
        · rw [h] at hn; simp at hn
        · exact h
      have at_ : ∀ (i : Nat) (hi : i < w.past.length), ∃ b : Book, finR (bif decide (0 ≤ (i : Int)) then bif decide ((i : Int) < (w.past.length : Int)) then some (.ret [((w.past.map Book.e).getD i []).getD 0 .nil, ((w.past.map Book.e).getD i []).getD 1 .nil, ((w.past.map Book.e).getD i []).getD 2 .nil, ((w.past.map Book.e).getD i []).getD 3 .nil]) else none else none) = some b.e ∧ Bnd b := by
        intro i hi
        have p1 : (i : Int) < (w.past.length : Int) := by omega
        refine ⟨w.past[i], ?_, hw.p _ (List.getElem_mem hi)⟩
        simp only [jX, p1, decide_true, jR, getD_map_lt Book.e hi, jV, Book.e, jC, jD]
      simp only [jS]
      by_cases ha : age > (w.past.length : Int)
      · have e : w64 ((w.past.length : Int) - (w.past.length : Int)) = ((0 : Nat) : Int) := by rw [w64_of (by omega) (by omega)]; omega
        simp only [ha, decide_true, jR, e, jY]
        exact at_ 0 hpos
      · have e : w64 ((w.past.length : Int) - age) = ((w.past.length - age.toNat : Nat) : Int) := by
          have ha' : age ≤ (w.past.length : Int) := by omega
          rw [w64_of (n := (w.past.length : Int) - age) (by omega) (by omega)]; omega
        simp only [ha, decide_false, jS, e, jY]
        exact at_ _ (by omega)
    · exact ⟨w.book, rfl, hw.b⟩
end Go.Ev
namespace Go.Ev
def ixE (i : Nat) : List C := [.i (i : Nat)]
def enE (p : Int × Int) : List C := [.i p.1, .i p.2]
theorem s_l22Live_ex (b : Book) (nm : Str) (hb : Bnd b) : ∃ ix : List Nat, s_l22Live (b.e ++ [.s nm]) = some [.l (ix.map ixE)] ∧ ix.length ≤ b.cpys.length ∧ ∀ i, i ∈ ix → i < b.cpys.length := by
  have hc := hb.c
  have L : ∃ o, lim (fun xs => s_l22Live.d1 (xs.getD 0 .nil) (xs.getD 1 .nil) (xs.getD 2 .nil) (xs.getD 3 .nil) (xs.getD 4 .nil) (xs.getD 5 .nil) (xs.getD 6 .nil)) (.s nm :: .i 0 :: (b.e ++ [.l []])) = some o ∧
      ∃ ix : List Nat, o = .brk 0 [.l (ix.map ixE)] ∧ ix.length ≤ b.cpys.length ∧ ∀ i, i ∈ ix → i < b.cpys.length := by
    refine lim_exs (fun a : List Nat × Nat => .s nm :: .i (a.2 : Nat) :: (b.e ++ [.l (a.1.map ixE)])) (fun a => b.cpys.length - a.2) (fun a => a.2 ≤ b.cpys.length ∧ a.1.length ≤ a.2 ∧ ∀ i, i ∈ a.1 → i < b.cpys.length) _ ([], 0) ⟨Nat.zero_le _, Nat.zero_le _, by simp⟩ ?_
    rintro ⟨ix, i⟩ ⟨hi, hx, hm⟩
    simp only at hi hx hm
    have w1 : w64 ((i : Int) + 1) = (i : Int) + 1 := w64_of (by omega) (by omega)
    by_cases hlt : i < b.cpys.length
    · left
      have p1 : ix.length + 1 ≤ 4294967296 := by omega
      cases he : (b.cpys[i].svc.toList == nm.toList)
      · exact ⟨(ix, i + 1), by simp [s_l22Live.d1, Book.e, getD_map_lt Cpy.e hlt, Cpy.e, hlt, he, w1], ⟨Nat.succ_le_of_lt hlt, by simp only; omega, hm⟩, by simp only; omega⟩
      · cases hq : b.cpys[i].ending
        · refine ⟨(ix ++ [i], i + 1), by simp [s_l22Live.d1, Book.e, getD_map_lt Cpy.e hlt, Cpy.e, hlt, he, hq, w1, p1, ixE], ⟨Nat.succ_le_of_lt hlt, by simpa using hx, fun j hj => ?_⟩, by simp only; omega⟩
          rcases List.mem_append.1 hj with h | h
          · exact hm j h
          · simp at h; subst h; exact hlt
        · exact ⟨(ix, i + 1), by simp [s_l22Live.d1, Book.e, getD_map_lt Cpy.e hlt, Cpy.e, hlt, he, hq, w1], ⟨Nat.succ_le_of_lt hlt, by simp only; omega, hm⟩, by simp only; omega⟩
    · right
      have : i = b.cpys.length := by omega
      subst this
      exact ⟨.brk 0 [.l (ix.map ixE)], by simp [s_l22Live.d1, Book.e], trivial, ix, rfl, hx, hm⟩
  obtain ⟨o, h1, ix, rfl, h2, h3⟩ := L
  refine ⟨ix, ?_, h2, h3⟩
  simp only [Book.e, jA, jB] at h1
  simp only [s_l22Live, s_l22Live.d3, Book.e, jA, jB, jC, jD]
  erw [h1]
  rfl
theorem s_l22Live_v1_same : s_l22Live_v1 = s_l22Live := rfl
theorem s_l22Some_v1_same : s_l22Some_v1 = s_l22Some := rfl
theorem s_l22Drains_ex (b : Book) (c : Cpy) (hb : Bnd b) : ∃ v : Bool, s_l22Drains (b.e ++ c.e) = some [.b v] := by
  have e1 := s_l18Berth_eq b c.berth hb.small.t
  simp only [Book.e, jA, jB] at e1
  simp only [s_l22Drains, s_l22Drains.d1, Book.e, Cpy.e, jA, jB, jC, jD, e1, call1, jI, C.I_i, C.L_l, jW, brtIx]
  rcases ix_cases (fun t : Brt => sEq t.name c.berth) b.brts with h | ⟨i, h, h1, _⟩
  · exact ⟨false, by simp [h]⟩
  · exact ⟨b.brts[i].drain, by simp [h1, h, getD_map_lt Brt.e h, Brt.e]⟩
theorem s_l22Sooner_ex (b : Book) (x y : Cpy) (im : Int) (hb : Bnd b) : ∃ v : Bool, s_l22Sooner (b.e ++ x.e ++ y.e ++ [.i im]) = some [.b v] := by
  obtain ⟨v1, e1⟩ := s_l22Drains_ex b x hb
  obtain ⟨v2, e2⟩ := s_l22Drains_ex b y hb
  simp only [Book.e, Cpy.e, jA, jB] at e1 e2
  simp only [s_l22Sooner, s_l22Sooner.d1, Book.e, Cpy.e, jA, jB, jC, jD, e1, e2, call1, jI, C.I_i, C.B_b]
  cases !((x.state != 3) == (y.state != 3))
  · cases !((x.image != im) == (y.image != im))
    · cases !(v1 == v2)
      · exact ⟨_, rfl⟩
      · exact ⟨_, rfl⟩
    · exact ⟨_, rfl⟩
  · exact ⟨_, rfl⟩
theorem s_l22First_ex (b : Book) (s : Svc) (ix : List Nat) (hb : Bnd b) (hl : ix.length ≤ 200) (hx : ∀ i, i ∈ ix → i < b.cpys.length) : ∃ en : List (Int × Int), s_l22First (b.e ++ s.e ++ [.l (ix.map ixE)]) = some [.l (en.map enE)] ∧ en.length ≤ 1 ∧ (ix ≠ [] → en.length = 1) := by
  cases ix with
  | nil => exact ⟨[], by simp [s_l22First, s_l22First.d3, Book.e, Svc.e], by simp, by simp⟩
  | cons j js =>
    have hj := hx j (List.mem_cons_self ..)
    have L : ∀ best : Cpy, ∃ o, lim (fun xs => s_l22First.d1 (xs.getD 0 .nil) (xs.getD 1 .nil) (xs.getD 2 .nil) (xs.getD 3 .nil) (xs.getD 4 .nil) (xs.getD 5 .nil) (xs.getD 6 .nil) (xs.getD 7 .nil) (xs.getD 8 .nil) (xs.getD 9 .nil) (xs.getD 10 .nil) (xs.getD 11 .nil) (xs.getD 12 .nil) (xs.getD 13 .nil) (xs.getD 14 .nil) (xs.getD 15 .nil) (xs.getD 16 .nil) (xs.getD 17 .nil) (xs.getD 18 .nil) (xs.getD 19 .nil) (xs.getD 20 .nil) (xs.getD 21 .nil) (xs.getD 22 .nil) (xs.getD 23 .nil) (xs.getD 24 .nil) (xs.getD 25 .nil))
        (.l ((j :: js).map ixE) :: .i 1 :: (b.e ++ s.e ++ best.e)) = some o ∧ ∃ c : Cpy, o = .brk 0 c.e := by
      intro best
      refine lim_exs (fun a : Cpy × Nat => .l ((j :: js).map ixE) :: .i (a.2 : Nat) :: (b.e ++ s.e ++ a.1.e)) (fun a => (j :: js).length - a.2) (fun a => a.2 ≤ (j :: js).length) _ (best, 1) (by simp) ?_
      rintro ⟨best, i⟩ hi
      simp only at hi
      have w1 : w64 ((i : Int) + 1) = (i : Int) + 1 := w64_of (by omega) (by omega)
      by_cases hlt : i < (j :: js).length
      · left
        have hk := hx _ (List.getElem_mem hlt)
        generalize hkk : (j :: js)[i] = k at hk
        have g1 : ((j :: js).map ixE).getD i [] = ixE k := by rw [getD_map_lt ixE hlt, hkk]
        have g2 : (b.cpys.map Cpy.e).getD k [] = b.cpys[k].e := getD_map_lt Cpy.e hk []
        obtain ⟨v, e1⟩ := s_l22Sooner_ex b b.cpys[k] best s.image hb
        simp only [Book.e, Cpy.e, jA, jB] at e1
        have p1 : (i : Int) < ((j :: js).length : Int) := by omega
        have p2 : (k : Int) < (b.cpys.length : Int) := by omega
        have step : ∃ c : Cpy, s_l22First.d1 (.l ((j :: js).map ixE)) (.i (i : Nat)) (.i b.now) (.l (b.svcs.map Svc.e)) (.l (b.cpys.map Cpy.e)) (.l (b.brts.map Brt.e)) (.s s.name) (.i s.ver) (.b s.gone) (.i s.image) (.i s.want) (.i s.down) (.i s.over) (.i s.next) (.i s.per) (.i s.least) (.i s.most) (.i s.load) (.i s.cool)
            (.s best.svc) (.i best.num) (.i best.ver) (.i best.image) (.i best.state) (.b best.ending) (.s best.berth) = some (.again (.l ((j :: js).map ixE) :: .i ((i + 1 : Nat) : Int) :: (b.e ++ s.e ++ c.e))) := by
          simp only [s_l22First.d1, C.I_i, C.L_l, jY, g1, jW, p1, decide_true, jR, jX, ixE, jC, jD, p2, g2, Cpy.e, e1, call1, jI, C.B_b, w1]
          cases v
          · exact ⟨best, rfl⟩
          · exact ⟨b.cpys[k], rfl⟩
        obtain ⟨c, hc⟩ := step
        exact ⟨(c, i + 1), hc, Nat.succ_le_of_lt hlt, by simp only; omega⟩
      · right
        have : i = (j :: js).length := by omega
        subst this
        have p1 : ¬ ((((j :: js).length : Nat) : Int) < (((j :: js).map ixE).length : Int)) := by simp
        exact ⟨.brk 0 best.e, by show s_l22First.d1 _ _ _ _ _ _ _ _ _ _ _ _ _ _ _ _ _ _ _ _ _ _ _ _ _ _ = _; simp only [s_l22First.d1, jC, jD, C.I_i, C.L_l, p1, decide_false, jS]; rfl, trivial, best, rfl⟩
    obtain ⟨o, h1, c, rfl⟩ := L b.cpys[j]
    refine ⟨[(c.num, c.ver)], ?_, by simp, by simp⟩
    have g2 : (b.cpys.map Cpy.e).getD j [] = b.cpys[j].e := getD_map_lt Cpy.e hj []
    have p2 : (j : Int) < (b.cpys.length : Int) := by omega
    have p3 : (0 : Int) < ((js.length + 1 : Nat) : Int) := by omega
    have p4 : (((js.length + 1 : Nat) : Int) == 0) = false := by simp; omega
    simp only [Book.e, Svc.e, Cpy.e, jA, jB, List.map_cons] at h1
    simp only [s_l22First, s_l22First.d3, Book.e, Svc.e, jA, jB, jC, jD, C.L_l, List.map_cons, List.length_cons, jW, p3, p4, jS, decide_true, jR, ixE, C.I_i, jX, jY, p2, g2, Cpy.e]
    simp only [ixE] at h1
    erw [h1]
    rfl
end Go.Ev
namespace Go.Ev
theorem s_l22Some_ex (b : Book) (s : Svc) (which : Int) (hb : Bnd b) : ∃ ix : List Nat, s_l22Some (b.e ++ s.e ++ [.i which]) = some [.l (ix.map ixE)] ∧ ix.length ≤ 200 ∧ ∀ i, i ∈ ix → i < b.cpys.length := by
  have hc := hb.c
  obtain ⟨lv, e0, hlv, hlm⟩ := s_l22Live_ex b s.name hb
  have L : ∃ o, lim (fun xs => s_l22Some.d2 (xs.getD 0 .nil) (xs.getD 1 .nil) (xs.getD 2 .nil) (xs.getD 3 .nil) (xs.getD 4 .nil) (xs.getD 5 .nil) (xs.getD 6 .nil) (xs.getD 7 .nil) (xs.getD 8 .nil) (xs.getD 9 .nil) (xs.getD 10 .nil) (xs.getD 11 .nil) (xs.getD 12 .nil) (xs.getD 13 .nil) (xs.getD 14 .nil) (xs.getD 15 .nil) (xs.getD 16 .nil) (xs.getD 17 .nil) (xs.getD 18 .nil) (xs.getD 19 .nil) (xs.getD 20 .nil))
      (.i which :: .i 0 :: (b.e ++ s.e ++ [.l [], .l (lv.map ixE)])) = some o ∧ ∃ ix : List Nat, o = .brk 0 [.l (ix.map ixE)] ∧ ix.length ≤ lv.length ∧ ∀ i, i ∈ ix → i < b.cpys.length := by
    refine lim_exs (fun a : List Nat × Nat => .i which :: .i (a.2 : Nat) :: (b.e ++ s.e ++ [.l (a.1.map ixE), .l (lv.map ixE)])) (fun a => lv.length - a.2) (fun a => a.2 ≤ lv.length ∧ a.1.length ≤ a.2 ∧ ∀ i, i ∈ a.1 → i < b.cpys.length) _ ([], 0) ⟨Nat.zero_le _, Nat.zero_le _, by simp⟩ ?_
    rintro ⟨ix, i⟩ ⟨hi, hx, hm⟩
    simp only at hi hx hm
    have w1 : w64 ((i : Int) + 1) = (i : Int) + 1 := w64_of (by omega) (by omega)
    by_cases hlt : i < lv.length
    · left
      have hk := hlm _ (List.getElem_mem hlt)
      generalize hkk : lv[i] = k at hk
      have g1 : (lv.map ixE).getD i [] = ixE k := by rw [getD_map_lt ixE hlt, hkk]
      have g2 : (b.cpys.map Cpy.e).getD k [] = b.cpys[k].e := getD_map_lt Cpy.e hk []
      obtain ⟨v, e1⟩ := s_l22Drains_ex b b.cpys[k] hb
      simp only [Book.e, Cpy.e, jA, jB] at e1
      have p1 : (i : Int) < (lv.length : Int) := by omega
      have p2 : (k : Int) < (b.cpys.length : Int) := by omega
      have p3 : ix.length + 1 ≤ 4294967296 := by omega
      have step1 : ∀ u : Bool, ∃ jx : List Nat, s_l22Some.d1 (.i which) (.i (i : Nat)) (.b u) (.i b.now) (.l (b.svcs.map Svc.e)) (.l (b.cpys.map Cpy.e)) (.l (b.brts.map Brt.e)) (.s s.name) (.i s.ver) (.b s.gone) (.i s.image) (.i s.want) (.i s.down) (.i s.over) (.i s.next) (.i s.per) (.i s.least) (.i s.most) (.i s.load) (.i s.cool) (.l (ix.map ixE)) (.l (lv.map ixE))
          = some (.again (.i which :: .i ((i + 1 : Nat) : Int) :: (b.e ++ s.e ++ [.l (jx.map ixE), .l (lv.map ixE)]))) ∧ jx.length ≤ i + 1 ∧ ∀ i, i ∈ jx → i < b.cpys.length := by
        intro u
        cases u with
        | false => exact ⟨ix, by simp only [s_l22Some.d1, C.B_b, jS, C.I_i, w1, C.L_l]; rfl, by omega, hm⟩
        | true =>
          refine ⟨ix ++ [k], ?_, by simp; omega, fun j hj => ?_⟩
          · simp only [s_l22Some.d1, C.B_b, jR, C.I_i, w1, C.L_l, jY, g1, ixE, jC, jW, rows, List.length_singleton, p1, p3, jX, decide_true, List.map_append, List.map_cons, List.map_nil]
            rfl
          · rcases List.mem_append.1 hj with h | h
            · exact hm j h
            · simp at h; subst h; exact hk
      have step : ∃ jx : List Nat, s_l22Some.d2 (.i which) (.i (i : Nat)) (.i b.now) (.l (b.svcs.map Svc.e)) (.l (b.cpys.map Cpy.e)) (.l (b.brts.map Brt.e)) (.s s.name) (.i s.ver) (.b s.gone) (.i s.image) (.i s.want) (.i s.down) (.i s.over) (.i s.next) (.i s.per) (.i s.least) (.i s.most) (.i s.load) (.i s.cool) (.l (ix.map ixE)) (.l (lv.map ixE))
          = some (.again (.i which :: .i ((i + 1 : Nat) : Int) :: (b.e ++ s.e ++ [.l (jx.map ixE), .l (lv.map ixE)]))) ∧ jx.length ≤ i + 1 ∧ ∀ i, i ∈ jx → i < b.cpys.length := by
        simp only [s_l22Some.d2, C.I_i, C.L_l, jY, g1, jW, p1, decide_true, jR, jX, ixE, jC, jD, p2, g2, Cpy.e, e1, call1, jI, C.B_b]
        cases which == 2 <;> cases which == 6 <;> cases which == 3 <;> cases (b.cpys[k].image != s.image) <;> cases v
        all_goals simp only [jZ, ja, jR, jS, jJ, jC, jD]
        all_goals exact step1 _
      obtain ⟨jx, h1, h2, h3⟩ := step
      exact ⟨(jx, i + 1), h1, ⟨Nat.succ_le_of_lt hlt, h2, h3⟩, by simp only; omega⟩
    · right
      have : i = lv.length := by omega
      subst this
      exact ⟨.brk 0 [.l (ix.map ixE)], by simp [s_l22Some.d2, Book.e, Svc.e], trivial, ix, rfl, hx, hm⟩
  obtain ⟨o, h1, ix, rfl, h2, h3⟩ := L
  refine ⟨ix, ?_, by omega, h3⟩
  simp only [Book.e, Svc.e, jA, jB] at h1 e0
  simp only [s_l22Some, s_l22Some.d4, Book.e, Svc.e, jA, jB, jC, jD, e0, call1, jI, C.L_l, nils]
  erw [h1]
  rfl
theorem s_l22Ends_ex (b : Book) (ix : List Nat) (hb : Bnd b) (hl : ix.length ≤ 200) (hxm : ∀ i, i ∈ ix → i < b.cpys.length) : ∃ en : List (Int × Int), s_l22Ends (b.e ++ [.l (ix.map ixE)]) = some [.l (en.map enE)] ∧ en.length ≤ 200 := by
  have L : ∃ o, lim (fun xs => s_l22Ends.d1 (xs.getD 0 .nil) (xs.getD 1 .nil) (xs.getD 2 .nil) (xs.getD 3 .nil) (xs.getD 4 .nil) (xs.getD 5 .nil) (xs.getD 6 .nil))
      (.l (ix.map ixE) :: .i 0 :: (b.e ++ [.l []])) = some o ∧ ∃ en : List (Int × Int), o = .brk 0 [.l (en.map enE)] ∧ en.length ≤ ix.length := by
    refine lim_exs (fun a : List (Int × Int) × Nat => .l (ix.map ixE) :: .i (a.2 : Nat) :: (b.e ++ [.l (a.1.map enE)])) (fun a => ix.length - a.2) (fun a => a.2 ≤ ix.length ∧ a.1.length ≤ a.2) _ ([], 0) ⟨Nat.zero_le _, Nat.zero_le _⟩ ?_
    rintro ⟨en, i⟩ ⟨hi, hx⟩
    simp only at hi hx
    have w1 : w64 ((i : Int) + 1) = (i : Int) + 1 := w64_of (by omega) (by omega)
    by_cases hlt : i < ix.length
    · left
      have hk := hxm _ (List.getElem_mem hlt)
      generalize hkk : ix[i] = k at hk
      have g1 : (ix.map ixE).getD i [] = ixE k := by rw [getD_map_lt ixE hlt, hkk]
      have g2 : (b.cpys.map Cpy.e).getD k [] = b.cpys[k].e := getD_map_lt Cpy.e hk []
      have p1 : (i : Int) < (ix.length : Int) := by omega
      have p2 : (k : Int) < (b.cpys.length : Int) := by omega
      have p3 : en.length + 1 ≤ 4294967296 := by omega
      refine ⟨(en ++ [(b.cpys[k].num, b.cpys[k].ver)], i + 1), ?_, ⟨Nat.succ_le_of_lt hlt, by simpa using hx⟩, by simp only; omega⟩
      show s_l22Ends.d1 (.l (ix.map ixE)) (.i (i : Nat)) (.i b.now) (.l (b.svcs.map Svc.e)) (.l (b.cpys.map Cpy.e)) (.l (b.brts.map Brt.e)) (.l (en.map enE)) = _
      simp only [s_l22Ends.d1, C.I_i, C.L_l, jY, g1, jW, p1, decide_true, jR, jX, ixE, jC, jD, p2, g2, Cpy.e, rows, List.length_singleton, p3, w1, List.map_append, List.map_cons, List.map_nil]
      rfl
    · right
      have : i = ix.length := by omega
      subst this
      exact ⟨.brk 0 [.l (en.map enE)], by simp [s_l22Ends.d1, Book.e], trivial, en, rfl, hx⟩
  obtain ⟨o, h1, en, rfl, h2⟩ := L
  refine ⟨en, ?_, by omega⟩
  simp only [Book.e, jA, jB] at h1
  simp only [s_l22Ends, s_l22Ends.d3, Book.e, jA, jB, jC, jD, nils]
  erw [h1]
  rfl
theorem s_l19Count_ex (b : Book) (nm : Str) (hb : Bnd b) : ∃ n1 n2 n3 n4 n5 : Int, s_l19Count (b.e ++ [.s nm]) = some [.i n1, .i n2, .i n3, .i n4, .i n5] := by
  have hc := hb.c
  have e0 := s_l18Service_eq b nm hb.small.s
  have L : ∃ o, lim (fun xs => s_l19Count.d4 (xs.getD 0 .nil) (xs.getD 1 .nil) (xs.getD 2 .nil) (xs.getD 3 .nil) (xs.getD 4 .nil) (xs.getD 5 .nil) (xs.getD 6 .nil) (xs.getD 7 .nil) (xs.getD 8 .nil) (xs.getD 9 .nil) (xs.getD 10 .nil) (xs.getD 11 .nil) (xs.getD 12 .nil) (xs.getD 13 .nil) (xs.getD 14 .nil) (xs.getD 15 .nil) (xs.getD 16 .nil))
      (.s nm :: .i (svcIx b.svcs nm) :: .i 0 :: (b.e ++ [.i 0, .i 0, .i 0, .i 0, .i 0, .i 0, .i 0, .i 0, .i 0, .i 0])) = some o ∧ ∃ n1 n2 n3 n4 n5 : Int, o = .brk 0 [.i 0, .i 0, .i 0, .i 0, .i 0, .i n1, .i n2, .i n3, .i n4, .i n5] := by
    refine lim_exs (fun a : (Int × Int × Int × Int × Int) × Nat => .s nm :: .i (svcIx b.svcs nm) :: .i (a.2 : Nat) :: (b.e ++ [.i 0, .i 0, .i 0, .i 0, .i 0, .i a.1.1, .i a.1.2.1, .i a.1.2.2.1, .i a.1.2.2.2.1, .i a.1.2.2.2.2])) (fun a => b.cpys.length - a.2) (fun a => a.2 ≤ b.cpys.length) _ ((0, 0, 0, 0, 0), 0) (Nat.zero_le _) ?_
    rintro ⟨⟨n1, n2, n3, n4, n5⟩, i⟩ hi
    simp only at hi
    have w1 : w64 ((i : Int) + 1) = (i : Int) + 1 := w64_of (by omega) (by omega)
    have stop : ∀ z : Int, (¬ (i < b.cpys.length) ∨ ¬ z ≥ 0) → z = svcIx b.svcs nm → s_l19Count.d4 (.s nm) (.i z) (.i (i : Nat)) (.i b.now) (.l (b.svcs.map Svc.e)) (.l (b.cpys.map Cpy.e)) (.l (b.brts.map Brt.e)) (.i 0) (.i 0) (.i 0) (.i 0) (.i 0) (.i n1) (.i n2) (.i n3) (.i n4) (.i n5) = some (.brk 0 [.i 0, .i 0, .i 0, .i 0, .i 0, .i n1, .i n2, .i n3, .i n4, .i n5]) := by
      intro z hz _
      simp only [s_l19Count.d4, C.I_i, C.L_l, jW]
      rcases hz with h | h
      · have : ¬ (i : Int) < (b.cpys.length : Int) := by omega
        simp only [this, decide_false, jS]
      · simp only [h, decide_false, jS]
        cases decide ((i : Int) < (b.cpys.length : Int)) <;> rfl
    rcases ix_cases (fun s : Svc => sEq s.name nm) b.svcs with h | ⟨j, hj, h, _⟩
    · right
      exact ⟨_, stop _ (.inr (by simp [svcIx, h])) rfl, trivial, n1, n2, n3, n4, n5, rfl⟩
    · by_cases hlt : i < b.cpys.length
      · left
        have hz : svcIx b.svcs nm = (j : Int) := h
        have p1 : (i : Int) < (b.cpys.length : Int) := by omega
        have p2 : (j : Int) < (b.svcs.length : Int) := by omega
        have p3 : (j : Int) ≥ 0 := by omega
        have g1 : (b.cpys.map Cpy.e).getD i [] = b.cpys[i].e := getD_map_lt Cpy.e hlt []
        have g2 : (b.svcs.map Svc.e).getD j [] = b.svcs[j].e := getD_map_lt Svc.e hj []
        have step : ∃ m1 m2 m3 m4 m5 : Int, s_l19Count.d4 (.s nm) (.i (j : Nat)) (.i (i : Nat)) (.i b.now) (.l (b.svcs.map Svc.e)) (.l (b.cpys.map Cpy.e)) (.l (b.brts.map Brt.e)) (.i 0) (.i 0) (.i 0) (.i 0) (.i 0) (.i n1) (.i n2) (.i n3) (.i n4) (.i n5)
            = some (.again (.s nm :: .i (j : Nat) :: .i ((i + 1 : Nat) : Int) :: (b.e ++ [.i 0, .i 0, .i 0, .i 0, .i 0, .i m1, .i m2, .i m3, .i m4, .i m5]))) := by
          simp only [s_l19Count.d4, C.I_i, C.L_l, jY, jW, p1, p3, decide_true, jR, jX, g1, Cpy.e, jC, jD, C.S_s, C.B_b]
          cases !(b.cpys[i].svc.toList == nm.toList) <;> simp only [jR, jS, bindBlk_self, jC, jD, s_l19Count.d3, C.I_i, w1]
          · cases b.cpys[i].ending <;> simp only [jR, jS, bindBlk_self, jC, jD, s_l19Count.d3, C.I_i, w1]
            · cases (b.cpys[i].state == 3) <;> simp only [jR, jS, jJ, jC, jD, s_l19Count.d2, C.I_i, C.L_l]
              all_goals cases (b.cpys[i].state == 4) <;> simp only [jR, jS, jJ, jC, jD, s_l19Count.d1, C.I_i, C.L_l, jY, g2, Svc.e, jW, p2, jX, decide_true]
              all_goals cases (b.cpys[i].image != b.svcs[j].image) <;> simp only [jR, jS, bindBlk_self, jC, jD, s_l19Count.d3, C.I_i, w1]
              all_goals exact ⟨_, _, _, _, _, rfl⟩
            · exact ⟨_, _, _, _, _, rfl⟩
          · exact ⟨_, _, _, _, _, rfl⟩
        obtain ⟨m1, m2, m3, m4, m5, hs⟩ := step
        refine ⟨((m1, m2, m3, m4, m5), i + 1), ?_, Nat.succ_le_of_lt hlt, by simp only; omega⟩
        rw [hz]
        exact hs
      · right
        exact ⟨_, stop _ (.inl hlt) rfl, trivial, n1, n2, n3, n4, n5, rfl⟩
  obtain ⟨o, h1, n1, n2, n3, n4, n5, rfl⟩ := L
  refine ⟨n1, n2, n3, n4, n5, ?_⟩
  simp only [Book.e, jA, jB] at h1 e0
  simp only [s_l19Count, s_l19Count.d6, Book.e, jA, jB, jC, jD, e0, call1, jI]
  erw [h1]
  rfl
end Go.Ev
namespace Go.Ev
theorem bif_pos {α : Type} {p : Prop} [Decidable p] (h : p) (x y : α) : (bif decide p then x else y) = x := by rw [decide_eq_true h]; rfl
theorem bif_neg {α : Type} {p : Prop} [Decidable p] (h : ¬p) (x y : α) : (bif decide p then x else y) = y := by rw [decide_eq_false h]; rfl
structure Act where
  svc : Str
  seen : Int
  create : Int
  want : Int
  cool : Int
  scale : Bool
  ends : List (Int × Int)
  drop : Bool
def Act.e (a : Act) : List C := [.s a.svc, .i a.seen, .i a.create, .i a.want, .i a.cool, .b a.scale, .l (a.ends.map enE), .b a.drop]
theorem s_l20MayEnd_ex (b : Book) (nm : Str) (n : Int) (hb : Bnd b) (hs : cpyIx b.cpys nm n = -1 ∨ (svcOf b nm).isSome) : ∃ v : Bool, s_l20MayEnd (b.e ++ [.s nm, .i n]) = some [.b v] ∧ (v = true → 0 ≤ cpyIx b.cpys nm n) := by
  have hc := hb.c
  have e0 := s_l18Copy_eq b nm n hb.small.c
  have e1 := s_l18Service_eq b nm hb.small.s
  obtain ⟨n1, n2, n3, n4, n5, e2⟩ := s_l19Count_ex b nm hb
  simp only [Book.e, Svc.e, Cpy.e, Brt.e, Act.e, Wld.e, Ev1.e, jA, jB, jC, jD, jE, jF, jG, jH, call1, call2, call3, call4, call5, call6, call7, call8, call13, call15, call16, call17, call19, call21, jI, jJ, jK, jL, jM, jN, jO, jP, jQ, jR, jS, jT, jU, jV, jW, jX, jY, nils, rows, jZ, ja, jb, jc, jd] at e0 e1 e2
  simp only [s_l20MayEnd, s_l20MayEnd.d1, Book.e, Svc.e, Cpy.e, Brt.e, Act.e, Wld.e, Ev1.e, jA, jB, jC, jD, jE, jF, jG, jH, call1, call2, call3, call4, call5, call6, call7, call8, call13, call15, call16, call17, call19, call21, jI, jJ, jK, jL, jM, jN, jO, jP, jQ, jR, jS, jT, jU, jV, jW, jX, jY, nils, rows, jZ, ja, jb, jc, jd, e0]
  rcases ix_cases (fun c : Cpy => sEq c.svc nm && c.num == n) b.cpys with h | ⟨i, hi, h, _⟩
  · have h' : cpyIx b.cpys nm n = -1 := h
    rw [h']
    exact ⟨false, rfl, by simp⟩
  · have h' : cpyIx b.cpys nm n = (i : Int) := h
    have hs' := hs.resolve_left (by omega)
    rcases findIx_spec (fun s : Svc => sEq s.name nm) b.svcs 0 with ⟨q1, q2⟩ | ⟨j, hj, q1, _, _⟩
    · rw [svcOf, q1] at hs'; simp at hs'
    · have q1' : svcIx b.svcs nm = (j : Int) := by rw [svcIx, q1]; omega
      rw [h']
      simp (disch := omega) only [bif_pos, bif_neg, jA, jB, jC, jD, jE, jF, jG, jH, call1, call2, call3, call4, call5, call6, call7, call8, call13, call15, call16, call17, call19, call21, jI, jJ, jK, jL, jM, jN, jO, jP, jQ, jR, jS, jT, jU, jV, jW, jX, jY, nils, rows, jZ, ja, jb, jc, jd, e1, e2, q1', getD_map_lt Cpy.e, getD_map_lt Svc.e, Book.e, Svc.e, Cpy.e, Brt.e, Act.e, Wld.e, Ev1.e]
      have p1 : decide ((i : Int) < 0) = false := by simp
      simp (disch := omega) only [p1, jA, jB, jC, jD, jE, jF, jG, jH, call1, call2, call3, call4, call5, call6, call7, call8, call13, call15, call16, call17, call19, call21, jI, jJ, jK, jL, jM, jN, jO, jP, jQ, jR, jS, jT, jU, jV, jW, jX, jY, nils, rows, jZ, ja, jb, jc, jd, bif_pos, bif_neg]
      repeat' (rw [Bool.cond_eq_ite]; split)
      all_goals exact ⟨_, rfl, fun _ => by first | trivial | omega⟩
def Own (b : Book) : Prop := ∀ c, c ∈ b.cpys → (svcOf b c.svc).isSome
theorem own_ix {b : Book} (h : Own b) (nm : Str) (n : Int) : cpyIx b.cpys nm n = -1 ∨ (svcOf b nm).isSome := by
  rcases ix_cases (fun c : Cpy => sEq c.svc nm && c.num == n) b.cpys with q | ⟨i, hi, q, hp⟩
  · exact .inl q
  · right
    have := h _ (List.getElem_mem hi)
    simp only [Bool.and_eq_true, sEq, beq_iff_eq] at hp
    simp only [svcOf, sEq] at this ⊢
    rw [hp.1] at this
    exact this
theorem chainOk_mem {α : Type} {ok : α → Bool} {lt : α → α → Bool} {l : List α} (h : chainOk ok lt l = true) : ∀ x, x ∈ l → ok x = true := by
  intro x hx
  obtain ⟨i, hi, rfl⟩ := List.getElem_of_mem hx
  simp only [chainOk, List.all_eq_true] at h
  have := h (l[i], i) (List.mem_zipIdx_iff_getElem?.2 (by simp [hi]))
  simp only [Bool.and_eq_true] at this
  exact this.1
theorem validB_own {b : Book} (h : validB b = true) : Own b := by
  intro c hc
  simp only [validB, Bool.and_eq_true] at h
  have := chainOk_mem h.2 c hc
  simp only [cpyOk] at this
  split at this
  · simp at this
  · rename_i s hs; rw [hs]; rfl
theorem s_l22May_ex (b : Book) (ix : List Nat) (hb : Bnd b) (ho : Own b) (hl : ix.length ≤ 200) (hxm : ∀ i, i ∈ ix → i < b.cpys.length) : ∃ jx : List Nat, s_l22May (b.e ++ [.l (ix.map ixE)]) = some [.l (jx.map ixE)] ∧ jx.length ≤ 200 ∧ ∀ i, i ∈ jx → i < b.cpys.length := by
  have L : ∃ o, lim (fun xs => s_l22May.d1 (xs.getD 0 .nil) (xs.getD 1 .nil) (xs.getD 2 .nil) (xs.getD 3 .nil) (xs.getD 4 .nil) (xs.getD 5 .nil) (xs.getD 6 .nil)) (.l (ix.map ixE) :: .i 0 :: (b.e ++ [.l []])) = some o ∧ ∃ en : List Nat, o = .brk 0 [.l (en.map ixE)] ∧ en.length ≤ ix.length ∧ ∀ i, i ∈ en → i < b.cpys.length := by
    refine lim_exs (fun a : List Nat × Nat => .l (ix.map ixE) :: .i (a.2 : Nat) :: (b.e ++ [.l (a.1.map ixE)])) (fun a => ix.length - a.2) (fun a => a.2 ≤ ix.length ∧ a.1.length ≤ a.2 ∧ ∀ i, i ∈ a.1 → i < b.cpys.length) _ ([], 0) ⟨Nat.zero_le _, Nat.zero_le _, by simp⟩ ?_
    rintro ⟨en, i⟩ ⟨hi, hx, hm⟩
    simp only at hi hx hm
    have w1 : w64 ((i : Int) + 1) = (i : Int) + 1 := w64_of (by omega) (by omega)
    by_cases hlt : i < ix.length
    · left
      have hk := hxm _ (List.getElem_mem hlt)
      generalize hkk : ix[i] = k at hk
      have g1 : (ix.map ixE).getD i [] = ixE k := by rw [getD_map_lt ixE hlt, hkk]
      have g2 : (b.cpys.map Cpy.e).getD k [] = b.cpys[k].e := getD_map_lt Cpy.e hk []
      have p1 : (i : Int) < (ix.length : Int) := by omega
      have p2 : (k : Int) < (b.cpys.length : Int) := by omega
      have p3 : en.length + 1 ≤ 4294967296 := by omega
      obtain ⟨v, e1, _⟩ := s_l20MayEnd_ex b b.cpys[k].svc b.cpys[k].num hb (own_ix ho _ _)
      simp only [Book.e, Svc.e, Cpy.e, Brt.e, Act.e, Wld.e, Ev1.e, jA, jB, jC, jD, jE, jF, jG, jH, call1, call2, call3, call4, call5, call6, call7, call8, call13, call15, call16, call17, call19, call21, jI, jJ, jK, jL, jM, jN, jO, jP, jQ, jR, jS, jT, jU, jV, jW, jX, jY, nils, rows, jZ, ja, jb, jc, jd] at e1
      have step : ∃ jx : List Nat, s_l22May.d1 (.l (ix.map ixE)) (.i (i : Nat)) (.i b.now) (.l (b.svcs.map Svc.e)) (.l (b.cpys.map Cpy.e)) (.l (b.brts.map Brt.e)) (.l (en.map ixE)) = some (.again (.l (ix.map ixE) :: .i ((i + 1 : Nat) : Int) :: (b.e ++ [.l (jx.map ixE)]))) ∧ jx.length ≤ i + 1 ∧ ∀ i, i ∈ jx → i < b.cpys.length := by
        cases v with
        | false => exact ⟨en, by simp only [s_l22May.d1, Book.e, Svc.e, Cpy.e, Brt.e, Act.e, Wld.e, Ev1.e, jA, jB, jC, jD, jE, jF, jG, jH, call1, call2, call3, call4, call5, call6, call7, call8, call13, call15, call16, call17, call19, call21, jI, jJ, jK, jL, jM, jN, jO, jP, jQ, jR, jS, jT, jU, jV, jW, jX, jY, nils, rows, jZ, ja, jb, jc, jd, g1, g2, p1, p2, ixE, e1, w1]; rfl, by omega, hm⟩
        | true =>
          refine ⟨en ++ [k], by simp only [s_l22May.d1, Book.e, Svc.e, Cpy.e, Brt.e, Act.e, Wld.e, Ev1.e, jA, jB, jC, jD, jE, jF, jG, jH, call1, call2, call3, call4, call5, call6, call7, call8, call13, call15, call16, call17, call19, call21, jI, jJ, jK, jL, jM, jN, jO, jP, jQ, jR, jS, jT, jU, jV, jW, jX, jY, nils, rows, jZ, ja, jb, jc, jd, g1, g2, p1, p2, p3, ixE, e1, w1, List.map_append, List.map_cons, List.map_nil]; rfl, by simp; omega, fun j hj => ?_⟩
          rcases List.mem_append.1 hj with h | h
          · exact hm j h
          · simp at h; subst h; exact hk
      obtain ⟨jx, h1, h2, h3⟩ := step
      exact ⟨(jx, i + 1), h1, ⟨Nat.succ_le_of_lt hlt, h2, h3⟩, by simp only; omega⟩
    · right
      have : i = ix.length := by omega
      subst this
      exact ⟨.brk 0 [.l (en.map ixE)], by simp [s_l22May.d1, Book.e], trivial, en, rfl, hx, hm⟩
  obtain ⟨o, h1, en, rfl, h2, h3⟩ := L
  refine ⟨en, ?_, by omega, h3⟩
  simp only [Book.e, jA, jB] at h1
  simp only [s_l22May, s_l22May.d3, Book.e, Svc.e, Cpy.e, Brt.e, Act.e, Wld.e, Ev1.e, jA, jB, jC, jD, jE, jF, jG, jH, call1, call2, call3, call4, call5, call6, call7, call8, call13, call15, call16, call17, call19, call21, jI, jJ, jK, jL, jM, jN, jO, jP, jQ, jR, jS, jT, jU, jV, jW, jX, jY, nils, rows, jZ, ja, jb, jc, jd]
  erw [h1]
  rfl
end Go.Ev
namespace Go.Ev
structure ActW (a : Act) : Prop where
  s : a.svc.size < 4611686018427387904
  n : a.ends.length ≤ 200
theorem en_take (en : List (Int × Int)) : List.map enE en = List.map enE en := rfl
theorem s_l22Counter_ex (b : Book) (s : Svc) (a : Act) (hb : Bnd b) (ho : Own b) (ha : ActW a) (hw : 0 ≤ s.want) : ∃ a' : Act, s_l22Counter (b.e ++ s.e ++ a.e) = some a'.e ∧ ActW a' := by
  obtain ⟨lv, e0, hlv, hlm⟩ := s_l22Live_ex b s.name hb
  obtain ⟨x1, e1, _, _⟩ := s_l22Some_ex b s 2 hb
  obtain ⟨x2, e2, _, _⟩ := s_l22Some_ex b s 6 hb
  obtain ⟨en, e3, hen, hen1⟩ := s_l22First_ex b s lv hb (by have := hb.c; omega) hlm
  simp only [Book.e, Svc.e, Cpy.e, Brt.e, Act.e, Wld.e, Ev1.e, jA, jB, jC, jD, jE, jF, jG, jH, call1, call2, call3, call4, call5, call6, call7, call8, call13, call15, call16, call17, call19, call21, jI, jJ, jK, jL, jM, jN, jO, jP, jQ, jR, jS, jT, jU, jV, jW, jX, jY, nils, rows, jZ, ja, jb, jc, jd] at e0 e1 e2 e3
  simp only [s_l22Counter, s_l22Counter.d3, s_l22Some_v1_same, Book.e, Svc.e, Cpy.e, Brt.e, Act.e, Wld.e, Ev1.e, jA, jB, jC, jD, jE, jF, jG, jH, call1, call2, call3, call4, call5, call6, call7, call8, call13, call15, call16, call17, call19, call21, jI, jJ, jK, jL, jM, jN, jO, jP, jQ, jR, jS, jT, jU, jV, jW, jX, jY, nils, rows, jZ, ja, jb, jc, jd, e0, e1, e2]
  have fin : ∀ v : Bool, (v = true → lv ≠ []) → ∃ a' : Act, finR (s_l22Counter.d1 (.b v) (.i b.now) (.l (b.svcs.map Svc.e)) (.l (b.cpys.map Cpy.e)) (.l (b.brts.map Brt.e)) (.s s.name) (.i s.ver) (.b s.gone) (.i s.image) (.i s.want) (.i s.down) (.i s.over) (.i s.next) (.i s.per) (.i s.least) (.i s.most) (.i s.load) (.i s.cool) (.s a.svc) (.i a.seen) (.i a.create) (.i a.want) (.i a.cool) (.b a.scale) (.l (a.ends.map enE)) (.b a.drop) (.s (bs #[])) (.i 0) (.i 0) (.i 0) (.i 0) (.b false) (.b false) (.l (lv.map ixE)) (.l [])) = some a'.e ∧ ActW a' := by
    intro v hv
    cases v with
    | false => exact ⟨a, by simp only [s_l22Counter.d1, jA, jB, jC, jD, jE, jF, jG, jH, call1, call2, call3, call4, call5, call6, call7, call8, call13, call15, call16, call17, call19, call21, jI, jJ, jK, jL, jM, jN, jO, jP, jQ, jR, jS, jT, jU, jV, jW, jX, jY, nils, rows, jZ, ja, jb, jc, jd]; rfl, ha⟩
    | true =>
      have hn := hen1 (hv rfl)
      obtain ⟨p, rfl⟩ : ∃ p, en = [p] := List.length_eq_one_iff.1 hn
      obtain ⟨w, e4, _⟩ := s_l20MayEnd_ex b s.name p.1 hb (own_ix ho _ _)
      simp only [Book.e, Svc.e, Cpy.e, Brt.e, Act.e, Wld.e, Ev1.e, jA, jB, jC, jD, jE, jF, jG, jH, call1, call2, call3, call4, call5, call6, call7, call8, call13, call15, call16, call17, call19, call21, jI, jJ, jK, jL, jM, jN, jO, jP, jQ, jR, jS, jT, jU, jV, jW, jX, jY, nils, rows, jZ, ja, jb, jc, jd] at e4
      have q : (0 : Int) < ((1 : Nat) : Int) := by omega
      simp only [s_l22Counter.d1, jA, jB, jC, jD, jE, jF, jG, jH, call1, call2, call3, call4, call5, call6, call7, call8, call13, call15, call16, call17, call19, call21, jI, jJ, jK, jL, jM, jN, jO, jP, jQ, jR, jS, jT, jU, jV, jW, jX, jY, nils, rows, jZ, ja, jb, jc, jd, e3, List.map_cons, List.map_nil, q, enE, e4]
      cases w
      · exact ⟨a, rfl, ha⟩
      · exact ⟨{ a with ends := [p] }, rfl, ⟨ha.s, by simp⟩⟩
  by_cases h1 : (lv.length : Int) < s.want
  · simp only [h1, jA, jB, jC, jD, jE, jF, jG, jH, call1, call2, call3, call4, call5, call6, call7, call8, call13, call15, call16, call17, call19, call21, jI, jJ, jK, jL, jM, jN, jO, jP, jQ, jR, jS, jT, jU, jV, jW, jX, jY, nils, rows, jZ, ja, jb, jc, jd]
    exact ⟨{ a with create := w64 (s.want - lv.length) }, rfl, ⟨ha.s, ha.n⟩⟩
  · simp only [h1, jA, jB, jC, jD, jE, jF, jG, jH, call1, call2, call3, call4, call5, call6, call7, call8, call13, call15, call16, call17, call19, call21, jI, jJ, jK, jL, jM, jN, jO, jP, jQ, jR, jS, jT, jU, jV, jW, jX, jY, nils, rows, jZ, ja, jb, jc, jd]
    cases ((x1.length : Int) == 0) <;> simp only [jA, jB, jC, jD, jE, jF, jG, jH, call1, call2, call3, call4, call5, call6, call7, call8, call13, call15, call16, call17, call19, call21, jI, jJ, jK, jL, jM, jN, jO, jP, jQ, jR, jS, jT, jU, jV, jW, jX, jY, nils, rows, jZ, ja, jb, jc, jd, s_l22Counter.d2]
    all_goals by_cases h2 : (lv.length : Int) > s.want
    all_goals simp only [h2, jA, jB, jC, jD, jE, jF, jG, jH, call1, call2, call3, call4, call5, call6, call7, call8, call13, call15, call16, call17, call19, call21, jI, jJ, jK, jL, jM, jN, jO, jP, jQ, jR, jS, jT, jU, jV, jW, jX, jY, nils, rows, jZ, ja, jb, jc, jd]
    · refine fin _ ?_
      intro h; simp at h; intro h0; rw [h0] at h h2; simp at h h2; omega
    · exact fin false (by simp)
    · cases ((x2.length : Int) == 0) <;> simp only [jA, jB, jC, jD, jE, jF, jG, jH, call1, call2, call3, call4, call5, call6, call7, call8, call13, call15, call16, call17, call19, call21, jI, jJ, jK, jL, jM, jN, jO, jP, jQ, jR, jS, jT, jU, jV, jW, jX, jY, nils, rows, jZ, ja, jb, jc, jd]
      · refine fin _ ?_
        intro h; simp at h; intro h0; rw [h0] at h h2; simp at h h2; omega
      · refine fin _ ?_
        intro h h0; rw [h0] at h1 h2; simp at h1 h2; omega
    · exact fin false (by simp)
theorem s_l22Replace_ex (b : Book) (s : Svc) (a : Act) (ix : List Nat) (hb : Bnd b) (ho : Own b) (ha : ActW a) (hl : ix.length ≤ 200) (hxm : ∀ i, i ∈ ix → i < b.cpys.length) : ∃ a' : Act, s_l22Replace (b.e ++ s.e ++ a.e ++ [.l (ix.map ixE)]) = some a'.e ∧ ActW a' := by
  obtain ⟨lv, e0, hlv, hlm⟩ := s_l22Live_ex b s.name hb
  obtain ⟨jx, e1, hj, hjm⟩ := s_l22May_ex b ix hb ho hl hxm
  obtain ⟨en, e3, hen, hen1⟩ := s_l22First_ex b s jx hb hj hjm
  simp only [Book.e, Svc.e, Cpy.e, Brt.e, Act.e, Wld.e, Ev1.e, jA, jB, jC, jD, jE, jF, jG, jH, call1, call2, call3, call4, call5, call6, call7, call8, call13, call15, call16, call17, call19, call21, jI, jJ, jK, jL, jM, jN, jO, jP, jQ, jR, jS, jT, jU, jV, jW, jX, jY, nils, rows, jZ, ja, jb, jc, jd] at e0 e1 e3
  simp only [s_l22Replace, s_l22Replace.d1, Book.e, Svc.e, Cpy.e, Brt.e, Act.e, Wld.e, Ev1.e, jA, jB, jC, jD, jE, jF, jG, jH, call1, call2, call3, call4, call5, call6, call7, call8, call13, call15, call16, call17, call19, call21, jI, jJ, jK, jL, jM, jN, jO, jP, jQ, jR, jS, jT, jU, jV, jW, jX, jY, nils, rows, jZ, ja, jb, jc, jd, e0, e1, e3]
  cases ((ix.length : Int) == 0) <;> simp only [jA, jB, jC, jD, jE, jF, jG, jH, call1, call2, call3, call4, call5, call6, call7, call8, call13, call15, call16, call17, call19, call21, jI, jJ, jK, jL, jM, jN, jO, jP, jQ, jR, jS, jT, jU, jV, jW, jX, jY, nils, rows, jZ, ja, jb, jc, jd]
  · cases decide ((lv.length : Int) < s.want) <;> simp only [jA, jB, jC, jD, jE, jF, jG, jH, call1, call2, call3, call4, call5, call6, call7, call8, call13, call15, call16, call17, call19, call21, jI, jJ, jK, jL, jM, jN, jO, jP, jQ, jR, jS, jT, jU, jV, jW, jX, jY, nils, rows, jZ, ja, jb, jc, jd]
    · cases decide ((lv.length : Int) < w64 (s.want + s.over)) <;> simp only [jA, jB, jC, jD, jE, jF, jG, jH, call1, call2, call3, call4, call5, call6, call7, call8, call13, call15, call16, call17, call19, call21, jI, jJ, jK, jL, jM, jN, jO, jP, jQ, jR, jS, jT, jU, jV, jW, jX, jY, nils, rows, jZ, ja, jb, jc, jd]
      · exact ⟨{ a with ends := en }, rfl, ⟨ha.s, by simp only; omega⟩⟩
      · exact ⟨{ a with create := 1 }, rfl, ⟨ha.s, ha.n⟩⟩
    · exact ⟨a, rfl, ha⟩
  · exact ⟨a, rfl, ha⟩
def desired (s : Svc) : Int :=
  let d := w64 ((w64 (w64 (s.load + s.per) - 1)).tdiv s.per)
  bif decide (d < s.least) then bif decide (s.least > s.most) then s.most else s.least else bif decide (d > s.most) then s.most else d
theorem s_l22Desired_eq (s : Svc) (h : s.per ≠ 0) : s_l22Desired s.e = some [.i (desired s)] := by
  have h' : (s.per != 0) = true := by simp [h]
  simp only [s_l22Desired, s_l22Desired.d1, Book.e, Svc.e, Cpy.e, Brt.e, Act.e, Wld.e, Ev1.e, jA, jB, jC, jD, jE, jF, jG, jH, call1, call2, call3, call4, call5, call6, call7, call8, call13, call15, call16, call17, call19, call21, jI, jJ, jK, jL, jM, jN, jO, jP, jQ, jR, jS, jT, jU, jV, jW, jX, jY, nils, rows, jZ, ja, jb, jc, jd, h', desired]
  repeat' (rw [Bool.cond_eq_ite]; split)
  all_goals simp_all
theorem s_l22Scaler_ex (s : Svc) (a : Act) (ha : ActW a) (h : s.per ≠ 0) : ∃ a' : Act, s_l22Scaler (s.e ++ a.e) = some a'.e ∧ ActW a' := by
  have e0 := s_l22Desired_eq s h
  simp only [Book.e, Svc.e, Cpy.e, Brt.e, Act.e, Wld.e, Ev1.e, jA, jB, jC, jD, jE, jF, jG, jH, call1, call2, call3, call4, call5, call6, call7, call8, call13, call15, call16, call17, call19, call21, jI, jJ, jK, jL, jM, jN, jO, jP, jQ, jR, jS, jT, jU, jV, jW, jX, jY, nils, rows, jZ, ja, jb, jc, jd] at e0
  have key : ∃ (x y : Int) (z : Bool), s_l22Scaler (s.e ++ a.e) = some [.s a.svc, .i a.seen, .i a.create, .i x, .i y, .b z, .l (a.ends.map enE), .b a.drop] := by
    simp only [s_l22Scaler, s_l22Scaler.d2, Book.e, Svc.e, Cpy.e, Brt.e, Act.e, Wld.e, Ev1.e, jA, jB, jC, jD, jE, jF, jG, jH, call1, call2, call3, call4, call5, call6, call7, call8, call13, call15, call16, call17, call19, call21, jI, jJ, jK, jL, jM, jN, jO, jP, jQ, jR, jS, jT, jU, jV, jW, jX, jY, nils, rows, jZ, ja, jb, jc, jd, e0]
    repeat' (rw [Bool.cond_eq_ite]; split <;> try simp only [jA, jB, jC, jD, jE, jF, jG, jH, call1, call2, call3, call4, call5, call6, call7, call8, call13, call15, call16, call17, call19, call21, jI, jJ, jK, jL, jM, jN, jO, jP, jQ, jR, jS, jT, jU, jV, jW, jX, jY, nils, rows, jZ, ja, jb, jc, jd, s_l22Scaler.d1])
    all_goals exact ⟨_, _, _, rfl⟩
  obtain ⟨x, y, z, hk⟩ := key
  exact ⟨{ a with want := x, cool := y, scale := z }, hk, ⟨ha.s, ha.n⟩⟩
end Go.Ev
namespace Go.Ev
theorem s_l22Act_ex (k : Int) (b : Book) (s : Svc) (hb : Bnd b) (ho : Own b) (hs : s.name.size < 4611686018427387904) (hw : 0 ≤ s.want) : ∃ a' : Act, s_l22Act (.i k :: (b.e ++ s.e)) = some a'.e ∧ ActW a' := by
  obtain ⟨x1, e1, l1, m1⟩ := s_l22Some_ex b s k hb
  obtain ⟨n1, e2, l2⟩ := s_l22Ends_ex b x1 hb l1 m1
  obtain ⟨lv, e3, l3, m3⟩ := s_l22Live_ex b s.name hb
  obtain ⟨n2, e4, l4⟩ := s_l22Ends_ex b lv hb (by have := hb.c; omega) m3
  obtain ⟨c1, c2, c3, c4, c5, e5⟩ := s_l19Count_ex b s.name hb
  have h0 : ActW ⟨s.name, s.ver, 0, 0, 0, false, [], false⟩ := ⟨hs, Nat.zero_le _⟩
  obtain ⟨a1, e6, w1⟩ := s_l22Counter_ex b s ⟨s.name, s.ver, 0, 0, 0, false, [], false⟩ hb ho h0 hw
  obtain ⟨a2, e7, w2⟩ := s_l22Replace_ex b s ⟨s.name, s.ver, 0, 0, 0, false, [], false⟩ x1 hb ho h0 l1 m1
  obtain ⟨x2, e8, l8, m8⟩ := s_l22Some_ex b s 2 hb
  simp only [Book.e, Svc.e, Cpy.e, Brt.e, Act.e, Wld.e, Ev1.e, jA, jB, jC, jD, jE, jF, jG, jH, call1, call2, call3, call4, call5, call6, call7, call8, call13, call15, call16, call17, call19, call21, jI, jJ, jK, jL, jM, jN, jO, jP, jQ, jR, jS, jT, jU, jV, jW, jX, jY, nils, rows, jZ, ja, jb, jc, jd, List.map_nil] at e1 e2 e3 e4 e5 e6 e7 e8
  simp only [s_l22Act, s_l22Act.d1, s_l22Live_v1_same, s_l22Some_v1_same, Book.e, Svc.e, Cpy.e, Brt.e, Act.e, Wld.e, Ev1.e, jA, jB, jC, jD, jE, jF, jG, jH, call1, call2, call3, call4, call5, call6, call7, call8, call13, call15, call16, call17, call19, call21, jI, jJ, jK, jL, jM, jN, jO, jP, jQ, jR, jS, jT, jU, jV, jW, jX, jY, nils, rows, jZ, ja, jb, jc, jd, e1, e2, e3, e4, e5, e6, e7, e8]
  cases k == 3 <;> simp only [jA, jB, jC, jD, jE, jF, jG, jH, call1, call2, call3, call4, call5, call6, call7, call8, call13, call15, call16, call17, call19, call21, jI, jJ, jK, jL, jM, jN, jO, jP, jQ, jR, jS, jT, jU, jV, jW, jX, jY, nils, rows, jZ, ja, jb, jc, jd]
  · cases hg : s.gone <;> simp only [jA, jB, jC, jD, jE, jF, jG, jH, call1, call2, call3, call4, call5, call6, call7, call8, call13, call15, call16, call17, call19, call21, jI, jJ, jK, jL, jM, jN, jO, jP, jQ, jR, jS, jT, jU, jV, jW, jX, jY, nils, rows, jZ, ja, jb, jc, jd]
    · cases k == 1 <;> simp only [jA, jB, jC, jD, jE, jF, jG, jH, call1, call2, call3, call4, call5, call6, call7, call8, call13, call15, call16, call17, call19, call21, jI, jJ, jK, jL, jM, jN, jO, jP, jQ, jR, jS, jT, jU, jV, jW, jX, jY, nils, rows, jZ, ja, jb, jc, jd]
      · cases k == 2 <;> simp only [jA, jB, jC, jD, jE, jF, jG, jH, call1, call2, call3, call4, call5, call6, call7, call8, call13, call15, call16, call17, call19, call21, jI, jJ, jK, jL, jM, jN, jO, jP, jQ, jR, jS, jT, jU, jV, jW, jX, jY, nils, rows, jZ, ja, jb, jc, jd]
        · cases k == 6 <;> simp only [jA, jB, jC, jD, jE, jF, jG, jH, call1, call2, call3, call4, call5, call6, call7, call8, call13, call15, call16, call17, call19, call21, jI, jJ, jK, jL, jM, jN, jO, jP, jQ, jR, jS, jT, jU, jV, jW, jX, jY, nils, rows, jZ, ja, jb, jc, jd]
          · cases k == 4 <;> simp only [jA, jB, jC, jD, jE, jF, jG, jH, call1, call2, call3, call4, call5, call6, call7, call8, call13, call15, call16, call17, call19, call21, jI, jJ, jK, jL, jM, jN, jO, jP, jQ, jR, jS, jT, jU, jV, jW, jX, jY, nils, rows, jZ, ja, jb, jc, jd]
            · exact ⟨⟨s.name, s.ver, 0, 0, 0, false, [], false⟩, rfl, h0⟩
            · by_cases hp : s.per > 0
              · obtain ⟨a3, e9, w9⟩ := s_l22Scaler_ex s ⟨s.name, s.ver, 0, 0, 0, false, [], false⟩ h0 (by omega)
                simp only [Book.e, Svc.e, Cpy.e, Brt.e, Act.e, Wld.e, Ev1.e, jA, jB, jC, jD, jE, jF, jG, jH, call1, call2, call3, call4, call5, call6, call7, call8, call13, call15, call16, call17, call19, call21, jI, jJ, jK, jL, jM, jN, jO, jP, jQ, jR, jS, jT, jU, jV, jW, jX, jY, nils, rows, jZ, ja, jb, jc, jd, List.map_nil, hg] at e9
                simp only [hp, jA, jB, jC, jD, jE, jF, jG, jH, call1, call2, call3, call4, call5, call6, call7, call8, call13, call15, call16, call17, call19, call21, jI, jJ, jK, jL, jM, jN, jO, jP, jQ, jR, jS, jT, jU, jV, jW, jX, jY, nils, rows, jZ, ja, jb, jc, jd, e9]
                exact ⟨a3, rfl, w9⟩
              · simp only [hp, jA, jB, jC, jD, jE, jF, jG, jH, call1, call2, call3, call4, call5, call6, call7, call8, call13, call15, call16, call17, call19, call21, jI, jJ, jK, jL, jM, jN, jO, jP, jQ, jR, jS, jT, jU, jV, jW, jX, jY, nils, rows, jZ, ja, jb, jc, jd]
                exact ⟨⟨s.name, s.ver, 0, 0, 0, false, [], false⟩, rfl, h0⟩
          · cases ((x2.length : Int) == 0) <;> simp only [jA, jB, jC, jD, jE, jF, jG, jH, call1, call2, call3, call4, call5, call6, call7, call8, call13, call15, call16, call17, call19, call21, jI, jJ, jK, jL, jM, jN, jO, jP, jQ, jR, jS, jT, jU, jV, jW, jX, jY, nils, rows, jZ, ja, jb, jc, jd]
            · exact ⟨⟨s.name, s.ver, 0, 0, 0, false, [], false⟩, rfl, h0⟩
            · exact ⟨a2, rfl, w2⟩
        · exact ⟨a2, rfl, w2⟩
      · exact ⟨a1, rfl, w1⟩
    · cases k == 5 <;> simp only [jA, jB, jC, jD, jE, jF, jG, jH, call1, call2, call3, call4, call5, call6, call7, call8, call13, call15, call16, call17, call19, call21, jI, jJ, jK, jL, jM, jN, jO, jP, jQ, jR, jS, jT, jU, jV, jW, jX, jY, nils, rows, jZ, ja, jb, jc, jd]
      · exact ⟨⟨s.name, s.ver, 0, 0, 0, false, [], false⟩, rfl, h0⟩
      · exact ⟨⟨s.name, s.ver, 0, 0, 0, false, n2, _⟩, rfl, ⟨hs, l4⟩⟩
  · exact ⟨⟨s.name, s.ver, 0, 0, 0, false, n1, false⟩, rfl, ⟨hs, l2⟩⟩
theorem svcOk_want {s : Svc} {n : Int} (h : svcOk s n = true) : 0 ≤ s.want ∧ s.want ≤ 10 := by
  simp only [svcOk, Bool.and_eq_true, within, decide_eq_true_eq] at h
  exact ⟨h.1.1.1.1.2.1, h.1.1.1.1.2.2⟩
theorem validB_svc {b : Book} (h : validB b = true) : ∀ s, s ∈ b.svcs → svcOk s b.now = true := by
  simp only [validB, Bool.and_eq_true] at h
  exact chainOk_mem h.1.1.2
theorem s_StewAsk_ex (k : Int) (b : Book) (hb : Bnd b) : ∃ ac : List Act, s_StewAsk (.i k :: b.e) = some [.l (ac.map Act.e)] ∧ ac.length ≤ 8 ∧ ∀ a, a ∈ ac → ActW a := by
  have e1 := s_StewValid_eq b hb.small hb.w.toNames
  simp only [Book.e, Svc.e, Cpy.e, Brt.e, Act.e, Wld.e, Ev1.e, jA, jB, jC, jD, jE, jF, jG, jH, call1, call2, call3, call4, call5, call6, call7, call8, call13, call15, call16, call17, call19, call21, jI, jJ, jK, jL, jM, jN, jO, jP, jQ, jR, jS, jT, jU, jV, jW, jX, jY, nils, rows, jZ, ja, jb, jc, jd] at e1
  simp only [s_StewAsk, s_StewAsk.d4, Book.e, Svc.e, Cpy.e, Brt.e, Act.e, Wld.e, Ev1.e, jA, jB, jC, jD, jE, jF, jG, jH, call1, call2, call3, call4, call5, call6, call7, call8, call13, call15, call16, call17, call19, call21, jI, jJ, jK, jL, jM, jN, jO, jP, jQ, jR, jS, jT, jU, jV, jW, jX, jY, nils, rows, jZ, ja, jb, jc, jd, e1]
  cases hv : validB b
  · exact ⟨[], rfl, by simp, by simp⟩
  · have ho := validB_own hv
    have L : ∃ o, lim (fun xs => s_StewAsk.d2 (xs.getD 0 .nil) (xs.getD 1 .nil) (xs.getD 2 .nil) (xs.getD 3 .nil) (xs.getD 4 .nil) (xs.getD 5 .nil) (xs.getD 6 .nil)) (.i k :: .i 0 :: (b.e ++ [.l []])) = some o ∧ ∃ ac : List Act, o = .brk 0 [.l (ac.map Act.e)] ∧ ac.length ≤ b.svcs.length ∧ ∀ a, a ∈ ac → ActW a := by
      refine lim_exs (fun a : List Act × Nat => .i k :: .i (a.2 : Nat) :: (b.e ++ [.l (a.1.map Act.e)])) (fun a => b.svcs.length - a.2) (fun a => a.2 ≤ b.svcs.length ∧ a.1.length ≤ a.2 ∧ ∀ x, x ∈ a.1 → ActW x) _ ([], 0) ⟨Nat.zero_le _, Nat.zero_le _, by simp⟩ ?_
      rintro ⟨ac, i⟩ ⟨hi, hx, hm⟩
      simp only at hi hx hm
      have hs8 := hb.s
      have w1 : w64 ((i : Int) + 1) = (i : Int) + 1 := w64_of (by omega) (by omega)
      by_cases hlt : i < b.svcs.length
      · left
        obtain ⟨a, e2, ha⟩ := s_l22Act_ex k b b.svcs[i] hb ho (hb.w.s _ (List.getElem_mem hlt)) (svcOk_want (validB_svc hv _ (List.getElem_mem hlt))).1
        simp only [Book.e, Svc.e, Cpy.e, Brt.e, Act.e, Wld.e, Ev1.e, jA, jB, jC, jD, jE, jF, jG, jH, call1, call2, call3, call4, call5, call6, call7, call8, call13, call15, call16, call17, call19, call21, jI, jJ, jK, jL, jM, jN, jO, jP, jQ, jR, jS, jT, jU, jV, jW, jX, jY, nils, rows, jZ, ja, jb, jc, jd] at e2
        have g1 : (b.svcs.map Svc.e).getD i [] = b.svcs[i].e := getD_map_lt Svc.e hlt []
        have p1 : (i : Int) < (b.svcs.length : Int) := by omega
        have p3 : ac.length + 1 ≤ 4294967296 := by omega
        have fin : ∀ v : Bool, ∃ jx : List Act, s_StewAsk.d1 (.i k) (.i (i : Nat)) (.b v) (.i b.now) (.l (b.svcs.map Svc.e)) (.l (b.cpys.map Cpy.e)) (.l (b.brts.map Brt.e)) (.l (ac.map Act.e)) (.s a.svc) (.i a.seen) (.i a.create) (.i a.want) (.i a.cool) (.b a.scale) (.l (a.ends.map enE)) (.b a.drop) = some (.again (.i k :: .i ((i + 1 : Nat) : Int) :: (b.e ++ [.l (jx.map Act.e)]))) ∧ jx.length ≤ i + 1 ∧ ∀ x, x ∈ jx → ActW x := by
          intro v
          cases v
          · exact ⟨ac, by simp only [s_StewAsk.d1, jA, jB, jC, jD, jE, jF, jG, jH, call1, call2, call3, call4, call5, call6, call7, call8, call13, call15, call16, call17, call19, call21, jI, jJ, jK, jL, jM, jN, jO, jP, jQ, jR, jS, jT, jU, jV, jW, jX, jY, nils, rows, jZ, ja, jb, jc, jd, w1]; rfl, by omega, hm⟩
          · refine ⟨ac ++ [a], by simp only [s_StewAsk.d1, jA, jB, jC, jD, jE, jF, jG, jH, call1, call2, call3, call4, call5, call6, call7, call8, call13, call15, call16, call17, call19, call21, jI, jJ, jK, jL, jM, jN, jO, jP, jQ, jR, jS, jT, jU, jV, jW, jX, jY, nils, rows, jZ, ja, jb, jc, jd, w1, p3, List.map_append, List.map_cons, List.map_nil]; rfl, by simp; omega, fun x hx => ?_⟩
            rcases List.mem_append.1 hx with h | h
            · exact hm x h
            · simp at h; subst h; exact ha
        have step : ∃ jx : List Act, s_StewAsk.d2 (.i k) (.i (i : Nat)) (.i b.now) (.l (b.svcs.map Svc.e)) (.l (b.cpys.map Cpy.e)) (.l (b.brts.map Brt.e)) (.l (ac.map Act.e)) = some (.again (.i k :: .i ((i + 1 : Nat) : Int) :: (b.e ++ [.l (jx.map Act.e)]))) ∧ jx.length ≤ i + 1 ∧ ∀ x, x ∈ jx → ActW x := by
          simp only [s_StewAsk.d2, Book.e, Svc.e, Cpy.e, Brt.e, Act.e, Wld.e, Ev1.e, jA, jB, jC, jD, jE, jF, jG, jH, call1, call2, call3, call4, call5, call6, call7, call8, call13, call15, call16, call17, call19, call21, jI, jJ, jK, jL, jM, jN, jO, jP, jQ, jR, jS, jT, jU, jV, jW, jX, jY, nils, rows, jZ, ja, jb, jc, jd, g1, p1, e2]
          repeat' (rw [Bool.cond_eq_ite]; split <;> try simp only [jA, jB, jC, jD, jE, jF, jG, jH, call1, call2, call3, call4, call5, call6, call7, call8, call13, call15, call16, call17, call19, call21, jI, jJ, jK, jL, jM, jN, jO, jP, jQ, jR, jS, jT, jU, jV, jW, jX, jY, nils, rows, jZ, ja, jb, jc, jd])
          all_goals exact fin _
        obtain ⟨jx, h1, h2, h3⟩ := step
        exact ⟨(jx, i + 1), h1, ⟨Nat.succ_le_of_lt hlt, h2, h3⟩, by simp only; omega⟩
      · right
        have : i = b.svcs.length := by omega
        subst this
        exact ⟨.brk 0 [.l (ac.map Act.e)], by simp [s_StewAsk.d2, Book.e], trivial, ac, rfl, hx, hm⟩
    obtain ⟨o, h1, ac, rfl, h2, h3⟩ := L
    refine ⟨ac, ?_, by have := hb.s; omega, h3⟩
    simp only [Book.e, jA, jB] at h1
    simp only [jA, jB, jC, jD, jE, jF, jG, jH, call1, call2, call3, call4, call5, call6, call7, call8, call13, call15, call16, call17, call19, call21, jI, jJ, jK, jL, jM, jN, jO, jP, jQ, jR, jS, jT, jU, jV, jW, jX, jY, nils, rows, jZ, ja, jb, jc, jd]
    erw [h1]
    rfl
theorem s_l21ActOk_ex (a : Act) (ha : ActW a) : ∃ v : Bool, s_l21ActOk a.e = some [.b v] ∧ (v = true → 0 ≤ a.create ∧ a.create ≤ 20) := by
  have hn := ha.n
  have L : ∃ o, lim (fun xs => s_l21ActOk.d1 (xs.getD 0 .nil) (xs.getD 1 .nil) (xs.getD 2 .nil) (xs.getD 3 .nil) (xs.getD 4 .nil) (xs.getD 5 .nil) (xs.getD 6 .nil) (xs.getD 7 .nil) (xs.getD 8 .nil)) (.i 1 :: a.e) = some o ∧ (o = .brk 0 a.e ∨ o = .ret [.b false]) := by
    refine lim_exs (fun i : Nat => .i (i : Nat) :: a.e) (fun i => a.ends.length + 1 - i) (fun i => 1 ≤ i) _ 1 (by omega) ?_
    intro i h1i
    have w1 : i ≤ 200 → w64 ((i : Int) + 1) = (i : Int) + 1 := fun h => w64_of (by omega) (by omega)
    have w2 : i ≤ 200 → w64 ((i : Int) - 1) = ((i - 1 : Nat) : Int) := fun h => by rw [w64_of (by omega) (by omega)]; omega
    by_cases hlt : i < a.ends.length
    · have g1 : (a.ends.map enE).getD i [] = enE a.ends[i] := getD_map_lt enE hlt []
      have g2 : (a.ends.map enE).getD (i - 1) [] = enE a.ends[i - 1] := getD_map_lt enE (by omega) []
      have p1 : (i : Int) < (a.ends.length : Int) := by omega
      have p2 : ((i - 1 : Nat) : Int) < (a.ends.length : Int) := by omega
      show (∃ b, s_l21ActOk.d1 (.i (i : Nat)) (.s a.svc) (.i a.seen) (.i a.create) (.i a.want) (.i a.cool) (.b a.scale) (.l (a.ends.map enE)) (.b a.drop) = _ ∧ _) ∨ ∃ o, s_l21ActOk.d1 (.i (i : Nat)) (.s a.svc) (.i a.seen) (.i a.create) (.i a.want) (.i a.cool) (.b a.scale) (.l (a.ends.map enE)) (.b a.drop) = _ ∧ _
      simp only [s_l21ActOk.d1, jA, jB, jC, jD, jE, jF, jG, jH, call1, call2, call3, call4, call5, call6, call7, call8, call13, call15, call16, call17, call19, call21, jI, jJ, jK, jL, jM, jN, jO, jP, jQ, jR, jS, jT, jU, jV, jW, jX, jY, nils, rows, jZ, ja, jb, jc, jd, w1 (by omega), w2 (by omega), g1, g2, p1, p2, enE]
      cases decide (a.ends[i - 1].1 ≥ a.ends[i].1)
      · left; exact ⟨i + 1, rfl, by omega, by omega⟩
      · right; exact ⟨_, rfl, trivial, .inr rfl⟩
    · right
      have p1 : ¬ (i : Int) < (a.ends.length : Int) := by omega
      refine ⟨.brk 0 a.e, ?_, trivial, .inl rfl⟩
      show s_l21ActOk.d1 (.i (i : Nat)) (.s a.svc) (.i a.seen) (.i a.create) (.i a.want) (.i a.cool) (.b a.scale) (.l (a.ends.map enE)) (.b a.drop) = _
      simp only [s_l21ActOk.d1, jA, jB, jC, jD, jE, jF, jG, jH, call1, call2, call3, call4, call5, call6, call7, call8, call13, call15, call16, call17, call19, call21, jI, jJ, jK, jL, jM, jN, jO, jP, jQ, jR, jS, jT, jU, jV, jW, jX, jY, nils, rows, jZ, ja, jb, jc, jd, p1, Book.e, Svc.e, Cpy.e, Brt.e, Act.e, Wld.e, Ev1.e]
  obtain ⟨o, h1, ho⟩ := L
  simp only [Book.e, Svc.e, Cpy.e, Brt.e, Act.e, Wld.e, Ev1.e, jA, jB, jC, jD, jE, jF, jG, jH, call1, call2, call3, call4, call5, call6, call7, call8, call13, call15, call16, call17, call19, call21, jI, jJ, jK, jL, jM, jN, jO, jP, jQ, jR, jS, jT, jU, jV, jW, jX, jY, nils, rows, jZ, ja, jb, jc, jd] at h1
  have p1 : ¬ ((a.ends.length : Int) > 200) := by omega
  simp only [s_l21ActOk, s_l21ActOk.d4, Book.e, Svc.e, Cpy.e, Brt.e, Act.e, Wld.e, Ev1.e, jA, jB, jC, jD, jE, jF, jG, jH, call1, call2, call3, call4, call5, call6, call7, call8, call13, call15, call16, call17, call19, call21, jI, jJ, jK, jL, jM, jN, jO, jP, jQ, jR, jS, jT, jU, jV, jW, jX, jY, nils, rows, jZ, ja, jb, jc, jd, s_l18In_eq, p1]
  cases hwi : within a.create 0 20 <;> simp only [jA, jB, jC, jD, jE, jF, jG, jH, call1, call2, call3, call4, call5, call6, call7, call8, call13, call15, call16, call17, call19, call21, jI, jJ, jK, jL, jM, jN, jO, jP, jQ, jR, jS, jT, jU, jV, jW, jX, jY, nils, rows, jZ, ja, jb, jc, jd]
  · exact ⟨false, rfl, by simp⟩
  · have hc : 0 ≤ a.create ∧ a.create ≤ 20 := by simpa [within] using hwi
    erw [h1]
    have fin : ∃ v : Bool, finR (s_l21ActOk.d3 (.s a.svc) (.i a.seen) (.i a.create) (.i a.want) (.i a.cool) (.b a.scale) (.l (a.ends.map enE)) (.b a.drop)) = some [.b v] := by
      simp only [s_l21ActOk.d3, jA, jB, jC, jD, jE, jF, jG, jH, call1, call2, call3, call4, call5, call6, call7, call8, call13, call15, call16, call17, call19, call21, jI, jJ, jK, jL, jM, jN, jO, jP, jQ, jR, jS, jT, jU, jV, jW, jX, jY, nils, rows, jZ, ja, jb, jc, jd, s_l18In_eq]
      repeat' (rw [Bool.cond_eq_ite]; split <;> try simp only [jA, jB, jC, jD, jE, jF, jG, jH, call1, call2, call3, call4, call5, call6, call7, call8, call13, call15, call16, call17, call19, call21, jI, jJ, jK, jL, jM, jN, jO, jP, jQ, jR, jS, jT, jU, jV, jW, jX, jY, nils, rows, jZ, ja, jb, jc, jd, s_l21ActOk.d2])
      all_goals exact ⟨_, rfl⟩
    rcases ho with rfl | rfl
    · simp only [Book.e, Svc.e, Cpy.e, Brt.e, Act.e, Wld.e, Ev1.e, jA, jB, jC, jD, jE, jF, jG, jH, call1, call2, call3, call4, call5, call6, call7, call8, call13, call15, call16, call17, call19, call21, jI, jJ, jK, jL, jM, jN, jO, jP, jQ, jR, jS, jT, jU, jV, jW, jX, jY, nils, rows, jZ, ja, jb, jc, jd]
      obtain ⟨v, hv⟩ := fin
      exact ⟨v, hv, fun _ => hc⟩
    · exact ⟨false, rfl, by simp⟩
end Go.Ev
namespace Go.Ev
theorem Bnd.cp {b : Book} (hb : Bnd b) {cs : List Cpy} (h1 : cs.length ≤ 200) (h2 : ∀ c, c ∈ cs → Wc c) : Bnd { b with cpys := cs } := ⟨hb.s, h1, hb.t, ⟨⟨hb.w.s, hb.w.t⟩, h2⟩⟩
theorem apply1 (b : Book) (a : Act) (j : Int) (hb : Bnd b) (ha : ActW a) : ∃ o, lim (fun xs => s_l21Apply.d1 (xs.getD 0 .nil) (xs.getD 1 .nil) (xs.getD 2 .nil) (xs.getD 3 .nil) (xs.getD 4 .nil) (xs.getD 5 .nil) (xs.getD 6 .nil) (xs.getD 7 .nil) (xs.getD 8 .nil) (xs.getD 9 .nil) (xs.getD 10 .nil) (xs.getD 11 .nil) (xs.getD 12 .nil) (xs.getD 13 .nil) (xs.getD 14 .nil) (xs.getD 15 .nil) (xs.getD 16 .nil) (xs.getD 17 .nil)) (.i j :: .i 0 :: (b.e ++ a.e ++ [.i 0, .l [], .l [], .l []])) = some o ∧
    ((o = .brk 0 (.i j :: (b.e ++ a.e ++ [.i 0, .l [], .l [], .l []])) ∧ ∀ i (h : i < a.ends.length), 0 ≤ cpyIx b.cpys a.svc a.ends[i].1) ∨ o = .ret (b.r5 3)) := by
  refine lim_exs (fun i : Nat => .i j :: .i (i : Nat) :: (b.e ++ a.e ++ [.i 0, .l [], .l [], .l []])) (fun i => a.ends.length - i) (fun i => i ≤ a.ends.length ∧ ∀ k (h : k < a.ends.length), k < i → 0 ≤ cpyIx b.cpys a.svc a.ends[k].1) _ 0 ⟨Nat.zero_le _, fun k h h' => absurd h' (Nat.not_lt_zero _)⟩ ?_
  rintro i ⟨hi, hm⟩
  have hn := ha.n
  have w1 : w64 ((i : Int) + 1) = (i : Int) + 1 := w64_of (by omega) (by omega)
  show (∃ k, s_l21Apply.d1 (.i j) (.i (i : Nat)) (.i b.now) (.l (b.svcs.map Svc.e)) (.l (b.cpys.map Cpy.e)) (.l (b.brts.map Brt.e)) (.s a.svc) (.i a.seen) (.i a.create) (.i a.want) (.i a.cool) (.b a.scale) (.l (a.ends.map enE)) (.b a.drop) (.i 0) (.l []) (.l []) (.l []) = _ ∧ _) ∨ ∃ o, s_l21Apply.d1 (.i j) (.i (i : Nat)) (.i b.now) (.l (b.svcs.map Svc.e)) (.l (b.cpys.map Cpy.e)) (.l (b.brts.map Brt.e)) (.s a.svc) (.i a.seen) (.i a.create) (.i a.want) (.i a.cool) (.b a.scale) (.l (a.ends.map enE)) (.b a.drop) (.i 0) (.l []) (.l []) (.l []) = _ ∧ _
  by_cases hlt : i < a.ends.length
  · have g1 : (a.ends.map enE).getD i [] = enE a.ends[i] := getD_map_lt enE hlt []
    have p1 : (i : Int) < (a.ends.length : Int) := by omega
    have e1 := s_l18Copy_eq b a.svc a.ends[i].1 hb.small.c
    simp only [Book.e, Svc.e, Cpy.e, Brt.e, Act.e, Wld.e, Ev1.e, jA, jB, jC, jD, jE, jF, jG, jH, call1, call2, call3, call4, call5, call6, call7, call8, call13, call15, call16, call17, call19, call21, jI, jJ, jK, jL, jM, jN, jO, jP, jQ, jR, jS, jT, jU, jV, jW, jX, jY, nils, rows, jZ, ja, jb, jc, jd] at e1
    simp only [s_l21Apply.d1, jA, jB, jC, jD, jE, jF, jG, jH, call1, call2, call3, call4, call5, call6, call7, call8, call13, call15, call16, call17, call19, call21, jI, jJ, jK, jL, jM, jN, jO, jP, jQ, jR, jS, jT, jU, jV, jW, jX, jY, nils, rows, jZ, ja, jb, jc, jd, p1, g1, enE, e1, w1]
    by_cases hc : cpyIx b.cpys a.svc a.ends[i].1 < 0
    · right
      exact ⟨.ret (b.r5 3), by simp only [hc, jA, jB, jC, jD, jE, jF, jG, jH, call1, call2, call3, call4, call5, call6, call7, call8, call13, call15, call16, call17, call19, call21, jI, jJ, jK, jL, jM, jN, jO, jP, jQ, jR, jS, jT, jU, jV, jW, jX, jY, nils, rows, jZ, ja, jb, jc, jd]; rfl, trivial, .inr rfl⟩
    · left
      refine ⟨i + 1, by simp only [hc, jA, jB, jC, jD, jE, jF, jG, jH, call1, call2, call3, call4, call5, call6, call7, call8, call13, call15, call16, call17, call19, call21, jI, jJ, jK, jL, jM, jN, jO, jP, jQ, jR, jS, jT, jU, jV, jW, jX, jY, nils, rows, jZ, ja, jb, jc, jd]; rfl, ⟨hlt, fun k h h' => ?_⟩, by omega⟩
      by_cases hk : k < i
      · exact hm k h hk
      · have : k = i := by omega
        subst this; omega
  · right
    have p1 : ¬ (i : Int) < (a.ends.length : Int) := by omega
    refine ⟨.brk 0 (.i j :: (b.e ++ a.e ++ [.i 0, .l [], .l [], .l []])), ?_, trivial, .inl ⟨rfl, fun k h => hm k h (by omega)⟩⟩
    simp only [s_l21Apply.d1, Book.e, Svc.e, Cpy.e, Brt.e, Act.e, Wld.e, Ev1.e, jA, jB, jC, jD, jE, jF, jG, jH, call1, call2, call3, call4, call5, call6, call7, call8, call13, call15, call16, call17, call19, call21, jI, jJ, jK, jL, jM, jN, jO, jP, jQ, jR, jS, jT, jU, jV, jW, jX, jY, nils, rows, jZ, ja, jb, jc, jd, p1]
theorem ix_of {b : Book} {nm : Str} {n : Int} (h : 0 ≤ cpyIx b.cpys nm n) : ∃ i : Nat, cpyIx b.cpys nm n = (i : Int) ∧ i < b.cpys.length := by
  rcases ix_cases (fun c : Cpy => sEq c.svc nm && c.num == n) b.cpys with q | ⟨i, hi, q, hp⟩
  · have q' : cpyIx b.cpys nm n = -1 := q
    omega
  · exact ⟨i, q, hi⟩
theorem apply2 (b : Book) (a : Act) (j : Int) (hb : Bnd b) (ha : ActW a) (hx : ∀ i (h : i < a.ends.length), 0 ≤ cpyIx b.cpys a.svc a.ends[i].1) : ∃ o, lim (fun xs => s_l21Apply.d2 (xs.getD 0 .nil) (xs.getD 1 .nil) (xs.getD 2 .nil) (xs.getD 3 .nil) (xs.getD 4 .nil) (xs.getD 5 .nil) (xs.getD 6 .nil) (xs.getD 7 .nil) (xs.getD 8 .nil) (xs.getD 9 .nil) (xs.getD 10 .nil) (xs.getD 11 .nil) (xs.getD 12 .nil) (xs.getD 13 .nil) (xs.getD 14 .nil) (xs.getD 15 .nil) (xs.getD 16 .nil) (xs.getD 17 .nil)) (.i j :: .i 0 :: (b.e ++ a.e ++ [.i 0, .l [], .l [], .l []])) = some o ∧
    (o = .brk 2 (.i j :: (b.e ++ a.e ++ [.i 0, .l [], .l [], .l []])) ∨ o = .ret (b.r5 4)) := by
  refine lim_exs (fun i : Nat => .i j :: .i (i : Nat) :: (b.e ++ a.e ++ [.i 0, .l [], .l [], .l []])) (fun i => a.ends.length - i) (fun i => i ≤ a.ends.length) _ 0 (Nat.zero_le _) ?_
  intro i hi
  have hn := ha.n
  have w1 : w64 ((i : Int) + 1) = (i : Int) + 1 := w64_of (by omega) (by omega)
  show (∃ k, s_l21Apply.d2 (.i j) (.i (i : Nat)) (.i b.now) (.l (b.svcs.map Svc.e)) (.l (b.cpys.map Cpy.e)) (.l (b.brts.map Brt.e)) (.s a.svc) (.i a.seen) (.i a.create) (.i a.want) (.i a.cool) (.b a.scale) (.l (a.ends.map enE)) (.b a.drop) (.i 0) (.l []) (.l []) (.l []) = _ ∧ _) ∨ ∃ o, s_l21Apply.d2 (.i j) (.i (i : Nat)) (.i b.now) (.l (b.svcs.map Svc.e)) (.l (b.cpys.map Cpy.e)) (.l (b.brts.map Brt.e)) (.s a.svc) (.i a.seen) (.i a.create) (.i a.want) (.i a.cool) (.b a.scale) (.l (a.ends.map enE)) (.b a.drop) (.i 0) (.l []) (.l []) (.l []) = _ ∧ _
  by_cases hlt : i < a.ends.length
  · have g1 : (a.ends.map enE).getD i [] = enE a.ends[i] := getD_map_lt enE hlt []
    have p1 : (i : Int) < (a.ends.length : Int) := by omega
    have e1 := s_l18Copy_eq b a.svc a.ends[i].1 hb.small.c
    obtain ⟨k, hk, hk'⟩ := ix_of (hx i hlt)
    have p2 : (k : Int) < (b.cpys.length : Int) := by omega
    have g2 : (b.cpys.map Cpy.e).getD k [] = b.cpys[k].e := getD_map_lt Cpy.e hk' []
    simp only [Book.e, Svc.e, Cpy.e, Brt.e, Act.e, Wld.e, Ev1.e, jA, jB, jC, jD, jE, jF, jG, jH, call1, call2, call3, call4, call5, call6, call7, call8, call13, call15, call16, call17, call19, call21, jI, jJ, jK, jL, jM, jN, jO, jP, jQ, jR, jS, jT, jU, jV, jW, jX, jY, nils, rows, jZ, ja, jb, jc, jd, hk] at e1
    simp only [s_l21Apply.d2, Book.e, Svc.e, Cpy.e, Brt.e, Act.e, Wld.e, Ev1.e, jA, jB, jC, jD, jE, jF, jG, jH, call1, call2, call3, call4, call5, call6, call7, call8, call13, call15, call16, call17, call19, call21, jI, jJ, jK, jL, jM, jN, jO, jP, jQ, jR, jS, jT, jU, jV, jW, jX, jY, nils, rows, jZ, ja, jb, jc, jd, p1, g1, enE, e1, w1, p2, g2]
    cases (b.cpys[k].ver != a.ends[i].2)
    · left
      exact ⟨i + 1, rfl, hlt, by omega⟩
    · right
      exact ⟨.ret (b.r5 4), rfl, trivial, .inr rfl⟩
  · right
    have p1 : ¬ (i : Int) < (a.ends.length : Int) := by omega
    refine ⟨.brk 2 (.i j :: (b.e ++ a.e ++ [.i 0, .l [], .l [], .l []])), ?_, trivial, .inl rfl⟩
    simp only [s_l21Apply.d2, Book.e, Svc.e, Cpy.e, Brt.e, Act.e, Wld.e, Ev1.e, jA, jB, jC, jD, jE, jF, jG, jH, call1, call2, call3, call4, call5, call6, call7, call8, call13, call15, call16, call17, call19, call21, jI, jJ, jK, jL, jM, jN, jO, jP, jQ, jR, jS, jT, jU, jV, jW, jX, jY, nils, rows, jZ, ja, jb, jc, jd, p1]
theorem apply3 (b : Book) (a : Act) (j v : Int) (hb : Bnd b) (ha : ActW a) (hs : (svcOf b a.svc).isSome) : ∃ o, lim (fun xs => s_l21Apply.d3 (xs.getD 0 .nil) (xs.getD 1 .nil) (xs.getD 2 .nil) (xs.getD 3 .nil) (xs.getD 4 .nil) (xs.getD 5 .nil) (xs.getD 6 .nil) (xs.getD 7 .nil) (xs.getD 8 .nil) (xs.getD 9 .nil) (xs.getD 10 .nil) (xs.getD 11 .nil) (xs.getD 12 .nil) (xs.getD 13 .nil) (xs.getD 14 .nil) (xs.getD 15 .nil) (xs.getD 16 .nil) (xs.getD 17 .nil) (xs.getD 18 .nil) (xs.getD 19 .nil) (xs.getD 20 .nil) (xs.getD 21 .nil) (xs.getD 22 .nil)) (.i j :: .i v :: .i 0 :: (b.e ++ a.e ++ [.i 0, .i b.now, .l [], .l [], .l [], .l (b.svcs.map Svc.e), .l (b.cpys.map Cpy.e), .l (b.brts.map Brt.e)])) = some o ∧
    ((∃ cs : List Cpy, o = .brk 4 (.i j :: .i v :: (b.e ++ a.e ++ [.i 0, .i b.now, .l [], .l [], .l [], .l (b.svcs.map Svc.e), .l (cs.map Cpy.e), .l (b.brts.map Brt.e)])) ∧ cs.length = b.cpys.length ∧ ∀ c, c ∈ cs → Wc c) ∨ o = .ret (b.r5 5)) := by
  refine lim_exs (fun q : List Cpy × Nat => .i j :: .i v :: .i (q.2 : Nat) :: (b.e ++ a.e ++ [.i 0, .i b.now, .l [], .l [], .l [], .l (b.svcs.map Svc.e), .l (q.1.map Cpy.e), .l (b.brts.map Brt.e)])) (fun q => a.ends.length - q.2) (fun q => q.2 ≤ a.ends.length ∧ q.1.length = b.cpys.length ∧ ∀ c, c ∈ q.1 → Wc c) _ (b.cpys, 0) ⟨Nat.zero_le _, rfl, hb.w.c⟩ ?_
  rintro ⟨cs, i⟩ ⟨hi, hcl, hcw⟩
  simp only at hi hcl hcw
  have hn := ha.n
  have w1 : w64 ((i : Int) + 1) = (i : Int) + 1 := w64_of (by omega) (by omega)
  show (∃ k, s_l21Apply.d3 (.i j) (.i v) (.i (i : Nat)) (.i b.now) (.l (b.svcs.map Svc.e)) (.l (b.cpys.map Cpy.e)) (.l (b.brts.map Brt.e)) (.s a.svc) (.i a.seen) (.i a.create) (.i a.want) (.i a.cool) (.b a.scale) (.l (a.ends.map enE)) (.b a.drop) (.i 0) (.i b.now) (.l []) (.l []) (.l []) (.l (b.svcs.map Svc.e)) (.l (cs.map Cpy.e)) (.l (b.brts.map Brt.e)) = _ ∧ _) ∨ ∃ o, s_l21Apply.d3 (.i j) (.i v) (.i (i : Nat)) (.i b.now) (.l (b.svcs.map Svc.e)) (.l (b.cpys.map Cpy.e)) (.l (b.brts.map Brt.e)) (.s a.svc) (.i a.seen) (.i a.create) (.i a.want) (.i a.cool) (.b a.scale) (.l (a.ends.map enE)) (.b a.drop) (.i 0) (.i b.now) (.l []) (.l []) (.l []) (.l (b.svcs.map Svc.e)) (.l (cs.map Cpy.e)) (.l (b.brts.map Brt.e)) = _ ∧ _
  by_cases hlt : i < a.ends.length
  · have g1 : (a.ends.map enE).getD i [] = enE a.ends[i] := getD_map_lt enE hlt []
    have p1 : (i : Int) < (a.ends.length : Int) := by omega
    have hb' : Bnd { b with cpys := cs } := hb.cp (by have := hb.c; omega) hcw
    obtain ⟨u, e1, hu⟩ := s_l20MayEnd_ex { b with cpys := cs } a.svc a.ends[i].1 hb' (.inr hs)
    have e2 := s_l18Copy_eq { b with cpys := cs } a.svc a.ends[i].1 hb'.small.c
    simp only [Book.e, Svc.e, Cpy.e, Brt.e, Act.e, Wld.e, Ev1.e, jA, jB, jC, jD, jE, jF, jG, jH, call1, call2, call3, call4, call5, call6, call7, call8, call13, call15, call16, call17, call19, call21, jI, jJ, jK, jL, jM, jN, jO, jP, jQ, jR, jS, jT, jU, jV, jW, jX, jY, nils, rows, jZ, ja, jb, jc, jd] at e1 e2
    simp only [s_l21Apply.d3, jA, jB, jC, jD, jE, jF, jG, jH, call1, call2, call3, call4, call5, call6, call7, call8, call13, call15, call16, call17, call19, call21, jI, jJ, jK, jL, jM, jN, jO, jP, jQ, jR, jS, jT, jU, jV, jW, jX, jY, nils, rows, jZ, ja, jb, jc, jd, p1, g1, enE, e1, e2, w1]
    cases u
    · right
      exact ⟨.ret (b.r5 5), rfl, trivial, .inr rfl⟩
    · left
      obtain ⟨k, hk, hk'⟩ := ix_of (b := { b with cpys := cs }) (hu rfl)
      simp only at hk hk'
      have p2 : (k : Int) < (cs.length : Int) := by omega
      have g2 : (cs.map Cpy.e).getD k [] = cs[k].e := getD_map_lt Cpy.e hk' []
      have g3 : ((cs.set k { cs[k] with ending := true }).map Cpy.e).getD k [] = ({ cs[k] with ending := true } : Cpy).e := by
        have : k < (cs.set k { cs[k] with ending := true }).length := by simpa using hk'
        rw [getD_map_lt Cpy.e this]; simp
      refine ⟨((cs.set k { cs[k] with ending := true }).set k { cs[k] with ending := true, ver := v }, i + 1), ?_, ⟨hlt, by simpa using hcl, fun c hc => ?_⟩, by simp only; omega⟩
      · simp only [hk, jA, jB, jC, jD, jE, jF, jG, jH, call1, call2, call3, call4, call5, call6, call7, call8, call13, call15, call16, call17, call19, call21, jI, jJ, jK, jL, jM, jN, jO, jP, jQ, jR, jS, jT, jU, jV, jW, jX, jY, nils, rows, jZ, ja, jb, jc, jd, p2, g2, setCs_ending, set_cpy, g3, setCs_ver, List.length_set]
        rfl
      · rcases List.mem_or_eq_of_mem_set hc with h | h
        · rcases List.mem_or_eq_of_mem_set h with h' | h'
          · exact hcw c h'
          · subst h'; exact hcw cs[k] (List.getElem_mem hk')
        · subst h; exact hcw cs[k] (List.getElem_mem hk')
  · right
    have p1 : ¬ (i : Int) < (a.ends.length : Int) := by omega
    refine ⟨.brk 4 (.i j :: .i v :: (b.e ++ a.e ++ [.i 0, .i b.now, .l [], .l [], .l [], .l (b.svcs.map Svc.e), .l (cs.map Cpy.e), .l (b.brts.map Brt.e)])), ?_, trivial, .inl ⟨cs, rfl, hcl, hcw⟩⟩
    simp only [s_l21Apply.d3, Book.e, Svc.e, Cpy.e, Brt.e, Act.e, Wld.e, Ev1.e, jA, jB, jC, jD, jE, jF, jG, jH, call1, call2, call3, call4, call5, call6, call7, call8, call13, call15, call16, call17, call19, call21, jI, jJ, jK, jL, jM, jN, jO, jP, jQ, jR, jS, jT, jU, jV, jW, jX, jY, nils, rows, jZ, ja, jb, jc, jd, p1]
end Go.Ev
