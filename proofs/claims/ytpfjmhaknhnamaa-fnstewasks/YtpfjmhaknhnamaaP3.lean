/- Proved here: the law FnStewAsks of the given program answers true at every input, and leaves the input as it was; no condition. This text: lemmas on the way (an evaluator of the program's code, sound once for all; the functions it prints; plain proofs on these). -/
import Derived.Test.YtpfjmhaknhnamaaP2
set_option linter.all false
set_option autoImplicit false
set_option maxRecDepth 100000
namespace Go.Ev
open Go.Proofs
noncomputable section
def s_l23Event.d1 (t6 b2000_0 b2000_1 b3_0 b3_1 b3_2 b3_3 b4_0 b4_1 b4_2 b4_3 b4_4 b4_5 b4_6 b4_7 b4_8 b4_9 b4_10 b4_11 b4_12 b4_13 b4_14 b4_15 b4_16 : C) : R := (bif (decide (t6.I < (b3_1.L.length : Int))) then (call3 (s_l18Rd_pick [.i 2, b2000_0, b2000_1]) fun y4_t0 y4_b2000_0 y4_b2000_1 => (bif (y4_t0.I == 0) then (bif (decide (0 ≤ t6.I)) then (bif (decide (t6.I < (b3_1.L.length : Int))) then (some (.ret [.i 2, ((b3_1.L.getD t6.I.toNat []).getD 0 .nil), ((b3_1.L.getD t6.I.toNat []).getD 1 .nil), ((b3_1.L.getD t6.I.toNat []).getD 2 .nil), .i (w64 (((b3_1.L.getD t6.I.toNat []).getD 3 .nil).I + 1)), ((b3_1.L.getD t6.I.toNat []).getD 4 .nil), ((b3_1.L.getD t6.I.toNat []).getD 5 .nil), ((b3_1.L.getD t6.I.toNat []).getD 6 .nil), ((b3_1.L.getD t6.I.toNat []).getD 7 .nil), ((b3_1.L.getD t6.I.toNat []).getD 8 .nil), ((b3_1.L.getD t6.I.toNat []).getD 9 .nil), ((b3_1.L.getD t6.I.toNat []).getD 10 .nil), ((b3_1.L.getD t6.I.toNat []).getD 11 .nil), ((b3_1.L.getD t6.I.toNat []).getD 12 .nil), .s (bs #[]), .i 0, .b false, y4_b2000_0, y4_b2000_1])) else none) else none) else (some (.again [.i (w64 (t6.I + 1)), y4_b2000_0, y4_b2000_1, b3_0, b3_1, b3_2, b3_3, b4_0, b4_1, b4_2, b4_3, b4_4, b4_5, b4_6, b4_7, b4_8, b4_9, b4_10, b4_11, b4_12, b4_13, b4_14, b4_15, b4_16])))) else (some (.brk 1 [b2000_0, b2000_1, b3_0, b3_1, b3_2, b3_3, b4_0, b4_1, b4_2, b4_3, b4_4, b4_5, b4_6, b4_7, b4_8, b4_9, b4_10, b4_11, b4_12, b4_13, b4_14, b4_15, b4_16])))
def s_l23Event.d2 (b2000_0 b2000_1 b3_0 b3_1 b3_2 b3_3 b4_0 b4_1 b4_2 b4_3 b4_4 b4_5 b4_6 b4_7 b4_8 b4_9 b4_10 b4_11 b4_12 b4_13 b4_14 b4_15 b4_16 : C) : R := (some (.nrm [b2000_0, b2000_1, b3_0, b3_1, b3_2, b3_3, b4_0, b4_1, b4_2, b4_3, b4_4, b4_5, b4_6, b4_7, b4_8, b4_9, b4_10, b4_11, b4_12, b4_13, b4_14, b4_15, b4_16]))
def s_l23Event.d3 (t67 b2000_0 b2000_1 b3_0 b3_1 b3_2 b3_3 b4_0 b4_1 b4_2 b4_3 b4_4 b4_5 b4_6 b4_7 b4_8 b4_9 b4_10 b4_11 b4_12 b4_13 b4_14 b4_15 b4_16 : C) : R := (bif t67.B then (call3 (s_l18Rd_pick [.i 3, b2000_0, b2000_1]) fun y6_t0 y6_b2000_0 y6_b2000_1 => (bif (decide (0 ≤ y6_t0.I)) then (bif (decide (y6_t0.I < ((rows [[.s (bs #[100, 98])], [.s (bs #[119, 101, 98])], [.s (bs #[120, 45, 49])]]).length : Int))) then (call3 (s_l18Rd_pick [.i 60, y6_b2000_0, y6_b2000_1]) fun y7_t0 y7_b2000_0 y7_b2000_1 => (some (.ret [.i 6, .s (bs #[]), .i 0, .b false, .i 0, .i 0, .i 0, .i 0, .i 0, .i 0, .i 0, .i 0, .i 0, .i 0, (((rows [[.s (bs #[100, 98])], [.s (bs #[119, 101, 98])], [.s (bs #[120, 45, 49])]]).getD y6_t0.I.toNat []).getD 0 .nil), y7_t0, .b false, y7_b2000_0, y7_b2000_1]))) else none) else none)) else (some (.nrm [b2000_0, b2000_1, b3_0, b3_1, b3_2, b3_3, b4_0, b4_1, b4_2, b4_3, b4_4, b4_5, b4_6, b4_7, b4_8, b4_9, b4_10, b4_11, b4_12, b4_13, b4_14, b4_15, b4_16])))
def s_l23Event.d4 (t5 t15 t59 b2000_0 b2000_1 b3_0 b3_1 b3_2 b3_3 b4_0 b4_1 b4_2 b4_3 b4_4 b4_5 b4_6 b4_7 b4_8 b4_9 b4_10 b4_11 b4_12 b4_13 b4_14 b4_15 b4_16 : C) : R := (bif t59.B then (call3 (s_l18Rd_pick [.i 3, b2000_0, b2000_1]) fun y5_t0 y5_b2000_0 y5_b2000_1 => (some (.ret [.i 5, .s (bs #[]), .i 0, .b false, .i 0, .i 0, .i 0, .i 0, .i 0, .i 0, .i 0, .i 0, .i 0, .i 0, t5, .i 0, .b (y5_t0.I == 0), y5_b2000_0, y5_b2000_1]))) else (bindNrm (bif (t15.I == 14) then (some (.nrm [.b (t15.I == 14), b2000_0, b2000_1, b3_0, b3_1, b3_2, b3_3, b4_0, b4_1, b4_2, b4_3, b4_4, b4_5, b4_6, b4_7, b4_8, b4_9, b4_10, b4_11, b4_12, b4_13, b4_14, b4_15, b4_16])) else (some (.nrm [.b (t15.I == 15), b2000_0, b2000_1, b3_0, b3_1, b3_2, b3_3, b4_0, b4_1, b4_2, b4_3, b4_4, b4_5, b4_6, b4_7, b4_8, b4_9, b4_10, b4_11, b4_12, b4_13, b4_14, b4_15, b4_16]))) (ap24 s_l23Event.d3)))
def s_l23Event.d5 (t5 t15 t25 b2000_0 b2000_1 b3_0 b3_1 b3_2 b3_3 b4_0 b4_1 b4_2 b4_3 b4_4 b4_5 b4_6 b4_7 b4_8 b4_9 b4_10 b4_11 b4_12 b4_13 b4_14 b4_15 b4_16 : C) : R := (bif t25.B then (call15 (s_l18DrawWish [b2000_0, b2000_1]) fun y3_t0_0 y3_t0_1 y3_t0_2 y3_t0_3 y3_t0_4 y3_t0_5 y3_t0_6 y3_t0_7 y3_t0_8 y3_t0_9 y3_t0_10 y3_t0_11 y3_t0_12 y3_b2000_0 y3_b2000_1 => (some (.ret [.i 2, y3_t0_0, y3_t0_1, y3_t0_2, y3_t0_3, y3_t0_4, y3_t0_5, y3_t0_6, y3_t0_7, y3_t0_8, y3_t0_9, y3_t0_10, y3_t0_11, y3_t0_12, .s (bs #[]), .i 0, .b false, y3_b2000_0, y3_b2000_1]))) else (bif (t15.I == 10) then (bindBlk 1 (lim (ap24 s_l23Event.d1) [.i 0, b2000_0, b2000_1, b3_0, b3_1, b3_2, b3_3, b4_0, b4_1, b4_2, b4_3, b4_4, b4_5, b4_6, b4_7, b4_8, b4_9, b4_10, b4_11, b4_12, b4_13, b4_14, b4_15, b4_16]) (ap23 s_l23Event.d2)) else (bif (t15.I == 11) then (some (.ret [.i 4, .s (bs #[]), .i 0, .b false, .i 0, .i 0, .i 0, .i 0, .i 0, .i 0, .i 0, .i 0, .i 0, .i 0, t5, .i 0, .b false, b2000_0, b2000_1])) else (bindNrm (bif (t15.I == 12) then (some (.nrm [t5, t15, .b (t15.I == 12), b2000_0, b2000_1, b3_0, b3_1, b3_2, b3_3, b4_0, b4_1, b4_2, b4_3, b4_4, b4_5, b4_6, b4_7, b4_8, b4_9, b4_10, b4_11, b4_12, b4_13, b4_14, b4_15, b4_16])) else (some (.nrm [t5, t15, .b (t15.I == 13), b2000_0, b2000_1, b3_0, b3_1, b3_2, b3_3, b4_0, b4_1, b4_2, b4_3, b4_4, b4_5, b4_6, b4_7, b4_8, b4_9, b4_10, b4_11, b4_12, b4_13, b4_14, b4_15, b4_16]))) (ap26 s_l23Event.d4)))))
def s_l23Event.d6 (t5 t15 t16 b2000_0 b2000_1 b3_0 b3_1 b3_2 b3_3 b4_0 b4_1 b4_2 b4_3 b4_4 b4_5 b4_6 b4_7 b4_8 b4_9 b4_10 b4_11 b4_12 b4_13 b4_14 b4_15 b4_16 : C) : R := (bif t16.B then (some (.ret [.i 1, .s (bs #[]), .i 0, .b false, .i 0, .i 0, .i 0, .i 0, .i 0, .i 0, .i 0, .i 0, .i 0, .i 0, .s (bs #[]), .i 0, .b false, b2000_0, b2000_1])) else (bindNrm (bif (t15.I == 7) then (some (.nrm [t5, t15, .b (t15.I == 7), b2000_0, b2000_1, b3_0, b3_1, b3_2, b3_3, b4_0, b4_1, b4_2, b4_3, b4_4, b4_5, b4_6, b4_7, b4_8, b4_9, b4_10, b4_11, b4_12, b4_13, b4_14, b4_15, b4_16])) else (bif (t15.I == 8) then (some (.nrm [t5, t15, .b (t15.I == 8), b2000_0, b2000_1, b3_0, b3_1, b3_2, b3_3, b4_0, b4_1, b4_2, b4_3, b4_4, b4_5, b4_6, b4_7, b4_8, b4_9, b4_10, b4_11, b4_12, b4_13, b4_14, b4_15, b4_16])) else (some (.nrm [t5, t15, .b (t15.I == 9), b2000_0, b2000_1, b3_0, b3_1, b3_2, b3_3, b4_0, b4_1, b4_2, b4_3, b4_4, b4_5, b4_6, b4_7, b4_8, b4_9, b4_10, b4_11, b4_12, b4_13, b4_14, b4_15, b4_16])))) (ap26 s_l23Event.d5)))
def s_l23Event.d7 (t86 b2000_0 b2000_1 b3_0 b3_1 b3_2 b3_3 b4_0 b4_1 b4_2 b4_3 b4_4 b4_5 b4_6 b4_7 b4_8 b4_9 b4_10 b4_11 b4_12 b4_13 b4_14 b4_15 b4_16 : C) : R := (bif t86.B then (call3 (s_l18Rd_pick [.i (b3_2.L.length : Int), b2000_0, b2000_1]) fun y9_t0 y9_b2000_0 y9_b2000_1 => (bif (decide (0 ≤ y9_t0.I)) then (bif (decide (y9_t0.I < (b3_2.L.length : Int))) then (some (.ret [.i 3, .s (bs #[]), .i 0, .b false, .i 0, .i 0, .i 0, .i 0, .i 0, .i 0, .i 0, .i 0, .i 0, .i 0, ((b3_2.L.getD y9_t0.I.toNat []).getD 0 .nil), ((b3_2.L.getD y9_t0.I.toNat []).getD 1 .nil), .b false, y9_b2000_0, y9_b2000_1])) else none) else none)) else (call3 (s_l18Rd_pick [.i 6, b2000_0, b2000_1]) fun y10_t0 y10_b2000_0 y10_b2000_1 => (some (.ret [.i 3, .s (bs #[]), .i 0, .b false, .i 0, .i 0, .i 0, .i 0, .i 0, .i 0, .i 0, .i 0, .i 0, .i 0, .s (bs #[119, 101, 98]), .i (w64 (1 + y10_t0.I)), .b false, y10_b2000_0, y10_b2000_1]))))
def s_l23Event.d8 (b2000_0 b2000_1 b3_0 b3_1 b3_2 b3_3 b4_0 b4_1 b4_2 b4_3 b4_4 b4_5 b4_6 b4_7 b4_8 b4_9 b4_10 b4_11 b4_12 b4_13 b4_14 b4_15 b4_16 : C) : R := (bindNrm (bif (decide ((b3_2.L.length : Int) > 0)) then (call3 (s_l18Rd_pick [.i 8, b2000_0, b2000_1]) fun y8_t0 y8_b2000_0 y8_b2000_1 => (some (.nrm [.b (decide (y8_t0.I > 0)), y8_b2000_0, y8_b2000_1, b3_0, b3_1, b3_2, b3_3, b4_0, b4_1, b4_2, b4_3, b4_4, b4_5, b4_6, b4_7, b4_8, b4_9, b4_10, b4_11, b4_12, b4_13, b4_14, b4_15, b4_16]))) else (some (.nrm [.b false, b2000_0, b2000_1, b3_0, b3_1, b3_2, b3_3, b4_0, b4_1, b4_2, b4_3, b4_4, b4_5, b4_6, b4_7, b4_8, b4_9, b4_10, b4_11, b4_12, b4_13, b4_14, b4_15, b4_16]))) (ap24 s_l23Event.d7))
def s_l23Event.d9 (t1_0 t1_1 t1_2 t1_3 b2000_0 b2000_1 : C) : R := (call3 (s_l18Rd_pick [.i 3, b2000_0, b2000_1]) fun y1_t0 y1_b2000_0 y1_b2000_1 => (bif (decide (0 ≤ y1_t0.I)) then (bif (decide (y1_t0.I < ((rows [[.s (bs #[97])], [.s (bs #[98])], [.s (bs #[99])]]).length : Int))) then (bindNrm (call3 (s_l18Rd_pick [.i 20, y1_b2000_0, y1_b2000_1]) fun y2_t0 y2_b2000_0 y2_b2000_1 => (bindNrm (bif (y2_t0.I == 0) then (some (.nrm [(((rows [[.s (bs #[97])], [.s (bs #[98])], [.s (bs #[99])]]).getD y1_t0.I.toNat []).getD 0 .nil), y2_t0, .b (y2_t0.I == 0), y2_b2000_0, y2_b2000_1, t1_0, t1_1, t1_2, t1_3, .i 0, .s (bs #[]), .i 0, .b false, .i 0, .i 0, .i 0, .i 0, .i 0, .i 0, .i 0, .i 0, .i 0, .i 0, .s (bs #[]), .i 0, .b false])) else (bif (y2_t0.I == 1) then (some (.nrm [(((rows [[.s (bs #[97])], [.s (bs #[98])], [.s (bs #[99])]]).getD y1_t0.I.toNat []).getD 0 .nil), y2_t0, .b (y2_t0.I == 1), y2_b2000_0, y2_b2000_1, t1_0, t1_1, t1_2, t1_3, .i 0, .s (bs #[]), .i 0, .b false, .i 0, .i 0, .i 0, .i 0, .i 0, .i 0, .i 0, .i 0, .i 0, .i 0, .s (bs #[]), .i 0, .b false])) else (bif (y2_t0.I == 2) then (some (.nrm [(((rows [[.s (bs #[97])], [.s (bs #[98])], [.s (bs #[99])]]).getD y1_t0.I.toNat []).getD 0 .nil), y2_t0, .b (y2_t0.I == 2), y2_b2000_0, y2_b2000_1, t1_0, t1_1, t1_2, t1_3, .i 0, .s (bs #[]), .i 0, .b false, .i 0, .i 0, .i 0, .i 0, .i 0, .i 0, .i 0, .i 0, .i 0, .i 0, .s (bs #[]), .i 0, .b false])) else (bif (y2_t0.I == 3) then (some (.nrm [(((rows [[.s (bs #[97])], [.s (bs #[98])], [.s (bs #[99])]]).getD y1_t0.I.toNat []).getD 0 .nil), y2_t0, .b (y2_t0.I == 3), y2_b2000_0, y2_b2000_1, t1_0, t1_1, t1_2, t1_3, .i 0, .s (bs #[]), .i 0, .b false, .i 0, .i 0, .i 0, .i 0, .i 0, .i 0, .i 0, .i 0, .i 0, .i 0, .s (bs #[]), .i 0, .b false])) else (bif (y2_t0.I == 4) then (some (.nrm [(((rows [[.s (bs #[97])], [.s (bs #[98])], [.s (bs #[99])]]).getD y1_t0.I.toNat []).getD 0 .nil), y2_t0, .b (y2_t0.I == 4), y2_b2000_0, y2_b2000_1, t1_0, t1_1, t1_2, t1_3, .i 0, .s (bs #[]), .i 0, .b false, .i 0, .i 0, .i 0, .i 0, .i 0, .i 0, .i 0, .i 0, .i 0, .i 0, .s (bs #[]), .i 0, .b false])) else (bif (y2_t0.I == 5) then (some (.nrm [(((rows [[.s (bs #[97])], [.s (bs #[98])], [.s (bs #[99])]]).getD y1_t0.I.toNat []).getD 0 .nil), y2_t0, .b (y2_t0.I == 5), y2_b2000_0, y2_b2000_1, t1_0, t1_1, t1_2, t1_3, .i 0, .s (bs #[]), .i 0, .b false, .i 0, .i 0, .i 0, .i 0, .i 0, .i 0, .i 0, .i 0, .i 0, .i 0, .s (bs #[]), .i 0, .b false])) else (some (.nrm [(((rows [[.s (bs #[97])], [.s (bs #[98])], [.s (bs #[99])]]).getD y1_t0.I.toNat []).getD 0 .nil), y2_t0, .b (y2_t0.I == 6), y2_b2000_0, y2_b2000_1, t1_0, t1_1, t1_2, t1_3, .i 0, .s (bs #[]), .i 0, .b false, .i 0, .i 0, .i 0, .i 0, .i 0, .i 0, .i 0, .i 0, .i 0, .i 0, .s (bs #[]), .i 0, .b false])))))))) (ap26 s_l23Event.d6))) (ap23 s_l23Event.d8)) else none) else none))
def s_l23Event : List C → Option (List C) := fun xs => finR (ap6 s_l23Event.d9 xs)
def s_l23Event_fs : FS := ⟨2, ⟨[(0, (.pt 2000 0)), (1, z2)], [(2000, z7)]⟩, ⟨[(0, z24)], [(2000, z7)]⟩, [2000], s_l23Event⟩
theorem s_l23Event_ok : FSOk Try.checked.prog T0 84 s_l23Event_fs := okOf base0 (fn := Try.f84) (c := Try.f84.body.getD .skip) s_l23Event_fs (.seq .leaf (.seq .leaf (.seq (.join ⟨[(0, (.pt 2000 0)), (3, (.pt 3 0)), (4, (.pt 4 0))], [(2000, z7), (3, z0), (4, z8)]⟩ (.seq .leaf (.skip (.seq (.join ⟨[(0, (.pt 2000 0)), (3, (.pt 3 0)), (4, (.pt 4 0)), (5, zt), (15, zi), (16, zo)], [(2000, z7), (3, z0), (4, z8)]⟩ .leaf) (.cond .leaf (.seq (.join ⟨[(0, (.pt 2000 0)), (3, (.pt 3 0)), (4, (.pt 4 0)), (5, zt), (15, zi), (25, zo)], [(2000, z7), (3, z0), (4, z8)]⟩ .leaf) (.cond .leaf (.seq .leaf (.cond (.seq .leaf (.block ⟨[(0, (.pt 2000 0)), (3, (.pt 3 0)), (4, (.pt 4 0))], [(2000, z7), (3, z0), (4, z8)]⟩ (.loop ⟨[(0, (.pt 2000 0)), (3, (.pt 3 0)), (4, (.pt 4 0)), (6, zi)], [(2000, z7), (3, z0), (4, z8)]⟩ .leaf))) (.seq .leaf (.cond .leaf (.seq (.join ⟨[(0, (.pt 2000 0)), (3, (.pt 3 0)), (4, (.pt 4 0)), (5, zt), (15, zi), (59, zo)], [(2000, z7), (3, z0), (4, z8)]⟩ .leaf) (.cond .leaf (.seq (.join ⟨[(0, (.pt 2000 0)), (3, (.pt 3 0)), (4, (.pt 4 0)), (67, zo)], [(2000, z7), (3, z0), (4, z8)]⟩ .leaf) .leaf)))))))))))))) (.seq (.seq (.join ⟨[(0, (.pt 2000 0)), (3, (.pt 3 0)), (4, (.pt 4 0)), (86, zo)], [(2000, z7), (3, z0), (4, z8)]⟩ .leaf) .leaf) .leaf)))) [(12, some 11, s_l18Rd_pick_fs), (12, some 15, s_l18Rd_pick_fs), (12, some 42, s_l18Rd_pick_fs), (12, some 64, s_l18Rd_pick_fs), (12, some 72, s_l18Rd_pick_fs), (12, some 76, s_l18Rd_pick_fs), (12, some 84, s_l18Rd_pick_fs), (12, some 93, s_l18Rd_pick_fs), (12, some 102, s_l18Rd_pick_fs), (73, some 30, s_l18DrawWish_fs)] (.cons s_l18Rd_pick_ok (.cons s_l18Rd_pick_ok (.cons s_l18Rd_pick_ok (.cons s_l18Rd_pick_ok (.cons s_l18Rd_pick_ok (.cons s_l18Rd_pick_ok (.cons s_l18Rd_pick_ok (.cons s_l18Rd_pick_ok (.cons s_l18Rd_pick_ok (.cons s_l18DrawWish_ok .nil)))))))))) (by kernel_rfl) (by kernel_rfl) (by kernel_rfl) (fun xs => by kernel_rfl)
def s_l25Move.d1 (t1_0 t1_1 t1_2 t1_3 b2000_0 b2000_1 : C) : R := (call3 (s_l18Rd_pick [.i 5, b2000_0, b2000_1]) fun y1_t0 y1_b2000_0 y1_b2000_1 => (bif (decide (y1_t0.I < 3)) then (call3 (s_l18Rd_pick [.i 6, y1_b2000_0, y1_b2000_1]) fun y2_t0 y2_b2000_0 y2_b2000_1 => (call3 (s_l18Rd_pick [.i 6, y2_b2000_0, y2_b2000_1]) fun y3_t0 y3_b2000_0 y3_b2000_1 => (bif (decide (0 ≤ y3_t0.I)) then (bif (decide (y3_t0.I < ((rows [[.i 0], [.i 0], [.i 1], [.i 2], [.i 5], [.i 9]]).length : Int))) then (some (.ret [.i (w64 (1 + y2_t0.I)), (((rows [[.i 0], [.i 0], [.i 1], [.i 2], [.i 5], [.i 9]]).getD y3_t0.I.toNat []).getD 0 .nil), .i 0, .s (bs #[]), .i 0, .b false, .i 0, .i 0, .i 0, .i 0, .i 0, .i 0, .i 0, .i 0, .i 0, .i 0, .s (bs #[]), .i 0, .b false, y3_b2000_0, y3_b2000_1])) else none) else none))) else (call19 (s_l23Event [t1_0, t1_1, t1_2, t1_3, y1_b2000_0, y1_b2000_1]) fun y4_t0_0 y4_t0_1 y4_t0_2 y4_t0_3 y4_t0_4 y4_t0_5 y4_t0_6 y4_t0_7 y4_t0_8 y4_t0_9 y4_t0_10 y4_t0_11 y4_t0_12 y4_t0_13 y4_t0_14 y4_t0_15 y4_t0_16 y4_b2000_0 y4_b2000_1 => (some (.ret [.i 0, .i 0, y4_t0_0, y4_t0_1, y4_t0_2, y4_t0_3, y4_t0_4, y4_t0_5, y4_t0_6, y4_t0_7, y4_t0_8, y4_t0_9, y4_t0_10, y4_t0_11, y4_t0_12, y4_t0_13, y4_t0_14, y4_t0_15, y4_t0_16, y4_b2000_0, y4_b2000_1])))))
def s_l25Move : List C → Option (List C) := fun xs => finR (ap6 s_l25Move.d1 xs)
def s_l25Move_fs : FS := ⟨2, ⟨[(0, (.pt 2000 0)), (1, z2)], [(2000, z7)]⟩, ⟨[(0, (.ag [zi, zi, zi, zt, zi, zo, zi, zi, zi, zi, zi, zi, zi, zi, zi, zi, zt, zi, zo]))], [(2000, z7)]⟩, [2000], s_l25Move⟩
theorem s_l25Move_ok : FSOk Try.checked.prog T0 74 s_l25Move_fs := okOf base0 (fn := Try.f74) (c := Try.f74.body.getD .skip) s_l25Move_fs .leaf [(12, some 6, s_l18Rd_pick_fs), (12, some 9, s_l18Rd_pick_fs), (12, some 13, s_l18Rd_pick_fs), (84, some 19, s_l23Event_fs)] (.cons s_l18Rd_pick_ok (.cons s_l18Rd_pick_ok (.cons s_l18Rd_pick_ok (.cons s_l23Event_ok .nil)))) (by kernel_rfl) (by kernel_rfl) (by kernel_rfl) (fun xs => by kernel_rfl)
def s_StewWorldOk.d1 (t3 b1_0 b1_1 b1_2 b1_3 b1_4 : C) : R := (bif (decide (t3.I < (b1_0.L.length : Int))) then (bif (decide (0 ≤ t3.I)) then (bif (decide (t3.I < (b1_0.L.length : Int))) then (call1 (s_StewValid [((b1_0.L.getD t3.I.toNat []).getD 0 .nil), ((b1_0.L.getD t3.I.toNat []).getD 1 .nil), ((b1_0.L.getD t3.I.toNat []).getD 2 .nil), ((b1_0.L.getD t3.I.toNat []).getD 3 .nil)]) fun y2_t0 => (bif (!(!y2_t0.B)) then (bif (decide (0 ≤ t3.I)) then (bif (decide (t3.I < (b1_0.L.length : Int))) then (bif (!(decide (((b1_0.L.getD t3.I.toNat []).getD 0 .nil).I > b1_1.I))) then (bif (decide (t3.I > 0)) then (bif (decide (0 ≤ (w64 (t3.I - 1)))) then (bif (decide ((w64 (t3.I - 1)) < (b1_0.L.length : Int))) then (bif (decide (0 ≤ t3.I)) then (bif (decide (t3.I < (b1_0.L.length : Int))) then (bif (decide (((b1_0.L.getD (w64 (t3.I - 1)).toNat []).getD 0 .nil).I > ((b1_0.L.getD t3.I.toNat []).getD 0 .nil).I)) then (some (.ret [.b false])) else (some (.again [.i (w64 (t3.I + 1)), b1_0, b1_1, b1_2, b1_3, b1_4]))) else none) else none) else none) else none) else (some (.again [.i (w64 (t3.I + 1)), b1_0, b1_1, b1_2, b1_3, b1_4]))) else (some (.ret [.b false]))) else none) else none) else (some (.ret [.b false])))) else none) else none) else (some (.brk 0 [])))
def s_StewWorldOk.d2 : R := (some (.ret [.b true]))
def s_StewWorldOk.d3 (t0_0 t0_1 t0_2 t0_3 t0_4 : C) : R := (call1 (s_StewValid [t0_1, t0_2, t0_3, t0_4]) fun y1_t0 => (bif (!(!y1_t0.B)) then (bif (decide ((t0_0.L.length : Int) > 8)) then (some (.ret [.b false])) else (bindBlk 0 (lim (ap6 s_StewWorldOk.d1) [.i 0, t0_0, t0_1, t0_2, t0_3, t0_4]) (fun xs => s_StewWorldOk.d2))) else (some (.ret [.b false]))))
def s_StewWorldOk : List C → Option (List C) := fun xs => finR (ap5 s_StewWorldOk.d3 xs)
def s_StewWorldOk_fs : FS := ⟨1, ⟨[(0, z17)], []⟩, ⟨[(0, zo)], []⟩, [], s_StewWorldOk⟩
theorem s_StewWorldOk_ok : FSOk Try.checked.prog T0 85 s_StewWorldOk_fs := okOf base0 (fn := Try.f85) (c := Try.f85.body.getD .skip) s_StewWorldOk_fs (.seq .leaf (.seq .leaf (.seq (.seq .leaf (.block ⟨[], []⟩ (.loop ⟨[(1, (.pt 1 0)), (3, zi)], [(1, z10)]⟩ .leaf))) .leaf))) [(8, some 6, s_StewValid_fs), (8, some 26, s_StewValid_fs)] (.cons s_StewValid_ok (.cons s_StewValid_ok .nil)) (by kernel_rfl) (by kernel_rfl) (by kernel_rfl) (fun xs => by kernel_rfl)
def s_l25Order.d1 (t5 t6 t7 a8 a9 : C) : R := (bif (decide (t7.I < (a8.L.length : Int))) then (bif (!t6.B) then (bif (decide (0 ≤ t7.I)) then (bif (decide (t7.I < (a8.L.length : Int))) then (bif (decide (0 ≤ t5.I)) then (bif (decide (t5.I < (a9.L.length : Int))) then (some (.again [t5, .b (((a8.L.getD t7.I.toNat []).getD 0 .nil).I == ((a9.L.getD t5.I.toNat []).getD 0 .nil).I), .i (w64 (t7.I + 1)), .l a8.L, .l a9.L])) else none) else none) else none) else none) else (some (.again [t5, .b true, .i (w64 (t7.I + 1)), .l a8.L, .l a9.L]))) else (some (.brk 2 [t5, t6, .l a8.L, .l a9.L])))
def s_l25Order.d2 (t5 t6 a8 a9 : C) : R := (bif (!t6.B) then (bif (decide (0 ≤ t5.I)) then (bif (decide (t5.I < (a9.L.length : Int))) then (call1 (s_l18In [((a9.L.getD t5.I.toNat []).getD 0 .nil), .i 1, .i 6]) fun y1_t0 => (bif y1_t0.B then (bif (decide (0 ≤ t5.I)) then (bif (decide (t5.I < (a9.L.length : Int))) then (bif (decide (a8.L.length + (rows [[((a9.L.getD t5.I.toNat []).getD 0 .nil)]]).length ≤ 4294967296)) then (some (.again [.i (w64 (t5.I + 1)), .l (a8.L ++ (rows [[((a9.L.getD t5.I.toNat []).getD 0 .nil)]])), .l a9.L])) else none) else none) else none) else (some (.again [.i (w64 (t5.I + 1)), .l a8.L, .l a9.L])))) else none) else none) else (some (.again [.i (w64 (t5.I + 1)), .l a8.L, .l a9.L])))
def s_l25Order.d3 (t5 a8 a9 : C) : R := (bif (decide (t5.I < (a9.L.length : Int))) then (bindBlk 2 (lim (ap5 s_l25Order.d1) [t5, .b false, .i 0, .l a8.L, .l a9.L]) (ap4 s_l25Order.d2)) else (some (.brk 0 [.l a8.L])))
def s_l25Order.d4 (a8 : C) : R := (some (.ret [.l a8.L]))
def s_l25Order.d5 (t0 : C) : R := (bif (decide (nils.length + t0.L.length ≤ 4294967296)) then (bif (decide ((nils ++ t0.L).length + (rows [[.i 1], [.i 2], [.i 3], [.i 4], [.i 5], [.i 6]]).length ≤ 4294967296)) then (bindBlk 0 (lim (ap3 s_l25Order.d3) [.i 0, .l nils, .l ((nils ++ t0.L) ++ (rows [[.i 1], [.i 2], [.i 3], [.i 4], [.i 5], [.i 6]]))]) (ap1 s_l25Order.d4)) else none) else none)
def s_l25Order : List C → Option (List C) := fun xs => finR (ap1 s_l25Order.d5 xs)
def s_l25Order_fs : FS := ⟨1, ⟨[(0, (zl 3))], []⟩, ⟨[(0, (.ow 3000))], [(3000, .arr 3)]⟩, [], s_l25Order⟩
theorem s_l25Order_ok : FSOk Try.checked.prog T0 86 s_l25Order_fs := okOf base0 (fn := Try.f86) (c := Try.f86.body.getD .skip) s_l25Order_fs (.seq .leaf (.seq .leaf (.seq .leaf (.seq (.seq .leaf (.block ⟨[(3, (.ow 8))], [(8, .arr 3)]⟩ (.loop ⟨[(3, (.ow 8)), (4, (.ow 9)), (5, zi)], [(8, .arr 3), (9, .arr 3)]⟩ (.seq .leaf (.seq (.skip (.seq .leaf (.seq (.seq .leaf (.block ⟨[(3, (.ow 8)), (4, (.ow 9)), (5, zi), (6, zo)], [(8, .arr 3), (9, .arr 3)]⟩ (.loop ⟨[(3, (.ow 8)), (4, (.ow 9)), (5, zi), (6, zo), (7, zi)], [(8, .arr 3), (9, .arr 3)]⟩ .leaf))) .leaf))) .leaf))))) .leaf)))) [(17, some 45, s_l18In_fs)] (.cons s_l18In_ok .nil) (by kernel_rfl) (by kernel_rfl) (by kernel_rfl) (fun xs => by kernel_rfl)
def s_l18Book_v1.d1 (t0_0 t0_1 t0_2 t0_3 : C) : R := (bif (decide (nils.length + t0_1.L.length ≤ 4294967296)) then (bif (decide (nils.length + t0_2.L.length ≤ 4294967296)) then (bif (decide (nils.length + t0_3.L.length ≤ 4294967296)) then (some (.ret [t0_0, .l (nils ++ t0_1.L), .l (nils ++ t0_2.L), .l (nils ++ t0_3.L)])) else none) else none) else none)
def s_l18Book_v1 : List C → Option (List C) := fun xs => finR (ap4 s_l18Book_v1.d1 xs)
def s_l18Book_v1_fs : FS := ⟨1, ⟨[(0, z2)], []⟩, ⟨[(0, z2)], []⟩, [], s_l18Book_v1⟩
theorem s_l18Book_v1_ok : FSOk Try.checked.prog T0 61 s_l18Book_v1_fs := okOf base0 (fn := Try.f61) (c := Try.f61.body.getD .skip) s_l18Book_v1_fs (.seq .leaf (.seq .leaf (.frz [5, 9, 13] .leaf))) [] .nil (by kernel_rfl) (by kernel_rfl) (by kernel_rfl) (fun xs => by kernel_rfl)
def s_l25Copy.d1 (t4 b1_0 b1_1 b1_2 b1_3 b1_4 b2_1 b3_1 a1192000 a1192001 a1192002 a1192003 a1192004 a35768 a35769 a35770 : C) : R := (bif (decide (t4.I < (b1_0.L.length : Int))) then (bif (decide (0 ≤ t4.I)) then (bif (decide (t4.I < (b1_0.L.length : Int))) then (call4 (s_l18Book_v1 [((b1_0.L.getD t4.I.toNat []).getD 0 .nil), ((b1_0.L.getD t4.I.toNat []).getD 1 .nil), ((b1_0.L.getD t4.I.toNat []).getD 2 .nil), ((b1_0.L.getD t4.I.toNat []).getD 3 .nil)]) fun y2_t0_0 y2_t0_1 y2_t0_2 y2_t0_3 => (bif (decide (a1192004.L.length + (rows [[y2_t0_0, y2_t0_1, y2_t0_2, y2_t0_3]]).length ≤ 4294967296)) then (some (.again [.i (w64 (t4.I + 1)), b1_0, b1_1, b1_2, b1_3, b1_4, b2_1, b3_1, .l a1192000.L, .l a1192001.L, .l a1192002.L, .l a1192003.L, .l (a1192004.L ++ (rows [[y2_t0_0, y2_t0_1, y2_t0_2, y2_t0_3]])), .l a35768.L, .l a35769.L, .l a35770.L])) else none)) else none) else none) else (some (.brk 0 [b2_1, b3_1, .l a1192000.L, .l a1192001.L, .l a1192002.L, .l a1192003.L, .l a1192004.L, .l a35768.L, .l a35769.L, .l a35770.L])))
def s_l25Copy.d2 (b2_1 b3_1 a1192000 a1192001 a1192002 a1192003 a1192004 a35768 a35769 a35770 : C) : R := (some (.ret [b3_1, .l a1192004.L, .l a35768.L, .l a35769.L, .l a35770.L]))
def s_l25Copy.d3 (t0_0 t0_1 t0_2 t0_3 t0_4 : C) : R := (call4 (s_l18Book [t0_1, t0_2, t0_3, t0_4]) fun y1_t0_0 y1_a3000 y1_a3001 y1_a3002 => (bindBlk 0 (lim (ap16 s_l25Copy.d1) [.i 0, t0_0, t0_1, t0_2, t0_3, t0_4, .i 0, y1_t0_0, .l nils, .l nils, .l nils, .l nils, .l nils, .l y1_a3000.L, .l y1_a3001.L, .l y1_a3002.L]) (ap10 s_l25Copy.d2)))
def s_l25Copy : List C → Option (List C) := fun xs => finR (ap5 s_l25Copy.d3 xs)
def s_l25Copy_fs : FS := ⟨1, ⟨[(0, z17)], []⟩, ⟨[(0, (.ag [(.ow 3000), zi, (.ow 3001), (.ow 3002), (.ow 3003)]))], [(3000, .arr 27), (3001, .arr 48), (3002, .arr 58), (3003, .arr 55)]⟩, [], s_l25Copy⟩
theorem s_l25Copy_ok : FSOk Try.checked.prog T0 76 s_l25Copy_fs := okOf base0 (fn := Try.f76) (c := Try.f76.body.getD .skip) s_l25Copy_fs (.seq .leaf (.seq .leaf (.seq (.seq .leaf (.block ⟨[(2, (.pt 2 0)), (3, (.pt 3 0))], [(2, .var 100 [(.ow 1192000), zi, (.ow 1192001), (.ow 1192002), (.ow 1192003)]), (3, .var 100 [(.ow 1192004), zi, (.ow 35768), (.ow 35769), (.ow 35770)]), (1192000, .arr 27), (1192001, .arr 48), (1192002, .arr 58), (1192003, .arr 55), (1192004, .arr 27), (35768, .arr 48), (35769, .arr 58), (35770, .arr 55)]⟩ (.loop ⟨[(1, (.pt 1 0)), (2, (.pt 2 0)), (3, (.pt 3 0)), (4, zi)], [(1, z10), (2, .var 100 [(.ow 1192000), zi, (.ow 1192001), (.ow 1192002), (.ow 1192003)]), (3, .var 100 [(.ow 1192004), zi, (.ow 35768), (.ow 35769), (.ow 35770)]), (1192000, .arr 27), (1192001, .arr 48), (1192002, .arr 58), (1192003, .arr 55), (1192004, .arr 27), (35768, .arr 48), (35769, .arr 58), (35770, .arr 55)]⟩ .leaf))) .leaf))) [(61, some 7, s_l18Book_fs), (61, some 23, s_l18Book_v1_fs)] (.cons s_l18Book_ok (.cons s_l18Book_v1_ok .nil)) (by kernel_rfl) (by kernel_rfl) (by kernel_rfl) (fun xs => by kernel_rfl)
def s_StewCalm.d1 (t1 t9 t10 b6_1 a72632 b8_0 b8_1 b8_2 b8_3 b8_4 a1180400 a1180401 a1180402 a1180403 : C) : R := (bif (decide (t10.I < (a72632.L.length : Int))) then (bif (decide (0 ≤ t10.I)) then (bif (decide (t10.I < (a72632.L.length : Int))) then (call6 (s_l25Do [b8_0, b8_1, b8_2, b8_3, b8_4, ((a72632.L.getD t10.I.toNat []).getD 0 .nil), .i 0, .i 0, .s (bs #[]), .i 0, .b false, .i 0, .i 0, .i 0, .i 0, .i 0, .i 0, .i 0, .i 0, .i 0, .i 0, .s (bs #[]), .i 0, .b false]) fun y4_t0_0_0 y4_t0_0_1 y4_t0_0_2 y4_t0_0_3 y4_t0_0_4 y4_a3000 => (some (.again [t1, t9, .i (w64 (t10.I + 1)), b6_1, .l a72632.L, y4_t0_0_0, y4_t0_0_1, y4_t0_0_2, y4_t0_0_3, y4_t0_0_4, .l a1180400.L, .l a1180401.L, .l a1180402.L, .l a1180403.L]))) else none) else none) else (some (.brk 2 [t1, t9, b6_1, .l a72632.L, b8_0, b8_1, b8_2, b8_3, b8_4, .l a1180400.L, .l a1180401.L, .l a1180402.L, .l a1180403.L])))
def s_StewCalm.d2 (t1 t9 b6_1 a72632 b8_0 b8_1 b8_2 b8_3 b8_4 a1180400 a1180401 a1180402 a1180403 : C) : R := (some (.again [t1, .i (w64 (t9.I + 1)), b6_1, .l a72632.L, b8_0, b8_1, b8_2, b8_3, b8_4, .l a1180400.L, .l a1180401.L, .l a1180402.L, .l a1180403.L]))
def s_StewCalm.d3 (t1 t9 b6_1 a72632 b8_0 b8_1 b8_2 b8_3 b8_4 a1180400 a1180401 a1180402 a1180403 : C) : R := (bif (decide (t9.I < t1.I)) then (bif (decide (t9.I < 1000)) then (call6 (s_l25Do [b8_0, b8_1, b8_2, b8_3, b8_4, .i 0, .i 0, .i 1, .s (bs #[]), .i 0, .b false, .i 0, .i 0, .i 0, .i 0, .i 0, .i 0, .i 0, .i 0, .i 0, .i 0, .s (bs #[]), .i 0, .b false]) fun y3_t0_0_0 y3_t0_0_1 y3_t0_0_2 y3_t0_0_3 y3_t0_0_4 y3_a3000 => (bindBlk 2 (lim (ap14 s_StewCalm.d1) [t1, t9, .i 0, b6_1, .l a72632.L, y3_t0_0_0, y3_t0_0_1, y3_t0_0_2, y3_t0_0_3, y3_t0_0_4, .l a1180400.L, .l a1180401.L, .l a1180402.L, .l a1180403.L]) (ap13 s_StewCalm.d2))) else (some (.brk 0 [b6_1, b8_0, b8_1, b8_2, b8_3, b8_4, .l a1180400.L, .l a1180401.L, .l a1180402.L, .l a1180403.L]))) else (some (.brk 0 [b6_1, b8_0, b8_1, b8_2, b8_3, b8_4, .l a1180400.L, .l a1180401.L, .l a1180402.L, .l a1180403.L])))
def s_StewCalm.d4 (b6_1 b8_0 b8_1 b8_2 b8_3 b8_4 a1180400 a1180401 a1180402 a1180403 : C) : R := (call5 (s_l25Copy [b8_0, b8_1, b8_2, b8_3, b8_4]) fun y5_t0_1 y5_a3000 y5_a3001 y5_a3002 y5_a3003 => (some (.ret [y5_t0_1, .l y5_a3000.L, .l y5_a3001.L, .l y5_a3002.L, .l y5_a3003.L])))
def s_StewCalm.d5 (t0_0 t0_1 t0_2 t0_3 t0_4 t1 a2000 : C) : R := (call1 (s_StewWorldOk [t0_0, t0_1, t0_2, t0_3, t0_4]) fun y1_t0 => (bif (!y1_t0.B) then (some (.ret [.i 0, .l nils, .l nils, .l nils, .l nils])) else (call1 (s_l25Order [.l a2000.L]) fun y2_a3000 => (bindBlk 0 (lim (ap13 s_StewCalm.d3) [t1, .i 0, .i 0, .l y2_a3000.L, t0_0, t0_1, t0_2, t0_3, t0_4, .l nils, .l nils, .l nils, .l nils]) (ap10 s_StewCalm.d4)))))
def s_StewCalm : List C → Option (List C) := fun xs => finR (ap7 s_StewCalm.d5 xs)
def s_StewCalm_fs : FS := ⟨3, ⟨[(0, z17), (1, zi), (2, (.ow 2000))], [(2000, .arr 3)]⟩, ⟨[(0, (.ag [(.ow 3000), zi, (.ow 3001), (.ow 3002), (.ow 3003)]))], [(3000, .arr 27), (3001, .arr 48), (3002, .arr 58), (3003, .arr 55)]⟩, [], s_StewCalm⟩
theorem s_StewCalm_ok : FSOk Try.checked.prog T0 75 s_StewCalm_fs := okOf base0 (fn := Try.f75) (c := Try.f75.body.getD .skip) s_StewCalm_fs (.seq .leaf (.seq .leaf (.seq (.frz [2000] .leaf) (.seq .leaf (.seq (.seq .leaf (.block ⟨[(6, (.pt 6 0)), (8, (.pt 8 0))], [(6, z22), (8, z10), (1180400, .arr 27), (1180401, .arr 48), (1180402, .arr 58), (1180403, .arr 55)]⟩ (.loop ⟨[(1, zi), (6, (.pt 6 0)), (7, (.ow 72632)), (8, (.pt 8 0)), (9, zi)], [(6, z22), (72632, .arr 3), (8, z10), (1180400, .arr 27), (1180401, .arr 48), (1180402, .arr 58), (1180403, .arr 55)]⟩ (.seq .leaf (.seq (.skip (.seq .leaf (.seq .leaf (.block ⟨[(1, zi), (6, (.pt 6 0)), (7, (.ow 72632)), (8, (.pt 8 0)), (9, zi)], [(6, z22), (72632, .arr 3), (8, z10), (1180400, .arr 27), (1180401, .arr 48), (1180402, .arr 58), (1180403, .arr 55)]⟩ (.loop ⟨[(1, zi), (6, (.pt 6 0)), (7, (.ow 72632)), (8, (.pt 8 0)), (9, zi), (10, zi)], [(6, z22), (72632, .arr 3), (8, z10), (1180400, .arr 27), (1180401, .arr 48), (1180402, .arr 58), (1180403, .arr 55)]⟩ .leaf))))) .leaf))))) .leaf))))) [(72, some 31, s_l25Do_fs), (72, some 47, s_l25Do_fs), (76, some 51, s_l25Copy_fs), (85, some 12, s_StewWorldOk_fs), (86, some 16, s_l25Order_fs)] (.cons s_l25Do_ok (.cons s_l25Do_ok (.cons s_l25Copy_ok (.cons s_StewWorldOk_ok (.cons s_l25Order_ok .nil))))) (by kernel_rfl) (by kernel_rfl) (by kernel_rfl) (fun xs => by kernel_rfl)
def s_l25Reached.d1 (t4 b2000_0 b2000_1 b2_1 b3_0 b3_1 b3_2 b3_3 b3_4 a1017000 a1017001 a1017002 a1017003 : C) : R := (bif (decide (t4.I > 0)) then (call15 (s_l18DrawWish [b2000_0, b2000_1]) fun y5_t0_0 y5_t0_1 y5_t0_2 y5_t0_3 y5_t0_4 y5_t0_5 y5_t0_6 y5_t0_7 y5_t0_8 y5_t0_9 y5_t0_10 y5_t0_11 y5_t0_12 y5_b2000_0 y5_b2000_1 => (call6 (s_l25Do [b3_0, b3_1, b3_2, b3_3, b3_4, .i 0, .i 0, .i 2, y5_t0_0, y5_t0_1, y5_t0_2, y5_t0_3, y5_t0_4, y5_t0_5, y5_t0_6, y5_t0_7, y5_t0_8, y5_t0_9, y5_t0_10, y5_t0_11, y5_t0_12, .s (bs #[]), .i 0, .b false]) fun y6_t0_0_0 y6_t0_0_1 y6_t0_0_2 y6_t0_0_3 y6_t0_0_4 y6_a3000 => (some (.again [.i (w64 (t4.I - 1)), y5_b2000_0, y5_b2000_1, b2_1, y6_t0_0_0, y6_t0_0_1, y6_t0_0_2, y6_t0_0_3, y6_t0_0_4, .l a1017000.L, .l a1017001.L, .l a1017002.L, .l a1017003.L])))) else (some (.brk 0 [b2000_0, b2000_1, b2_1, b3_0, b3_1, b3_2, b3_3, b3_4, .l a1017000.L, .l a1017001.L, .l a1017002.L, .l a1017003.L])))
def s_l25Reached.d2 (t5 b2000_0 b2000_1 b2_1 b3_0 b3_1 b3_2 b3_3 b3_4 a1017000 a1017001 a1017002 a1017003 : C) : R := (bif (decide (t5.I > 0)) then (call21 (s_l25Move [b3_1, b3_2, b3_3, b3_4, b2000_0, b2000_1]) fun y8_t0_0 y8_t0_1 y8_t0_2 y8_t0_3 y8_t0_4 y8_t0_5 y8_t0_6 y8_t0_7 y8_t0_8 y8_t0_9 y8_t0_10 y8_t0_11 y8_t0_12 y8_t0_13 y8_t0_14 y8_t0_15 y8_t0_16 y8_t0_17 y8_t0_18 y8_b2000_0 y8_b2000_1 => (call6 (s_l25Do [b3_0, b3_1, b3_2, b3_3, b3_4, y8_t0_0, y8_t0_1, y8_t0_2, y8_t0_3, y8_t0_4, y8_t0_5, y8_t0_6, y8_t0_7, y8_t0_8, y8_t0_9, y8_t0_10, y8_t0_11, y8_t0_12, y8_t0_13, y8_t0_14, y8_t0_15, y8_t0_16, y8_t0_17, y8_t0_18]) fun y9_t0_0_0 y9_t0_0_1 y9_t0_0_2 y9_t0_0_3 y9_t0_0_4 y9_a3000 => (call3 (s_l18Rd_pick [.i 8, y8_b2000_0, y8_b2000_1]) fun y10_t0 y10_b2000_0 y10_b2000_1 => (bif (y10_t0.I == 0) then (call3 (s_l18Rd_pick [.i 7, y10_b2000_0, y10_b2000_1]) fun y11_t0 y11_b2000_0 y11_b2000_1 => (call3 (s_l18Rd_pick [.i 6, y11_b2000_0, y11_b2000_1]) fun y12_t0 y12_b2000_0 y12_b2000_1 => (call3 (s_l18Rd_pick [.i 6, y12_b2000_0, y12_b2000_1]) fun y13_t0 y13_b2000_0 y13_b2000_1 => (call5 (s_StewCalm [y9_t0_0_0, y9_t0_0_1, y9_t0_0_2, y9_t0_0_3, y9_t0_0_4, y11_t0, .l (rows [[.i (w64 (1 + y12_t0.I))], [.i (w64 (1 + y13_t0.I))]])]) fun y14_t0_1 y14_a3000 y14_a3001 y14_a3002 y14_a3003 => (some (.again [.i (w64 (t5.I - 1)), y13_b2000_0, y13_b2000_1, b2_1, .l y14_a3000.L, y14_t0_1, .l y14_a3001.L, .l y14_a3002.L, .l y14_a3003.L, .l a1017000.L, .l a1017001.L, .l a1017002.L, .l a1017003.L])))))) else (some (.again [.i (w64 (t5.I - 1)), y10_b2000_0, y10_b2000_1, b2_1, y9_t0_0_0, y9_t0_0_1, y9_t0_0_2, y9_t0_0_3, y9_t0_0_4, .l a1017000.L, .l a1017001.L, .l a1017002.L, .l a1017003.L])))))) else (some (.brk 2 [b2000_0, b2000_1, b2_1, b3_0, b3_1, b3_2, b3_3, b3_4, .l a1017000.L, .l a1017001.L, .l a1017002.L, .l a1017003.L])))
def s_l25Reached.d3 (b2000_0 b2000_1 b2_1 b3_0 b3_1 b3_2 b3_3 b3_4 a1017000 a1017001 a1017002 a1017003 : C) : R := (call5 (s_l25Copy [b3_0, b3_1, b3_2, b3_3, b3_4]) fun y15_t0_1 y15_a3000 y15_a3001 y15_a3002 y15_a3003 => (some (.ret [y15_t0_1, b2000_0, b2000_1, .l y15_a3000.L, .l y15_a3001.L, .l y15_a3002.L, .l y15_a3003.L])))
def s_l25Reached.d4 (b2000_0 b2000_1 b2_1 b3_0 b3_1 b3_2 b3_3 b3_4 a1017000 a1017001 a1017002 a1017003 : C) : R := (call3 (s_l18Rd_pick [.i 50, b2000_0, b2000_1]) fun y7_t0 y7_b2000_0 y7_b2000_1 => (bindBlk 2 (lim (ap13 s_l25Reached.d2) [y7_t0, y7_b2000_0, y7_b2000_1, b2_1, b3_0, b3_1, b3_2, b3_3, b3_4, .l a1017000.L, .l a1017001.L, .l a1017002.L, .l a1017003.L]) (ap12 s_l25Reached.d3)))
def s_l25Reached.d5 (b2000_0 b2000_1 b2_1 b3_0 b3_1 b3_2 b3_3 b3_4 a1017000 a1017001 a1017002 a1017003 : C) : R := (call3 (s_l18Rd_pick [.i 2, b2000_0, b2000_1]) fun y4_t0 y4_b2000_0 y4_b2000_1 => (bindBlk 0 (lim (ap13 s_l25Reached.d1) [.i (w64 (1 + y4_t0.I)), y4_b2000_0, y4_b2000_1, b2_1, b3_0, b3_1, b3_2, b3_3, b3_4, .l a1017000.L, .l a1017001.L, .l a1017002.L, .l a1017003.L]) (ap12 s_l25Reached.d4)))
def s_l25Reached.d6 (b2000_0 b2000_1 : C) : R := (call6 (s_l25Do [.l nils, .i 0, .l nils, .l nils, .l nils, .i 0, .i 0, .i 5, .s (bs #[]), .i 0, .b false, .i 0, .i 0, .i 0, .i 0, .i 0, .i 0, .i 0, .i 0, .i 0, .i 0, .s (bs #[97]), .i 0, .b false]) fun y1_t0_0_0 y1_t0_0_1 y1_t0_0_2 y1_t0_0_3 y1_t0_0_4 y1_a3000 => (bindNrm (call3 (s_l18Rd_pick [.i 3, b2000_0, b2000_1]) fun y2_t0 y2_b2000_0 y2_b2000_1 => (bif (decide (y2_t0.I > 0)) then (call6 (s_l25Do [y1_t0_0_0, y1_t0_0_1, y1_t0_0_2, y1_t0_0_3, y1_t0_0_4, .i 0, .i 0, .i 5, .s (bs #[]), .i 0, .b false, .i 0, .i 0, .i 0, .i 0, .i 0, .i 0, .i 0, .i 0, .i 0, .i 0, .s (bs #[98]), .i 0, .b false]) fun y3_t0_0_0 y3_t0_0_1 y3_t0_0_2 y3_t0_0_3 y3_t0_0_4 y3_a3000 => (some (.nrm [y2_b2000_0, y2_b2000_1, .i 0, y3_t0_0_0, y3_t0_0_1, y3_t0_0_2, y3_t0_0_3, y3_t0_0_4, .l nils, .l nils, .l nils, .l nils]))) else (some (.nrm [y2_b2000_0, y2_b2000_1, .i 0, y1_t0_0_0, y1_t0_0_1, y1_t0_0_2, y1_t0_0_3, y1_t0_0_4, .l nils, .l nils, .l nils, .l nils])))) (ap12 s_l25Reached.d5)))
def s_l25Reached : List C → Option (List C) := fun xs => finR (ap2 s_l25Reached.d6 xs)
def s_l25Reached_fs : FS := ⟨1, ⟨[(0, (.pt 2000 0))], [(2000, z7)]⟩, ⟨[(0, (.ag [(.ow 3001), zi, (.ow 3002), (.ow 3003), (.ow 3004)]))], [(2000, z7), (3001, .arr 27), (3002, .arr 48), (3003, .arr 58), (3004, .arr 55)]⟩, [2000], s_l25Reached⟩
theorem s_l25Reached_ok : FSOk Try.checked.prog T0 60 s_l25Reached_fs := okOf base0 (fn := Try.f60) (c := Try.f60.body.getD .skip) s_l25Reached_fs (.seq .leaf (.seq .leaf (.seq .leaf (.seq (.join ⟨[(0, (.pt 2000 0)), (2, (.pt 2 0)), (3, (.pt 3 0))], [(2000, z7), (2, z18), (3, z10), (1017000, .arr 27), (1017001, .arr 48), (1017002, .arr 58), (1017003, .arr 55)]⟩ .leaf) (.seq (.seq .leaf (.block ⟨[(0, (.pt 2000 0)), (2, (.pt 2 0)), (3, (.pt 3 0))], [(2000, z7), (2, z18), (3, z10), (1017000, .arr 27), (1017001, .arr 48), (1017002, .arr 58), (1017003, .arr 55)]⟩ (.loop ⟨[(0, (.pt 2000 0)), (2, (.pt 2 0)), (3, (.pt 3 0)), (4, zi)], [(2000, z7), (2, z18), (3, z10), (1017000, .arr 27), (1017001, .arr 48), (1017002, .arr 58), (1017003, .arr 55)]⟩ .leaf))) (.seq (.seq .leaf (.block ⟨[(2, (.pt 2 0)), (3, (.pt 3 0))], [(2000, z7), (2, z18), (3, z10), (1017000, .arr 27), (1017001, .arr 48), (1017002, .arr 58), (1017003, .arr 55)]⟩ (.loop ⟨[(0, (.pt 2000 0)), (2, (.pt 2 0)), (3, (.pt 3 0)), (5, zi)], [(2000, z7), (2, z18), (3, z10), (1017000, .arr 27), (1017001, .arr 48), (1017002, .arr 58), (1017003, .arr 55)]⟩ .leaf))) .leaf)))))) [(12, some 15, s_l18Rd_pick_fs), (12, some 25, s_l18Rd_pick_fs), (12, some 41, s_l18Rd_pick_fs), (12, some 56, s_l18Rd_pick_fs), (12, some 60, s_l18Rd_pick_fs), (12, some 62, s_l18Rd_pick_fs), (12, some 65, s_l18Rd_pick_fs), (72, some 11, s_l25Do_fs), (72, some 21, s_l25Do_fs), (72, some 37, s_l25Do_fs), (72, some 52, s_l25Do_fs), (73, some 34, s_l18DrawWish_fs), (74, some 51, s_l25Move_fs), (75, some 68, s_StewCalm_fs), (76, some 70, s_l25Copy_fs)] (.cons s_l18Rd_pick_ok (.cons s_l18Rd_pick_ok (.cons s_l18Rd_pick_ok (.cons s_l18Rd_pick_ok (.cons s_l18Rd_pick_ok (.cons s_l18Rd_pick_ok (.cons s_l18Rd_pick_ok (.cons s_l25Do_ok (.cons s_l25Do_ok (.cons s_l25Do_ok (.cons s_l25Do_ok (.cons s_l18DrawWish_ok (.cons s_l25Move_ok (.cons s_StewCalm_ok (.cons s_l25Copy_ok .nil))))))))))))))) (by kernel_rfl) (by kernel_rfl) (by kernel_rfl) (fun xs => by kernel_rfl)
def s_l18Draw.d1 (b2000_0 b2000_1 : C) : R := (call7 (s_l25Reached [b2000_0, b2000_1]) fun y1_t0_1 y1_b2000_0 y1_b2000_1 y1_a3001 y1_a3002 y1_a3003 y1_a3004 => (some (.ret [y1_t0_1, y1_b2000_0, y1_b2000_1, .l y1_a3002.L, .l y1_a3003.L, .l y1_a3004.L])))
def s_l18Draw : List C → Option (List C) := fun xs => finR (ap2 s_l18Draw.d1 xs)
def s_l18Draw_fs : FS := ⟨1, ⟨[(0, (.pt 2000 0))], [(2000, z7)]⟩, ⟨[(0, (.ag [zi, (.ow 3001), (.ow 3002), (.ow 3003)]))], [(2000, z7), (3001, .arr 48), (3002, .arr 58), (3003, .arr 55)]⟩, [2000], s_l18Draw⟩
theorem s_l18Draw_ok : FSOk Try.checked.prog T0 24 s_l18Draw_fs := okOf base0 (fn := Try.f24) (c := Try.f24.body.getD .skip) s_l18Draw_fs .leaf [(60, some 4, s_l25Reached_fs)] (.cons s_l25Reached_ok .nil) (by kernel_rfl) (by kernel_rfl) (by kernel_rfl) (fun xs => by kernel_rfl)
def s_l18Spoil.d1 (t1_0 t1_1 t1_2 t1_3 b2000_0 b2000_1 : C) : R := (call4 (s_l18Book [t1_0, t1_1, t1_2, t1_3]) fun y1_t0_0 y1_a3000 y1_a3001 y1_a3002 => (call3 (s_l18Rd_pick [.i (y1_a3000.L.length : Int), b2000_0, b2000_1]) fun y2_t0 y2_b2000_0 y2_b2000_1 => (call3 (s_l18Rd_pick [.i (y1_a3001.L.length : Int), y2_b2000_0, y2_b2000_1]) fun y3_t0 y3_b2000_0 y3_b2000_1 => (bif (!((y1_a3000.L.length : Int) == 0)) then (bif ((y1_a3001.L.length : Int) == 0) then (some (.ret [.i (-1), y3_b2000_0, y3_b2000_1, .l nils, .l nils, .l nils])) else (call3 (s_l18Rd_pick [.i 20, y3_b2000_0, y3_b2000_1]) fun y4_t0 y4_b2000_0 y4_b2000_1 => (bif (y4_t0.I == 0) then (call3 (s_l18Rd_pick [.i 5, y4_b2000_0, y4_b2000_1]) fun y5_t0 y5_b2000_0 y5_b2000_1 => (bif (decide (0 ≤ y5_t0.I)) then (bif (decide (y5_t0.I < ((rows [[.i (-1)], [.i 0], [.i 1], [.i 1000000], [.i 1000001]]).length : Int))) then (some (.ret [(((rows [[.i (-1)], [.i 0], [.i 1], [.i 1000000], [.i 1000001]]).getD y5_t0.I.toNat []).getD 0 .nil), y5_b2000_0, y5_b2000_1, .l y1_a3000.L, .l y1_a3001.L, .l y1_a3002.L])) else none) else none)) else (bif (y4_t0.I == 1) then (call3 (s_l18Rd_pick [.i 3, y4_b2000_0, y4_b2000_1]) fun y6_t0 y6_b2000_0 y6_b2000_1 => (bif (decide (0 ≤ y6_t0.I)) then (bif (decide (y6_t0.I < ((rows [[.s (bs #[])], [.s (bs #[88])], [.s (bs #[122, 122])]]).length : Int))) then (bif (decide (0 ≤ y2_t0.I)) then (bif (decide (y2_t0.I < (y1_a3000.L.length : Int))) then (some (.ret [y1_t0_0, y6_b2000_0, y6_b2000_1, .l (y1_a3000.L.set y2_t0.I.toNat (setCs (y1_a3000.L.getD y2_t0.I.toNat []) 0 [(((rows [[.s (bs #[])], [.s (bs #[88])], [.s (bs #[122, 122])]]).getD y6_t0.I.toNat []).getD 0 .nil)])), .l y1_a3001.L, .l y1_a3002.L])) else none) else none) else none) else none)) else (bif (y4_t0.I == 2) then (call3 (s_l18Rd_pick [.i 3, y4_b2000_0, y4_b2000_1]) fun y7_t0 y7_b2000_0 y7_b2000_1 => (bif (decide (0 ≤ y7_t0.I)) then (bif (decide (y7_t0.I < ((rows [[.i 0], [y1_t0_0], [.i (w64 (y1_t0_0.I + 1))]]).length : Int))) then (bif (decide (0 ≤ y2_t0.I)) then (bif (decide (y2_t0.I < (y1_a3000.L.length : Int))) then (some (.ret [y1_t0_0, y7_b2000_0, y7_b2000_1, .l (y1_a3000.L.set y2_t0.I.toNat (setCs (y1_a3000.L.getD y2_t0.I.toNat []) 1 [(((rows [[.i 0], [y1_t0_0], [.i (w64 (y1_t0_0.I + 1))]]).getD y7_t0.I.toNat []).getD 0 .nil)])), .l y1_a3001.L, .l y1_a3002.L])) else none) else none) else none) else none)) else (bif (y4_t0.I == 3) then (call3 (s_l18Rd_pick [.i 3, y4_b2000_0, y4_b2000_1]) fun y8_t0 y8_b2000_0 y8_b2000_1 => (bif (decide (0 ≤ y8_t0.I)) then (bif (decide (y8_t0.I < ((rows [[.i 0], [.i 1000000], [.i 1000001]]).length : Int))) then (bif (decide (0 ≤ y2_t0.I)) then (bif (decide (y2_t0.I < (y1_a3000.L.length : Int))) then (some (.ret [y1_t0_0, y8_b2000_0, y8_b2000_1, .l (y1_a3000.L.set y2_t0.I.toNat (setCs (y1_a3000.L.getD y2_t0.I.toNat []) 3 [(((rows [[.i 0], [.i 1000000], [.i 1000001]]).getD y8_t0.I.toNat []).getD 0 .nil)])), .l y1_a3001.L, .l y1_a3002.L])) else none) else none) else none) else none)) else (bif (y4_t0.I == 4) then (call3 (s_l18Rd_pick [.i 3, y4_b2000_0, y4_b2000_1]) fun y9_t0 y9_b2000_0 y9_b2000_1 => (bif (decide (0 ≤ y9_t0.I)) then (bif (decide (y9_t0.I < ((rows [[.i (-1)], [.i 10], [.i 11]]).length : Int))) then (bif (decide (0 ≤ y2_t0.I)) then (bif (decide (y2_t0.I < (y1_a3000.L.length : Int))) then (some (.ret [y1_t0_0, y9_b2000_0, y9_b2000_1, .l (y1_a3000.L.set y2_t0.I.toNat (setCs (y1_a3000.L.getD y2_t0.I.toNat []) 4 [(((rows [[.i (-1)], [.i 10], [.i 11]]).getD y9_t0.I.toNat []).getD 0 .nil)])), .l y1_a3001.L, .l y1_a3002.L])) else none) else none) else none) else none)) else (bif (y4_t0.I == 5) then (call3 (s_l18Rd_pick [.i 3, y4_b2000_0, y4_b2000_1]) fun y10_t0 y10_b2000_0 y10_b2000_1 => (bif (decide (0 ≤ y10_t0.I)) then (bif (decide (y10_t0.I < ((rows [[.i (-1)], [.i 10], [.i 11]]).length : Int))) then (bif (decide (0 ≤ y2_t0.I)) then (bif (decide (y2_t0.I < (y1_a3000.L.length : Int))) then (some (.ret [y1_t0_0, y10_b2000_0, y10_b2000_1, .l (y1_a3000.L.set y2_t0.I.toNat (setCs (y1_a3000.L.getD y2_t0.I.toNat []) 5 [(((rows [[.i (-1)], [.i 10], [.i 11]]).getD y10_t0.I.toNat []).getD 0 .nil)])), .l y1_a3001.L, .l y1_a3002.L])) else none) else none) else none) else none)) else (bif (y4_t0.I == 6) then (bif (decide (0 ≤ y2_t0.I)) then (bif (decide (y2_t0.I < (y1_a3000.L.length : Int))) then (call3 (s_l18Rd_pick [.i 3, y4_b2000_0, y4_b2000_1]) fun y11_t0 y11_b2000_0 y11_b2000_1 => (bif (decide (0 ≤ y11_t0.I)) then (bif (decide (y11_t0.I < ((rows [[.i 0], [.i 1], [.i 11]]).length : Int))) then (bif (decide (0 ≤ y2_t0.I)) then (bif (decide (y2_t0.I < ((y1_a3000.L.set y2_t0.I.toNat (setCs (y1_a3000.L.getD y2_t0.I.toNat []) 5 [.i 0])).length : Int))) then (some (.ret [y1_t0_0, y11_b2000_0, y11_b2000_1, .l ((y1_a3000.L.set y2_t0.I.toNat (setCs (y1_a3000.L.getD y2_t0.I.toNat []) 5 [.i 0])).set y2_t0.I.toNat (setCs ((y1_a3000.L.set y2_t0.I.toNat (setCs (y1_a3000.L.getD y2_t0.I.toNat []) 5 [.i 0])).getD y2_t0.I.toNat []) 6 [(((rows [[.i 0], [.i 1], [.i 11]]).getD y11_t0.I.toNat []).getD 0 .nil)])), .l y1_a3001.L, .l y1_a3002.L])) else none) else none) else none) else none)) else none) else none) else (bif (y4_t0.I == 7) then (call3 (s_l18Rd_pick [.i 4, y4_b2000_0, y4_b2000_1]) fun y12_t0 y12_b2000_0 y12_b2000_1 => (bif (decide (0 ≤ y12_t0.I)) then (bif (decide (y12_t0.I < ((rows [[.i 0], [.i 1], [.i 1000000], [.i 1000001]]).length : Int))) then (bif (decide (0 ≤ y2_t0.I)) then (bif (decide (y2_t0.I < (y1_a3000.L.length : Int))) then (some (.ret [y1_t0_0, y12_b2000_0, y12_b2000_1, .l (y1_a3000.L.set y2_t0.I.toNat (setCs (y1_a3000.L.getD y2_t0.I.toNat []) 7 [(((rows [[.i 0], [.i 1], [.i 1000000], [.i 1000001]]).getD y12_t0.I.toNat []).getD 0 .nil)])), .l y1_a3001.L, .l y1_a3002.L])) else none) else none) else none) else none)) else (bif (y4_t0.I == 8) then (call3 (s_l18Rd_pick [.i 4, y4_b2000_0, y4_b2000_1]) fun y13_t0 y13_b2000_0 y13_b2000_1 => (bif (decide (0 ≤ y13_t0.I)) then (bif (decide (y13_t0.I < ((rows [[.i (-1)], [.i 0], [.i 5], [.i 1000001]]).length : Int))) then (bif (decide (0 ≤ y2_t0.I)) then (bif (decide (y2_t0.I < (y1_a3000.L.length : Int))) then (some (.ret [y1_t0_0, y13_b2000_0, y13_b2000_1, .l (y1_a3000.L.set y2_t0.I.toNat (setCs (y1_a3000.L.getD y2_t0.I.toNat []) 8 [(((rows [[.i (-1)], [.i 0], [.i 5], [.i 1000001]]).getD y13_t0.I.toNat []).getD 0 .nil)])), .l y1_a3001.L, .l y1_a3002.L])) else none) else none) else none) else none)) else (bif (y4_t0.I == 9) then (call3 (s_l18Rd_pick [.i 3, y4_b2000_0, y4_b2000_1]) fun y14_t0 y14_b2000_0 y14_b2000_1 => (bif (decide (0 ≤ y14_t0.I)) then (bif (decide (y14_t0.I < ((rows [[.i (-1)], [.i 1], [.i 11]]).length : Int))) then (bif (decide (0 ≤ y2_t0.I)) then (bif (decide (y2_t0.I < (y1_a3000.L.length : Int))) then (some (.ret [y1_t0_0, y14_b2000_0, y14_b2000_1, .l (y1_a3000.L.set y2_t0.I.toNat (setCs (y1_a3000.L.getD y2_t0.I.toNat []) 9 [(((rows [[.i (-1)], [.i 1], [.i 11]]).getD y14_t0.I.toNat []).getD 0 .nil)])), .l y1_a3001.L, .l y1_a3002.L])) else none) else none) else none) else none)) else (bif (y4_t0.I == 10) then (call3 (s_l18Rd_pick [.i 4, y4_b2000_0, y4_b2000_1]) fun y15_t0 y15_b2000_0 y15_b2000_1 => (bif (decide (0 ≤ y15_t0.I)) then (bif (decide (y15_t0.I < ((rows [[.i (-1)], [.i 1], [.i 3], [.i 4]]).length : Int))) then (bif (decide (0 ≤ y2_t0.I)) then (bif (decide (y2_t0.I < (y1_a3000.L.length : Int))) then (some (.ret [y1_t0_0, y15_b2000_0, y15_b2000_1, .l (y1_a3000.L.set y2_t0.I.toNat (setCs (y1_a3000.L.getD y2_t0.I.toNat []) 12 [(((rows [[.i (-1)], [.i 1], [.i 3], [.i 4]]).getD y15_t0.I.toNat []).getD 0 .nil)])), .l y1_a3001.L, .l y1_a3002.L])) else none) else none) else none) else none)) else (bif (y4_t0.I == 11) then (call3 (s_l18Rd_pick [.i 3, y4_b2000_0, y4_b2000_1]) fun y16_t0 y16_b2000_0 y16_b2000_1 => (bif (decide (0 ≤ y16_t0.I)) then (bif (decide (y16_t0.I < ((rows [[.i (-1)], [.i 1], [.i 1000001]]).length : Int))) then (bif (decide (0 ≤ y2_t0.I)) then (bif (decide (y2_t0.I < (y1_a3000.L.length : Int))) then (some (.ret [y1_t0_0, y16_b2000_0, y16_b2000_1, .l (y1_a3000.L.set y2_t0.I.toNat (setCs (y1_a3000.L.getD y2_t0.I.toNat []) 11 [(((rows [[.i (-1)], [.i 1], [.i 1000001]]).getD y16_t0.I.toNat []).getD 0 .nil)])), .l y1_a3001.L, .l y1_a3002.L])) else none) else none) else none) else none)) else (bif (y4_t0.I == 12) then (call3 (s_l18Rd_pick [.i 2, y4_b2000_0, y4_b2000_1]) fun y17_t0 y17_b2000_0 y17_b2000_1 => (bif (decide (0 ≤ y17_t0.I)) then (bif (decide (y17_t0.I < ((rows [[.s (bs #[110, 111, 110, 101])], [.s (bs #[])]]).length : Int))) then (bif (decide (0 ≤ y3_t0.I)) then (bif (decide (y3_t0.I < (y1_a3001.L.length : Int))) then (some (.ret [y1_t0_0, y17_b2000_0, y17_b2000_1, .l y1_a3000.L, .l (y1_a3001.L.set y3_t0.I.toNat (setCs (y1_a3001.L.getD y3_t0.I.toNat []) 0 [(((rows [[.s (bs #[110, 111, 110, 101])], [.s (bs #[])]]).getD y17_t0.I.toNat []).getD 0 .nil)])), .l y1_a3002.L])) else none) else none) else none) else none)) else (bif (y4_t0.I == 13) then (call3 (s_l18Rd_pick [.i 2, y4_b2000_0, y4_b2000_1]) fun y18_t0 y18_b2000_0 y18_b2000_1 => (bif (decide (0 ≤ y18_t0.I)) then (bif (decide (y18_t0.I < ((rows [[.i 0], [.i 999]]).length : Int))) then (bif (decide (0 ≤ y3_t0.I)) then (bif (decide (y3_t0.I < (y1_a3001.L.length : Int))) then (some (.ret [y1_t0_0, y18_b2000_0, y18_b2000_1, .l y1_a3000.L, .l (y1_a3001.L.set y3_t0.I.toNat (setCs (y1_a3001.L.getD y3_t0.I.toNat []) 1 [(((rows [[.i 0], [.i 999]]).getD y18_t0.I.toNat []).getD 0 .nil)])), .l y1_a3002.L])) else none) else none) else none) else none)) else (bif (y4_t0.I == 14) then (call3 (s_l18Rd_pick [.i 4, y4_b2000_0, y4_b2000_1]) fun y19_t0 y19_b2000_0 y19_b2000_1 => (bif (decide (0 ≤ y19_t0.I)) then (bif (decide (y19_t0.I < ((rows [[.i 0], [.i 1], [.i 3], [.i 5]]).length : Int))) then (bif (decide (0 ≤ y3_t0.I)) then (bif (decide (y3_t0.I < (y1_a3001.L.length : Int))) then (some (.ret [y1_t0_0, y19_b2000_0, y19_b2000_1, .l y1_a3000.L, .l (y1_a3001.L.set y3_t0.I.toNat (setCs (y1_a3001.L.getD y3_t0.I.toNat []) 4 [(((rows [[.i 0], [.i 1], [.i 3], [.i 5]]).getD y19_t0.I.toNat []).getD 0 .nil)])), .l y1_a3002.L])) else none) else none) else none) else none)) else (bif (y4_t0.I == 15) then (call3 (s_l18Rd_pick [.i 3, y4_b2000_0, y4_b2000_1]) fun y20_t0 y20_b2000_0 y20_b2000_1 => (bif (decide (0 ≤ y20_t0.I)) then (bif (decide (y20_t0.I < ((rows [[.s (bs #[])], [.s (bs #[97])], [.s (bs #[110, 111, 110, 101])]]).length : Int))) then (bif (decide (0 ≤ y3_t0.I)) then (bif (decide (y3_t0.I < (y1_a3001.L.length : Int))) then (some (.ret [y1_t0_0, y20_b2000_0, y20_b2000_1, .l y1_a3000.L, .l (y1_a3001.L.set y3_t0.I.toNat (setCs (y1_a3001.L.getD y3_t0.I.toNat []) 6 [(((rows [[.s (bs #[])], [.s (bs #[97])], [.s (bs #[110, 111, 110, 101])]]).getD y20_t0.I.toNat []).getD 0 .nil)])), .l y1_a3002.L])) else none) else none) else none) else none)) else (bif (y4_t0.I == 16) then (bif (decide (0 ≤ y3_t0.I)) then (bif (decide (y3_t0.I < (y1_a3001.L.length : Int))) then (bif (decide (y1_a3001.L.length + (rows [[((y1_a3001.L.getD y3_t0.I.toNat []).getD 0 .nil), ((y1_a3001.L.getD y3_t0.I.toNat []).getD 1 .nil), ((y1_a3001.L.getD y3_t0.I.toNat []).getD 2 .nil), ((y1_a3001.L.getD y3_t0.I.toNat []).getD 3 .nil), ((y1_a3001.L.getD y3_t0.I.toNat []).getD 4 .nil), ((y1_a3001.L.getD y3_t0.I.toNat []).getD 5 .nil), ((y1_a3001.L.getD y3_t0.I.toNat []).getD 6 .nil)]]).length ≤ 4294967296)) then (some (.ret [y1_t0_0, y4_b2000_0, y4_b2000_1, .l y1_a3000.L, .l (y1_a3001.L ++ (rows [[((y1_a3001.L.getD y3_t0.I.toNat []).getD 0 .nil), ((y1_a3001.L.getD y3_t0.I.toNat []).getD 1 .nil), ((y1_a3001.L.getD y3_t0.I.toNat []).getD 2 .nil), ((y1_a3001.L.getD y3_t0.I.toNat []).getD 3 .nil), ((y1_a3001.L.getD y3_t0.I.toNat []).getD 4 .nil), ((y1_a3001.L.getD y3_t0.I.toNat []).getD 5 .nil), ((y1_a3001.L.getD y3_t0.I.toNat []).getD 6 .nil)]])), .l y1_a3002.L])) else none) else none) else none) else (bif (y4_t0.I == 17) then (call3 (s_l18Rd_pick [.i 3, y4_b2000_0, y4_b2000_1]) fun y21_t0 y21_b2000_0 y21_b2000_1 => (bif (decide (0 ≤ y21_t0.I)) then (bif (decide (y21_t0.I < ((rows [[.s (bs #[])], [.s (bs #[122])], [.s (bs #[97])]]).length : Int))) then (bif (decide (y1_a3002.L.length + (rows [[(((rows [[.s (bs #[])], [.s (bs #[122])], [.s (bs #[97])]]).getD y21_t0.I.toNat []).getD 0 .nil), .b false]]).length ≤ 4294967296)) then (some (.ret [y1_t0_0, y21_b2000_0, y21_b2000_1, .l y1_a3000.L, .l y1_a3001.L, .l (y1_a3002.L ++ (rows [[(((rows [[.s (bs #[])], [.s (bs #[122])], [.s (bs #[97])]]).getD y21_t0.I.toNat []).getD 0 .nil), .b false]]))])) else none) else none) else none)) else (bif (y4_t0.I == 18) then (call3 (s_l18Rd_pick [.i 2, y4_b2000_0, y4_b2000_1]) fun y22_t0 y22_b2000_0 y22_b2000_1 => (bif (decide (0 ≤ y22_t0.I)) then (bif (decide (y22_t0.I < ((rows [[.i 0], [.i (w64 (y1_t0_0.I + 1))]]).length : Int))) then (bif (decide (0 ≤ y3_t0.I)) then (bif (decide (y3_t0.I < (y1_a3001.L.length : Int))) then (some (.ret [y1_t0_0, y22_b2000_0, y22_b2000_1, .l y1_a3000.L, .l (y1_a3001.L.set y3_t0.I.toNat (setCs (y1_a3001.L.getD y3_t0.I.toNat []) 2 [(((rows [[.i 0], [.i (w64 (y1_t0_0.I + 1))]]).getD y22_t0.I.toNat []).getD 0 .nil)])), .l y1_a3002.L])) else none) else none) else none) else none)) else (bif (decide (0 ≤ y3_t0.I)) then (bif (decide (y3_t0.I < (y1_a3001.L.length : Int))) then (bif (decide (0 ≤ y3_t0.I)) then (bif (decide (y3_t0.I < (y1_a3001.L.length : Int))) then (some (.ret [y1_t0_0, y4_b2000_0, y4_b2000_1, .l y1_a3000.L, .l (y1_a3001.L.set y3_t0.I.toNat (setCs (y1_a3001.L.getD y3_t0.I.toNat []) 5 [.b (!(((y1_a3001.L.getD y3_t0.I.toNat []).getD 5 .nil).B))])), .l y1_a3002.L])) else none) else none) else none) else none)))))))))))))))))))))) else (some (.ret [.i (-1), y3_b2000_0, y3_b2000_1, .l nils, .l nils, .l nils]))))))
def s_l18Spoil : List C → Option (List C) := fun xs => finR (ap6 s_l18Spoil.d1 xs)
def s_l18Spoil_fs : FS := ⟨2, ⟨[(0, (.pt 2000 0)), (1, z2)], [(2000, z7)]⟩, ⟨[(0, (.ag [zi, (.ow 3001), (.ow 3002), (.ow 3003)]))], [(2000, z7), (3001, .arr 48), (3002, .arr 58), (3003, .arr 55)]⟩, [2000], s_l18Spoil⟩
theorem s_l18Spoil_ok : FSOk Try.checked.prog T0 25 s_l18Spoil_fs := okOf base0 (fn := Try.f25) (c := Try.f25.body.getD .skip) s_l18Spoil_fs .leaf [(12, some 14, s_l18Rd_pick_fs), (12, some 19, s_l18Rd_pick_fs), (12, some 32, s_l18Rd_pick_fs), (12, some 49, s_l18Rd_pick_fs), (12, some 60, s_l18Rd_pick_fs), (12, some 77, s_l18Rd_pick_fs), (12, some 89, s_l18Rd_pick_fs), (12, some 101, s_l18Rd_pick_fs), (12, some 113, s_l18Rd_pick_fs), (12, some 130, s_l18Rd_pick_fs), (12, some 142, s_l18Rd_pick_fs), (12, some 154, s_l18Rd_pick_fs), (12, some 166, s_l18Rd_pick_fs), (12, some 178, s_l18Rd_pick_fs), (12, some 190, s_l18Rd_pick_fs), (12, some 202, s_l18Rd_pick_fs), (12, some 214, s_l18Rd_pick_fs), (12, some 226, s_l18Rd_pick_fs), (12, some 238, s_l18Rd_pick_fs), (12, some 261, s_l18Rd_pick_fs), (12, some 278, s_l18Rd_pick_fs), (61, some 9, s_l18Book_fs)] (.cons s_l18Rd_pick_ok (.cons s_l18Rd_pick_ok (.cons s_l18Rd_pick_ok (.cons s_l18Rd_pick_ok (.cons s_l18Rd_pick_ok (.cons s_l18Rd_pick_ok (.cons s_l18Rd_pick_ok (.cons s_l18Rd_pick_ok (.cons s_l18Rd_pick_ok (.cons s_l18Rd_pick_ok (.cons s_l18Rd_pick_ok (.cons s_l18Rd_pick_ok (.cons s_l18Rd_pick_ok (.cons s_l18Rd_pick_ok (.cons s_l18Rd_pick_ok (.cons s_l18Rd_pick_ok (.cons s_l18Rd_pick_ok (.cons s_l18Rd_pick_ok (.cons s_l18Rd_pick_ok (.cons s_l18Rd_pick_ok (.cons s_l18Rd_pick_ok (.cons s_l18Book_ok .nil)))))))))))))))))))))) (by kernel_rfl) (by kernel_rfl) (by kernel_rfl) (fun xs => by kernel_rfl)
end
end Go.Ev
namespace Go.Ev
open Go.Proofs
noncomputable section
def s_l18Any.d1 (t4 t5 b2000_0 b2000_1 b2_0 b3_0 a1012700 a1012701 a1012702 a35769 a35770 a35771 : C) : R := (bif (decide ((a35770.L.length : Int) < t5.I)) then (bif (decide (0 ≤ t4.I)) then (bif (decide (t4.I < (a35769.L.length : Int))) then (bif (decide (0 ≤ t4.I)) then (bif (decide (t4.I < (a35769.L.length : Int))) then (call3 (s_l18Rd_pick [.i 2, b2000_0, b2000_1]) fun y6_t0 y6_b2000_0 y6_b2000_1 => (bif (decide (0 < (a35771.L.length : Int))) then (bif (decide (a35770.L.length + (rows [[((a35769.L.getD t4.I.toNat []).getD 0 .nil), ((a35769.L.getD t4.I.toNat []).getD 7 .nil), .i 1, .i 1, .i 3, .b (y6_t0.I == 0), ((a35771.L.getD 0 []).getD 0 .nil)]]).length ≤ 4294967296)) then (bif (decide (0 ≤ t4.I)) then (bif (decide (t4.I < (a35769.L.length : Int))) then (bif (decide (0 ≤ t4.I)) then (bif (decide (t4.I < (a35769.L.length : Int))) then (some (.again [t4, t5, y6_b2000_0, y6_b2000_1, b2_0, b3_0, .l a1012700.L, .l a1012701.L, .l a1012702.L, .l (a35769.L.set t4.I.toNat (setCs (a35769.L.getD t4.I.toNat []) 7 [.i (w64 (((a35769.L.getD t4.I.toNat []).getD 7 .nil).I + 1))])), .l (a35770.L ++ (rows [[((a35769.L.getD t4.I.toNat []).getD 0 .nil), ((a35769.L.getD t4.I.toNat []).getD 7 .nil), .i 1, .i 1, .i 3, .b (y6_t0.I == 0), ((a35771.L.getD 0 []).getD 0 .nil)]])), .l a35771.L])) else none) else none) else none) else none) else none) else none)) else none) else none) else none) else none) else (some (.brk 1 [b2000_0, b2000_1, b2_0, b3_0, .l a1012700.L, .l a1012701.L, .l a1012702.L, .l a35769.L, .l a35770.L, .l a35771.L])))
def s_l18Any.d2 (b2000_0 b2000_1 b2_0 b3_0 a1012700 a1012701 a1012702 a35769 a35770 a35771 : C) : R := (some (.ret [b3_0, b2000_0, b2000_1, .l a35769.L, .l a35770.L, .l a35771.L]))
def s_l18Any.d3 (t32 b2000_0 b2000_1 b2_0 b3_0 a1012700 a1012701 a1012702 a35769 a35770 a35771 : C) : R := (bif t32.B then (call3 (s_l18Rd_pick [.i 4, b2000_0, b2000_1]) fun y5_t0 y5_b2000_0 y5_b2000_1 => (bindBlk 1 (lim (ap12 s_l18Any.d1) [.i (w64 ((a35769.L.length : Int) - 1)), .i (w64 (200 - y5_t0.I)), y5_b2000_0, y5_b2000_1, b2_0, b3_0, .l a1012700.L, .l a1012701.L, .l a1012702.L, .l a35769.L, .l a35770.L, .l a35771.L]) (ap10 s_l18Any.d2))) else (some (.ret [b3_0, b2000_0, b2000_1, .l a35769.L, .l a35770.L, .l a35771.L])))
def s_l18Any.d4 (b2000_0 b2000_1 : C) : R := (call6 (s_l18Draw [b2000_0, b2000_1]) fun y1_t0_0 y1_b2000_0 y1_b2000_1 y1_a3001 y1_a3002 y1_a3003 => (call3 (s_l18Rd_pick [.i 24, y1_b2000_0, y1_b2000_1]) fun y2_t0 y2_b2000_0 y2_b2000_1 => (bif (y2_t0.I == 0) then (call6 (s_l18Spoil [y1_t0_0, .l y1_a3001.L, .l y1_a3002.L, .l y1_a3003.L, y2_b2000_0, y2_b2000_1]) fun y3_t0_0 y3_b2000_0 y3_b2000_1 y3_a3001 y3_a3002 y3_a3003 => (some (.ret [y3_t0_0, y3_b2000_0, y3_b2000_1, .l y3_a3001.L, .l y3_a3002.L, .l y3_a3003.L]))) else (bif (y2_t0.I == 1) then (call3 (s_l18Rd_pick [.i 2, y2_b2000_0, y2_b2000_1]) fun y4_t0 y4_b2000_0 y4_b2000_1 => (some (.ret [.i (w64 (1000000 - y4_t0.I)), y4_b2000_0, y4_b2000_1, .l y1_a3001.L, .l y1_a3002.L, .l y1_a3003.L]))) else (bif (y2_t0.I == 2) then (bindNrm (bif (decide ((y1_a3001.L.length : Int) > 0)) then (some (.nrm [.b (decide ((y1_a3003.L.length : Int) > 0)), y2_b2000_0, y2_b2000_1, .i 0, y1_t0_0, .l nils, .l nils, .l nils, .l y1_a3001.L, .l y1_a3002.L, .l y1_a3003.L])) else (some (.nrm [.b false, y2_b2000_0, y2_b2000_1, .i 0, y1_t0_0, .l nils, .l nils, .l nils, .l y1_a3001.L, .l y1_a3002.L, .l y1_a3003.L]))) (ap11 s_l18Any.d3)) else (bif (y2_t0.I == 3) then (bif (decide ((y1_a3001.L.length : Int) > 0)) then (call3 (s_l18Rd_pick [.i 2, y2_b2000_0, y2_b2000_1]) fun y7_t0 y7_b2000_0 y7_b2000_1 => (bif (decide (0 < (y1_a3001.L.length : Int))) then (some (.ret [y1_t0_0, y7_b2000_0, y7_b2000_1, .l (y1_a3001.L.set 0 (setCs (y1_a3001.L.getD 0 []) 7 [.i (w64 (1000000 - y7_t0.I))])), .l y1_a3002.L, .l y1_a3003.L])) else none)) else (some (.ret [y1_t0_0, y2_b2000_0, y2_b2000_1, .l y1_a3001.L, .l y1_a3002.L, .l y1_a3003.L]))) else (some (.ret [y1_t0_0, y2_b2000_0, y2_b2000_1, .l y1_a3001.L, .l y1_a3002.L, .l y1_a3003.L]))))))))
def s_l18Any : List C → Option (List C) := fun xs => finR (ap2 s_l18Any.d4 xs)
def s_l18Any_fs : FS := ⟨1, ⟨[(0, (.pt 2000 0))], [(2000, z7)]⟩, ⟨[(0, (.ag [zi, (.ow 3001), (.ow 3002), (.ow 3003)]))], [(2000, z7), (3001, .arr 48), (3002, .arr 58), (3003, .arr 55)]⟩, [2000], s_l18Any⟩
theorem s_l18Any_ok : FSOk Try.checked.prog T0 11 s_l18Any_fs := okOf base0 (fn := Try.f11) (c := Try.f11.body.getD .skip) s_l18Any_fs (.seq .leaf (.seq .leaf (.seq (.seq .leaf (.skip (.seq .leaf (.cond (.seq (.frz [35769, 35770, 35771] .leaf) .leaf) (.seq .leaf (.cond .leaf (.seq .leaf (.cond (.seq (.join ⟨[(0, (.pt 2000 0)), (2, (.pt 2 0)), (3, (.pt 3 0)), (32, zo)], [(2000, z7), (2, .var 27 [zi, (.ow 1012700), (.ow 1012701), (.ow 1012702)]), (3, .var 27 [zi, (.ow 35769), (.ow 35770), (.ow 35771)]), (1012700, .arr 48), (1012701, .arr 58), (1012702, .arr 55), (35769, .arr 48), (35770, .arr 58), (35771, .arr 55)]⟩ .leaf) (.cond (.seq .leaf (.seq .leaf (.block ⟨[(2, (.pt 2 0)), (3, (.pt 3 0))], [(2000, z7), (2, .var 27 [zi, (.ow 1012700), (.ow 1012701), (.ow 1012702)]), (3, .var 27 [zi, (.ow 35769), (.ow 35770), (.ow 35771)]), (1012700, .arr 48), (1012701, .arr 58), (1012702, .arr 55), (35769, .arr 48), (35770, .arr 58), (35771, .arr 55)]⟩ (.loop ⟨[(0, (.pt 2000 0)), (2, (.pt 2 0)), (3, (.pt 3 0)), (4, zi), (5, zi)], [(2000, z7), (2, .var 27 [zi, (.ow 1012700), (.ow 1012701), (.ow 1012702)]), (3, .var 27 [zi, (.ow 35769), (.ow 35770), (.ow 35771)]), (1012700, .arr 48), (1012701, .arr 58), (1012702, .arr 55), (35769, .arr 48), (35770, .arr 58), (35771, .arr 55)]⟩ .leaf)))) .leaf)) .leaf)))))))) .leaf))) [(12, some 9, s_l18Rd_pick_fs), (12, some 18, s_l18Rd_pick_fs), (12, some 38, s_l18Rd_pick_fs), (12, some 60, s_l18Rd_pick_fs), (12, some 89, s_l18Rd_pick_fs), (24, some 7, s_l18Draw_fs), (25, some 14, s_l18Spoil_fs)] (.cons s_l18Rd_pick_ok (.cons s_l18Rd_pick_ok (.cons s_l18Rd_pick_ok (.cons s_l18Rd_pick_ok (.cons s_l18Rd_pick_ok (.cons s_l18Draw_ok (.cons s_l18Spoil_ok .nil))))))) (by kernel_rfl) (by kernel_rfl) (by kernel_rfl) (fun xs => by kernel_rfl)
def s_DrawStewAsk.d1 (t6 t7 b3_0 b43960_0 b43960_1 b5_0 b5_1 b5_2 b5_3 a1007400 a1007401 a1007402 : C) : R := (bif (decide (t7.I < 6)) then (call3 (s_l18Rd_pick [.i 8, b43960_0, b43960_1]) fun y4_t0 y4_b2000_0 y4_b2000_1 => (bif (decide (y4_t0.I > 0)) then (call1 (s_StewAsk [.i (w64 (1 + ((w64 (t6.I + t7.I)).tmod 6))), b5_0, b5_1, b5_2, b5_3]) fun y5_a3000 => (bif (decide ((y5_a3000.L.length : Int) > 0)) then (some (.ret [.i (w64 (1 + ((w64 (t6.I + t7.I)).tmod 6))), b5_0, b5_1, b5_2, b5_3])) else (some (.again [t6, .i (w64 (t7.I + 1)), b3_0, y4_b2000_0, y4_b2000_1, b5_0, b5_1, b5_2, b5_3, .l a1007400.L, .l a1007401.L, .l a1007402.L])))) else (some (.brk 0 [b3_0, y4_b2000_0, y4_b2000_1, b5_0, b5_1, b5_2, b5_3, .l a1007400.L, .l a1007401.L, .l a1007402.L])))) else (some (.brk 0 [b3_0, b43960_0, b43960_1, b5_0, b5_1, b5_2, b5_3, .l a1007400.L, .l a1007401.L, .l a1007402.L])))
def s_DrawStewAsk.d2 (b3_0 b43960_0 b43960_1 b5_0 b5_1 b5_2 b5_3 a1007400 a1007401 a1007402 : C) : R := (call3 (s_l18Rd_pick [.i 8, b43960_0, b43960_1]) fun y6_t0 y6_b2000_0 y6_b2000_1 => (some (.ret [y6_t0, b5_0, b5_1, b5_2, b5_3])))
def s_DrawStewAsk.d3 (t0 : C) : R := (call2 (s_l18Open [t0]) fun y1_b3000_0 y1_b3000_1 => (call6 (s_l18Any [y1_b3000_0, y1_b3000_1]) fun y2_t0_0 y2_b2000_0 y2_b2000_1 y2_a3001 y2_a3002 y2_a3003 => (call3 (s_l18Rd_pick [.i 6, y2_b2000_0, y2_b2000_1]) fun y3_t0 y3_b2000_0 y3_b2000_1 => (bindBlk 0 (lim (ap12 s_DrawStewAsk.d1) [y3_t0, .i 0, .i 0, y3_b2000_0, y3_b2000_1, y2_t0_0, .l y2_a3001.L, .l y2_a3002.L, .l y2_a3003.L, .l nils, .l nils, .l nils]) (ap10 s_DrawStewAsk.d2)))))
def s_DrawStewAsk : List C → Option (List C) := fun xs => finR (ap1 s_DrawStewAsk.d3 xs)
def s_DrawStewAsk_fs : FS := ⟨1, ⟨[(0, (zl 5))], []⟩, ⟨[(0, (.tu [zi, z2]))], []⟩, [], s_DrawStewAsk⟩
theorem s_DrawStewAsk_ok : FSOk Try.checked.prog T0 4 s_DrawStewAsk_fs := okOf base0 (fn := Try.f4) (c := Try.f4.body.getD .skip) s_DrawStewAsk_fs (.seq .leaf (.seq .leaf (.seq .leaf (.seq .leaf (.seq (.seq .leaf (.block ⟨[(3, (.pt 3 0)), (4, (.pt 43960 0)), (5, (.pt 5 0))], [(3, .var 27 [zi, (.ow 1007400), (.ow 1007401), (.ow 1007402)]), (43960, z7), (5, z0), (1007400, .arr 48), (1007401, .arr 58), (1007402, .arr 55)]⟩ (.loop ⟨[(3, (.pt 3 0)), (4, (.pt 43960 0)), (5, (.pt 5 0)), (6, zi), (7, zi)], [(3, .var 27 [zi, (.ow 1007400), (.ow 1007401), (.ow 1007402)]), (43960, z7), (5, z0), (1007400, .arr 48), (1007401, .arr 58), (1007402, .arr 55)]⟩ (.seq .leaf (.seq (.skip (.seq (.frz [52153, 52154, 52155] .leaf) .leaf)) .leaf))))) (.seq .leaf (.frz [52153, 52154, 52155] .leaf))))))) [(7, some 29, s_StewAsk_fs), (10, some 9, s_l18Open_fs), (11, some 11, s_l18Any_fs), (12, some 13, s_l18Rd_pick_fs), (12, some 18, s_l18Rd_pick_fs), (12, some 39, s_l18Rd_pick_fs)] (.cons s_StewAsk_ok (.cons s_l18Open_ok (.cons s_l18Any_ok (.cons s_l18Rd_pick_ok (.cons s_l18Rd_pick_ok (.cons s_l18Rd_pick_ok .nil)))))) (by kernel_rfl) (by kernel_rfl) (by kernel_rfl) (fun xs => by kernel_rfl)
def i_within.d1 (t0 t1 t2 : C) : R := (bif (decide (t0.I ≥ t1.I)) then (some (.ret [.b (decide (t0.I ≤ t2.I))])) else (some (.ret [.b false])))
def i_within : List C → Option (List C) := fun xs => finR (ap3 i_within.d1 xs)
def i_within_fs : FS := ⟨3, ⟨[(0, zi), (1, zi), (2, zi)], []⟩, ⟨[(0, zo)], []⟩, [], i_within⟩
theorem i_within_ok : FSOk Try.checked.prog T0 26 i_within_fs := okOf base0 (fn := Try.f26) (c := Try.f26.body.getD .skip) i_within_fs .leaf [] .nil (by kernel_rfl) (by kernel_rfl) (by kernel_rfl) (fun xs => by kernel_rfl)
def i_isName.d1 (t0 t14 t15 t39 : C) : R := (bif t39.B then (some (.ret [.b false])) else (some (.again [t0, t14, .i (w64 (t15.I + 1))])))
def i_isName.d2 (t0 t14 t15 : C) : R := (bif (decide (t15.I < t14.I)) then (bif (decide (0 ≤ t15.I)) then (bif (decide (t15.I < (t0.S.size : Int))) then (bindNrm (bif (decide (((t0.S.data.getD t15.I.toNat 0).toNat : Int) ≥ 97)) then (bif (!(decide (((t0.S.data.getD t15.I.toNat 0).toNat : Int) ≤ 122))) then (bif (decide (((t0.S.data.getD t15.I.toNat 0).toNat : Int) ≥ 48)) then (bif (!(decide (((t0.S.data.getD t15.I.toNat 0).toNat : Int) ≤ 57))) then (some (.nrm [t0, t14, t15, .b (!(((t0.S.data.getD t15.I.toNat 0).toNat : Int) == 45))])) else (some (.nrm [t0, t14, t15, .b false]))) else (some (.nrm [t0, t14, t15, .b (!(((t0.S.data.getD t15.I.toNat 0).toNat : Int) == 45))]))) else (some (.nrm [t0, t14, t15, .b false]))) else (bif (decide (((t0.S.data.getD t15.I.toNat 0).toNat : Int) ≥ 48)) then (bif (!(decide (((t0.S.data.getD t15.I.toNat 0).toNat : Int) ≤ 57))) then (some (.nrm [t0, t14, t15, .b (!(((t0.S.data.getD t15.I.toNat 0).toNat : Int) == 45))])) else (some (.nrm [t0, t14, t15, .b false]))) else (some (.nrm [t0, t14, t15, .b (!(((t0.S.data.getD t15.I.toNat 0).toNat : Int) == 45))])))) (ap4 i_isName.d1)) else none) else none) else (some (.brk 0 [])))
def i_isName.d3 : R := (some (.ret [.b true]))
def i_isName.d4 (t0 : C) : R := (bif (!(decide ((t0.S.size : Int) < 1))) then (bif (decide ((t0.S.size : Int) > 20)) then (some (.ret [.b false])) else (bindBlk 0 (lim (ap3 i_isName.d2) [t0, .i (t0.S.size : Int), .i 0]) (fun xs => i_isName.d3))) else (some (.ret [.b false])))
def i_isName : List C → Option (List C) := fun xs => finR (ap1 i_isName.d4 xs)
def i_isName_fs : FS := ⟨1, ⟨[(0, zt)], []⟩, ⟨[(0, zo)], []⟩, [], i_isName⟩
theorem i_isName_ok : FSOk Try.checked.prog T0 28 i_isName_fs := okOf base0 (fn := Try.f28) (c := Try.f28.body.getD .skip) i_isName_fs (.seq .leaf (.seq .leaf (.seq (.seq .leaf (.block ⟨[], []⟩ (.loop ⟨[(0, zt), (14, zi), (15, zi)], []⟩ (.seq .leaf (.seq .leaf (.seq (.skip (.seq .leaf (.seq .leaf (.seq (.join ⟨[(0, zt), (14, zi), (15, zi), (39, zo)], []⟩ .leaf) .leaf)))) .leaf)))))) .leaf))) [] .nil (by kernel_rfl) (by kernel_rfl) (by kernel_rfl) (fun xs => by kernel_rfl)
def i_serviceOk.d1 (t0_0 t0_1 t0_2 t0_3 t0_4 t0_5 t0_6 t0_7 t0_8 t0_9 t0_10 t0_11 t0_12 t1 : C) : R := (call1 (i_isName [t0_0]) fun y1_t0 => (bif (!(!y1_t0.B)) then (call1 (i_within [t0_1, .i 1, t1]) fun y2_t0 => (bif (!(!y2_t0.B)) then (call1 (i_within [t0_3, .i 1, .i 1000000]) fun y3_t0 => (bif (!(!y3_t0.B)) then (call1 (i_within [t0_7, .i 1, .i 1000000]) fun y4_t0 => (bif (!(!y4_t0.B)) then (call1 (i_within [t0_4, .i 0, .i 10]) fun y5_t0 => (bif (!(!y5_t0.B)) then (call1 (i_within [t0_5, .i 0, .i 10]) fun y6_t0 => (bif (!(!y6_t0.B)) then (call1 (i_within [t0_6, .i 0, .i 10]) fun y7_t0 => (bif (!(!y7_t0.B)) then (bif ((w64 (t0_5.I + t0_6.I)) == 0) then (some (.ret [.b false])) else (call1 (i_within [t0_8, .i 0, .i 1000000]) fun y8_t0 => (bif (!(!y8_t0.B)) then (call1 (i_within [t0_11, .i 0, .i 1000000]) fun y9_t0 => (bif (!(!y9_t0.B)) then (call1 (i_within [t0_9, .i 0, .i 10]) fun y10_t0 => (bif (!(!y10_t0.B)) then (call1 (i_within [t0_10, .i 0, .i 10]) fun y11_t0 => (bif (!(!y11_t0.B)) then (bif (!(decide (t0_9.I > t0_10.I))) then (call1 (i_within [t0_12, .i 0, .i 3]) fun y12_t0 => (bif (!y12_t0.B) then (some (.ret [.b false])) else (bif (!(decide (t0_8.I > 0))) then (bif (t0_9.I == 0) then (bif (t0_10.I == 0) then (bif (t0_11.I == 0) then (some (.ret [.b (t0_12.I == 0)])) else (some (.ret [.b false]))) else (some (.ret [.b false]))) else (some (.ret [.b false]))) else (some (.ret [.b true]))))) else (some (.ret [.b false]))) else (some (.ret [.b false])))) else (some (.ret [.b false])))) else (some (.ret [.b false])))) else (some (.ret [.b false]))))) else (some (.ret [.b false])))) else (some (.ret [.b false])))) else (some (.ret [.b false])))) else (some (.ret [.b false])))) else (some (.ret [.b false])))) else (some (.ret [.b false])))) else (some (.ret [.b false]))))
def i_serviceOk : List C → Option (List C) := fun xs => finR (ap14 i_serviceOk.d1 xs)
def i_serviceOk_fs : FS := ⟨2, ⟨[(0, z6), (1, zi)], []⟩, ⟨[(0, zo)], []⟩, [], i_serviceOk⟩
theorem i_serviceOk_ok : FSOk Try.checked.prog T0 27 i_serviceOk_fs := okOf base0 (fn := Try.f27) (c := Try.f27.body.getD .skip) i_serviceOk_fs .leaf [(26, some 13, i_within_fs), (26, some 19, i_within_fs), (26, some 25, i_within_fs), (26, some 31, i_within_fs), (26, some 37, i_within_fs), (26, some 43, i_within_fs), (26, some 56, i_within_fs), (26, some 61, i_within_fs), (26, some 67, i_within_fs), (26, some 73, i_within_fs), (26, some 86, i_within_fs), (28, some 7, i_isName_fs)] (.cons i_within_ok (.cons i_within_ok (.cons i_within_ok (.cons i_within_ok (.cons i_within_ok (.cons i_within_ok (.cons i_within_ok (.cons i_within_ok (.cons i_within_ok (.cons i_within_ok (.cons i_within_ok (.cons i_isName_ok .nil)))))))))))) (by kernel_rfl) (by kernel_rfl) (by kernel_rfl) (fun xs => by kernel_rfl)
def i_StewBook_service.d1 (t1 t10 t11 b2000_0 b2000_1 b2000_2 b2000_3 : C) : R := (bif (decide (t11.I < t10.I)) then (bif (decide (0 ≤ t11.I)) then (bif (decide (t11.I < (b2000_1.L.length : Int))) then (bif ((((b2000_1.L.getD t11.I.toNat []).getD 0 .nil).S).toList == t1.S.toList) then (bif (decide (0 ≤ t11.I)) then (bif (decide (t11.I < (b2000_1.L.length : Int))) then (some (.ret [.p (b2000_1.L.getD t11.I.toNat []), b2000_0, b2000_1, b2000_2, b2000_3])) else none) else none) else (some (.again [t1, t10, .i (w64 (t11.I + 1)), b2000_0, b2000_1, b2000_2, b2000_3]))) else none) else none) else (some (.brk 0 [b2000_0, b2000_1, b2000_2, b2000_3])))
def i_StewBook_service.d2 (b2000_0 b2000_1 b2000_2 b2000_3 : C) : R := (some (.ret [.nil, b2000_0, b2000_1, b2000_2, b2000_3]))
def i_StewBook_service.d3 (t1 b2000_0 b2000_1 b2000_2 b2000_3 : C) : R := (bindBlk 0 (lim (ap7 i_StewBook_service.d1) [t1, .i (b2000_1.L.length : Int), .i 0, b2000_0, b2000_1, b2000_2, b2000_3]) (ap4 i_StewBook_service.d2))
def i_StewBook_service : List C → Option (List C) := fun xs => finR (ap5 i_StewBook_service.d3 xs)
def i_StewBook_service_fs : FS := ⟨2, ⟨[(0, (.pt 2000 0)), (1, zt)], [(2000, z0)]⟩, ⟨[(0, (.d (.pt 48)))], [(2000, z0)]⟩, [2000], i_StewBook_service⟩
theorem i_StewBook_service_ok : FSOk Try.checked.prog T0 29 i_StewBook_service_fs := okOf base0 (fn := Try.f29) (c := Try.f29.body.getD .skip) i_StewBook_service_fs (.seq .leaf (.seq (.seq .leaf (.block ⟨[], [(2000, z0)]⟩ (.loop ⟨[(0, (.pt 2000 0)), (1, zt), (10, zi), (11, zi)], [(2000, z0)]⟩ .leaf))) .leaf)) [] .nil (by kernel_rfl) (by kernel_rfl) (by kernel_rfl) (fun xs => by kernel_rfl)
def i_StewBook_berth.d1 (t1 t10 t11 b2000_0 b2000_1 b2000_2 b2000_3 : C) : R := (bif (decide (t11.I < t10.I)) then (bif (decide (0 ≤ t11.I)) then (bif (decide (t11.I < (b2000_3.L.length : Int))) then (bif ((((b2000_3.L.getD t11.I.toNat []).getD 0 .nil).S).toList == t1.S.toList) then (bif (decide (0 ≤ t11.I)) then (bif (decide (t11.I < (b2000_3.L.length : Int))) then (some (.ret [.p (b2000_3.L.getD t11.I.toNat []), b2000_0, b2000_1, b2000_2, b2000_3])) else none) else none) else (some (.again [t1, t10, .i (w64 (t11.I + 1)), b2000_0, b2000_1, b2000_2, b2000_3]))) else none) else none) else (some (.brk 0 [b2000_0, b2000_1, b2000_2, b2000_3])))
def i_StewBook_berth.d2 (b2000_0 b2000_1 b2000_2 b2000_3 : C) : R := (some (.ret [.nil, b2000_0, b2000_1, b2000_2, b2000_3]))
def i_StewBook_berth.d3 (t1 b2000_0 b2000_1 b2000_2 b2000_3 : C) : R := (bindBlk 0 (lim (ap7 i_StewBook_berth.d1) [t1, .i (b2000_3.L.length : Int), .i 0, b2000_0, b2000_1, b2000_2, b2000_3]) (ap4 i_StewBook_berth.d2))
def i_StewBook_berth : List C → Option (List C) := fun xs => finR (ap5 i_StewBook_berth.d3 xs)
def i_StewBook_berth_fs : FS := ⟨2, ⟨[(0, (.pt 2000 0)), (1, zt)], [(2000, z0)]⟩, ⟨[(0, (.d (.pt 55)))], [(2000, z0)]⟩, [2000], i_StewBook_berth⟩
theorem i_StewBook_berth_ok : FSOk Try.checked.prog T0 30 i_StewBook_berth_fs := okOf base0 (fn := Try.f30) (c := Try.f30.body.getD .skip) i_StewBook_berth_fs (.seq .leaf (.seq (.seq .leaf (.block ⟨[], [(2000, z0)]⟩ (.loop ⟨[(0, (.pt 2000 0)), (1, zt), (10, zi), (11, zi)], [(2000, z0)]⟩ .leaf))) .leaf)) [] .nil (by kernel_rfl) (by kernel_rfl) (by kernel_rfl) (fun xs => by kernel_rfl)
def i_StewValid.d1 (t34 t35 t36 b1_0 b1_1 b1_2 b1_3 : C) : R := (bif (decide (t36.I < t35.I)) then (bif (decide (0 ≤ t36.I)) then (bif (decide (t36.I < (t34.L.length : Int))) then (call1 (i_serviceOk [((t34.L.getD t36.I.toNat []).getD 0 .nil), ((t34.L.getD t36.I.toNat []).getD 1 .nil), ((t34.L.getD t36.I.toNat []).getD 2 .nil), ((t34.L.getD t36.I.toNat []).getD 3 .nil), ((t34.L.getD t36.I.toNat []).getD 4 .nil), ((t34.L.getD t36.I.toNat []).getD 5 .nil), ((t34.L.getD t36.I.toNat []).getD 6 .nil), ((t34.L.getD t36.I.toNat []).getD 7 .nil), ((t34.L.getD t36.I.toNat []).getD 8 .nil), ((t34.L.getD t36.I.toNat []).getD 9 .nil), ((t34.L.getD t36.I.toNat []).getD 10 .nil), ((t34.L.getD t36.I.toNat []).getD 11 .nil), ((t34.L.getD t36.I.toNat []).getD 12 .nil), b1_0]) fun y2_t0 => (bif (!(!y2_t0.B)) then (bif (decide (t36.I > 0)) then (bif (decide (0 ≤ (w64 (t36.I - 1)))) then (bif (decide ((w64 (t36.I - 1)) < (b1_1.L.length : Int))) then (bif ((Op.bytesLess (((t34.L.getD t36.I.toNat []).getD 0 .nil).S).toList (((b1_1.L.getD (w64 (t36.I - 1)).toNat []).getD 0 .nil).S).toList) || ((((t34.L.getD t36.I.toNat []).getD 0 .nil).S).toList == (((b1_1.L.getD (w64 (t36.I - 1)).toNat []).getD 0 .nil).S).toList)) then (some (.ret [.b false])) else (some (.again [t34, t35, .i (w64 (t36.I + 1)), b1_0, b1_1, b1_2, b1_3]))) else none) else none) else (some (.again [t34, t35, .i (w64 (t36.I + 1)), b1_0, b1_1, b1_2, b1_3]))) else (some (.ret [.b false])))) else none) else none) else (some (.brk 0 [b1_0, b1_1, b1_2, b1_3])))
def i_StewValid.d2 (t64 t65 t66 b1_0 b1_1 b1_2 b1_3 : C) : R := (bif (decide (t66.I < t65.I)) then (bif (decide (0 ≤ t66.I)) then (bif (decide (t66.I < (t64.L.length : Int))) then (call1 (i_isName [((t64.L.getD t66.I.toNat []).getD 0 .nil)]) fun y3_t0 => (bif (!(!y3_t0.B)) then (bif (decide (t66.I > 0)) then (bif (decide (0 ≤ (w64 (t66.I - 1)))) then (bif (decide ((w64 (t66.I - 1)) < (b1_3.L.length : Int))) then (bif ((Op.bytesLess (((t64.L.getD t66.I.toNat []).getD 0 .nil).S).toList (((b1_3.L.getD (w64 (t66.I - 1)).toNat []).getD 0 .nil).S).toList) || ((((t64.L.getD t66.I.toNat []).getD 0 .nil).S).toList == (((b1_3.L.getD (w64 (t66.I - 1)).toNat []).getD 0 .nil).S).toList)) then (some (.ret [.b false])) else (some (.again [t64, t65, .i (w64 (t66.I + 1)), b1_0, b1_1, b1_2, b1_3]))) else none) else none) else (some (.again [t64, t65, .i (w64 (t66.I + 1)), b1_0, b1_1, b1_2, b1_3]))) else (some (.ret [.b false])))) else none) else none) else (some (.brk 2 [b1_0, b1_1, b1_2, b1_3])))
def i_StewValid.d3 (t7 t93 t94 t95 t154 b1_0 b1_1 b1_2 b1_3 b8_0 b8_1 b8_2 b8_3 b8_4 b8_5 b8_6 : C) : R := (bif t154.B then (some (.ret [.b false])) else (bif (decide (t7.I > 0)) then (bif (decide (0 ≤ (w64 (t7.I - 1)))) then (bif (decide ((w64 (t7.I - 1)) < (b1_2.L.length : Int))) then (bif (!(Op.bytesLess b8_0.S.toList (((b1_2.L.getD (w64 (t7.I - 1)).toNat []).getD 0 .nil).S).toList)) then (bif (b8_0.S.toList == (((b1_2.L.getD (w64 (t7.I - 1)).toNat []).getD 0 .nil).S).toList) then (bif (decide (b8_1.I ≤ ((b1_2.L.getD (w64 (t7.I - 1)).toNat []).getD 1 .nil).I)) then (some (.ret [.b false])) else (some (.again [t93, t94, .i (w64 (t95.I + 1)), b1_0, b1_1, b1_2, b1_3]))) else (some (.again [t93, t94, .i (w64 (t95.I + 1)), b1_0, b1_1, b1_2, b1_3]))) else (some (.ret [.b false]))) else none) else none) else (some (.again [t93, t94, .i (w64 (t95.I + 1)), b1_0, b1_1, b1_2, b1_3]))))
def i_StewValid.d4 (t93 t94 t95 b1_0 b1_1 b1_2 b1_3 : C) : R := (bif (decide (t95.I < t94.I)) then (bif (decide (0 ≤ t95.I)) then (bif (decide (t95.I < (t93.L.length : Int))) then (call5 (i_StewBook_service [((t93.L.getD t95.I.toNat []).getD 0 .nil), b1_0, b1_1, b1_2, b1_3]) fun y4_t0 y4_b2000_0 y4_b2000_1 y4_b2000_2 y4_b2000_3 => (bif (!(!y4_t0.isP)) then (bif y4_t0.isP then (call1 (i_within [((t93.L.getD t95.I.toNat []).getD 1 .nil), .i 1, .i (w64 ((y4_t0.P.getD 7 .nil).I - 1))]) fun y5_t0 => (bif (!(!y5_t0.B)) then (call1 (i_within [((t93.L.getD t95.I.toNat []).getD 2 .nil), .i 1, y4_b2000_0]) fun y6_t0 => (bif (!(!y6_t0.B)) then (call1 (i_within [((t93.L.getD t95.I.toNat []).getD 3 .nil), .i 1, .i 1000000]) fun y7_t0 => (bif (!(!y7_t0.B)) then (call1 (i_within [((t93.L.getD t95.I.toNat []).getD 4 .nil), .i 1, .i 4]) fun y8_t0 => (bif (!y8_t0.B) then (some (.ret [.b false])) else (bindNrm (bif (((t93.L.getD t95.I.toNat []).getD 4 .nil).I == 1) then (bif (!(!((((t93.L.getD t95.I.toNat []).getD 6 .nil).S).toList == (bs #[]).toList))) then (bif (((t93.L.getD t95.I.toNat []).getD 4 .nil).I != 1) then (call5 (i_StewBook_berth [((t93.L.getD t95.I.toNat []).getD 6 .nil), y4_b2000_0, y4_b2000_1, y4_b2000_2, y4_b2000_3]) fun y9_t0 y9_b2000_0 y9_b2000_1 y9_b2000_2 y9_b2000_3 => (some (.nrm [t95, t93, t94, t95, .b (!y9_t0.isP), y9_b2000_0, y9_b2000_1, y9_b2000_2, y9_b2000_3, ((t93.L.getD t95.I.toNat []).getD 0 .nil), ((t93.L.getD t95.I.toNat []).getD 1 .nil), ((t93.L.getD t95.I.toNat []).getD 2 .nil), ((t93.L.getD t95.I.toNat []).getD 3 .nil), ((t93.L.getD t95.I.toNat []).getD 4 .nil), ((t93.L.getD t95.I.toNat []).getD 5 .nil), ((t93.L.getD t95.I.toNat []).getD 6 .nil)]))) else (some (.nrm [t95, t93, t94, t95, .b false, y4_b2000_0, y4_b2000_1, y4_b2000_2, y4_b2000_3, ((t93.L.getD t95.I.toNat []).getD 0 .nil), ((t93.L.getD t95.I.toNat []).getD 1 .nil), ((t93.L.getD t95.I.toNat []).getD 2 .nil), ((t93.L.getD t95.I.toNat []).getD 3 .nil), ((t93.L.getD t95.I.toNat []).getD 4 .nil), ((t93.L.getD t95.I.toNat []).getD 5 .nil), ((t93.L.getD t95.I.toNat []).getD 6 .nil)]))) else (some (.nrm [t95, t93, t94, t95, .b true, y4_b2000_0, y4_b2000_1, y4_b2000_2, y4_b2000_3, ((t93.L.getD t95.I.toNat []).getD 0 .nil), ((t93.L.getD t95.I.toNat []).getD 1 .nil), ((t93.L.getD t95.I.toNat []).getD 2 .nil), ((t93.L.getD t95.I.toNat []).getD 3 .nil), ((t93.L.getD t95.I.toNat []).getD 4 .nil), ((t93.L.getD t95.I.toNat []).getD 5 .nil), ((t93.L.getD t95.I.toNat []).getD 6 .nil)]))) else (bif (((t93.L.getD t95.I.toNat []).getD 4 .nil).I != 1) then (call5 (i_StewBook_berth [((t93.L.getD t95.I.toNat []).getD 6 .nil), y4_b2000_0, y4_b2000_1, y4_b2000_2, y4_b2000_3]) fun y10_t0 y10_b2000_0 y10_b2000_1 y10_b2000_2 y10_b2000_3 => (some (.nrm [t95, t93, t94, t95, .b (!y10_t0.isP), y10_b2000_0, y10_b2000_1, y10_b2000_2, y10_b2000_3, ((t93.L.getD t95.I.toNat []).getD 0 .nil), ((t93.L.getD t95.I.toNat []).getD 1 .nil), ((t93.L.getD t95.I.toNat []).getD 2 .nil), ((t93.L.getD t95.I.toNat []).getD 3 .nil), ((t93.L.getD t95.I.toNat []).getD 4 .nil), ((t93.L.getD t95.I.toNat []).getD 5 .nil), ((t93.L.getD t95.I.toNat []).getD 6 .nil)]))) else (some (.nrm [t95, t93, t94, t95, .b false, y4_b2000_0, y4_b2000_1, y4_b2000_2, y4_b2000_3, ((t93.L.getD t95.I.toNat []).getD 0 .nil), ((t93.L.getD t95.I.toNat []).getD 1 .nil), ((t93.L.getD t95.I.toNat []).getD 2 .nil), ((t93.L.getD t95.I.toNat []).getD 3 .nil), ((t93.L.getD t95.I.toNat []).getD 4 .nil), ((t93.L.getD t95.I.toNat []).getD 5 .nil), ((t93.L.getD t95.I.toNat []).getD 6 .nil)])))) (ap16 i_StewValid.d3)))) else (some (.ret [.b false])))) else (some (.ret [.b false])))) else (some (.ret [.b false])))) else none) else (some (.ret [.b false])))) else none) else none) else (some (.brk 4 [])))
def i_StewValid.d5 : R := (some (.ret [.b true]))
def i_StewValid.d6 (b1_0 b1_1 b1_2 b1_3 : C) : R := (bindBlk 4 (lim (ap7 i_StewValid.d4) [b1_2, .i (b1_2.L.length : Int), .i 0, b1_0, b1_1, b1_2, b1_3]) (fun xs => i_StewValid.d5))
def i_StewValid.d7 (b1_0 b1_1 b1_2 b1_3 : C) : R := (bindBlk 2 (lim (ap7 i_StewValid.d2) [b1_3, .i (b1_3.L.length : Int), .i 0, b1_0, b1_1, b1_2, b1_3]) (ap4 i_StewValid.d6))
def i_StewValid.d8 (t0_0 t0_1 t0_2 t0_3 : C) : R := (call1 (i_within [t0_0, .i 0, .i 1000000]) fun y1_t0 => (bif (!(!y1_t0.B)) then (bif (!(decide ((t0_1.L.length : Int) > 8))) then (bif (!(decide ((t0_2.L.length : Int) > 200))) then (bif (decide ((t0_3.L.length : Int) > 6)) then (some (.ret [.b false])) else (bindBlk 0 (lim (ap7 i_StewValid.d1) [t0_1, .i (t0_1.L.length : Int), .i 0, t0_0, t0_1, t0_2, t0_3]) (ap4 i_StewValid.d7))) else (some (.ret [.b false]))) else (some (.ret [.b false]))) else (some (.ret [.b false]))))
def i_StewValid : List C → Option (List C) := fun xs => finR (ap4 i_StewValid.d8 xs)
def i_StewValid_fs : FS := ⟨1, ⟨[(0, z2)], []⟩, ⟨[(0, zo)], []⟩, [], i_StewValid⟩
theorem i_StewValid_ok : FSOk Try.checked.prog T0 13 i_StewValid_fs := okOf base0 (fn := Try.f13) (c := Try.f13.body.getD .skip) i_StewValid_fs (.seq .leaf (.seq .leaf (.seq (.seq .leaf (.block ⟨[(1, (.pt 1 0))], [(1, z0)]⟩ (.loop ⟨[(1, (.pt 1 0)), (34, (zl 48)), (35, zi), (36, zi)], [(1, z0)]⟩ .leaf))) (.seq (.seq .leaf (.block ⟨[(1, (.pt 1 0))], [(1, z0)]⟩ (.loop ⟨[(1, (.pt 1 0)), (64, (zl 55)), (65, zi), (66, zi)], [(1, z0)]⟩ .leaf))) (.seq (.seq .leaf (.block ⟨[], []⟩ (.loop ⟨[(1, (.pt 1 0)), (93, (zl 58)), (94, zi), (95, zi)], [(1, z0)]⟩ (.seq .leaf (.seq .leaf (.seq (.skip (.seq .leaf (.seq .leaf (.seq .leaf (.seq (.seq (.join ⟨[(1, (.pt 1 0)), (7, zi), (8, (.pt 8 0)), (93, (zl 58)), (94, zi), (95, zi), (154, zo)], [(1, z0), (8, z12)]⟩ .leaf) .leaf) .leaf))))) .leaf)))))) .leaf))))) [(26, some 13, i_within_fs), (26, some 113, i_within_fs), (26, some 121, i_within_fs), (26, some 127, i_within_fs), (26, some 133, i_within_fs), (27, some 44, i_serviceOk_fs), (28, some 73, i_isName_fs), (29, some 102, i_StewBook_service_fs), (30, some 151, i_StewBook_berth_fs)] (.cons i_within_ok (.cons i_within_ok (.cons i_within_ok (.cons i_within_ok (.cons i_within_ok (.cons i_serviceOk_ok (.cons i_isName_ok (.cons i_StewBook_service_ok (.cons i_StewBook_berth_ok .nil))))))))) (by kernel_rfl) (by kernel_rfl) (by kernel_rfl) (fun xs => by kernel_rfl)
def i_StewBook_count.d1 (t1 t11 t12 t13 b4_0 b4_1 b4_2 b4_3 b4_4 b5_0 b5_1 b5_2 b5_3 b5_4 b7_0 b7_1 b7_2 b7_3 b7_4 b7_5 b7_6 : C) : R := (bif t1.isP then (bif (b7_3.I != (t1.P.getD 3 .nil).I) then (bif (b7_4.I == 4) then (some (.again [t1, t11, t12, .i (w64 (t13.I + 1)), b4_0, b4_1, b4_2, b4_3, b4_4, b5_0, b5_1, .i (w64 (b5_2.I + 1)), .i (w64 (b5_3.I + 1)), b5_4])) else (some (.again [t1, t11, t12, .i (w64 (t13.I + 1)), b4_0, b4_1, b4_2, b4_3, b4_4, b5_0, b5_1, .i (w64 (b5_2.I + 1)), b5_3, b5_4]))) else (bif (b7_4.I == 4) then (some (.again [t1, t11, t12, .i (w64 (t13.I + 1)), b4_0, b4_1, b4_2, b4_3, b4_4, b5_0, b5_1, b5_2, .i (w64 (b5_3.I + 1)), b5_4])) else (some (.again [t1, t11, t12, .i (w64 (t13.I + 1)), b4_0, b4_1, b4_2, b4_3, b4_4, b5_0, b5_1, b5_2, b5_3, b5_4])))) else none)
def i_StewBook_count.d2 (t1 t11 t12 t13 b4_0 b4_1 b4_2 b4_3 b4_4 b5_0 b5_1 b5_2 b5_3 b5_4 : C) : R := (bif (decide (t13.I < t12.I)) then (bif (decide (0 ≤ t13.I)) then (bif (decide (t13.I < (t11.L.length : Int))) then (bif t1.isP then (bif (!((((t11.L.getD t13.I.toNat []).getD 0 .nil).S).toList == ((t1.P.getD 0 .nil).S).toList)) then (some (.again [t1, t11, t12, .i (w64 (t13.I + 1)), b4_0, b4_1, b4_2, b4_3, b4_4, b5_0, b5_1, b5_2, b5_3, b5_4])) else (bif ((t11.L.getD t13.I.toNat []).getD 5 .nil).B then (some (.again [t1, t11, t12, .i (w64 (t13.I + 1)), b4_0, b4_1, b4_2, b4_3, b4_4, b5_0, b5_1, b5_2, b5_3, .i (w64 (b5_4.I + 1))])) else (bindNrm (bif (((t11.L.getD t13.I.toNat []).getD 4 .nil).I == 3) then (some (.nrm [t1, t11, t12, t13, b4_0, b4_1, b4_2, b4_3, b4_4, .i (w64 (b5_0.I + 1)), .i (w64 (b5_1.I + 1)), b5_2, b5_3, b5_4, ((t11.L.getD t13.I.toNat []).getD 0 .nil), ((t11.L.getD t13.I.toNat []).getD 1 .nil), ((t11.L.getD t13.I.toNat []).getD 2 .nil), ((t11.L.getD t13.I.toNat []).getD 3 .nil), ((t11.L.getD t13.I.toNat []).getD 4 .nil), ((t11.L.getD t13.I.toNat []).getD 5 .nil), ((t11.L.getD t13.I.toNat []).getD 6 .nil)])) else (some (.nrm [t1, t11, t12, t13, b4_0, b4_1, b4_2, b4_3, b4_4, .i (w64 (b5_0.I + 1)), b5_1, b5_2, b5_3, b5_4, ((t11.L.getD t13.I.toNat []).getD 0 .nil), ((t11.L.getD t13.I.toNat []).getD 1 .nil), ((t11.L.getD t13.I.toNat []).getD 2 .nil), ((t11.L.getD t13.I.toNat []).getD 3 .nil), ((t11.L.getD t13.I.toNat []).getD 4 .nil), ((t11.L.getD t13.I.toNat []).getD 5 .nil), ((t11.L.getD t13.I.toNat []).getD 6 .nil)]))) (ap21 i_StewBook_count.d1)))) else none) else none) else none) else (some (.brk 0 [b4_0, b4_1, b4_2, b4_3, b4_4, b5_0, b5_1, b5_2, b5_3, b5_4])))
def i_StewBook_count.d3 (b4_0 b4_1 b4_2 b4_3 b4_4 b5_0 b5_1 b5_2 b5_3 b5_4 : C) : R := (some (.ret [b5_0, b5_1, b5_2, b5_3, b5_4]))
def i_StewBook_count.d4 (t0 t1 : C) : R := (bif t0.isP then (bindBlk 0 (lim (ap14 i_StewBook_count.d2) [t1, (t0.P.getD 2 .nil), .i (((t0.P.getD 2 .nil).L).length : Int), .i 0, .i 0, .i 0, .i 0, .i 0, .i 0, .i 0, .i 0, .i 0, .i 0, .i 0]) (ap10 i_StewBook_count.d3)) else none)
def i_StewBook_count : List C → Option (List C) := fun xs => finR (ap2 i_StewBook_count.d4 xs)
def i_StewBook_count_fs : FS := ⟨2, ⟨[(0, (.d (.pt 27))), (1, (.d (.pt 48)))], []⟩, ⟨[(0, (.ag [zi, zi, zi, zi, zi]))], []⟩, [], i_StewBook_count⟩
theorem i_StewBook_count_ok : FSOk Try.checked.prog T0 31 i_StewBook_count_fs := okOf base0 (fn := Try.f31) (c := Try.f31.body.getD .skip) i_StewBook_count_fs (.seq .leaf (.seq .leaf (.seq (.seq .leaf (.block ⟨[(4, (.pt 4 0)), (5, (.pt 5 0))], [(4, z11), (5, z11)]⟩ (.loop ⟨[(1, (.d (.pt 48))), (4, (.pt 4 0)), (5, (.pt 5 0)), (11, (zl 58)), (12, zi), (13, zi)], [(4, z11), (5, z11)]⟩ (.seq .leaf (.seq .leaf (.seq (.skip (.seq .leaf (.skip (.seq .leaf (.cond .leaf (.seq .leaf (.cond .leaf (.seq .leaf (.seq (.join ⟨[(1, (.d (.pt 48))), (4, (.pt 4 0)), (5, (.pt 5 0)), (7, (.pt 7 0)), (11, (zl 58)), (12, zi), (13, zi)], [(4, z11), (5, z11), (7, z12)]⟩ .leaf) .leaf))))))))) .leaf)))))) .leaf))) [] .nil (by kernel_rfl) (by kernel_rfl) (by kernel_rfl) (fun xs => by kernel_rfl)
def i_StewBook_berth_v1.d1 (t0 t1 t10 t11 : C) : R := (bif (decide (t11.I < t10.I)) then (bif t0.isP then (bif (decide (0 ≤ t11.I)) then (bif (decide (t11.I < (((t0.P.getD 3 .nil).L).length : Int))) then (bif ((((((t0.P.getD 3 .nil).L).getD t11.I.toNat []).getD 0 .nil).S).toList == t1.S.toList) then (bif t0.isP then (bif (decide (0 ≤ t11.I)) then (bif (decide (t11.I < (((t0.P.getD 3 .nil).L).length : Int))) then (some (.ret [.p (((t0.P.getD 3 .nil).L).getD t11.I.toNat [])])) else none) else none) else none) else (some (.again [t0, t1, t10, .i (w64 (t11.I + 1))]))) else none) else none) else none) else (some (.brk 0 [])))
def i_StewBook_berth_v1.d2 : R := (some (.ret [.nil]))
def i_StewBook_berth_v1.d3 (t0 t1 : C) : R := (bif t0.isP then (bindBlk 0 (lim (ap4 i_StewBook_berth_v1.d1) [t0, t1, .i (((t0.P.getD 3 .nil).L).length : Int), .i 0]) (fun xs => i_StewBook_berth_v1.d2)) else none)
def i_StewBook_berth_v1 : List C → Option (List C) := fun xs => finR (ap2 i_StewBook_berth_v1.d3 xs)
def i_StewBook_berth_v1_fs : FS := ⟨2, ⟨[(0, (.d (.pt 27))), (1, zt)], []⟩, ⟨[(0, (.d (.pt 55)))], []⟩, [], i_StewBook_berth_v1⟩
theorem i_StewBook_berth_v1_ok : FSOk Try.checked.prog T0 30 i_StewBook_berth_v1_fs := okOf base0 (fn := Try.f30) (c := Try.f30.body.getD .skip) i_StewBook_berth_v1_fs (.seq .leaf (.seq (.seq .leaf (.block ⟨[], []⟩ (.loop ⟨[(0, (.d (.pt 27))), (1, zt), (10, zi), (11, zi)], []⟩ .leaf))) .leaf)) [] .nil (by kernel_rfl) (by kernel_rfl) (by kernel_rfl) (fun xs => by kernel_rfl)
def i_StewBook_drained.d1 (t0 t1_0 t1_1 t1_2 t1_3 t1_4 t1_5 t1_6 : C) : R := (call1 (i_StewBook_berth_v1 [t0, t1_6]) fun y1_t0 => (bif y1_t0.isP then (bif y1_t0.isP then (some (.ret [.b ((y1_t0.P.getD 1 .nil).B)])) else none) else (some (.ret [.b false]))))
def i_StewBook_drained : List C → Option (List C) := fun xs => finR (ap8 i_StewBook_drained.d1 xs)
def i_StewBook_drained_fs : FS := ⟨2, ⟨[(0, (.d (.pt 27))), (1, z14)], []⟩, ⟨[(0, zo)], []⟩, [], i_StewBook_drained⟩
theorem i_StewBook_drained_ok : FSOk Try.checked.prog T0 33 i_StewBook_drained_fs := okOf base0 (fn := Try.f33) (c := Try.f33.body.getD .skip) i_StewBook_drained_fs .leaf [(30, some 9, i_StewBook_berth_v1_fs)] (.cons i_StewBook_berth_v1_ok .nil) (by kernel_rfl) (by kernel_rfl) (by kernel_rfl) (fun xs => by kernel_rfl)
def i_one.d1 (t0 : C) : R := (bif t0.B then (some (.ret [.i 1])) else (some (.ret [.i 0])))
def i_one : List C → Option (List C) := fun xs => finR (ap1 i_one.d1 xs)
def i_one_fs : FS := ⟨1, ⟨[(0, zo)], []⟩, ⟨[(0, zi)], []⟩, [], i_one⟩
theorem i_one_ok : FSOk Try.checked.prog T0 32 i_one_fs := okOf base0 (fn := Try.f32) (c := Try.f32.body.getD .skip) i_one_fs .leaf [] .nil (by kernel_rfl) (by kernel_rfl) (by kernel_rfl) (fun xs => by kernel_rfl)
def i_StewBook_ask_3.d1 (t0 t7 t8 t9 b2000_0 b2000_1 b2000_2 b2000_3 b2000_4 b2000_5 b2000_7 b3_0 b3_1 b3_2 b3_3 b3_4 b3_5 b3_7 a2001 a1258200 : C) : R := (bif (decide (t9.I < t8.I)) then (bif (decide (0 ≤ t9.I)) then (bif (decide (t9.I < (t7.L.length : Int))) then (bif (decide (a2001.L.length + (rows [[((t7.L.getD t9.I.toNat []).getD 1 .nil), ((t7.L.getD t9.I.toNat []).getD 2 .nil)]]).length ≤ 4294967296)) then (some (.again [t0, t7, t8, .i (w64 (t9.I + 1)), b2000_0, b2000_1, b2000_2, b2000_3, b2000_4, b2000_5, b2000_7, b3_0, b3_1, b3_2, b3_3, b3_4, b3_5, b3_7, .l (a2001.L ++ (rows [[((t7.L.getD t9.I.toNat []).getD 1 .nil), ((t7.L.getD t9.I.toNat []).getD 2 .nil)]])), .l a1258200.L])) else none) else none) else none) else (some (.brk 0 [t0, b2000_0, b2000_1, b2000_2, b2000_3, b2000_4, b2000_5, b2000_7, b3_0, b3_1, b3_2, b3_3, b3_4, b3_5, b3_7, .l a2001.L, .l a1258200.L])))
def i_StewBook_ask_3.d2 (t0 b2000_0 b2000_1 b2000_2 b2000_3 b2000_4 b2000_5 b2000_7 b3_0 b3_1 b3_2 b3_3 b3_4 b3_5 b3_7 a2001 a1258200 : C) : R := (some (.ret [b2000_0, b2000_1, b2000_2, b2000_3, b2000_4, b2000_5, b2000_7, .b (decide ((t0.L.length : Int) > 0)), b2000_0, b2000_1, b2000_2, b2000_3, b2000_4, b2000_5, b2000_7, .l a2001.L]))
def i_StewBook_ask_3.d3 (t0 b2000_0 b2000_1 b2000_2 b2000_3 b2000_4 b2000_5 b2000_7 a2001 : C) : R := (bindBlk 0 (lim (ap20 i_StewBook_ask_3.d1) [t0, t0, .i (t0.L.length : Int), .i 0, b2000_0, b2000_1, b2000_2, b2000_3, b2000_4, b2000_5, b2000_7, .s (bs #[]), .i 0, .i 0, .i 0, .i 0, .b false, .b false, .l a2001.L, .l nils]) (ap17 i_StewBook_ask_3.d2))
def i_StewBook_ask_3 : List C → Option (List C) := fun xs => finR (ap9 i_StewBook_ask_3.d3 xs)
def i_StewBook_ask_3_fs : FS := ⟨2, ⟨[(0, (zl 58)), (1, (.pt 2000 0))], [(2000, z16), (2001, .arr 79)]⟩, ⟨[(0, (.tu [(.ag [zt, zi, zi, zi, zi, zo, (.ow 2001), zo]), zo]))], [(2000, z16), (2001, .arr 79)]⟩, [2000], i_StewBook_ask_3⟩
theorem i_StewBook_ask_3_ok : FSOk Try.checked.prog T0 38 i_StewBook_ask_3_fs := okOf base0 (fn := Try.f38) (c := Try.f38.body.getD .skip) i_StewBook_ask_3_fs (.seq .leaf (.seq (.seq .leaf (.block ⟨[(0, (zl 58)), (1, (.pt 2000 0)), (3, (.pt 3 0))], [(2000, z16), (3, .var 38 [zt, zi, zi, zi, zi, zo, (.ow 1258200), zo]), (2001, .arr 79), (1258200, .arr 79)]⟩ (.loop ⟨[(0, (zl 58)), (1, (.pt 2000 0)), (3, (.pt 3 0)), (7, (zl 58)), (8, zi), (9, zi)], [(2000, z16), (3, .var 38 [zt, zi, zi, zi, zi, zo, (.ow 1258200), zo]), (2001, .arr 79), (1258200, .arr 79)]⟩ .leaf))) .leaf)) [] .nil (by kernel_rfl) (by kernel_rfl) (by kernel_rfl) (fun xs => by kernel_rfl)
def i_StewBook_ask_4.d1 (t0 b2000_0 b2000_1 b2000_2 b2000_3 b2000_4 b2000_5 b2000_7 a2001 : C) : R := (some (.ret [b2000_0, b2000_1, t0, b2000_3, b2000_4, b2000_5, b2000_7, .b true, b2000_0, b2000_1, t0, b2000_3, b2000_4, b2000_5, b2000_7, .l a2001.L]))
def i_StewBook_ask_4 : List C → Option (List C) := fun xs => finR (ap9 i_StewBook_ask_4.d1 xs)
def i_StewBook_ask_4_fs : FS := ⟨2, ⟨[(0, zi), (1, (.pt 2000 0))], [(2000, z16), (2001, .arr 79)]⟩, ⟨[(0, (.tu [(.ag [zt, zi, zi, zi, zi, zo, (.ow 2001), zo]), zo]))], [(2000, z16), (2001, .arr 79)]⟩, [2000, 2001], i_StewBook_ask_4⟩
theorem i_StewBook_ask_4_ok : FSOk Try.checked.prog T0 39 i_StewBook_ask_4_fs := okOf base0 (fn := Try.f39) (c := Try.f39.body.getD .skip) i_StewBook_ask_4_fs .leaf [] .nil (by kernel_rfl) (by kernel_rfl) (by kernel_rfl) (fun xs => by kernel_rfl)
def i_StewBook_first_1.d1 (t47 t48 b4_0 b4_1 b4_2 b4_3 b4_4 b4_5 b4_6 b5_0 b5_1 b5_2 b5_3 b5_4 b5_5 b5_6 a46 : C) : R := (bif (decide (t48.I < t47.I)) then (bif (decide (0 ≤ t48.I)) then (bif (decide (t48.I < (a46.L.length : Int))) then (bif (((a46.L.getD t48.I.toNat []).getD 0 .nil).I != 0) then (some (.ret [((a46.L.getD t48.I.toNat []).getD 0 .nil)])) else (some (.again [t47, .i (w64 (t48.I + 1)), b4_0, b4_1, b4_2, b4_3, b4_4, b4_5, b4_6, b5_0, b5_1, b5_2, b5_3, b5_4, b5_5, b5_6, .l a46.L]))) else none) else none) else (some (.brk 0 [b4_0, b4_1, b4_2, b4_3, b4_4, b4_5, b4_6, b5_0, b5_1, b5_2, b5_3, b5_4, b5_5, b5_6])))
def i_StewBook_first_1.d2 (b4_0 b4_1 b4_2 b4_3 b4_4 b4_5 b4_6 b5_0 b5_1 b5_2 b5_3 b5_4 b5_5 b5_6 : C) : R := (some (.ret [.i (w64 (b5_1.I - b4_1.I))]))
def i_StewBook_first_1.d3 (t0_0 t0_1 t0_2 t0_3 t0_4 t0_5 t0_6 t1_0 t1_1 t1_2 t1_3 t1_4 t1_5 t1_6 t2 t3 : C) : R := (call1 (i_one [.b (t0_4.I == 3)]) fun y1_t0 => (call1 (i_one [.b (t1_4.I == 3)]) fun y2_t0 => (bif t2.isP then (bif (t2.P.getD 0 .nil).isP then (call1 (i_one [.b (t0_3.I == (((t2.P.getD 0 .nil).P).getD 3 .nil).I)]) fun y3_t0 => (bif t2.isP then (bif (t2.P.getD 0 .nil).isP then (call1 (i_one [.b (t1_3.I == (((t2.P.getD 0 .nil).P).getD 3 .nil).I)]) fun y4_t0 => (bif t3.isP then (call1 (i_StewBook_drained [(t3.P.getD 0 .nil), t0_0, t0_1, t0_2, t0_3, t0_4, t0_5, t0_6]) fun y5_t0 => (call1 (i_one [.b (!y5_t0.B)]) fun y6_t0 => (bif t3.isP then (call1 (i_StewBook_drained [(t3.P.getD 0 .nil), t1_0, t1_1, t1_2, t1_3, t1_4, t1_5, t1_6]) fun y7_t0 => (call1 (i_one [.b (!y7_t0.B)]) fun y8_t0 => (bindBlk 0 (lim (ap17 i_StewBook_first_1.d1) [.i ((rows [[.i (w64 (y1_t0.I - y2_t0.I))], [.i (w64 (y3_t0.I - y4_t0.I))], [.i (w64 (y6_t0.I - y8_t0.I))]]).length : Int), .i 0, t0_0, t0_1, t0_2, t0_3, t0_4, t0_5, t0_6, t1_0, t1_1, t1_2, t1_3, t1_4, t1_5, t1_6, .l (rows [[.i (w64 (y1_t0.I - y2_t0.I))], [.i (w64 (y3_t0.I - y4_t0.I))], [.i (w64 (y6_t0.I - y8_t0.I))]])]) (ap14 i_StewBook_first_1.d2)))) else none))) else none)) else none) else none)) else none) else none)))
def i_StewBook_first_1 : List C → Option (List C) := fun xs => finR (ap16 i_StewBook_first_1.d3 xs)
def i_StewBook_first_1_fs : FS := ⟨4, ⟨[(0, z14), (1, z14), (2, (.d (.pt 46))), (3, (.d (.pt 68)))], []⟩, ⟨[(0, zi)], []⟩, [], i_StewBook_first_1⟩
theorem i_StewBook_first_1_ok : FSOk Try.checked.prog T0 63 i_StewBook_first_1_fs := okOf base0 (fn := Try.f63) (c := Try.f63.body.getD .skip) i_StewBook_first_1_fs (.seq .leaf (.seq (.seq .leaf (.block ⟨[(4, (.pt 4 0)), (5, (.pt 5 0))], [(4, z12), (5, z12)]⟩ (.loop ⟨[(4, (.pt 4 0)), (5, (.pt 5 0)), (46, (.ow 46)), (47, zi), (48, zi)], [(4, z12), (5, z12), (46, .arr 3)]⟩ .leaf))) .leaf)) [(32, some 12, i_one_fs), (32, some 16, i_one_fs), (32, some 25, i_one_fs), (32, some 33, i_one_fs), (32, some 39, i_one_fs), (32, some 44, i_one_fs), (33, some 37, i_StewBook_drained_fs), (33, some 42, i_StewBook_drained_fs)] (.cons i_one_ok (.cons i_one_ok (.cons i_one_ok (.cons i_one_ok (.cons i_one_ok (.cons i_one_ok (.cons i_StewBook_drained_ok (.cons i_StewBook_drained_ok .nil)))))))) (by kernel_rfl) (by kernel_rfl) (by kernel_rfl) (fun xs => by kernel_rfl)
def slices_MinFunc.d1 (t0 t1f0 t1f1 t6 b4_0 b4_1 b4_2 b4_3 b4_4 b4_5 b4_6 b5_0 b5_1 b5_2 b5_3 b5_4 b5_5 b5_6 : C) : R := (bif (decide (t6.I < (t0.L.length : Int))) then (bif (decide (0 ≤ t6.I)) then (bif (decide (t6.I < (t0.L.length : Int))) then (call1 (i_StewBook_first_1 [((t0.L.getD t6.I.toNat []).getD 0 .nil), ((t0.L.getD t6.I.toNat []).getD 1 .nil), ((t0.L.getD t6.I.toNat []).getD 2 .nil), ((t0.L.getD t6.I.toNat []).getD 3 .nil), ((t0.L.getD t6.I.toNat []).getD 4 .nil), ((t0.L.getD t6.I.toNat []).getD 5 .nil), ((t0.L.getD t6.I.toNat []).getD 6 .nil), b5_0, b5_1, b5_2, b5_3, b5_4, b5_5, b5_6, t1f0, t1f1]) fun y1_t0 => (bif (decide (y1_t0.I < 0)) then (bif (decide (0 ≤ t6.I)) then (bif (decide (t6.I < (t0.L.length : Int))) then (some (.again [t0, t1f0, t1f1, .i (w64 (t6.I + 1)), b4_0, b4_1, b4_2, b4_3, b4_4, b4_5, b4_6, ((t0.L.getD t6.I.toNat []).getD 0 .nil), ((t0.L.getD t6.I.toNat []).getD 1 .nil), ((t0.L.getD t6.I.toNat []).getD 2 .nil), ((t0.L.getD t6.I.toNat []).getD 3 .nil), ((t0.L.getD t6.I.toNat []).getD 4 .nil), ((t0.L.getD t6.I.toNat []).getD 5 .nil), ((t0.L.getD t6.I.toNat []).getD 6 .nil)])) else none) else none) else (some (.again [t0, t1f0, t1f1, .i (w64 (t6.I + 1)), b4_0, b4_1, b4_2, b4_3, b4_4, b4_5, b4_6, b5_0, b5_1, b5_2, b5_3, b5_4, b5_5, b5_6])))) else none) else none) else (some (.brk 0 [b4_0, b4_1, b4_2, b4_3, b4_4, b4_5, b4_6, b5_0, b5_1, b5_2, b5_3, b5_4, b5_5, b5_6])))
def slices_MinFunc.d2 (b4_0 b4_1 b4_2 b4_3 b4_4 b4_5 b4_6 b5_0 b5_1 b5_2 b5_3 b5_4 b5_5 b5_6 : C) : R := (some (.ret [b5_0, b5_1, b5_2, b5_3, b5_4, b5_5, b5_6]))
def slices_MinFunc.d3 (t0 t1f0 t1f1 : C) : R := (bif (decide ((t0.L.length : Int) < 1)) then none else (bif (decide (0 < (t0.L.length : Int))) then (bindBlk 0 (lim (ap18 slices_MinFunc.d1) [t0, t1f0, t1f1, .i 1, .s (bs #[]), .i 0, .i 0, .i 0, .i 0, .b false, .s (bs #[]), ((t0.L.getD 0 []).getD 0 .nil), ((t0.L.getD 0 []).getD 1 .nil), ((t0.L.getD 0 []).getD 2 .nil), ((t0.L.getD 0 []).getD 3 .nil), ((t0.L.getD 0 []).getD 4 .nil), ((t0.L.getD 0 []).getD 5 .nil), ((t0.L.getD 0 []).getD 6 .nil)]) (ap14 slices_MinFunc.d2)) else none))
def slices_MinFunc : List C → Option (List C) := fun xs => finR (ap3 slices_MinFunc.d3 xs)
def slices_MinFunc_fs : FS := ⟨2, ⟨[(0, (zl 58)), (1, (.fn 63 [(.d (.pt 46)), (.d (.pt 68))]))], []⟩, ⟨[(0, z14)], []⟩, [], slices_MinFunc⟩
theorem slices_MinFunc_ok : FSOk Try.checked.prog T0 62 slices_MinFunc_fs := okOf base0 (fn := Try.f62) (c := Try.f62.body.getD .skip) slices_MinFunc_fs (.seq .leaf (.seq .leaf (.seq .leaf (.seq (.seq .leaf (.block ⟨[(4, (.pt 4 0)), (5, (.pt 5 0))], [(4, z12), (5, z12)]⟩ (.loop ⟨[(0, (zl 58)), (1, (.fn 63 [(.d (.pt 46)), (.d (.pt 68))])), (4, (.pt 4 0)), (5, (.pt 5 0)), (6, zi)], [(4, z12), (5, z12)]⟩ .leaf))) .leaf)))) [(63, some 26, i_StewBook_first_1_fs)] (.cons i_StewBook_first_1_ok .nil) (by kernel_rfl) (by kernel_rfl) (by kernel_rfl) (fun xs => by kernel_rfl)
def i_StewBook_first.d1 (t0 t1 t2 : C) : R := (call7 (slices_MinFunc [t2, .p [t1], .p [t0]]) fun y1_t0_0 y1_t0_1 y1_t0_2 y1_t0_3 y1_t0_4 y1_t0_5 y1_t0_6 => (some (.ret [y1_t0_0, y1_t0_1, y1_t0_2, y1_t0_3, y1_t0_4, y1_t0_5, y1_t0_6])))
def i_StewBook_first : List C → Option (List C) := fun xs => finR (ap3 i_StewBook_first.d1 xs)
def i_StewBook_first_fs : FS := ⟨3, ⟨[(0, (.d (.pt 27))), (1, (.d (.pt 48))), (2, (zl 58))], []⟩, ⟨[(0, z14)], []⟩, [], i_StewBook_first⟩
theorem i_StewBook_first_ok : FSOk Try.checked.prog T0 41 i_StewBook_first_fs := okOf base0 (fn := Try.f41) (c := Try.f41.body.getD .skip) i_StewBook_first_fs .leaf [(62, some 9, slices_MinFunc_fs)] (.cons slices_MinFunc_ok .nil) (by kernel_rfl) (by kernel_rfl) (by kernel_rfl) (fun xs => by kernel_rfl)
def i_StewBook_copy.d1 (t1 t2 t12 t13 b2000_0 b2000_1 b2000_2 b2000_3 : C) : R := (bif (decide (t13.I < t12.I)) then (bif (decide (0 ≤ t13.I)) then (bif (decide (t13.I < (b2000_2.L.length : Int))) then (bif ((((b2000_2.L.getD t13.I.toNat []).getD 0 .nil).S).toList == t1.S.toList) then (bif (decide (0 ≤ t13.I)) then (bif (decide (t13.I < (b2000_2.L.length : Int))) then (bif (((b2000_2.L.getD t13.I.toNat []).getD 1 .nil).I == t2.I) then (bif (decide (0 ≤ t13.I)) then (bif (decide (t13.I < (b2000_2.L.length : Int))) then (some (.ret [.p (b2000_2.L.getD t13.I.toNat []), b2000_0, b2000_1, b2000_2, b2000_3])) else none) else none) else (some (.again [t1, t2, t12, .i (w64 (t13.I + 1)), b2000_0, b2000_1, b2000_2, b2000_3]))) else none) else none) else (some (.again [t1, t2, t12, .i (w64 (t13.I + 1)), b2000_0, b2000_1, b2000_2, b2000_3]))) else none) else none) else (some (.brk 0 [b2000_0, b2000_1, b2000_2, b2000_3])))
def i_StewBook_copy.d2 (b2000_0 b2000_1 b2000_2 b2000_3 : C) : R := (some (.ret [.nil, b2000_0, b2000_1, b2000_2, b2000_3]))
def i_StewBook_copy.d3 (t1 t2 b2000_0 b2000_1 b2000_2 b2000_3 : C) : R := (bindBlk 0 (lim (ap8 i_StewBook_copy.d1) [t1, t2, .i (b2000_2.L.length : Int), .i 0, b2000_0, b2000_1, b2000_2, b2000_3]) (ap4 i_StewBook_copy.d2))
def i_StewBook_copy : List C → Option (List C) := fun xs => finR (ap6 i_StewBook_copy.d3 xs)
def i_StewBook_copy_fs : FS := ⟨3, ⟨[(0, (.pt 2000 0)), (1, zt), (2, zi)], [(2000, z0)]⟩, ⟨[(0, (.d (.pt 58)))], [(2000, z0)]⟩, [2000], i_StewBook_copy⟩
theorem i_StewBook_copy_ok : FSOk Try.checked.prog T0 37 i_StewBook_copy_fs := okOf base0 (fn := Try.f37) (c := Try.f37.body.getD .skip) i_StewBook_copy_fs (.seq .leaf (.seq (.seq .leaf (.block ⟨[], [(2000, z0)]⟩ (.loop ⟨[(0, (.pt 2000 0)), (1, zt), (2, zi), (12, zi), (13, zi)], [(2000, z0)]⟩ .leaf))) .leaf)) [] .nil (by kernel_rfl) (by kernel_rfl) (by kernel_rfl) (fun xs => by kernel_rfl)
def i_StewBook_mayEnd.d1 (t0 t1 t2 : C) : R := (bif (!(!t2.isP)) then (bif t2.isP then (bif (t2.P.getD 5 .nil).B then (some (.ret [.b false])) else (bif t2.isP then (bif (!((t2.P.getD 4 .nil).I != 3)) then (bif t1.isP then (bif (!((t1.P.getD 2 .nil).B)) then (call5 (i_StewBook_count [t0, t1]) fun y1_t0_0 y1_t0_1 y1_t0_2 y1_t0_3 y1_t0_4 => (bif t1.isP then (bif t1.isP then (some (.ret [.b (decide ((w64 (y1_t0_1.I - 1)) ≥ (w64 ((t1.P.getD 4 .nil).I - (t1.P.getD 5 .nil).I))))])) else none) else none)) else (some (.ret [.b true]))) else none) else (some (.ret [.b true]))) else none)) else none) else (some (.ret [.b false])))
def i_StewBook_mayEnd : List C → Option (List C) := fun xs => finR (ap3 i_StewBook_mayEnd.d1 xs)
def i_StewBook_mayEnd_fs : FS := ⟨3, ⟨[(0, (.d (.pt 27))), (1, (.d (.pt 48))), (2, (.d (.pt 58)))], []⟩, ⟨[(0, zo)], []⟩, [], i_StewBook_mayEnd⟩
theorem i_StewBook_mayEnd_ok : FSOk Try.checked.prog T0 36 i_StewBook_mayEnd_fs := okOf base0 (fn := Try.f36) (c := Try.f36.body.getD .skip) i_StewBook_mayEnd_fs .leaf [(31, some 29, i_StewBook_count_fs)] (.cons i_StewBook_count_ok .nil) (by kernel_rfl) (by kernel_rfl) (by kernel_rfl) (fun xs => by kernel_rfl)
def i_StewBook_ask_2.d1 (t0_0 t0_1 t0_2 t0_3 t0_4 t0_5 t0_6 b2001_0 b2002_0 b2002_1 b2002_2 b2002_3 : C) : R := (call5 (i_StewBook_copy [t0_0, t0_1, b2002_0, b2002_1, b2002_2, b2002_3]) fun y1_t0 y1_b2000_0 y1_b2000_1 y1_b2000_2 y1_b2000_3 => (call1 (i_StewBook_mayEnd [.p [y1_b2000_0, y1_b2000_1, y1_b2000_2, y1_b2000_3], b2001_0, y1_t0]) fun y2_t0 => (some (.ret [.b y2_t0.B, b2001_0, y1_b2000_0, y1_b2000_1, y1_b2000_2, y1_b2000_3]))))
def i_StewBook_ask_2 : List C → Option (List C) := fun xs => finR (ap12 i_StewBook_ask_2.d1 xs)
def i_StewBook_ask_2_fs : FS := ⟨3, ⟨[(0, z14), (1, (.pt 2000 0)), (2, (.pt 2001 0))], [(2000, .var 68 [(.pt 2002 0)]), (2001, z15), (2002, z0)]⟩, ⟨[(0, zo)], [(2000, .var 68 [(.pt 2002 0)]), (2001, z15), (2002, z0)]⟩, [2000, 2001, 2002], i_StewBook_ask_2⟩
theorem i_StewBook_ask_2_ok : FSOk Try.checked.prog T0 35 i_StewBook_ask_2_fs := okOf base0 (fn := Try.f35) (c := Try.f35.body.getD .skip) i_StewBook_ask_2_fs .leaf [(36, some 13, i_StewBook_mayEnd_fs), (37, some 12, i_StewBook_copy_fs)] (.cons i_StewBook_mayEnd_ok (.cons i_StewBook_copy_ok .nil)) (by kernel_rfl) (by kernel_rfl) (by kernel_rfl) (fun xs => by kernel_rfl)
end
end Go.Ev
namespace Go.Ev
open Go.Proofs
noncomputable section
def i_StewBook_ask_3_v1.d1 (t8 t9 a2000 b2001_0 b2001_1 b2001_2 b2001_3 b2001_4 b2001_5 b2001_7 b3_0 b3_1 b3_2 b3_3 b3_4 b3_5 b3_7 a2002 a1258200 : C) : R := (bif (decide (t9.I < t8.I)) then (bif (decide (0 ≤ t9.I)) then (bif (decide (t9.I < (a2000.L.length : Int))) then (bif (decide (a2002.L.length + (rows [[((a2000.L.getD t9.I.toNat []).getD 1 .nil), ((a2000.L.getD t9.I.toNat []).getD 2 .nil)]]).length ≤ 4294967296)) then (some (.again [t8, .i (w64 (t9.I + 1)), .l a2000.L, b2001_0, b2001_1, b2001_2, b2001_3, b2001_4, b2001_5, b2001_7, b3_0, b3_1, b3_2, b3_3, b3_4, b3_5, b3_7, .l (a2002.L ++ (rows [[((a2000.L.getD t9.I.toNat []).getD 1 .nil), ((a2000.L.getD t9.I.toNat []).getD 2 .nil)]])), .l a1258200.L])) else none) else none) else none) else (some (.brk 0 [.l a2000.L, b2001_0, b2001_1, b2001_2, b2001_3, b2001_4, b2001_5, b2001_7, b3_0, b3_1, b3_2, b3_3, b3_4, b3_5, b3_7, .l a2002.L, .l a1258200.L])))
def i_StewBook_ask_3_v1.d2 (a2000 b2001_0 b2001_1 b2001_2 b2001_3 b2001_4 b2001_5 b2001_7 b3_0 b3_1 b3_2 b3_3 b3_4 b3_5 b3_7 a2002 a1258200 : C) : R := (some (.ret [b2001_0, b2001_1, b2001_2, b2001_3, b2001_4, b2001_5, b2001_7, .b (decide ((a2000.L.length : Int) > 0)), .l a2000.L, b2001_0, b2001_1, b2001_2, b2001_3, b2001_4, b2001_5, b2001_7, .l a2002.L]))
def i_StewBook_ask_3_v1.d3 (a2000 b2001_0 b2001_1 b2001_2 b2001_3 b2001_4 b2001_5 b2001_7 a2002 : C) : R := (bindBlk 0 (lim (ap19 i_StewBook_ask_3_v1.d1) [.i (a2000.L.length : Int), .i 0, .l a2000.L, b2001_0, b2001_1, b2001_2, b2001_3, b2001_4, b2001_5, b2001_7, .s (bs #[]), .i 0, .i 0, .i 0, .i 0, .b false, .b false, .l a2002.L, .l nils]) (ap17 i_StewBook_ask_3_v1.d2))
def i_StewBook_ask_3_v1 : List C → Option (List C) := fun xs => finR (ap9 i_StewBook_ask_3_v1.d3 xs)
def i_StewBook_ask_3_v1_fs : FS := ⟨2, ⟨[(0, (.ow 2000)), (1, (.pt 2001 0))], [(2000, .arr 58), (2001, .var 38 [zt, zi, zi, zi, zi, zo, (.ow 2002), zo]), (2002, .arr 79)]⟩, ⟨[(0, (.tu [(.ag [zt, zi, zi, zi, zi, zo, (.ow 2002), zo]), zo]))], [(2000, .arr 58), (2001, .var 38 [zt, zi, zi, zi, zi, zo, (.ow 2002), zo]), (2002, .arr 79)]⟩, [2000, 2001], i_StewBook_ask_3_v1⟩
theorem i_StewBook_ask_3_v1_ok : FSOk Try.checked.prog T0 38 i_StewBook_ask_3_v1_fs := okOf base0 (fn := Try.f38) (c := Try.f38.body.getD .skip) i_StewBook_ask_3_v1_fs (.seq .leaf (.seq (.seq .leaf (.block ⟨[(0, (.ow 2000)), (1, (.pt 2001 0)), (3, (.pt 3 0))], [(2000, .arr 58), (2001, .var 38 [zt, zi, zi, zi, zi, zo, (.ow 2002), zo]), (3, .var 38 [zt, zi, zi, zi, zi, zo, (.ow 1258200), zo]), (2002, .arr 79), (1258200, .arr 79)]⟩ (.loop ⟨[(0, (.ow 2000)), (1, (.pt 2001 0)), (3, (.pt 3 0)), (7, (.ow 2000)), (8, zi), (9, zi)], [(2000, .arr 58), (2001, .var 38 [zt, zi, zi, zi, zi, zo, (.ow 2002), zo]), (3, .var 38 [zt, zi, zi, zi, zi, zo, (.ow 1258200), zo]), (2002, .arr 79), (1258200, .arr 79)]⟩ .leaf))) .leaf)) [] .nil (by kernel_rfl) (by kernel_rfl) (by kernel_rfl) (fun xs => by kernel_rfl)
def i_StewBook_ask_7.d1 (t0_0 t0_1 t0_2 t0_3 t0_4 t0_5 t0_6 b2000_0 b2003_0 b2003_1 b2003_2 b2003_3 : C) : R := (bif b2000_0.isP then (bif (t0_3.I != (b2000_0.P.getD 3 .nil).I) then (call6 (i_StewBook_ask_2 [t0_0, t0_1, t0_2, t0_3, t0_4, t0_5, t0_6, b2000_0, b2003_0, b2003_1, b2003_2, b2003_3]) fun y1_t0 y1_b2001_0 y1_b2002_0 y1_b2002_1 y1_b2002_2 y1_b2002_3 => (some (.ret [.b y1_t0.B, y1_b2001_0, y1_b2002_0, y1_b2002_1, y1_b2002_2, y1_b2002_3]))) else (some (.ret [.b false, b2000_0, b2003_0, b2003_1, b2003_2, b2003_3]))) else none)
def i_StewBook_ask_7 : List C → Option (List C) := fun xs => finR (ap12 i_StewBook_ask_7.d1 xs)
def i_StewBook_ask_7_fs : FS := ⟨3, ⟨[(0, z14), (1, (.pt 2000 0)), (2, (.pt 2001 0))], [(2000, z15), (2001, .var 73 [(.fn 35 [(.pt 2002 0), (.pt 2000 0)])]), (2002, .var 68 [(.pt 2003 0)]), (2003, z0)]⟩, ⟨[(0, zo)], [(2000, z15), (2001, .var 73 [(.fn 35 [(.pt 2002 0), (.pt 2000 0)])]), (2002, .var 68 [(.pt 2003 0)]), (2003, z0)]⟩, [2000, 2001, 2002, 2003], i_StewBook_ask_7⟩
theorem i_StewBook_ask_7_ok : FSOk Try.checked.prog T0 43 i_StewBook_ask_7_fs := okOf base0 (fn := Try.f43) (c := Try.f43.body.getD .skip) i_StewBook_ask_7_fs .leaf [(35, some 15, i_StewBook_ask_2_fs)] (.cons i_StewBook_ask_2_ok .nil) (by kernel_rfl) (by kernel_rfl) (by kernel_rfl) (fun xs => by kernel_rfl)
def i_StewBook_ask_1.d1 (t8 t9 b2000_0 b2005_0 b2005_1 b2005_2 b2005_3 a1272400 a2004 : C) : R := (bif (decide (t9.I < t8.I)) then (bif (decide (0 ≤ t9.I)) then (bif (decide (t9.I < (a2004.L.length : Int))) then (call6 (i_StewBook_ask_7 [((a2004.L.getD t9.I.toNat []).getD 0 .nil), ((a2004.L.getD t9.I.toNat []).getD 1 .nil), ((a2004.L.getD t9.I.toNat []).getD 2 .nil), ((a2004.L.getD t9.I.toNat []).getD 3 .nil), ((a2004.L.getD t9.I.toNat []).getD 4 .nil), ((a2004.L.getD t9.I.toNat []).getD 5 .nil), ((a2004.L.getD t9.I.toNat []).getD 6 .nil), b2000_0, b2005_0, b2005_1, b2005_2, b2005_3]) fun y1_t0 y1_b2000_0 y1_b2003_0 y1_b2003_1 y1_b2003_2 y1_b2003_3 => (bif y1_t0.B then (bif (decide (a1272400.L.length + (rows [[((a2004.L.getD t9.I.toNat []).getD 0 .nil), ((a2004.L.getD t9.I.toNat []).getD 1 .nil), ((a2004.L.getD t9.I.toNat []).getD 2 .nil), ((a2004.L.getD t9.I.toNat []).getD 3 .nil), ((a2004.L.getD t9.I.toNat []).getD 4 .nil), ((a2004.L.getD t9.I.toNat []).getD 5 .nil), ((a2004.L.getD t9.I.toNat []).getD 6 .nil)]]).length ≤ 4294967296)) then (some (.again [t8, .i (w64 (t9.I + 1)), y1_b2000_0, y1_b2003_0, y1_b2003_1, y1_b2003_2, y1_b2003_3, .l (a1272400.L ++ (rows [[((a2004.L.getD t9.I.toNat []).getD 0 .nil), ((a2004.L.getD t9.I.toNat []).getD 1 .nil), ((a2004.L.getD t9.I.toNat []).getD 2 .nil), ((a2004.L.getD t9.I.toNat []).getD 3 .nil), ((a2004.L.getD t9.I.toNat []).getD 4 .nil), ((a2004.L.getD t9.I.toNat []).getD 5 .nil), ((a2004.L.getD t9.I.toNat []).getD 6 .nil)]])), .l a2004.L])) else none) else (some (.again [t8, .i (w64 (t9.I + 1)), y1_b2000_0, y1_b2003_0, y1_b2003_1, y1_b2003_2, y1_b2003_3, .l a1272400.L, .l a2004.L])))) else none) else none) else (some (.brk 0 [b2000_0, b2005_0, b2005_1, b2005_2, b2005_3, .l a1272400.L, .l a2004.L])))
def i_StewBook_ask_1.d2 (b2000_0 b2005_0 b2005_1 b2005_2 b2005_3 a1272400 a2004 : C) : R := (some (.ret [.l a1272400.L, b2000_0, .l a2004.L, b2005_0, b2005_1, b2005_2, b2005_3]))
def i_StewBook_ask_1.d3 (b2000_0 a2004 b2005_0 b2005_1 b2005_2 b2005_3 : C) : R := (bindBlk 0 (lim (ap9 i_StewBook_ask_1.d1) [.i (a2004.L.length : Int), .i 0, b2000_0, b2005_0, b2005_1, b2005_2, b2005_3, .l nils, .l a2004.L]) (ap7 i_StewBook_ask_1.d2))
def i_StewBook_ask_1 : List C → Option (List C) := fun xs => finR (ap6 i_StewBook_ask_1.d3 xs)
def i_StewBook_ask_1_fs : FS := ⟨2, ⟨[(0, (.fn 43 [(.pt 2000 0), (.pt 2001 0)])), (1, (.pt 2002 0))], [(2000, z15), (2001, .var 73 [(.fn 35 [(.pt 2003 0), (.pt 2000 0)])]), (2002, .var 24 [(.ow 2004)]), (2003, .var 68 [(.pt 2005 0)]), (2004, .arr 58), (2005, z0)]⟩, ⟨[(0, (zl 58))], [(2000, z15), (2001, .var 73 [(.fn 35 [(.pt 2003 0), (.pt 2000 0)])]), (2002, .var 24 [(zl 58)]), (2003, .var 68 [(.pt 2005 0)]), (2005, z0)]⟩, [2000, 2001, 2002, 2003, 2005], i_StewBook_ask_1⟩
theorem i_StewBook_ask_1_ok : FSOk Try.checked.prog T0 34 i_StewBook_ask_1_fs := okOf base0 (fn := Try.f34) (c := Try.f34.body.getD .skip) i_StewBook_ask_1_fs (.seq .leaf (.seq .leaf (.seq (.seq .leaf (.block ⟨[(4, (.ow 1272400))], [(2000, z15), (2001, .var 73 [(.fn 35 [(.pt 2003 0), (.pt 2000 0)])]), (2002, .var 24 [(.ow 2004)]), (2003, .var 68 [(.pt 2005 0)]), (2005, z0), (1272400, .arr 58), (2004, .arr 58)]⟩ (.loop ⟨[(0, (.fn 43 [(.pt 2000 0), (.pt 2001 0)])), (4, (.ow 1272400)), (7, (.ow 2004)), (8, zi), (9, zi)], [(2000, z15), (2001, .var 73 [(.fn 35 [(.pt 2003 0), (.pt 2000 0)])]), (2002, .var 24 [(.ow 2004)]), (2003, .var 68 [(.pt 2005 0)]), (2005, z0), (1272400, .arr 58), (2004, .arr 58)]⟩ .leaf))) (.seq .leaf (.frz [2004, 1272400] .leaf))))) [(43, some 15, i_StewBook_ask_7_fs)] (.cons i_StewBook_ask_7_ok .nil) (by kernel_rfl) (by kernel_rfl) (by kernel_rfl) (fun xs => by kernel_rfl)
def i_StewBook_ask_5.d1 (t0 b2000_0 b2000_1 b2000_2 b2000_3 b2000_4 b2000_5 b2000_7 b2003_0 a2004 b2005_0 b2005_1 b2005_2 b2005_3 : C) : R := (bif ((t0.L.length : Int) == 0) then (some (.ret [b2000_0, b2000_1, b2000_2, b2000_3, b2000_4, b2000_5, b2000_7, .b false, b2000_0, b2000_1, b2000_2, b2000_3, b2000_4, b2000_5, b2000_7, b2003_0, b2005_0, b2005_1, b2005_2, b2005_3, .l a2004.L])) else (call7 (i_StewBook_first [.p [b2005_0, b2005_1, b2005_2, b2005_3], b2003_0, t0]) fun y1_t0_0 y1_t0_1 y1_t0_2 y1_t0_3 y1_t0_4 y1_t0_5 y1_t0_6 => (call17 (i_StewBook_ask_3_v1 [.l (rows [[y1_t0_0, y1_t0_1, y1_t0_2, y1_t0_3, y1_t0_4, y1_t0_5, y1_t0_6]]), b2000_0, b2000_1, b2000_2, b2000_3, b2000_4, b2000_5, b2000_7, .l a2004.L]) fun y2_t0_0_0 y2_t0_0_1 y2_t0_0_2 y2_t0_0_3 y2_t0_0_4 y2_t0_0_5 y2_t0_0_7 y2_t0_1 y2_a2000 y2_b2001_0 y2_b2001_1 y2_b2001_2 y2_b2001_3 y2_b2001_4 y2_b2001_5 y2_b2001_7 y2_a2002 => (some (.ret [y2_t0_0_0, y2_t0_0_1, y2_t0_0_2, y2_t0_0_3, y2_t0_0_4, y2_t0_0_5, y2_t0_0_7, .b y2_t0_1.B, y2_b2001_0, y2_b2001_1, y2_b2001_2, y2_b2001_3, y2_b2001_4, y2_b2001_5, y2_b2001_7, b2003_0, b2005_0, b2005_1, b2005_2, b2005_3, .l y2_a2002.L])))))
def i_StewBook_ask_5 : List C → Option (List C) := fun xs => finR (ap14 i_StewBook_ask_5.d1 xs)
def i_StewBook_ask_5_fs : FS := ⟨5, ⟨[(0, (zl 58)), (1, (.pt 2000 0)), (2, (.pt 2001 0)), (3, (.pt 2002 0)), (4, (.pt 2003 0))], [(2000, .var 38 [zt, zi, zi, zi, zi, zo, (.ow 2004), zo]), (2001, .var 80 [(.fn 38 [(.pt 2000 0)])]), (2002, .var 68 [(.pt 2005 0)]), (2003, z15), (2004, .arr 79), (2005, z0)]⟩, ⟨[(0, (.tu [(.ag [zt, zi, zi, zi, zi, zo, (.ow 2004), zo]), zo]))], [(2000, .var 38 [zt, zi, zi, zi, zi, zo, (.ow 2004), zo]), (2001, .var 80 [(.fn 38 [(.pt 2000 0)])]), (2002, .var 68 [(.pt 2005 0)]), (2003, z15), (2005, z0), (2004, .arr 79)]⟩, [2000, 2001, 2002, 2003, 2005], i_StewBook_ask_5⟩
theorem i_StewBook_ask_5_ok : FSOk Try.checked.prog T0 40 i_StewBook_ask_5_fs := okOf base0 (fn := Try.f40) (c := Try.f40.body.getD .skip) i_StewBook_ask_5_fs .leaf [(38, some 18, i_StewBook_ask_3_v1_fs), (41, some 16, i_StewBook_first_fs)] (.cons i_StewBook_ask_3_v1_ok (.cons i_StewBook_first_ok .nil)) (by kernel_rfl) (by kernel_rfl) (by kernel_rfl) (fun xs => by kernel_rfl)
def i_StewBook_ask_8.d1 (t0_0 t0_1 t0_2 t0_3 t0_4 t0_5 t0_6 : C) : R := (some (.ret [.b (t0_4.I == 4)]))
def i_StewBook_ask_8 : List C → Option (List C) := fun xs => finR (ap7 i_StewBook_ask_8.d1 xs)
def i_StewBook_ask_8_fs : FS := ⟨1, ⟨[(0, z14)], []⟩, ⟨[(0, zo)], []⟩, [], i_StewBook_ask_8⟩
theorem i_StewBook_ask_8_ok : FSOk Try.checked.prog T0 44 i_StewBook_ask_8_fs := okOf base0 (fn := Try.f44) (c := Try.f44.body.getD .skip) i_StewBook_ask_8_fs .leaf [] .nil (by kernel_rfl) (by kernel_rfl) (by kernel_rfl) (fun xs => by kernel_rfl)
def i_StewBook_ask_1_v1.d1 (t8 t9 a1272400 a2001 : C) : R := (bif (decide (t9.I < t8.I)) then (bif (decide (0 ≤ t9.I)) then (bif (decide (t9.I < (a2001.L.length : Int))) then (call1 (i_StewBook_ask_8 [((a2001.L.getD t9.I.toNat []).getD 0 .nil), ((a2001.L.getD t9.I.toNat []).getD 1 .nil), ((a2001.L.getD t9.I.toNat []).getD 2 .nil), ((a2001.L.getD t9.I.toNat []).getD 3 .nil), ((a2001.L.getD t9.I.toNat []).getD 4 .nil), ((a2001.L.getD t9.I.toNat []).getD 5 .nil), ((a2001.L.getD t9.I.toNat []).getD 6 .nil)]) fun y1_t0 => (bif y1_t0.B then (bif (decide (a1272400.L.length + (rows [[((a2001.L.getD t9.I.toNat []).getD 0 .nil), ((a2001.L.getD t9.I.toNat []).getD 1 .nil), ((a2001.L.getD t9.I.toNat []).getD 2 .nil), ((a2001.L.getD t9.I.toNat []).getD 3 .nil), ((a2001.L.getD t9.I.toNat []).getD 4 .nil), ((a2001.L.getD t9.I.toNat []).getD 5 .nil), ((a2001.L.getD t9.I.toNat []).getD 6 .nil)]]).length ≤ 4294967296)) then (some (.again [t8, .i (w64 (t9.I + 1)), .l (a1272400.L ++ (rows [[((a2001.L.getD t9.I.toNat []).getD 0 .nil), ((a2001.L.getD t9.I.toNat []).getD 1 .nil), ((a2001.L.getD t9.I.toNat []).getD 2 .nil), ((a2001.L.getD t9.I.toNat []).getD 3 .nil), ((a2001.L.getD t9.I.toNat []).getD 4 .nil), ((a2001.L.getD t9.I.toNat []).getD 5 .nil), ((a2001.L.getD t9.I.toNat []).getD 6 .nil)]])), .l a2001.L])) else none) else (some (.again [t8, .i (w64 (t9.I + 1)), .l a1272400.L, .l a2001.L])))) else none) else none) else (some (.brk 0 [.l a1272400.L, .l a2001.L])))
def i_StewBook_ask_1_v1.d2 (a1272400 a2001 : C) : R := (some (.ret [.l a1272400.L, .l a2001.L]))
def i_StewBook_ask_1_v1.d3 (a2001 : C) : R := (bindBlk 0 (lim (ap4 i_StewBook_ask_1_v1.d1) [.i (a2001.L.length : Int), .i 0, .l nils, .l a2001.L]) (ap2 i_StewBook_ask_1_v1.d2))
def i_StewBook_ask_1_v1 : List C → Option (List C) := fun xs => finR (ap1 i_StewBook_ask_1_v1.d3 xs)
def i_StewBook_ask_1_v1_fs : FS := ⟨2, ⟨[(0, (.fn 44 [])), (1, (.pt 2000 0))], [(2000, .var 24 [(.ow 2001)]), (2001, .arr 58)]⟩, ⟨[(0, (zl 58))], [(2000, .var 24 [(zl 58)])]⟩, [2000], i_StewBook_ask_1_v1⟩
theorem i_StewBook_ask_1_v1_ok : FSOk Try.checked.prog T0 34 i_StewBook_ask_1_v1_fs := okOf base0 (fn := Try.f34) (c := Try.f34.body.getD .skip) i_StewBook_ask_1_v1_fs (.seq .leaf (.seq .leaf (.seq (.seq .leaf (.block ⟨[(4, (.ow 1272400))], [(2000, .var 24 [(.ow 2001)]), (1272400, .arr 58), (2001, .arr 58)]⟩ (.loop ⟨[(0, (.fn 44 [])), (4, (.ow 1272400)), (7, (.ow 2001)), (8, zi), (9, zi)], [(2000, .var 24 [(.ow 2001)]), (1272400, .arr 58), (2001, .arr 58)]⟩ .leaf))) (.seq .leaf (.frz [2001, 1272400] .leaf))))) [(44, some 15, i_StewBook_ask_8_fs)] (.cons i_StewBook_ask_8_ok .nil) (by kernel_rfl) (by kernel_rfl) (by kernel_rfl) (fun xs => by kernel_rfl)
def i_demand.d1 (t0 : C) : R := (bif t0.isP then (bif t0.isP then (bif t0.isP then (bif ((t0.P.getD 8 .nil).I != 0) then (bif t0.isP then (bif t0.isP then (some (.ret [.i (if (t0.P.getD 10 .nil).I < (if (t0.P.getD 9 .nil).I > (w64 ((w64 ((w64 ((t0.P.getD 11 .nil).I + (t0.P.getD 8 .nil).I)) - 1)).tdiv ((t0.P.getD 8 .nil).I))) then (t0.P.getD 9 .nil).I else (w64 ((w64 ((w64 ((t0.P.getD 11 .nil).I + (t0.P.getD 8 .nil).I)) - 1)).tdiv ((t0.P.getD 8 .nil).I)))) then (t0.P.getD 10 .nil).I else (if (t0.P.getD 9 .nil).I > (w64 ((w64 ((w64 ((t0.P.getD 11 .nil).I + (t0.P.getD 8 .nil).I)) - 1)).tdiv ((t0.P.getD 8 .nil).I))) then (t0.P.getD 9 .nil).I else (w64 ((w64 ((w64 ((t0.P.getD 11 .nil).I + (t0.P.getD 8 .nil).I)) - 1)).tdiv ((t0.P.getD 8 .nil).I)))))])) else none) else none) else none) else none) else none) else none)
def i_demand : List C → Option (List C) := fun xs => finR (ap1 i_demand.d1 xs)
def i_demand_fs : FS := ⟨1, ⟨[(0, (.d (.pt 48)))], []⟩, ⟨[(0, zi)], []⟩, [], i_demand⟩
theorem i_demand_ok : FSOk Try.checked.prog T0 45 i_demand_fs := okOf base0 (fn := Try.f45) (c := Try.f45.body.getD .skip) i_demand_fs .leaf [] .nil (by kernel_rfl) (by kernel_rfl) (by kernel_rfl) (fun xs => by kernel_rfl)
def i_StewBook_ask_6.d1 (t0 t1 b2000_0 b2000_1 b2000_2 b2000_3 b2000_4 b2000_5 b2000_7 a2001 : C) : R := (some (.ret [b2000_0, b2000_1, b2000_2, t0, t1, .b true, b2000_7, .b true, b2000_0, b2000_1, b2000_2, t0, t1, .b true, b2000_7, .l a2001.L]))
def i_StewBook_ask_6 : List C → Option (List C) := fun xs => finR (ap10 i_StewBook_ask_6.d1 xs)
def i_StewBook_ask_6_fs : FS := ⟨3, ⟨[(0, zi), (1, zi), (2, (.pt 2000 0))], [(2000, z16), (2001, .arr 79)]⟩, ⟨[(0, (.tu [(.ag [zt, zi, zi, zi, zi, zo, (.ow 2001), zo]), zo]))], [(2000, z16), (2001, .arr 79)]⟩, [2000, 2001], i_StewBook_ask_6⟩
theorem i_StewBook_ask_6_ok : FSOk Try.checked.prog T0 42 i_StewBook_ask_6_fs := okOf base0 (fn := Try.f42) (c := Try.f42.body.getD .skip) i_StewBook_ask_6_fs .leaf [] .nil (by kernel_rfl) (by kernel_rfl) (by kernel_rfl) (fun xs => by kernel_rfl)
def i_StewBook_ask_9.d1 (t0_0 t0_1 t0_2 t0_3 t0_4 t0_5 t0_6 b2002_0 b2002_1 b2002_2 b2002_3 b2003_0 : C) : R := (call1 (i_StewBook_drained [.p [b2002_0, b2002_1, b2002_2, b2002_3], t0_0, t0_1, t0_2, t0_3, t0_4, t0_5, t0_6]) fun y1_t0 => (bif y1_t0.B then (call6 (i_StewBook_ask_2 [t0_0, t0_1, t0_2, t0_3, t0_4, t0_5, t0_6, b2003_0, b2002_0, b2002_1, b2002_2, b2002_3]) fun y2_t0 y2_b2001_0 y2_b2002_0 y2_b2002_1 y2_b2002_2 y2_b2002_3 => (some (.ret [.b y2_t0.B, y2_b2002_0, y2_b2002_1, y2_b2002_2, y2_b2002_3, y2_b2001_0]))) else (some (.ret [.b false, b2002_0, b2002_1, b2002_2, b2002_3, b2003_0]))))
def i_StewBook_ask_9 : List C → Option (List C) := fun xs => finR (ap12 i_StewBook_ask_9.d1 xs)
def i_StewBook_ask_9_fs : FS := ⟨3, ⟨[(0, z14), (1, (.pt 2000 0)), (2, (.pt 2001 0))], [(2000, .var 68 [(.pt 2002 0)]), (2001, .var 73 [(.fn 35 [(.pt 2000 0), (.pt 2003 0)])]), (2002, z0), (2003, z15)]⟩, ⟨[(0, zo)], [(2000, .var 68 [(.pt 2002 0)]), (2001, .var 73 [(.fn 35 [(.pt 2000 0), (.pt 2003 0)])]), (2002, z0), (2003, z15)]⟩, [2000, 2001, 2002, 2003], i_StewBook_ask_9⟩
theorem i_StewBook_ask_9_ok : FSOk Try.checked.prog T0 46 i_StewBook_ask_9_fs := okOf base0 (fn := Try.f46) (c := Try.f46.body.getD .skip) i_StewBook_ask_9_fs .leaf [(33, some 7, i_StewBook_drained_fs), (35, some 11, i_StewBook_ask_2_fs)] (.cons i_StewBook_drained_ok (.cons i_StewBook_ask_2_ok .nil)) (by kernel_rfl) (by kernel_rfl) (by kernel_rfl) (fun xs => by kernel_rfl)
def i_StewBook_ask_1_v2.d1 (t8 t9 b2003_0 b2003_1 b2003_2 b2003_3 b2004_0 a1272400 a2005 : C) : R := (bif (decide (t9.I < t8.I)) then (bif (decide (0 ≤ t9.I)) then (bif (decide (t9.I < (a2005.L.length : Int))) then (call6 (i_StewBook_ask_9 [((a2005.L.getD t9.I.toNat []).getD 0 .nil), ((a2005.L.getD t9.I.toNat []).getD 1 .nil), ((a2005.L.getD t9.I.toNat []).getD 2 .nil), ((a2005.L.getD t9.I.toNat []).getD 3 .nil), ((a2005.L.getD t9.I.toNat []).getD 4 .nil), ((a2005.L.getD t9.I.toNat []).getD 5 .nil), ((a2005.L.getD t9.I.toNat []).getD 6 .nil), b2003_0, b2003_1, b2003_2, b2003_3, b2004_0]) fun y1_t0 y1_b2002_0 y1_b2002_1 y1_b2002_2 y1_b2002_3 y1_b2003_0 => (bif y1_t0.B then (bif (decide (a1272400.L.length + (rows [[((a2005.L.getD t9.I.toNat []).getD 0 .nil), ((a2005.L.getD t9.I.toNat []).getD 1 .nil), ((a2005.L.getD t9.I.toNat []).getD 2 .nil), ((a2005.L.getD t9.I.toNat []).getD 3 .nil), ((a2005.L.getD t9.I.toNat []).getD 4 .nil), ((a2005.L.getD t9.I.toNat []).getD 5 .nil), ((a2005.L.getD t9.I.toNat []).getD 6 .nil)]]).length ≤ 4294967296)) then (some (.again [t8, .i (w64 (t9.I + 1)), y1_b2002_0, y1_b2002_1, y1_b2002_2, y1_b2002_3, y1_b2003_0, .l (a1272400.L ++ (rows [[((a2005.L.getD t9.I.toNat []).getD 0 .nil), ((a2005.L.getD t9.I.toNat []).getD 1 .nil), ((a2005.L.getD t9.I.toNat []).getD 2 .nil), ((a2005.L.getD t9.I.toNat []).getD 3 .nil), ((a2005.L.getD t9.I.toNat []).getD 4 .nil), ((a2005.L.getD t9.I.toNat []).getD 5 .nil), ((a2005.L.getD t9.I.toNat []).getD 6 .nil)]])), .l a2005.L])) else none) else (some (.again [t8, .i (w64 (t9.I + 1)), y1_b2002_0, y1_b2002_1, y1_b2002_2, y1_b2002_3, y1_b2003_0, .l a1272400.L, .l a2005.L])))) else none) else none) else (some (.brk 0 [b2003_0, b2003_1, b2003_2, b2003_3, b2004_0, .l a1272400.L, .l a2005.L])))
def i_StewBook_ask_1_v2.d2 (b2003_0 b2003_1 b2003_2 b2003_3 b2004_0 a1272400 a2005 : C) : R := (some (.ret [.l a1272400.L, .l a2005.L, b2003_0, b2003_1, b2003_2, b2003_3, b2004_0]))
def i_StewBook_ask_1_v2.d3 (b2003_0 b2003_1 b2003_2 b2003_3 b2004_0 a2005 : C) : R := (bindBlk 0 (lim (ap9 i_StewBook_ask_1_v2.d1) [.i (a2005.L.length : Int), .i 0, b2003_0, b2003_1, b2003_2, b2003_3, b2004_0, .l nils, .l a2005.L]) (ap7 i_StewBook_ask_1_v2.d2))
def i_StewBook_ask_1_v2 : List C → Option (List C) := fun xs => finR (ap6 i_StewBook_ask_1_v2.d3 xs)
def i_StewBook_ask_1_v2_fs : FS := ⟨2, ⟨[(0, (.fn 46 [(.pt 2000 0), (.pt 2001 0)])), (1, (.pt 2002 0))], [(2000, .var 68 [(.pt 2003 0)]), (2001, .var 73 [(.fn 35 [(.pt 2000 0), (.pt 2004 0)])]), (2002, .var 24 [(.ow 2005)]), (2003, z0), (2004, z15), (2005, .arr 58)]⟩, ⟨[(0, (zl 58))], [(2000, .var 68 [(.pt 2003 0)]), (2001, .var 73 [(.fn 35 [(.pt 2000 0), (.pt 2004 0)])]), (2002, .var 24 [(zl 58)]), (2003, z0), (2004, z15)]⟩, [2000, 2001, 2002, 2003, 2004], i_StewBook_ask_1_v2⟩
theorem i_StewBook_ask_1_v2_ok : FSOk Try.checked.prog T0 34 i_StewBook_ask_1_v2_fs := okOf base0 (fn := Try.f34) (c := Try.f34.body.getD .skip) i_StewBook_ask_1_v2_fs (.seq .leaf (.seq .leaf (.seq (.seq .leaf (.block ⟨[(4, (.ow 1272400))], [(2000, .var 68 [(.pt 2003 0)]), (2001, .var 73 [(.fn 35 [(.pt 2000 0), (.pt 2004 0)])]), (2002, .var 24 [(.ow 2005)]), (2003, z0), (2004, z15), (1272400, .arr 58), (2005, .arr 58)]⟩ (.loop ⟨[(0, (.fn 46 [(.pt 2000 0), (.pt 2001 0)])), (4, (.ow 1272400)), (7, (.ow 2005)), (8, zi), (9, zi)], [(2000, .var 68 [(.pt 2003 0)]), (2001, .var 73 [(.fn 35 [(.pt 2000 0), (.pt 2004 0)])]), (2002, .var 24 [(.ow 2005)]), (2003, z0), (2004, z15), (1272400, .arr 58), (2005, .arr 58)]⟩ .leaf))) (.seq .leaf (.frz [2005, 1272400] .leaf))))) [(46, some 15, i_StewBook_ask_9_fs)] (.cons i_StewBook_ask_9_ok .nil) (by kernel_rfl) (by kernel_rfl) (by kernel_rfl) (fun xs => by kernel_rfl)
def i_StewBook_ask.d1 (t1 t11 t37 t38 t39 t54 b2000_0 b2000_1 b2000_2 b2000_3 b5_0 b6_0 b6_1 b6_2 b6_3 b6_4 b6_5 b6_7 b8_0 b8_1 b8_2 b8_3 b8_4 b8_5 b8_7 b9_0 b9_1 b9_2 b9_3 b9_4 b13_0 b13_1 b13_2 b13_3 b13_4 b13_5 b13_6 a1231400 a1231401 a1231402 : C) : R := (bif t54.B then (bif (decide (a1231402.L.length + (rows [[b13_0, b13_1, b13_2, b13_3, b13_4, b13_5, b13_6]]).length ≤ 4294967296)) then (call1 (i_StewBook_drained [.p [b2000_0, b2000_1, b2000_2, b2000_3], b13_0, b13_1, b13_2, b13_3, b13_4, b13_5, b13_6]) fun y2_t0 => (call1 (i_one [.b y2_t0.B]) fun y3_t0 => (some (.again [t1, .i (w64 (t11.I + y3_t0.I)), t37, t38, .i (w64 (t39.I + 1)), b2000_0, b2000_1, b2000_2, b2000_3, b5_0, b6_0, b6_1, b6_2, b6_3, b6_4, b6_5, b6_7, b8_0, b8_1, b8_2, b8_3, b8_4, b8_5, b8_7, b9_0, b9_1, b9_2, b9_3, b9_4, .l a1231400.L, .l a1231401.L, .l (a1231402.L ++ (rows [[b13_0, b13_1, b13_2, b13_3, b13_4, b13_5, b13_6]]))])))) else none) else (some (.again [t1, t11, t37, t38, .i (w64 (t39.I + 1)), b2000_0, b2000_1, b2000_2, b2000_3, b5_0, b6_0, b6_1, b6_2, b6_3, b6_4, b6_5, b6_7, b8_0, b8_1, b8_2, b8_3, b8_4, b8_5, b8_7, b9_0, b9_1, b9_2, b9_3, b9_4, .l a1231400.L, .l a1231401.L, .l a1231402.L])))
def i_StewBook_ask.d2 (t1 t11 t37 t38 t39 b2000_0 b2000_1 b2000_2 b2000_3 b5_0 b6_0 b6_1 b6_2 b6_3 b6_4 b6_5 b6_7 b8_0 b8_1 b8_2 b8_3 b8_4 b8_5 b8_7 b9_0 b9_1 b9_2 b9_3 b9_4 a1231400 a1231401 a1231402 : C) : R := (bif (decide (t39.I < t38.I)) then (bif (decide (0 ≤ t39.I)) then (bif (decide (t39.I < (t37.L.length : Int))) then (bindNrm (bif b5_0.isP then (bif ((((t37.L.getD t39.I.toNat []).getD 0 .nil).S).toList == ((b5_0.P.getD 0 .nil).S).toList) then (some (.nrm [t1, t11, t37, t38, t39, .b (!(((t37.L.getD t39.I.toNat []).getD 5 .nil).B)), b2000_0, b2000_1, b2000_2, b2000_3, b5_0, b6_0, b6_1, b6_2, b6_3, b6_4, b6_5, b6_7, b8_0, b8_1, b8_2, b8_3, b8_4, b8_5, b8_7, b9_0, b9_1, b9_2, b9_3, b9_4, ((t37.L.getD t39.I.toNat []).getD 0 .nil), ((t37.L.getD t39.I.toNat []).getD 1 .nil), ((t37.L.getD t39.I.toNat []).getD 2 .nil), ((t37.L.getD t39.I.toNat []).getD 3 .nil), ((t37.L.getD t39.I.toNat []).getD 4 .nil), ((t37.L.getD t39.I.toNat []).getD 5 .nil), ((t37.L.getD t39.I.toNat []).getD 6 .nil), .l a1231400.L, .l a1231401.L, .l a1231402.L])) else (some (.nrm [t1, t11, t37, t38, t39, .b false, b2000_0, b2000_1, b2000_2, b2000_3, b5_0, b6_0, b6_1, b6_2, b6_3, b6_4, b6_5, b6_7, b8_0, b8_1, b8_2, b8_3, b8_4, b8_5, b8_7, b9_0, b9_1, b9_2, b9_3, b9_4, ((t37.L.getD t39.I.toNat []).getD 0 .nil), ((t37.L.getD t39.I.toNat []).getD 1 .nil), ((t37.L.getD t39.I.toNat []).getD 2 .nil), ((t37.L.getD t39.I.toNat []).getD 3 .nil), ((t37.L.getD t39.I.toNat []).getD 4 .nil), ((t37.L.getD t39.I.toNat []).getD 5 .nil), ((t37.L.getD t39.I.toNat []).getD 6 .nil), .l a1231400.L, .l a1231401.L, .l a1231402.L]))) else none) (ap40 i_StewBook_ask.d1)) else none) else none) else (some (.brk 0 [t1, t11, b2000_0, b2000_1, b2000_2, b2000_3, b5_0, b6_0, b6_1, b6_2, b6_3, b6_4, b6_5, b6_7, b8_0, b8_1, b8_2, b8_3, b8_4, b8_5, b8_7, b9_0, b9_1, b9_2, b9_3, b9_4, .l a1231400.L, .l a1231401.L, .l a1231402.L])))
def i_StewBook_ask.d3 (t147 b2000_0 b2000_1 b2000_2 b2000_3 b5_0 b6_0 b6_1 b6_2 b6_3 b6_4 b6_5 b6_7 b8_0 b8_1 b8_2 b8_3 b8_4 b8_5 b8_7 a1231400 a1231401 a1231402 : C) : R := (bif t147.B then (call7 (i_StewBook_first [.p [b2000_0, b2000_1, b2000_2, b2000_3], b5_0, .l a1231402.L]) fun y6_t0_0 y6_t0_1 y6_t0_2 y6_t0_3 y6_t0_4 y6_t0_5 y6_t0_6 => (call6 (i_StewBook_ask_2 [y6_t0_0, y6_t0_1, y6_t0_2, y6_t0_3, y6_t0_4, y6_t0_5, y6_t0_6, b5_0, b2000_0, b2000_1, b2000_2, b2000_3]) fun y7_t0 y7_b2001_0 y7_b2002_0 y7_b2002_1 y7_b2002_2 y7_b2002_3 => (bif y7_t0.B then (call17 (i_StewBook_ask_3_v1 [.l (rows [[y6_t0_0, y6_t0_1, y6_t0_2, y6_t0_3, y6_t0_4, y6_t0_5, y6_t0_6]]), b8_0, b8_1, b8_2, b8_3, b8_4, b8_5, b8_7, .l a1231401.L]) fun y8_t0_0_0 y8_t0_0_1 y8_t0_0_2 y8_t0_0_3 y8_t0_0_4 y8_t0_0_5 y8_t0_0_7 y8_t0_1 y8_a2000 y8_b2001_0 y8_b2001_1 y8_b2001_2 y8_b2001_3 y8_b2001_4 y8_b2001_5 y8_b2001_7 y8_a2002 => (some (.ret [y8_t0_0_0, y8_t0_0_1, y8_t0_0_2, y8_t0_0_3, y8_t0_0_4, y8_t0_0_5, y8_t0_0_7, .b y8_t0_1.B, y7_b2002_0, y7_b2002_1, y7_b2002_2, y7_b2002_3, .l y8_a2002.L]))) else (some (.ret [b8_0, b8_1, b8_2, b8_3, b8_4, b8_5, b8_7, .b false, y7_b2002_0, y7_b2002_1, y7_b2002_2, y7_b2002_3, .l a1231401.L]))))) else (some (.ret [b8_0, b8_1, b8_2, b8_3, b8_4, b8_5, b8_7, .b false, b2000_0, b2000_1, b2000_2, b2000_3, .l a1231401.L])))
def i_StewBook_ask.d4 (t21 t265 b2000_0 b2000_1 b2000_2 b2000_3 b5_0 b6_0 b6_1 b6_2 b6_3 b6_4 b6_5 b6_7 b8_0 b8_1 b8_2 b8_3 b8_4 b8_5 b8_7 a1231400 a1231401 : C) : R := (bif t265.B then (bif b5_0.isP then (call16 (i_StewBook_ask_6 [.i (w64 ((b5_0.P.getD 4 .nil).I - 1)), .i 0, b8_0, b8_1, b8_2, b8_3, b8_4, b8_5, b8_7, .l a1231401.L]) fun y18_t0_0_0 y18_t0_0_1 y18_t0_0_2 y18_t0_0_3 y18_t0_0_4 y18_t0_0_5 y18_t0_0_7 y18_t0_1 y18_b2000_0 y18_b2000_1 y18_b2000_2 y18_b2000_3 y18_b2000_4 y18_b2000_5 y18_b2000_7 y18_a2001 => (some (.ret [y18_t0_0_0, y18_t0_0_1, y18_t0_0_2, y18_t0_0_3, y18_t0_0_4, y18_t0_0_5, y18_t0_0_7, .b y18_t0_1.B, b2000_0, b2000_1, b2000_2, b2000_3, .l y18_a2001.L]))) else none) else (bif b5_0.isP then (bif (decide (t21.I < (b5_0.P.getD 4 .nil).I)) then (bif b5_0.isP then (bif b5_0.isP then (call16 (i_StewBook_ask_6 [(b5_0.P.getD 4 .nil), .i (w64 ((b5_0.P.getD 12 .nil).I + 1)), b8_0, b8_1, b8_2, b8_3, b8_4, b8_5, b8_7, .l a1231401.L]) fun y19_t0_0_0 y19_t0_0_1 y19_t0_0_2 y19_t0_0_3 y19_t0_0_4 y19_t0_0_5 y19_t0_0_7 y19_t0_1 y19_b2000_0 y19_b2000_1 y19_b2000_2 y19_b2000_3 y19_b2000_4 y19_b2000_5 y19_b2000_7 y19_a2001 => (some (.ret [y19_t0_0_0, y19_t0_0_1, y19_t0_0_2, y19_t0_0_3, y19_t0_0_4, y19_t0_0_5, y19_t0_0_7, .b y19_t0_1.B, b2000_0, b2000_1, b2000_2, b2000_3, .l y19_a2001.L]))) else none) else none) else (bif b5_0.isP then (bif ((b5_0.P.getD 12 .nil).I != 0) then (bif b5_0.isP then (call16 (i_StewBook_ask_6 [(b5_0.P.getD 4 .nil), .i 0, b8_0, b8_1, b8_2, b8_3, b8_4, b8_5, b8_7, .l a1231401.L]) fun y20_t0_0_0 y20_t0_0_1 y20_t0_0_2 y20_t0_0_3 y20_t0_0_4 y20_t0_0_5 y20_t0_0_7 y20_t0_1 y20_b2000_0 y20_b2000_1 y20_b2000_2 y20_b2000_3 y20_b2000_4 y20_b2000_5 y20_b2000_7 y20_a2001 => (some (.ret [y20_t0_0_0, y20_t0_0_1, y20_t0_0_2, y20_t0_0_3, y20_t0_0_4, y20_t0_0_5, y20_t0_0_7, .b y20_t0_1.B, b2000_0, b2000_1, b2000_2, b2000_3, .l y20_a2001.L]))) else none) else (some (.ret [b8_0, b8_1, b8_2, b8_3, b8_4, b8_5, b8_7, .b false, b2000_0, b2000_1, b2000_2, b2000_3, .l a1231401.L]))) else none)) else none))
def i_StewBook_ask.d5 (t1 t11 b2000_0 b2000_1 b2000_2 b2000_3 b5_0 b6_0 b6_1 b6_2 b6_3 b6_4 b6_5 b6_7 b8_0 b8_1 b8_2 b8_3 b8_4 b8_5 b8_7 b9_0 b9_1 b9_2 b9_3 b9_4 a1231400 a1231401 a1231402 : C) : R := (bif (t1.I == 1) then (bif b5_0.isP then (bif (decide (b9_0.I < (b5_0.P.getD 4 .nil).I)) then (bif b5_0.isP then (call16 (i_StewBook_ask_4 [.i (w64 ((b5_0.P.getD 4 .nil).I - b9_0.I)), b8_0, b8_1, b8_2, b8_3, b8_4, b8_5, b8_7, .l a1231401.L]) fun y5_t0_0_0 y5_t0_0_1 y5_t0_0_2 y5_t0_0_3 y5_t0_0_4 y5_t0_0_5 y5_t0_0_7 y5_t0_1 y5_b2000_0 y5_b2000_1 y5_b2000_2 y5_b2000_3 y5_b2000_4 y5_b2000_5 y5_b2000_7 y5_a2001 => (some (.ret [y5_t0_0_0, y5_t0_0_1, y5_t0_0_2, y5_t0_0_3, y5_t0_0_4, y5_t0_0_5, y5_t0_0_7, .b y5_t0_1.B, b2000_0, b2000_1, b2000_2, b2000_3, .l y5_a2001.L]))) else none) else (bindNrm (bif b5_0.isP then (bif (decide (b9_0.I > (b5_0.P.getD 4 .nil).I)) then (bif (b9_2.I == 0) then (bif (!(t11.I == 0)) then (bif b5_0.isP then (bif b5_0.isP then (some (.nrm [.b (decide (b9_0.I > (w64 ((b5_0.P.getD 4 .nil).I + (b5_0.P.getD 6 .nil).I)))), b2000_0, b2000_1, b2000_2, b2000_3, b5_0, b6_0, b6_1, b6_2, b6_3, b6_4, b6_5, b6_7, b8_0, b8_1, b8_2, b8_3, b8_4, b8_5, b8_7, .l a1231400.L, .l a1231401.L, .l a1231402.L])) else none) else none) else (some (.nrm [.b true, b2000_0, b2000_1, b2000_2, b2000_3, b5_0, b6_0, b6_1, b6_2, b6_3, b6_4, b6_5, b6_7, b8_0, b8_1, b8_2, b8_3, b8_4, b8_5, b8_7, .l a1231400.L, .l a1231401.L, .l a1231402.L]))) else (bif b5_0.isP then (bif b5_0.isP then (some (.nrm [.b (decide (b9_0.I > (w64 ((b5_0.P.getD 4 .nil).I + (b5_0.P.getD 6 .nil).I)))), b2000_0, b2000_1, b2000_2, b2000_3, b5_0, b6_0, b6_1, b6_2, b6_3, b6_4, b6_5, b6_7, b8_0, b8_1, b8_2, b8_3, b8_4, b8_5, b8_7, .l a1231400.L, .l a1231401.L, .l a1231402.L])) else none) else none)) else (some (.nrm [.b false, b2000_0, b2000_1, b2000_2, b2000_3, b5_0, b6_0, b6_1, b6_2, b6_3, b6_4, b6_5, b6_7, b8_0, b8_1, b8_2, b8_3, b8_4, b8_5, b8_7, .l a1231400.L, .l a1231401.L, .l a1231402.L]))) else none) (ap23 i_StewBook_ask.d3))) else none) else (bif (t1.I == 2) then (bif (!(b9_2.I == 0)) then (bif b5_0.isP then (bif (decide (b9_0.I < (b5_0.P.getD 4 .nil).I)) then (some (.ret [b8_0, b8_1, b8_2, b8_3, b8_4, b8_5, b8_7, .b false, b2000_0, b2000_1, b2000_2, b2000_3, .l a1231401.L])) else (bif b5_0.isP then (bif b5_0.isP then (bif (decide (b9_0.I < (w64 ((b5_0.P.getD 4 .nil).I + (b5_0.P.getD 6 .nil).I)))) then (call16 (i_StewBook_ask_4 [.i 1, b8_0, b8_1, b8_2, b8_3, b8_4, b8_5, b8_7, .l a1231401.L]) fun y9_t0_0_0 y9_t0_0_1 y9_t0_0_2 y9_t0_0_3 y9_t0_0_4 y9_t0_0_5 y9_t0_0_7 y9_t0_1 y9_b2000_0 y9_b2000_1 y9_b2000_2 y9_b2000_3 y9_b2000_4 y9_b2000_5 y9_b2000_7 y9_a2001 => (some (.ret [y9_t0_0_0, y9_t0_0_1, y9_t0_0_2, y9_t0_0_3, y9_t0_0_4, y9_t0_0_5, y9_t0_0_7, .b y9_t0_1.B, b2000_0, b2000_1, b2000_2, b2000_3, .l y9_a2001.L]))) else (call7 (i_StewBook_ask_1 [b5_0, .l a1231402.L, b2000_0, b2000_1, b2000_2, b2000_3]) fun y10_t0 y10_b2000_0 y10_b2002_0 y10_b2005_0 y10_b2005_1 y10_b2005_2 y10_b2005_3 => (call21 (i_StewBook_ask_5 [y10_t0, b8_0, b8_1, b8_2, b8_3, b8_4, b8_5, b8_7, y10_b2000_0, .l a1231401.L, y10_b2005_0, y10_b2005_1, y10_b2005_2, y10_b2005_3]) fun y11_t0_0_0 y11_t0_0_1 y11_t0_0_2 y11_t0_0_3 y11_t0_0_4 y11_t0_0_5 y11_t0_0_7 y11_t0_1 y11_b2000_0 y11_b2000_1 y11_b2000_2 y11_b2000_3 y11_b2000_4 y11_b2000_5 y11_b2000_7 y11_b2003_0 y11_b2005_0 y11_b2005_1 y11_b2005_2 y11_b2005_3 y11_a2004 => (some (.ret [y11_t0_0_0, y11_t0_0_1, y11_t0_0_2, y11_t0_0_3, y11_t0_0_4, y11_t0_0_5, y11_t0_0_7, .b y11_t0_1.B, y11_b2005_0, y11_b2005_1, y11_b2005_2, y11_b2005_3, .l y11_a2004.L]))))) else none) else none)) else none) else (some (.ret [b8_0, b8_1, b8_2, b8_3, b8_4, b8_5, b8_7, .b false, b2000_0, b2000_1, b2000_2, b2000_3, .l a1231401.L]))) else (bif (t1.I == 3) then (call2 (i_StewBook_ask_1_v1 [.l a1231402.L]) fun y12_t0 y12_b2000_0 => (call16 (i_StewBook_ask_3 [y12_t0, b8_0, b8_1, b8_2, b8_3, b8_4, b8_5, b8_7, .l a1231401.L]) fun y13_t0_0_0 y13_t0_0_1 y13_t0_0_2 y13_t0_0_3 y13_t0_0_4 y13_t0_0_5 y13_t0_0_7 y13_t0_1 y13_b2000_0 y13_b2000_1 y13_b2000_2 y13_b2000_3 y13_b2000_4 y13_b2000_5 y13_b2000_7 y13_a2001 => (some (.ret [y13_t0_0_0, y13_t0_0_1, y13_t0_0_2, y13_t0_0_3, y13_t0_0_4, y13_t0_0_5, y13_t0_0_7, .b y13_t0_1.B, b2000_0, b2000_1, b2000_2, b2000_3, .l y13_a2001.L])))) else (bif (t1.I == 4) then (bif b5_0.isP then (bif ((b5_0.P.getD 8 .nil).I == 0) then (some (.ret [b8_0, b8_1, b8_2, b8_3, b8_4, b8_5, b8_7, .b false, b2000_0, b2000_1, b2000_2, b2000_3, .l a1231401.L])) else (call1 (i_demand [b5_0]) fun y14_t0 => (bif b5_0.isP then (bif b5_0.isP then (bif (decide ((b5_0.P.getD 4 .nil).I < (b5_0.P.getD 9 .nil).I)) then (bif b5_0.isP then (call16 (i_StewBook_ask_6 [(b5_0.P.getD 9 .nil), .i 0, b8_0, b8_1, b8_2, b8_3, b8_4, b8_5, b8_7, .l a1231401.L]) fun y15_t0_0_0 y15_t0_0_1 y15_t0_0_2 y15_t0_0_3 y15_t0_0_4 y15_t0_0_5 y15_t0_0_7 y15_t0_1 y15_b2000_0 y15_b2000_1 y15_b2000_2 y15_b2000_3 y15_b2000_4 y15_b2000_5 y15_b2000_7 y15_a2001 => (some (.ret [y15_t0_0_0, y15_t0_0_1, y15_t0_0_2, y15_t0_0_3, y15_t0_0_4, y15_t0_0_5, y15_t0_0_7, .b y15_t0_1.B, b2000_0, b2000_1, b2000_2, b2000_3, .l y15_a2001.L]))) else none) else (bif b5_0.isP then (bif b5_0.isP then (bif (decide ((b5_0.P.getD 4 .nil).I > (b5_0.P.getD 10 .nil).I)) then (bif b5_0.isP then (call16 (i_StewBook_ask_6 [(b5_0.P.getD 10 .nil), .i 0, b8_0, b8_1, b8_2, b8_3, b8_4, b8_5, b8_7, .l a1231401.L]) fun y16_t0_0_0 y16_t0_0_1 y16_t0_0_2 y16_t0_0_3 y16_t0_0_4 y16_t0_0_5 y16_t0_0_7 y16_t0_1 y16_b2000_0 y16_b2000_1 y16_b2000_2 y16_b2000_3 y16_b2000_4 y16_b2000_5 y16_b2000_7 y16_a2001 => (some (.ret [y16_t0_0_0, y16_t0_0_1, y16_t0_0_2, y16_t0_0_3, y16_t0_0_4, y16_t0_0_5, y16_t0_0_7, .b y16_t0_1.B, b2000_0, b2000_1, b2000_2, b2000_3, .l y16_a2001.L]))) else none) else (bif b5_0.isP then (bif (decide (y14_t0.I > (b5_0.P.getD 4 .nil).I)) then (call16 (i_StewBook_ask_6 [y14_t0, .i 0, b8_0, b8_1, b8_2, b8_3, b8_4, b8_5, b8_7, .l a1231401.L]) fun y17_t0_0_0 y17_t0_0_1 y17_t0_0_2 y17_t0_0_3 y17_t0_0_4 y17_t0_0_5 y17_t0_0_7 y17_t0_1 y17_b2000_0 y17_b2000_1 y17_b2000_2 y17_b2000_3 y17_b2000_4 y17_b2000_5 y17_b2000_7 y17_a2001 => (some (.ret [y17_t0_0_0, y17_t0_0_1, y17_t0_0_2, y17_t0_0_3, y17_t0_0_4, y17_t0_0_5, y17_t0_0_7, .b y17_t0_1.B, b2000_0, b2000_1, b2000_2, b2000_3, .l y17_a2001.L]))) else (bindNrm (bif b5_0.isP then (bif (decide (y14_t0.I < (b5_0.P.getD 4 .nil).I)) then (bif b5_0.isP then (some (.nrm [y14_t0, .b ((b5_0.P.getD 12 .nil).I == 3), b2000_0, b2000_1, b2000_2, b2000_3, b5_0, b6_0, b6_1, b6_2, b6_3, b6_4, b6_5, b6_7, b8_0, b8_1, b8_2, b8_3, b8_4, b8_5, b8_7, .l a1231400.L, .l a1231401.L])) else none) else (some (.nrm [y14_t0, .b false, b2000_0, b2000_1, b2000_2, b2000_3, b5_0, b6_0, b6_1, b6_2, b6_3, b6_4, b6_5, b6_7, b8_0, b8_1, b8_2, b8_3, b8_4, b8_5, b8_7, .l a1231400.L, .l a1231401.L]))) else none) (ap23 i_StewBook_ask.d4))) else none)) else none) else none)) else none) else none))) else none) else (bif (t1.I == 6) then (bif (!(decide (b9_2.I > 0))) then (bif (!(t11.I == 0)) then (bif b5_0.isP then (bif (decide (b9_0.I < (b5_0.P.getD 4 .nil).I)) then (some (.ret [b8_0, b8_1, b8_2, b8_3, b8_4, b8_5, b8_7, .b false, b2000_0, b2000_1, b2000_2, b2000_3, .l a1231401.L])) else (bif b5_0.isP then (bif b5_0.isP then (bif (decide (b9_0.I < (w64 ((b5_0.P.getD 4 .nil).I + (b5_0.P.getD 6 .nil).I)))) then (call16 (i_StewBook_ask_4 [.i 1, b8_0, b8_1, b8_2, b8_3, b8_4, b8_5, b8_7, .l a1231401.L]) fun y21_t0_0_0 y21_t0_0_1 y21_t0_0_2 y21_t0_0_3 y21_t0_0_4 y21_t0_0_5 y21_t0_0_7 y21_t0_1 y21_b2000_0 y21_b2000_1 y21_b2000_2 y21_b2000_3 y21_b2000_4 y21_b2000_5 y21_b2000_7 y21_a2001 => (some (.ret [y21_t0_0_0, y21_t0_0_1, y21_t0_0_2, y21_t0_0_3, y21_t0_0_4, y21_t0_0_5, y21_t0_0_7, .b y21_t0_1.B, b2000_0, b2000_1, b2000_2, b2000_3, .l y21_a2001.L]))) else (call7 (i_StewBook_ask_1_v2 [b2000_0, b2000_1, b2000_2, b2000_3, b5_0, .l a1231402.L]) fun y22_t0 y22_b2002_0 y22_b2003_0 y22_b2003_1 y22_b2003_2 y22_b2003_3 y22_b2004_0 => (call21 (i_StewBook_ask_5 [y22_t0, b8_0, b8_1, b8_2, b8_3, b8_4, b8_5, b8_7, y22_b2004_0, .l a1231401.L, y22_b2003_0, y22_b2003_1, y22_b2003_2, y22_b2003_3]) fun y23_t0_0_0 y23_t0_0_1 y23_t0_0_2 y23_t0_0_3 y23_t0_0_4 y23_t0_0_5 y23_t0_0_7 y23_t0_1 y23_b2000_0 y23_b2000_1 y23_b2000_2 y23_b2000_3 y23_b2000_4 y23_b2000_5 y23_b2000_7 y23_b2003_0 y23_b2005_0 y23_b2005_1 y23_b2005_2 y23_b2005_3 y23_a2004 => (some (.ret [y23_t0_0_0, y23_t0_0_1, y23_t0_0_2, y23_t0_0_3, y23_t0_0_4, y23_t0_0_5, y23_t0_0_7, .b y23_t0_1.B, y23_b2005_0, y23_b2005_1, y23_b2005_2, y23_b2005_3, .l y23_a2004.L]))))) else none) else none)) else none) else (some (.ret [b8_0, b8_1, b8_2, b8_3, b8_4, b8_5, b8_7, .b false, b2000_0, b2000_1, b2000_2, b2000_3, .l a1231401.L]))) else (some (.ret [b8_0, b8_1, b8_2, b8_3, b8_4, b8_5, b8_7, .b false, b2000_0, b2000_1, b2000_2, b2000_3, .l a1231401.L]))) else (some (.ret [b8_0, b8_1, b8_2, b8_3, b8_4, b8_5, b8_7, .b false, b2000_0, b2000_1, b2000_2, b2000_3, .l a1231401.L])))))))
def i_StewBook_ask.d6 (t1 t11 b2000_0 b2000_1 b2000_2 b2000_3 b5_0 b6_0 b6_1 b6_2 b6_3 b6_4 b6_5 b6_7 b8_0 b8_1 b8_2 b8_3 b8_4 b8_5 b8_7 b9_0 b9_1 b9_2 b9_3 b9_4 a1231400 a1231401 a1231402 : C) : R := (bindNrm (bif b5_0.isP then (bif (b5_0.P.getD 2 .nil).B then (bif (t1.I == 3) then (some (.nrm [t1, t11, b2000_0, b2000_1, b2000_2, b2000_3, b5_0, b6_0, b6_1, b6_2, b6_3, b6_4, b6_5, b6_7, b8_0, b8_1, b8_2, b8_3, b8_4, b8_5, b8_7, b9_0, b9_1, b9_2, b9_3, b9_4, .l a1231400.L, .l a1231401.L, .l a1231402.L])) else (bif (t1.I != 5) then (some (.ret [b8_0, b8_1, b8_2, b8_3, b8_4, b8_5, b8_7, .b false, b2000_0, b2000_1, b2000_2, b2000_3, .l a1231401.L])) else (bif (decide ((a1231402.L.length : Int) > 0)) then (call16 (i_StewBook_ask_3 [.l a1231402.L, b8_0, b8_1, b8_2, b8_3, b8_4, b8_5, b8_7, .l a1231401.L]) fun y4_t0_0_0 y4_t0_0_1 y4_t0_0_2 y4_t0_0_3 y4_t0_0_4 y4_t0_0_5 y4_t0_0_7 y4_t0_1 y4_b2000_0 y4_b2000_1 y4_b2000_2 y4_b2000_3 y4_b2000_4 y4_b2000_5 y4_b2000_7 y4_a2001 => (some (.ret [y4_t0_0_0, y4_t0_0_1, y4_t0_0_2, y4_t0_0_3, y4_t0_0_4, y4_t0_0_5, y4_t0_0_7, .b y4_t0_1.B, b2000_0, b2000_1, b2000_2, b2000_3, .l y4_a2001.L]))) else (some (.ret [b8_0, b8_1, b8_2, b8_3, b8_4, b8_5, .b true, .b (b9_4.I == 0), b2000_0, b2000_1, b2000_2, b2000_3, .l a1231401.L]))))) else (some (.nrm [t1, t11, b2000_0, b2000_1, b2000_2, b2000_3, b5_0, b6_0, b6_1, b6_2, b6_3, b6_4, b6_5, b6_7, b8_0, b8_1, b8_2, b8_3, b8_4, b8_5, b8_7, b9_0, b9_1, b9_2, b9_3, b9_4, .l a1231400.L, .l a1231401.L, .l a1231402.L]))) else none) (ap29 i_StewBook_ask.d5))
def i_StewBook_ask.d7 (t1 t2 b2000_0 b2000_1 b2000_2 b2000_3 : C) : R := (bif t2.isP then (bif t2.isP then (call5 (i_StewBook_count [.p [b2000_0, b2000_1, b2000_2, b2000_3], t2]) fun y1_t0_0 y1_t0_1 y1_t0_2 y1_t0_3 y1_t0_4 => (bindBlk 0 (lim (ap32 i_StewBook_ask.d2) [t1, .i 0, b2000_2, .i (b2000_2.L.length : Int), .i 0, b2000_0, b2000_1, b2000_2, b2000_3, t2, .s (bs #[]), .i 0, .i 0, .i 0, .i 0, .b false, .b false, (t2.P.getD 0 .nil), (t2.P.getD 1 .nil), .i 0, .i 0, .i 0, .b false, .b false, y1_t0_0, y1_t0_1, y1_t0_2, y1_t0_3, y1_t0_4, .l nils, .l nils, .l nils]) (ap29 i_StewBook_ask.d6))) else none) else none)
def i_StewBook_ask : List C → Option (List C) := fun xs => finR (ap6 i_StewBook_ask.d7 xs)
def i_StewBook_ask_fs : FS := ⟨3, ⟨[(0, (.pt 2000 0)), (1, zi), (2, (.d (.pt 48)))], [(2000, z0)]⟩, ⟨[(0, (.tu [(.ag [zt, zi, zi, zi, zi, zo, (.ow 3001), zo]), zo]))], [(2000, z0), (3001, .arr 79)]⟩, [2000], i_StewBook_ask⟩
theorem i_StewBook_ask_ok : FSOk Try.checked.prog T0 14 i_StewBook_ask_fs := okOf base0 (fn := Try.f14) (c := Try.f14.body.getD .skip) i_StewBook_ask_fs (.seq .leaf (.seq .leaf (.seq .leaf (.seq .leaf (.seq .leaf (.seq (.seq .leaf (.block ⟨[(1, zi), (3, (.pt 3 0)), (5, (.pt 5 0)), (6, (.pt 6 0)), (8, (.pt 8 0)), (9, (.pt 9 0)), (10, (.pt 10 0)), (11, zi)], [(2000, z0), (3, .var 68 [(.pt 2000 0)]), (5, z15), (6, z20), (8, z21), (9, z11), (10, .var 24 [(.ow 1231402)]), (1231400, .arr 79), (1231401, .arr 79), (1231402, .arr 58)]⟩ (.loop ⟨[(1, zi), (3, (.pt 3 0)), (5, (.pt 5 0)), (6, (.pt 6 0)), (8, (.pt 8 0)), (9, (.pt 9 0)), (10, (.pt 10 0)), (11, zi), (37, (zl 58)), (38, zi), (39, zi)], [(2000, z0), (3, .var 68 [(.pt 2000 0)]), (5, z15), (6, z20), (8, z21), (9, z11), (10, .var 24 [(.ow 1231402)]), (1231400, .arr 79), (1231401, .arr 79), (1231402, .arr 58)]⟩ (.seq .leaf (.seq .leaf (.seq (.skip (.seq .leaf (.seq (.join ⟨[(1, zi), (3, (.pt 3 0)), (5, (.pt 5 0)), (6, (.pt 6 0)), (8, (.pt 8 0)), (9, (.pt 9 0)), (10, (.pt 10 0)), (11, zi), (13, (.pt 13 0)), (37, (zl 58)), (38, zi), (39, zi), (54, zo)], [(2000, z0), (3, .var 68 [(.pt 2000 0)]), (5, z15), (6, z20), (8, z21), (9, z11), (10, .var 24 [(.ow 1231402)]), (13, z12), (1231400, .arr 79), (1231401, .arr 79), (1231402, .arr 58)]⟩ .leaf) .leaf))) .leaf)))))) (.seq .leaf (.seq .leaf (.seq .leaf (.seq .leaf (.seq .leaf (.seq .leaf (.seq (.join ⟨[(1, zi), (3, (.pt 3 0)), (5, (.pt 5 0)), (6, (.pt 6 0)), (8, (.pt 8 0)), (9, (.pt 9 0)), (10, (.pt 10 0)), (11, zi), (14, (.fn 34 [(.pt 10 0)])), (15, (.pt 15 0)), (16, (.pt 16 0)), (17, (.fn 39 [(.pt 8 0)])), (18, (.fn 40 [(.pt 8 0), (.pt 16 0), (.pt 3 0), (.pt 5 0)])), (19, (.fn 42 [(.pt 8 0)]))], [(2000, z0), (3, .var 68 [(.pt 2000 0)]), (5, z15), (6, z20), (8, z21), (9, z11), (10, .var 24 [(.ow 1231402)]), (15, .var 73 [(.fn 35 [(.pt 3 0), (.pt 5 0)])]), (16, .var 80 [(.fn 38 [(.pt 8 0)])]), (1231400, .arr 79), (1231401, .arr 79), (1231402, .arr 58)]⟩ (.seq .leaf (.cond (.skip (.seq .leaf (.cond .leaf (.seq .leaf (.cond .leaf (.seq .leaf (.cond (.seq (.frz [1231402] .leaf) .leaf) .leaf))))))) .leaf))) (.seq (.seq .leaf (.skip (.seq .leaf (.cond (.seq .leaf (.seq (.join ⟨[(3, (.pt 3 0)), (5, (.pt 5 0)), (6, (.pt 6 0)), (8, (.pt 8 0)), (10, (.pt 10 0)), (15, (.pt 15 0)), (16, (.pt 16 0)), (147, zo)], [(2000, z0), (3, .var 68 [(.pt 2000 0)]), (5, z15), (6, z20), (8, z21), (10, .var 24 [(.ow 1231402)]), (15, .var 73 [(.fn 35 [(.pt 3 0), (.pt 5 0)])]), (16, .var 80 [(.fn 38 [(.pt 8 0)])]), (1231400, .arr 79), (1231401, .arr 79), (1231402, .arr 58)]⟩ .leaf) .leaf)) (.seq .leaf (.cond .leaf (.seq .leaf (.cond .leaf (.seq .leaf (.cond (.seq .leaf (.seq .leaf (.skip (.seq .leaf (.cond .leaf (.seq .leaf (.cond .leaf (.seq .leaf (.cond .leaf (.seq (.join ⟨[(5, (.pt 5 0)), (6, (.pt 6 0)), (8, (.pt 8 0)), (19, (.fn 42 [(.pt 8 0)])), (21, zi), (265, zo)], [(2000, z0), (5, z15), (6, z20), (8, z21), (1231400, .arr 79), (1231401, .arr 79)]⟩ .leaf) .leaf)))))))))) .leaf)))))))))) .leaf)))))))))))))) [(31, some 33, i_StewBook_count_fs), (32, some 63, i_one_fs), (33, some 62, i_StewBook_drained_fs), (34, some 195, i_StewBook_ask_1_fs), (34, some 203, i_StewBook_ask_1_v1_fs), (34, some 360, i_StewBook_ask_1_v2_fs), (35, some 154, i_StewBook_ask_2_fs), (38, some 94, i_StewBook_ask_3_fs), (38, some 158, i_StewBook_ask_3_v1_fs), (38, some 204, i_StewBook_ask_3_fs), (39, some 115, i_StewBook_ask_4_fs), (39, some 189, i_StewBook_ask_4_fs), (39, some 354, i_StewBook_ask_4_fs), (40, some 196, i_StewBook_ask_5_fs), (40, some 361, i_StewBook_ask_5_fs), (41, some 151, i_StewBook_first_fs), (42, some 232, i_StewBook_ask_6_fs), (42, some 250, i_StewBook_ask_6_fs), (42, some 262, i_StewBook_ask_6_fs), (42, some 285, i_StewBook_ask_6_fs), (42, some 305, i_StewBook_ask_6_fs), (42, some 319, i_StewBook_ask_6_fs), (45, some 216, i_demand_fs)] (.cons i_StewBook_count_ok (.cons i_one_ok (.cons i_StewBook_drained_ok (.cons i_StewBook_ask_1_ok (.cons i_StewBook_ask_1_v1_ok (.cons i_StewBook_ask_1_v2_ok (.cons i_StewBook_ask_2_ok (.cons i_StewBook_ask_3_ok (.cons i_StewBook_ask_3_v1_ok (.cons i_StewBook_ask_3_ok (.cons i_StewBook_ask_4_ok (.cons i_StewBook_ask_4_ok (.cons i_StewBook_ask_4_ok (.cons i_StewBook_ask_5_ok (.cons i_StewBook_ask_5_ok (.cons i_StewBook_first_ok (.cons i_StewBook_ask_6_ok (.cons i_StewBook_ask_6_ok (.cons i_StewBook_ask_6_ok (.cons i_StewBook_ask_6_ok (.cons i_StewBook_ask_6_ok (.cons i_StewBook_ask_6_ok (.cons i_demand_ok .nil))))))))))))))))))))))) (by kernel_rfl) (by kernel_rfl) (by kernel_rfl) (fun xs => by kernel_rfl)
def i_StewAsk.d1 (t0 t22 t23 b3_0 b3_1 b3_2 b3_3 a1205200 : C) : R := (bif (decide (t23.I < t22.I)) then (bif (decide (0 ≤ t23.I)) then (bif (decide (t23.I < (b3_1.L.length : Int))) then (call13 (i_StewBook_ask [t0, .p (b3_1.L.getD t23.I.toNat []), b3_0, b3_1, b3_2, b3_3]) fun y2_t0_0_0 y2_t0_0_1 y2_t0_0_2 y2_t0_0_3 y2_t0_0_4 y2_t0_0_5 y2_t0_0_7 y2_t0_1 y2_b2000_0 y2_b2000_1 y2_b2000_2 y2_b2000_3 y2_a3001 => (bif y2_t0_1.B then (bif (decide (a1205200.L.length + (rows [[y2_t0_0_0, y2_t0_0_1, y2_t0_0_2, y2_t0_0_3, y2_t0_0_4, y2_t0_0_5, .l y2_a3001.L, y2_t0_0_7]]).length ≤ 4294967296)) then (some (.again [t0, t22, .i (w64 (t23.I + 1)), y2_b2000_0, y2_b2000_1, y2_b2000_2, y2_b2000_3, .l (a1205200.L ++ (rows [[y2_t0_0_0, y2_t0_0_1, y2_t0_0_2, y2_t0_0_3, y2_t0_0_4, y2_t0_0_5, .l y2_a3001.L, y2_t0_0_7]]))])) else none) else (some (.again [t0, t22, .i (w64 (t23.I + 1)), y2_b2000_0, y2_b2000_1, y2_b2000_2, y2_b2000_3, .l a1205200.L])))) else none) else none) else (some (.brk 0 [.l a1205200.L])))
def i_StewAsk.d2 (a1205200 : C) : R := (some (.ret [.l a1205200.L]))
def i_StewAsk.d3 (t0 t1_0 t1_1 t1_2 t1_3 : C) : R := (call1 (i_StewValid [t1_0, t1_1, t1_2, t1_3]) fun y1_t0 => (bif (!(!y1_t0.B)) then (bif (!(decide (t0.I < 1))) then (bif (decide (t0.I > 6)) then (some (.ret [.l nils])) else (bindBlk 0 (lim (ap8 i_StewAsk.d1) [t0, .i (t1_1.L.length : Int), .i 0, t1_0, t1_1, t1_2, t1_3, .l nils]) (ap1 i_StewAsk.d2))) else (some (.ret [.l nils]))) else (some (.ret [.l nils]))))
def i_StewAsk : List C → Option (List C) := fun xs => finR (ap5 i_StewAsk.d3 xs)
def i_StewAsk_fs : FS := ⟨2, ⟨[(0, zi), (1, z2)], []⟩, ⟨[(0, (.ow 3000))], [(3000, .arr 38)]⟩, [], i_StewAsk⟩
theorem i_StewAsk_ok : FSOk Try.checked.prog T0 5 i_StewAsk_fs := okOf base0 (fn := Try.f5) (c := Try.f5.body.getD .skip) i_StewAsk_fs (.seq .leaf (.seq .leaf (.seq .leaf (.seq (.seq .leaf (.block ⟨[(5, (.ow 1205200))], [(1205200, .arr 38)]⟩ (.loop ⟨[(0, zi), (3, (.pt 3 0)), (5, (.ow 1205200)), (22, zi), (23, zi)], [(3, z0), (1205200, .arr 38)]⟩ (.seq .leaf (.seq .leaf (.seq (.skip (.seq .leaf (.seq .leaf (.seq .leaf (.cond (.frz [138169] .leaf) .leaf))))) .leaf)))))) .leaf)))) [(13, some 10, i_StewValid_fs), (14, some 32, i_StewBook_ask_fs)] (.cons i_StewValid_ok (.cons i_StewBook_ask_ok .nil)) (by kernel_rfl) (by kernel_rfl) (by kernel_rfl) (fun xs => by kernel_rfl)
def w_wsAct.d1 (t5 b2_0 b2_1 b2_2 b2_3 b2_4 b2_5 b2_6 b2_7 b3_0 b3_1 b3_2 b3_3 b3_4 b3_5 b3_6 b3_7 : C) : R := (bif (decide (t5.I < (b2_6.L.length : Int))) then (bif (decide (0 ≤ t5.I)) then (bif (decide (t5.I < (b2_6.L.length : Int))) then (bif (decide (0 ≤ t5.I)) then (bif (decide (t5.I < (b3_6.L.length : Int))) then (bif (!((((b2_6.L.getD t5.I.toNat []).getD 0 .nil).I == ((b3_6.L.getD t5.I.toNat []).getD 0 .nil).I) && ((((b2_6.L.getD t5.I.toNat []).getD 1 .nil).I == ((b3_6.L.getD t5.I.toNat []).getD 1 .nil).I) && true))) then (some (.ret [.b false])) else (some (.again [.i (w64 (t5.I + 1)), b2_0, b2_1, b2_2, b2_3, b2_4, b2_5, b2_6, b2_7, b3_0, b3_1, b3_2, b3_3, b3_4, b3_5, b3_6, b3_7]))) else none) else none) else none) else none) else (some (.brk 0 [])))
def w_wsAct.d2 : R := (some (.ret [.b true]))
def w_wsAct.d3 (t0_0 t0_1 t0_2 t0_3 t0_4 t0_5 t0_6 t0_7 t1_0 t1_1 t1_2 t1_3 t1_4 t1_5 t1_6 t1_7 : C) : R := (bif (!(!(t0_0.S.toList == t1_0.S.toList))) then (bif (!(t0_1.I != t1_1.I)) then (bif (!(t0_2.I != t1_2.I)) then (bif (!(t0_3.I != t1_3.I)) then (bif (!(t0_4.I != t1_4.I)) then (bif (!(!(t0_5.B == t1_5.B))) then (bif (!(!(t0_7.B == t1_7.B))) then (bif ((t0_6.L.length : Int) != (t1_6.L.length : Int)) then (some (.ret [.b false])) else (bindBlk 0 (lim (ap17 w_wsAct.d1) [.i 0, t0_0, t0_1, t0_2, t0_3, t0_4, t0_5, t0_6, t0_7, t1_0, t1_1, t1_2, t1_3, t1_4, t1_5, t1_6, t1_7]) (fun xs => w_wsAct.d2))) else (some (.ret [.b false]))) else (some (.ret [.b false]))) else (some (.ret [.b false]))) else (some (.ret [.b false]))) else (some (.ret [.b false]))) else (some (.ret [.b false]))) else (some (.ret [.b false])))
def w_wsAct : List C → Option (List C) := fun xs => finR (ap16 w_wsAct.d3 xs)
def w_wsAct_fs : FS := ⟨2, ⟨[(0, z9), (1, z9)], []⟩, ⟨[(0, zo)], []⟩, [], w_wsAct⟩
theorem w_wsAct_ok : FSOk Try.checked.prog T0 15 w_wsAct_fs := okOf base0 (fn := Try.f15) (c := Try.f15.body.getD .skip) w_wsAct_fs (.seq .leaf (.seq .leaf (.seq (.seq .leaf (.block ⟨[], []⟩ (.loop ⟨[(2, (.pt 2 0)), (3, (.pt 3 0)), (5, zi)], [(2, z1), (3, z1)]⟩ .leaf))) .leaf))) [] .nil (by kernel_rfl) (by kernel_rfl) (by kernel_rfl) (fun xs => by kernel_rfl)
def w_wsActs.d1 (t0 t1 t5 : C) : R := (bif (decide (t5.I < (t0.L.length : Int))) then (bif (decide (0 ≤ t5.I)) then (bif (decide (t5.I < (t0.L.length : Int))) then (bif (decide (0 ≤ t5.I)) then (bif (decide (t5.I < (t1.L.length : Int))) then (call1 (w_wsAct [((t0.L.getD t5.I.toNat []).getD 0 .nil), ((t0.L.getD t5.I.toNat []).getD 1 .nil), ((t0.L.getD t5.I.toNat []).getD 2 .nil), ((t0.L.getD t5.I.toNat []).getD 3 .nil), ((t0.L.getD t5.I.toNat []).getD 4 .nil), ((t0.L.getD t5.I.toNat []).getD 5 .nil), ((t0.L.getD t5.I.toNat []).getD 6 .nil), ((t0.L.getD t5.I.toNat []).getD 7 .nil), ((t1.L.getD t5.I.toNat []).getD 0 .nil), ((t1.L.getD t5.I.toNat []).getD 1 .nil), ((t1.L.getD t5.I.toNat []).getD 2 .nil), ((t1.L.getD t5.I.toNat []).getD 3 .nil), ((t1.L.getD t5.I.toNat []).getD 4 .nil), ((t1.L.getD t5.I.toNat []).getD 5 .nil), ((t1.L.getD t5.I.toNat []).getD 6 .nil), ((t1.L.getD t5.I.toNat []).getD 7 .nil)]) fun y1_t0 => (bif (!y1_t0.B) then (some (.ret [.b false])) else (some (.again [t0, t1, .i (w64 (t5.I + 1))])))) else none) else none) else none) else none) else (some (.brk 0 [])))
def w_wsActs.d2 : R := (some (.ret [.b true]))
def w_wsActs.d3 (t0 t1 : C) : R := (bif ((t0.L.length : Int) != (t1.L.length : Int)) then (some (.ret [.b false])) else (bindBlk 0 (lim (ap3 w_wsActs.d1) [t0, t1, .i 0]) (fun xs => w_wsActs.d2)))
def w_wsActs : List C → Option (List C) := fun xs => finR (ap2 w_wsActs.d3 xs)
def w_wsActs_fs : FS := ⟨2, ⟨[(0, (zl 38)), (1, (zl 38))], []⟩, ⟨[(0, zo)], []⟩, [], w_wsActs⟩
theorem w_wsActs_ok : FSOk Try.checked.prog T0 6 w_wsActs_fs := okOf base0 (fn := Try.f6) (c := Try.f6.body.getD .skip) w_wsActs_fs (.seq .leaf (.seq .leaf (.seq (.seq .leaf (.block ⟨[], []⟩ (.loop ⟨[(0, (zl 38)), (1, (zl 38)), (5, zi)], []⟩ .leaf))) .leaf))) [(15, some 25, w_wsAct_fs)] (.cons w_wsAct_ok .nil) (by kernel_rfl) (by kernel_rfl) (by kernel_rfl) (fun xs => by kernel_rfl)
def i_clone.d1 (t0_0 t0_1 t0_2 t0_3 : C) : R := (bif (decide (t0_1.L.length ≤ 4294967296)) then (bif (decide (t0_2.L.length ≤ 4294967296)) then (bif (decide (t0_3.L.length ≤ 4294967296)) then (some (.ret [t0_0, .l t0_1.L, .l t0_2.L, .l t0_3.L])) else none) else none) else none)
def i_clone : List C → Option (List C) := fun xs => finR (ap4 i_clone.d1 xs)
def i_clone_fs : FS := ⟨1, ⟨[(0, z2)], []⟩, ⟨[(0, z23)], [(3000, .arr 48), (3001, .arr 58), (3002, .arr 55)]⟩, [], i_clone⟩
theorem i_clone_ok : FSOk Try.checked.prog T0 22 i_clone_fs := okOf base0 (fn := Try.f22) (c := Try.f22.body.getD .skip) i_clone_fs .leaf [] .nil (by kernel_rfl) (by kernel_rfl) (by kernel_rfl) (fun xs => by kernel_rfl)
end
end Go.Ev
namespace Go.Ev
open Go.Proofs
noncomputable section
def i_formed.d1 (t3 b1_0 b1_1 b1_2 b1_3 b1_4 b1_5 b1_6 b1_7 : C) : R := (bif (decide (t3.I < (b1_6.L.length : Int))) then (bif (decide (0 ≤ t3.I)) then (bif (decide (t3.I < (b1_6.L.length : Int))) then (bif (decide (0 ≤ (w64 (t3.I - 1)))) then (bif (decide ((w64 (t3.I - 1)) < (b1_6.L.length : Int))) then (bif (decide (((b1_6.L.getD t3.I.toNat []).getD 0 .nil).I ≤ ((b1_6.L.getD (w64 (t3.I - 1)).toNat []).getD 0 .nil).I)) then (some (.ret [.b false])) else (some (.again [.i (w64 (t3.I + 1)), b1_0, b1_1, b1_2, b1_3, b1_4, b1_5, b1_6, b1_7]))) else none) else none) else none) else none) else (some (.brk 0 [b1_0, b1_1, b1_2, b1_3, b1_4, b1_5, b1_6, b1_7])))
def i_formed.d2 (t63 b1_0 b1_1 b1_2 b1_3 b1_4 b1_5 b1_6 b1_7 : C) : R := (bif t63.B then (some (.ret [.b false])) else (bif (!(!b1_7.B)) then (bif (b1_2.I == 0) then (bif (!b1_5.B) then (some (.ret [.b ((b1_6.L.length : Int) == 0)])) else (some (.ret [.b false]))) else (some (.ret [.b false]))) else (some (.ret [.b true]))))
def i_formed.d3 (b1_0 b1_1 b1_2 b1_3 b1_4 b1_5 b1_6 b1_7 : C) : R := (bindNrm (bif b1_5.B then (call1 (i_within [b1_3, .i 0, .i 10]) fun y2_t0 => (bif (!(!y2_t0.B)) then (call1 (i_within [b1_4, .i 0, .i 3]) fun y3_t0 => (bif (!(!y3_t0.B)) then (bif (!b1_5.B) then (bif (!(b1_3.I != 0)) then (some (.nrm [.b (b1_4.I != 0), b1_0, b1_1, b1_2, b1_3, b1_4, b1_5, b1_6, b1_7])) else (some (.nrm [.b true, b1_0, b1_1, b1_2, b1_3, b1_4, b1_5, b1_6, b1_7]))) else (some (.nrm [.b false, b1_0, b1_1, b1_2, b1_3, b1_4, b1_5, b1_6, b1_7]))) else (some (.nrm [.b true, b1_0, b1_1, b1_2, b1_3, b1_4, b1_5, b1_6, b1_7])))) else (some (.nrm [.b true, b1_0, b1_1, b1_2, b1_3, b1_4, b1_5, b1_6, b1_7])))) else (bif (!b1_5.B) then (bif (!(b1_3.I != 0)) then (some (.nrm [.b (b1_4.I != 0), b1_0, b1_1, b1_2, b1_3, b1_4, b1_5, b1_6, b1_7])) else (some (.nrm [.b true, b1_0, b1_1, b1_2, b1_3, b1_4, b1_5, b1_6, b1_7]))) else (some (.nrm [.b false, b1_0, b1_1, b1_2, b1_3, b1_4, b1_5, b1_6, b1_7])))) (ap9 i_formed.d2))
def i_formed.d4 (t0_0 t0_1 t0_2 t0_3 t0_4 t0_5 t0_6 t0_7 : C) : R := (call1 (i_within [t0_2, .i 0, .i 20]) fun y1_t0 => (bif (!(!y1_t0.B)) then (bif (decide ((t0_6.L.length : Int) > 200)) then (some (.ret [.b false])) else (bindBlk 0 (lim (ap9 i_formed.d1) [.i 1, t0_0, t0_1, t0_2, t0_3, t0_4, t0_5, t0_6, t0_7]) (ap8 i_formed.d3))) else (some (.ret [.b false]))))
def i_formed : List C → Option (List C) := fun xs => finR (ap8 i_formed.d4 xs)
def i_formed_fs : FS := ⟨1, ⟨[(0, z9)], []⟩, ⟨[(0, zo)], []⟩, [], i_formed⟩
theorem i_formed_ok : FSOk Try.checked.prog T0 56 i_formed_fs := okOf base0 (fn := Try.f56) (c := Try.f56.body.getD .skip) i_formed_fs (.seq .leaf (.seq .leaf (.seq (.seq .leaf (.block ⟨[(1, (.pt 1 0))], [(1, z1)]⟩ (.loop ⟨[(1, (.pt 1 0)), (3, zi)], [(1, z1)]⟩ .leaf))) (.seq (.seq (.join ⟨[(1, (.pt 1 0)), (63, zo)], [(1, z1)]⟩ .leaf) .leaf) .leaf)))) [(26, some 6, i_within_fs), (26, some 40, i_within_fs), (26, some 45, i_within_fs)] (.cons i_within_ok (.cons i_within_ok (.cons i_within_ok .nil))) (by kernel_rfl) (by kernel_rfl) (by kernel_rfl) (fun xs => by kernel_rfl)
def i_StewBook_service_v1.d1 (t1 t10 t11 b2000_0 a2001 a2002 a2003 : C) : R := (bif (decide (t11.I < t10.I)) then (bif (decide (0 ≤ t11.I)) then (bif (decide (t11.I < (a2001.L.length : Int))) then (bif ((((a2001.L.getD t11.I.toNat []).getD 0 .nil).S).toList == t1.S.toList) then (bif (decide (0 ≤ t11.I)) then (bif (decide (t11.I < (a2001.L.length : Int))) then (some (.ret [.i t11.I, b2000_0, .l a2001.L, .l a2002.L, .l a2003.L])) else none) else none) else (some (.again [t1, t10, .i (w64 (t11.I + 1)), b2000_0, .l a2001.L, .l a2002.L, .l a2003.L]))) else none) else none) else (some (.brk 0 [b2000_0, .l a2001.L, .l a2002.L, .l a2003.L])))
def i_StewBook_service_v1.d2 (b2000_0 a2001 a2002 a2003 : C) : R := (some (.ret [.i (-1), b2000_0, .l a2001.L, .l a2002.L, .l a2003.L]))
def i_StewBook_service_v1.d3 (t1 b2000_0 a2001 a2002 a2003 : C) : R := (bindBlk 0 (lim (ap7 i_StewBook_service_v1.d1) [t1, .i (a2001.L.length : Int), .i 0, b2000_0, .l a2001.L, .l a2002.L, .l a2003.L]) (ap4 i_StewBook_service_v1.d2))
def i_StewBook_service_v1 : List C → Option (List C) := fun xs => finR (ap5 i_StewBook_service_v1.d3 xs)
def i_StewBook_service_v1_fs : FS := ⟨2, ⟨[(0, (.pt 2000 0)), (1, zt)], [(2000, z4), (2001, .arr 48), (2002, .arr 58), (2003, .arr 55)]⟩, ⟨[(0, (.pe 2001 0))], [(2000, z4), (2001, .arr 48), (2002, .arr 58), (2003, .arr 55)]⟩, [2000, 2001, 2002, 2003], i_StewBook_service_v1⟩
theorem i_StewBook_service_v1_ok : FSOk Try.checked.prog T0 29 i_StewBook_service_v1_fs := okOf base0 (fn := Try.f29) (c := Try.f29.body.getD .skip) i_StewBook_service_v1_fs (.seq .leaf (.seq (.seq .leaf (.block ⟨[], [(2000, z4), (2001, .arr 48), (2002, .arr 58), (2003, .arr 55)]⟩ (.loop ⟨[(0, (.pt 2000 0)), (1, zt), (10, zi), (11, zi)], [(2000, z4), (2001, .arr 48), (2002, .arr 58), (2003, .arr 55)]⟩ .leaf))) .leaf)) [] .nil (by kernel_rfl) (by kernel_rfl) (by kernel_rfl) (fun xs => by kernel_rfl)
def i_StewBook_copy_v1.d1 (t1 t2 t12 t13 b2000_0 a2001 a2002 a2003 : C) : R := (bif (decide (t13.I < t12.I)) then (bif (decide (0 ≤ t13.I)) then (bif (decide (t13.I < (a2002.L.length : Int))) then (bif ((((a2002.L.getD t13.I.toNat []).getD 0 .nil).S).toList == t1.S.toList) then (bif (decide (0 ≤ t13.I)) then (bif (decide (t13.I < (a2002.L.length : Int))) then (bif (((a2002.L.getD t13.I.toNat []).getD 1 .nil).I == t2.I) then (bif (decide (0 ≤ t13.I)) then (bif (decide (t13.I < (a2002.L.length : Int))) then (some (.ret [.i t13.I, b2000_0, .l a2001.L, .l a2002.L, .l a2003.L])) else none) else none) else (some (.again [t1, t2, t12, .i (w64 (t13.I + 1)), b2000_0, .l a2001.L, .l a2002.L, .l a2003.L]))) else none) else none) else (some (.again [t1, t2, t12, .i (w64 (t13.I + 1)), b2000_0, .l a2001.L, .l a2002.L, .l a2003.L]))) else none) else none) else (some (.brk 0 [b2000_0, .l a2001.L, .l a2002.L, .l a2003.L])))
def i_StewBook_copy_v1.d2 (b2000_0 a2001 a2002 a2003 : C) : R := (some (.ret [.i (-1), b2000_0, .l a2001.L, .l a2002.L, .l a2003.L]))
def i_StewBook_copy_v1.d3 (t1 t2 b2000_0 a2001 a2002 a2003 : C) : R := (bindBlk 0 (lim (ap8 i_StewBook_copy_v1.d1) [t1, t2, .i (a2002.L.length : Int), .i 0, b2000_0, .l a2001.L, .l a2002.L, .l a2003.L]) (ap4 i_StewBook_copy_v1.d2))
def i_StewBook_copy_v1 : List C → Option (List C) := fun xs => finR (ap6 i_StewBook_copy_v1.d3 xs)
def i_StewBook_copy_v1_fs : FS := ⟨3, ⟨[(0, (.pt 2000 0)), (1, zt), (2, zi)], [(2000, z4), (2001, .arr 48), (2002, .arr 58), (2003, .arr 55)]⟩, ⟨[(0, (.pe 2002 0))], [(2000, z4), (2001, .arr 48), (2002, .arr 58), (2003, .arr 55)]⟩, [2000, 2001, 2002, 2003], i_StewBook_copy_v1⟩
theorem i_StewBook_copy_v1_ok : FSOk Try.checked.prog T0 37 i_StewBook_copy_v1_fs := okOf base0 (fn := Try.f37) (c := Try.f37.body.getD .skip) i_StewBook_copy_v1_fs (.seq .leaf (.seq (.seq .leaf (.block ⟨[], [(2000, z4), (2001, .arr 48), (2002, .arr 58), (2003, .arr 55)]⟩ (.loop ⟨[(0, (.pt 2000 0)), (1, zt), (2, zi), (12, zi), (13, zi)], [(2000, z4), (2001, .arr 48), (2002, .arr 58), (2003, .arr 55)]⟩ .leaf))) .leaf)) [] .nil (by kernel_rfl) (by kernel_rfl) (by kernel_rfl) (fun xs => by kernel_rfl)
def slices_Insert : List C → Option (List C) := insF
def slices_Insert_fs : FS := ⟨3, insT, insO, [2001], slices_Insert⟩
theorem slices_Insert_ok : FSOk Try.checked.prog T0 57 slices_Insert_fs := insert_ok
def i_StewBook_act_1.d1 (t0_0 t0_1 t0_2 t0_3 t0_4 t0_5 t0_6 t0_7 t0_8 t0_9 t0_10 t0_11 t0_12 t1 : C) : R := (bif t1.isP then (some (.ret [.b (t0_0.S.toList == ((t1.P.getD 0 .nil).S).toList)])) else none)
def i_StewBook_act_1 : List C → Option (List C) := fun xs => finR (ap14 i_StewBook_act_1.d1 xs)
def i_StewBook_act_1_fs : FS := ⟨2, ⟨[(0, z6), (1, (.d (.pt 38)))], []⟩, ⟨[(0, zo)], []⟩, [], i_StewBook_act_1⟩
theorem i_StewBook_act_1_ok : FSOk Try.checked.prog T0 59 i_StewBook_act_1_fs := okOf base0 (fn := Try.f59) (c := Try.f59.body.getD .skip) i_StewBook_act_1_fs .leaf [] .nil (by kernel_rfl) (by kernel_rfl) (by kernel_rfl) (fun xs => by kernel_rfl)
def slices_IndexFunc.d1 (t0 t1f0 t7 t8 : C) : R := (bif (decide (t8.I < t7.I)) then (bif (decide (0 ≤ t8.I)) then (bif (decide (t8.I < (t0.L.length : Int))) then (call1 (i_StewBook_act_1 [((t0.L.getD t8.I.toNat []).getD 0 .nil), ((t0.L.getD t8.I.toNat []).getD 1 .nil), ((t0.L.getD t8.I.toNat []).getD 2 .nil), ((t0.L.getD t8.I.toNat []).getD 3 .nil), ((t0.L.getD t8.I.toNat []).getD 4 .nil), ((t0.L.getD t8.I.toNat []).getD 5 .nil), ((t0.L.getD t8.I.toNat []).getD 6 .nil), ((t0.L.getD t8.I.toNat []).getD 7 .nil), ((t0.L.getD t8.I.toNat []).getD 8 .nil), ((t0.L.getD t8.I.toNat []).getD 9 .nil), ((t0.L.getD t8.I.toNat []).getD 10 .nil), ((t0.L.getD t8.I.toNat []).getD 11 .nil), ((t0.L.getD t8.I.toNat []).getD 12 .nil), t1f0]) fun y1_t0 => (bif y1_t0.B then (some (.ret [t8])) else (some (.again [t0, t1f0, t7, .i (w64 (t8.I + 1))])))) else none) else none) else (some (.brk 0 [])))
def slices_IndexFunc.d2 : R := (some (.ret [.i (-1)]))
def slices_IndexFunc.d3 (t0 t1f0 : C) : R := (bindBlk 0 (lim (ap4 slices_IndexFunc.d1) [t0, t1f0, .i (t0.L.length : Int), .i 0]) (fun xs => slices_IndexFunc.d2))
def slices_IndexFunc : List C → Option (List C) := fun xs => finR (ap2 slices_IndexFunc.d3 xs)
def slices_IndexFunc_fs : FS := ⟨2, ⟨[(0, (zl 48)), (1, (.fn 59 [(.d (.pt 38))]))], []⟩, ⟨[(0, zi)], []⟩, [], slices_IndexFunc⟩
theorem slices_IndexFunc_ok : FSOk Try.checked.prog T0 71 slices_IndexFunc_fs := okOf base0 (fn := Try.f71) (c := Try.f71.body.getD .skip) slices_IndexFunc_fs (.seq .leaf (.seq (.seq .leaf (.block ⟨[], []⟩ (.loop ⟨[(0, (zl 48)), (1, (.fn 59 [(.d (.pt 38))])), (7, zi), (8, zi)], []⟩ .leaf))) .leaf)) [(59, some 16, i_StewBook_act_1_fs)] (.cons i_StewBook_act_1_ok .nil) (by kernel_rfl) (by kernel_rfl) (by kernel_rfl) (fun xs => by kernel_rfl)
def slices_DeleteFunc.d1 (t5 t6 b2001_0 b2001_1 b2001_2 b2001_3 b2001_4 b2001_5 b2001_6 b2001_7 a2000 : C) : R := (bif (decide (t6.I < (a2000.L.length : Int))) then (bif (decide (0 ≤ t6.I)) then (bif (decide (t6.I < (a2000.L.length : Int))) then (call1 (i_StewBook_act_1 [((a2000.L.getD t6.I.toNat []).getD 0 .nil), ((a2000.L.getD t6.I.toNat []).getD 1 .nil), ((a2000.L.getD t6.I.toNat []).getD 2 .nil), ((a2000.L.getD t6.I.toNat []).getD 3 .nil), ((a2000.L.getD t6.I.toNat []).getD 4 .nil), ((a2000.L.getD t6.I.toNat []).getD 5 .nil), ((a2000.L.getD t6.I.toNat []).getD 6 .nil), ((a2000.L.getD t6.I.toNat []).getD 7 .nil), ((a2000.L.getD t6.I.toNat []).getD 8 .nil), ((a2000.L.getD t6.I.toNat []).getD 9 .nil), ((a2000.L.getD t6.I.toNat []).getD 10 .nil), ((a2000.L.getD t6.I.toNat []).getD 11 .nil), ((a2000.L.getD t6.I.toNat []).getD 12 .nil), .p [b2001_0, b2001_1, b2001_2, b2001_3, b2001_4, b2001_5, b2001_6, b2001_7]]) fun y2_t0 => (bif (!y2_t0.B) then (bif (decide (0 ≤ t5.I)) then (bif (decide (t5.I < (a2000.L.length : Int))) then (some (.again [.i (w64 (t5.I + 1)), .i (w64 (t6.I + 1)), b2001_0, b2001_1, b2001_2, b2001_3, b2001_4, b2001_5, b2001_6, b2001_7, .l (a2000.L.set t5.I.toNat (setCs (a2000.L.getD t5.I.toNat []) 0 [((a2000.L.getD t6.I.toNat []).getD 0 .nil), ((a2000.L.getD t6.I.toNat []).getD 1 .nil), ((a2000.L.getD t6.I.toNat []).getD 2 .nil), ((a2000.L.getD t6.I.toNat []).getD 3 .nil), ((a2000.L.getD t6.I.toNat []).getD 4 .nil), ((a2000.L.getD t6.I.toNat []).getD 5 .nil), ((a2000.L.getD t6.I.toNat []).getD 6 .nil), ((a2000.L.getD t6.I.toNat []).getD 7 .nil), ((a2000.L.getD t6.I.toNat []).getD 8 .nil), ((a2000.L.getD t6.I.toNat []).getD 9 .nil), ((a2000.L.getD t6.I.toNat []).getD 10 .nil), ((a2000.L.getD t6.I.toNat []).getD 11 .nil), ((a2000.L.getD t6.I.toNat []).getD 12 .nil)]))])) else none) else none) else (some (.again [t5, .i (w64 (t6.I + 1)), b2001_0, b2001_1, b2001_2, b2001_3, b2001_4, b2001_5, b2001_6, b2001_7, .l a2000.L])))) else none) else none) else (some (.brk 0 [t5, b2001_0, b2001_1, b2001_2, b2001_3, b2001_4, b2001_5, b2001_6, b2001_7, .l a2000.L])))
def slices_DeleteFunc.d2 (t5 b2001_0 b2001_1 b2001_2 b2001_3 b2001_4 b2001_5 b2001_6 b2001_7 a2000 : C) : R := (bif (decide (0 ≤ t5.I)) then (bif (decide (t5.I ≤ (a2000.L.length : Int))) then (bif (decide ((a2000.L.length : Int) ≤ (a2000.L.length : Int))) then (bif (decide (0 ≤ t5.I)) then (bif (decide (t5.I ≤ ((a2000.L.take t5.I.toNat ++ rows (List.replicate ((a2000.L.length : Int) - t5.I).toNat [(.s (bs #[])), (.i 0), (.b false), (.i 0), (.i 0), (.i 0), (.i 0), (.i 0), (.i 0), (.i 0), (.i 0), (.i 0), (.i 0)]) ++ a2000.L.drop (t5.I.toNat + ((a2000.L.length : Int) - t5.I).toNat)).length : Int))) then (some (.ret [b2001_0, b2001_1, b2001_2, b2001_3, b2001_4, b2001_5, b2001_6, b2001_7, .l ((a2000.L.take t5.I.toNat ++ rows (List.replicate ((a2000.L.length : Int) - t5.I).toNat [(.s (bs #[])), (.i 0), (.b false), (.i 0), (.i 0), (.i 0), (.i 0), (.i 0), (.i 0), (.i 0), (.i 0), (.i 0), (.i 0)]) ++ a2000.L.drop (t5.I.toNat + ((a2000.L.length : Int) - t5.I).toNat)).take t5.I.toNat)])) else none) else none) else none) else none) else none)
def slices_DeleteFunc.d3 (a2000 b2001_0 b2001_1 b2001_2 b2001_3 b2001_4 b2001_5 b2001_6 b2001_7 : C) : R := (call1 (slices_IndexFunc [.l a2000.L, .p [b2001_0, b2001_1, b2001_2, b2001_3, b2001_4, b2001_5, b2001_6, b2001_7]]) fun y1_t0 => (bif (y1_t0.I == (-1)) then (some (.ret [b2001_0, b2001_1, b2001_2, b2001_3, b2001_4, b2001_5, b2001_6, b2001_7, .l a2000.L])) else (bindBlk 0 (lim (ap11 slices_DeleteFunc.d1) [y1_t0, .i (w64 (y1_t0.I + 1)), b2001_0, b2001_1, b2001_2, b2001_3, b2001_4, b2001_5, b2001_6, b2001_7, .l a2000.L]) (ap10 slices_DeleteFunc.d2))))
def slices_DeleteFunc : List C → Option (List C) := fun xs => finR (ap9 slices_DeleteFunc.d3 xs)
def slices_DeleteFunc_fs : FS := ⟨2, ⟨[(0, (.ow 2000)), (1, (.fn 59 [(.pt 2001 0)]))], [(2000, .arr 48), (2001, z1)]⟩, ⟨[(0, (.ow 2000))], [(2001, z1), (2000, .arr 48)]⟩, [2001], slices_DeleteFunc⟩
theorem slices_DeleteFunc_ok : FSOk Try.checked.prog T0 58 slices_DeleteFunc_fs := okOf base0 (fn := Try.f58) (c := Try.f58.body.getD .skip) slices_DeleteFunc_fs (.seq .leaf (.seq .leaf (.seq .leaf (.seq (.seq .leaf (.block ⟨[(0, (.ow 2000)), (5, zi)], [(2001, z1), (2000, .arr 48)]⟩ (.loop ⟨[(0, (.ow 2000)), (1, (.fn 59 [(.pt 2001 0)])), (5, zi), (6, zi)], [(2001, z1), (2000, .arr 48)]⟩ .leaf))) (.seq .leaf (.seq .leaf (.cut 4 .leaf))))))) [(59, some 28, i_StewBook_act_1_fs), (71, some 10, slices_IndexFunc_fs)] (.cons i_StewBook_act_1_ok (.cons slices_IndexFunc_ok .nil)) (by kernel_rfl) (by kernel_rfl) (by kernel_rfl) (fun xs => by kernel_rfl)
def i_StewBook_act.d1 (t5ix t25 t26 t27 b2000_0 a2003 b3_0 b3_1 b3_2 b3_3 b3_4 b3_5 b3_6 b3_7 a2001 a2002 : C) : R := (bif (decide (t27.I < t26.I)) then (bif (decide (0 ≤ t27.I)) then (bif (decide (t27.I < (t25.L.length : Int))) then (call5 (i_StewBook_copy_v1 [b3_0, ((t25.L.getD t27.I.toNat []).getD 0 .nil), b2000_0, .l a2001.L, .l a2002.L, .l a2003.L]) fun y3_t0ix y3_b2000_0 y3_a2001 y3_a2002 y3_a2003 => (bif (decide (y3_t0ix.I < 0)) then (some (.ret [.i 3, y3_b2000_0, .l y3_a2003.L, .l y3_a2001.L, .l y3_a2002.L])) else (some (.again [.i t5ix.I, t25, t26, .i (w64 (t27.I + 1)), y3_b2000_0, .l y3_a2003.L, b3_0, b3_1, b3_2, b3_3, b3_4, b3_5, b3_6, b3_7, .l y3_a2001.L, .l y3_a2002.L])))) else none) else none) else (some (.brk 0 [.i t5ix.I, b2000_0, .l a2003.L, b3_0, b3_1, b3_2, b3_3, b3_4, b3_5, b3_6, b3_7, .l a2001.L, .l a2002.L])))
def i_StewBook_act.d2 (t5ix t47 t48 t49 b2000_0 a2003 b3_0 b3_1 b3_2 b3_3 b3_4 b3_5 b3_6 b3_7 a2001 a2002 : C) : R := (bif (decide (t49.I < t48.I)) then (bif (decide (0 ≤ t49.I)) then (bif (decide (t49.I < (t47.L.length : Int))) then (call5 (i_StewBook_copy_v1 [b3_0, ((t47.L.getD t49.I.toNat []).getD 0 .nil), b2000_0, .l a2001.L, .l a2002.L, .l a2003.L]) fun y4_t0ix y4_b2000_0 y4_a2001 y4_a2002 y4_a2003 => (bif (decide (0 ≤ y4_t0ix.I)) then (bif (((y4_a2002.L.getD y4_t0ix.I.toNat []).getD 2 .nil).I != ((t47.L.getD t49.I.toNat []).getD 1 .nil).I) then (some (.ret [.i 4, y4_b2000_0, .l y4_a2003.L, .l y4_a2001.L, .l y4_a2002.L])) else (some (.again [.i t5ix.I, t47, t48, .i (w64 (t49.I + 1)), y4_b2000_0, .l y4_a2003.L, b3_0, b3_1, b3_2, b3_3, b3_4, b3_5, b3_6, b3_7, .l y4_a2001.L, .l y4_a2002.L]))) else none)) else none) else none) else (some (.brk 2 [.i t5ix.I, b2000_0, .l a2003.L, b3_0, b3_1, b3_2, b3_3, b3_4, b3_5, b3_6, b3_7, .l a2001.L, .l a2002.L])))
def i_StewBook_act.d3 (t5ix t67 t68 t69 b2000_0 a2003 b3_0 b3_1 b3_2 b3_3 b3_4 b3_5 b3_6 b3_7 a2001 a2002 : C) : R := (bif (decide (t69.I < t68.I)) then (bif (decide (0 ≤ t69.I)) then (bif (decide (t69.I < (t67.L.length : Int))) then (call5 (i_StewBook_copy_v1 [b3_0, ((t67.L.getD t69.I.toNat []).getD 0 .nil), b2000_0, .l a2001.L, .l a2002.L, .l a2003.L]) fun y5_t0ix y5_b2000_0 y5_a2001 y5_a2002 y5_a2003 => (call1 (i_StewBook_mayEnd [.p [y5_b2000_0, .l y5_a2001.L, .l y5_a2002.L, .l y5_a2003.L], (bif (decide (0 ≤ t5ix.I)) then (.p (y5_a2001.L.getD t5ix.I.toNat [])) else .nil), (bif (decide (0 ≤ y5_t0ix.I)) then (.p (y5_a2002.L.getD y5_t0ix.I.toNat [])) else .nil)]) fun y6_t0 => (bif (!y6_t0.B) then (some (.ret [.i 5, y5_b2000_0, .l y5_a2003.L, .l y5_a2001.L, .l y5_a2002.L])) else (bif (decide (0 ≤ y5_t0ix.I)) then (bif (decide (0 ≤ y5_t0ix.I)) then (some (.again [.i t5ix.I, t67, t68, .i (w64 (t69.I + 1)), y5_b2000_0, .l y5_a2003.L, b3_0, b3_1, b3_2, b3_3, b3_4, b3_5, b3_6, b3_7, .l y5_a2001.L, .l ((y5_a2002.L.set y5_t0ix.I.toNat (setCs (y5_a2002.L.getD y5_t0ix.I.toNat []) 5 [.b true])).set y5_t0ix.I.toNat (setCs ((y5_a2002.L.set y5_t0ix.I.toNat (setCs (y5_a2002.L.getD y5_t0ix.I.toNat []) 5 [.b true])).getD y5_t0ix.I.toNat []) 2 [.i (w64 (y5_b2000_0.I + 1))]))])) else none) else none)))) else none) else none) else (some (.brk 4 [.i t5ix.I, b2000_0, .l a2003.L, b3_0, b3_1, b3_2, b3_3, b3_4, b3_5, b3_6, b3_7, .l a2001.L, .l a2002.L])))
def i_StewBook_act.d4 (t5ix t14 b2000_0 a2003 b3_0 b3_1 b3_2 b3_3 b3_4 b3_5 b3_6 b3_7 a2001 a2002 : C) : R := (bif (decide (t14.I < (a2002.L.length : Int))) then (bif (decide (0 ≤ t14.I)) then (bif (decide (t14.I < (a2002.L.length : Int))) then (bif (decide (0 ≤ t5ix.I)) then (bif ((Op.bytesLess (((a2002.L.getD t14.I.toNat []).getD 0 .nil).S).toList (((a2001.L.getD t5ix.I.toNat []).getD 0 .nil).S).toList) || ((((a2002.L.getD t14.I.toNat []).getD 0 .nil).S).toList == (((a2001.L.getD t5ix.I.toNat []).getD 0 .nil).S).toList)) then (some (.again [.i t5ix.I, .i (w64 (t14.I + 1)), b2000_0, .l a2003.L, b3_0, b3_1, b3_2, b3_3, b3_4, b3_5, b3_6, b3_7, .l a2001.L, .l a2002.L])) else (some (.brk 6 [.i t5ix.I, t14, b2000_0, .l a2003.L, b3_0, b3_1, b3_2, b3_3, b3_4, b3_5, b3_6, b3_7, .l a2001.L, .l a2002.L]))) else none) else none) else none) else (some (.brk 6 [.i t5ix.I, t14, b2000_0, .l a2003.L, b3_0, b3_1, b3_2, b3_3, b3_4, b3_5, b3_6, b3_7, .l a2001.L, .l a2002.L])))
def i_StewBook_act.d5 (t5ix t14 t238 t239 b2000_0 a2003 b3_0 b3_1 b3_2 b3_3 b3_4 b3_5 b3_6 b3_7 a2001 a2002 : C) : R := (bif (decide (t239.I < t238.I)) then (bif (decide (0 ≤ t5ix.I)) then (bif (decide (0 ≤ t5ix.I)) then (bif (decide (0 ≤ t5ix.I)) then (call2 (slices_Insert [t14, .l a2002.L, .l (rows [[((a2001.L.getD t5ix.I.toNat []).getD 0 .nil), ((a2001.L.getD t5ix.I.toNat []).getD 7 .nil), b2000_0, ((a2001.L.getD t5ix.I.toNat []).getD 3 .nil), .i 1, .b false, .s (bs #[])]])]) fun y9_a2001 y9_a2000 => (bif (decide (0 ≤ t5ix.I)) then (bif (decide (0 ≤ t5ix.I)) then (some (.again [.i t5ix.I, .i (w64 (t14.I + 1)), t238, .i (w64 (t239.I + 1)), b2000_0, .l a2003.L, b3_0, b3_1, b3_2, b3_3, b3_4, b3_5, b3_6, b3_7, .l (a2001.L.set t5ix.I.toNat (setCs (a2001.L.getD t5ix.I.toNat []) 7 [.i (w64 (((a2001.L.getD t5ix.I.toNat []).getD 7 .nil).I + 1))])), .l y9_a2000.L])) else none) else none)) else none) else none) else none) else (some (.brk 8 [b2000_0, .l a2003.L, b3_0, b3_1, b3_2, b3_3, b3_4, b3_5, b3_6, b3_7, .l a2001.L, .l a2002.L])))
def i_StewBook_act.d6 (b2000_0 a2003 b3_0 b3_1 b3_2 b3_3 b3_4 b3_5 b3_6 b3_7 a2001 a2002 : C) : R := (bif b3_7.B then (call9 (slices_DeleteFunc [.l a2001.L, b3_0, b3_1, b3_2, b3_3, b3_4, b3_5, b3_6, b3_7]) fun y10_b2001_0 y10_b2001_1 y10_b2001_2 y10_b2001_3 y10_b2001_4 y10_b2001_5 y10_b2001_6 y10_b2001_7 y10_a2000 => (some (.ret [.i 0, b2000_0, .l a2003.L, .l y10_a2000.L, .l a2002.L]))) else (some (.ret [.i 0, b2000_0, .l a2003.L, .l a2001.L, .l a2002.L])))
def i_StewBook_act.d7 (t5ix t14 b2000_0 a2003 b3_0 b3_1 b3_2 b3_3 b3_4 b3_5 b3_6 b3_7 a2001 a2002 : C) : R := (bindBlk 8 (lim (ap16 i_StewBook_act.d5) [.i t5ix.I, t14, b3_2, .i 0, b2000_0, .l a2003.L, b3_0, b3_1, b3_2, b3_3, b3_4, b3_5, b3_6, b3_7, .l a2001.L, .l a2002.L]) (ap12 i_StewBook_act.d6))
def i_StewBook_act.d8 (t5ix b2000_0 a2003 b3_0 b3_1 b3_2 b3_3 b3_4 b3_5 b3_6 b3_7 a2001 a2002 : C) : R := (bif (!(decide ((w64 ((a2002.L.length : Int) + b3_2.I)) > 200))) then (bif (decide (0 ≤ t5ix.I)) then (bif (!(decide ((w64 (((a2001.L.getD t5ix.I.toNat []).getD 7 .nil).I + b3_2.I)) > 1000000))) then (bif (b2000_0.I == 1000000) then (some (.ret [.i 7, b2000_0, .l a2003.L, .l a2001.L, .l a2002.L])) else (bif (decide (0 ≤ t5ix.I)) then (bindBlk 6 (lim (ap14 i_StewBook_act.d4) [.i t5ix.I, .i 0, .i (w64 (b2000_0.I + 1)), .l a2003.L, b3_0, b3_1, b3_2, b3_3, b3_4, b3_5, b3_6, b3_7, .l (a2001.L.set t5ix.I.toNat (setCs (a2001.L.getD t5ix.I.toNat []) 1 [.i (w64 (b2000_0.I + 1))])), .l a2002.L]) (ap14 i_StewBook_act.d7)) else none)) else (some (.ret [.i 7, b2000_0, .l a2003.L, .l a2001.L, .l a2002.L]))) else none) else (some (.ret [.i 7, b2000_0, .l a2003.L, .l a2001.L, .l a2002.L])))
def i_StewBook_act.d9 (t5ix b2000_0 a2003 b3_0 b3_1 b3_2 b3_3 b3_4 b3_5 b3_6 b3_7 a2001 b13_0 b13_1 b13_2 b13_3 b13_4 a2002 : C) : R := (bindNrm (bif (decide (b3_2.I > 0)) then (bif (decide (0 ≤ t5ix.I)) then (bif (!(((a2001.L.getD t5ix.I.toNat []).getD 2 .nil).B)) then (bif (decide (0 ≤ t5ix.I)) then (bif (decide (0 ≤ t5ix.I)) then (bif (decide ((w64 (b13_0.I + b3_2.I)) > (w64 (((a2001.L.getD t5ix.I.toNat []).getD 4 .nil).I + ((a2001.L.getD t5ix.I.toNat []).getD 6 .nil).I)))) then (some (.ret [.i 6, b2000_0, .l a2003.L, .l a2001.L, .l a2002.L])) else (some (.nrm [.i t5ix.I, b2000_0, .l a2003.L, b3_0, b3_1, b3_2, b3_3, b3_4, b3_5, b3_6, b3_7, .l a2001.L, .l a2002.L]))) else none) else none) else (some (.ret [.i 6, b2000_0, .l a2003.L, .l a2001.L, .l a2002.L]))) else none) else (some (.nrm [.i t5ix.I, b2000_0, .l a2003.L, b3_0, b3_1, b3_2, b3_3, b3_4, b3_5, b3_6, b3_7, .l a2001.L, .l a2002.L]))) (ap13 i_StewBook_act.d8))
def i_StewBook_act.d10 (t5ix b2000_0 a2003 b3_0 b3_1 b3_2 b3_3 b3_4 b3_5 b3_6 b3_7 a2001 b13_0 b13_1 b13_2 b13_3 b13_4 a2002 : C) : R := (bindNrm (bif b3_5.B then (bif (decide (0 ≤ t5ix.I)) then (bif (!(((a2001.L.getD t5ix.I.toNat []).getD 8 .nil).I == 0)) then (bif (decide (0 ≤ t5ix.I)) then (bif (decide (0 ≤ t5ix.I)) then (call1 (i_within [b3_3, ((a2001.L.getD t5ix.I.toNat []).getD 9 .nil), ((a2001.L.getD t5ix.I.toNat []).getD 10 .nil)]) fun y8_t0 => (bif (!y8_t0.B) then (some (.ret [.i 6, b2000_0, .l a2003.L, .l a2001.L, .l a2002.L])) else (bif (decide (0 ≤ t5ix.I)) then (bif (decide (0 ≤ t5ix.I)) then (some (.nrm [.i t5ix.I, b2000_0, .l a2003.L, b3_0, b3_1, b3_2, b3_3, b3_4, b3_5, b3_6, b3_7, .l ((a2001.L.set t5ix.I.toNat (setCs (a2001.L.getD t5ix.I.toNat []) 4 [b3_3])).set t5ix.I.toNat (setCs ((a2001.L.set t5ix.I.toNat (setCs (a2001.L.getD t5ix.I.toNat []) 4 [b3_3])).getD t5ix.I.toNat []) 12 [b3_4])), b13_0, b13_1, b13_2, b13_3, b13_4, .l a2002.L])) else none) else none))) else none) else none) else (some (.ret [.i 6, b2000_0, .l a2003.L, .l a2001.L, .l a2002.L]))) else none) else (some (.nrm [.i t5ix.I, b2000_0, .l a2003.L, b3_0, b3_1, b3_2, b3_3, b3_4, b3_5, b3_6, b3_7, .l a2001.L, b13_0, b13_1, b13_2, b13_3, b13_4, .l a2002.L]))) (ap18 i_StewBook_act.d9))
def i_StewBook_act.d11 (t5ix b2000_0 a2003 b3_0 b3_1 b3_2 b3_3 b3_4 b3_5 b3_6 b3_7 a2001 a2002 : C) : R := (call5 (i_StewBook_count [.p [b2000_0, .l a2001.L, .l a2002.L, .l a2003.L], (bif (decide (0 ≤ t5ix.I)) then (.p (a2001.L.getD t5ix.I.toNat [])) else .nil)]) fun y7_t0_0 y7_t0_1 y7_t0_2 y7_t0_3 y7_t0_4 => (bindNrm (bif b3_7.B then (bif (decide (0 ≤ t5ix.I)) then (bif (!(!(((a2001.L.getD t5ix.I.toNat []).getD 2 .nil).B))) then (bif (decide ((w64 (y7_t0_0.I + y7_t0_4.I)) > 0)) then (some (.ret [.i 6, b2000_0, .l a2003.L, .l a2001.L, .l a2002.L])) else (some (.nrm [.i t5ix.I, b2000_0, .l a2003.L, b3_0, b3_1, b3_2, b3_3, b3_4, b3_5, b3_6, b3_7, .l a2001.L, y7_t0_0, y7_t0_1, y7_t0_2, y7_t0_3, y7_t0_4, .l a2002.L]))) else (some (.ret [.i 6, b2000_0, .l a2003.L, .l a2001.L, .l a2002.L]))) else none) else (some (.nrm [.i t5ix.I, b2000_0, .l a2003.L, b3_0, b3_1, b3_2, b3_3, b3_4, b3_5, b3_6, b3_7, .l a2001.L, y7_t0_0, y7_t0_1, y7_t0_2, y7_t0_3, y7_t0_4, .l a2002.L]))) (ap18 i_StewBook_act.d10)))
def i_StewBook_act.d12 (t5ix b2000_0 a2003 b3_0 b3_1 b3_2 b3_3 b3_4 b3_5 b3_6 b3_7 a2001 a2002 : C) : R := (bindBlk 4 (lim (ap16 i_StewBook_act.d3) [.i t5ix.I, b3_6, .i (b3_6.L.length : Int), .i 0, b2000_0, .l a2003.L, b3_0, b3_1, b3_2, b3_3, b3_4, b3_5, b3_6, b3_7, .l a2001.L, .l a2002.L]) (ap13 i_StewBook_act.d11))
def i_StewBook_act.d13 (t5ix b2000_0 a2003 b3_0 b3_1 b3_2 b3_3 b3_4 b3_5 b3_6 b3_7 a2001 a2002 : C) : R := (bif (decide (0 ≤ t5ix.I)) then (bif (((a2001.L.getD t5ix.I.toNat []).getD 1 .nil).I != b3_1.I) then (some (.ret [.i 4, b2000_0, .l a2003.L, .l a2001.L, .l a2002.L])) else (bindBlk 2 (lim (ap16 i_StewBook_act.d2) [.i t5ix.I, b3_6, .i (b3_6.L.length : Int), .i 0, b2000_0, .l a2003.L, b3_0, b3_1, b3_2, b3_3, b3_4, b3_5, b3_6, b3_7, .l a2001.L, .l a2002.L]) (ap13 i_StewBook_act.d12))) else none)
def i_StewBook_act.d14 (t1_0 t1_1 t1_2 t1_3 t1_4 t1_5 t1_6 t1_7 b2000_0 a2001 a2002 a2003 : C) : R := (call1 (i_formed [t1_0, t1_1, t1_2, t1_3, t1_4, t1_5, t1_6, t1_7]) fun y1_t0 => (bif (!y1_t0.B) then (some (.ret [.i 2, b2000_0, .l a2003.L, .l a2001.L, .l a2002.L])) else (call5 (i_StewBook_service_v1 [t1_0, b2000_0, .l a2001.L, .l a2002.L, .l a2003.L]) fun y2_t0ix y2_b2000_0 y2_a2001 y2_a2002 y2_a2003 => (bif (decide (y2_t0ix.I < 0)) then (some (.ret [.i 3, y2_b2000_0, .l y2_a2003.L, .l y2_a2001.L, .l y2_a2002.L])) else (bindBlk 0 (lim (ap16 i_StewBook_act.d1) [.i y2_t0ix.I, t1_6, .i (t1_6.L.length : Int), .i 0, y2_b2000_0, .l y2_a2003.L, t1_0, t1_1, t1_2, t1_3, t1_4, t1_5, t1_6, t1_7, .l y2_a2001.L, .l y2_a2002.L]) (ap13 i_StewBook_act.d13))))))
def i_StewBook_act : List C → Option (List C) := fun xs => finR (ap12 i_StewBook_act.d14 xs)
def i_StewBook_act_fs : FS := ⟨2, ⟨[(0, (.pt 2000 0)), (1, z9)], [(2000, z4), (2001, .arr 48), (2002, .arr 58), (2003, .arr 55)]⟩, ⟨[(0, zi)], [(2000, z4), (2003, .arr 55), (2001, .arr 48), (2002, .arr 58)]⟩, [2000, 2003], i_StewBook_act⟩
theorem i_StewBook_act_ok : FSOk Try.checked.prog T0 23 i_StewBook_act_fs := okOf base0 (fn := Try.f23) (c := Try.f23.body.getD .skip) i_StewBook_act_fs (.seq .leaf (.seq .leaf (.seq .leaf (.seq .leaf (.seq (.seq .leaf (.block ⟨[(0, (.pt 2000 0)), (3, (.pt 3 0)), (5, (.pe 2001 0))], [(2000, z4), (2003, .arr 55), (3, z1), (2001, .arr 48), (2002, .arr 58)]⟩ (.loop ⟨[(0, (.pt 2000 0)), (3, (.pt 3 0)), (5, (.pe 2001 0)), (25, (zl 79)), (26, zi), (27, zi)], [(2000, z4), (2003, .arr 55), (3, z1), (2001, .arr 48), (2002, .arr 58)]⟩ .leaf))) (.seq .leaf (.seq (.seq .leaf (.block ⟨[(0, (.pt 2000 0)), (3, (.pt 3 0)), (5, (.pe 2001 0))], [(2000, z4), (2003, .arr 55), (3, z1), (2001, .arr 48), (2002, .arr 58)]⟩ (.loop ⟨[(0, (.pt 2000 0)), (3, (.pt 3 0)), (5, (.pe 2001 0)), (47, (zl 79)), (48, zi), (49, zi)], [(2000, z4), (2003, .arr 55), (3, z1), (2001, .arr 48), (2002, .arr 58)]⟩ .leaf))) (.seq (.seq .leaf (.block ⟨[(0, (.pt 2000 0)), (3, (.pt 3 0)), (5, (.pe 2001 0))], [(2000, z4), (2003, .arr 55), (3, z1), (2001, .arr 48), (2002, .arr 58)]⟩ (.loop ⟨[(0, (.pt 2000 0)), (3, (.pt 3 0)), (5, (.pe 2001 0)), (67, (zl 79)), (68, zi), (69, zi)], [(2000, z4), (2003, .arr 55), (3, z1), (2001, .arr 48), (2002, .arr 58)]⟩ .leaf))) (.seq .leaf (.seq (.join ⟨[(0, (.pt 2000 0)), (3, (.pt 3 0)), (5, (.pe 2001 0)), (13, (.pt 13 0))], [(2000, z4), (2003, .arr 55), (3, z1), (2001, .arr 48), (13, z11), (2002, .arr 58)]⟩ .leaf) (.seq (.join ⟨[(0, (.pt 2000 0)), (3, (.pt 3 0)), (5, (.pe 2001 0)), (13, (.pt 13 0))], [(2000, z4), (2003, .arr 55), (3, z1), (2001, .arr 48), (13, z11), (2002, .arr 58)]⟩ .leaf) (.seq (.join ⟨[(0, (.pt 2000 0)), (3, (.pt 3 0)), (5, (.pe 2001 0))], [(2000, z4), (2003, .arr 55), (3, z1), (2001, .arr 48), (2002, .arr 58)]⟩ .leaf) (.seq .leaf (.seq .leaf (.seq .leaf (.seq .leaf (.seq (.block ⟨[(0, (.pt 2000 0)), (3, (.pt 3 0)), (5, (.pe 2001 0)), (14, zi)], [(2000, z4), (2003, .arr 55), (3, z1), (2001, .arr 48), (2002, .arr 58)]⟩ (.loop ⟨[(0, (.pt 2000 0)), (3, (.pt 3 0)), (5, (.pe 2001 0)), (14, zi)], [(2000, z4), (2003, .arr 55), (3, z1), (2001, .arr 48), (2002, .arr 58)]⟩ .leaf)) (.seq (.seq .leaf (.block ⟨[(0, (.pt 2000 0)), (3, (.pt 3 0))], [(2000, z4), (2003, .arr 55), (3, z1), (2001, .arr 48), (2002, .arr 58)]⟩ (.loop ⟨[(0, (.pt 2000 0)), (3, (.pt 3 0)), (5, (.pe 2001 0)), (14, zi), (238, zi), (239, zi)], [(2000, z4), (2003, .arr 55), (3, z1), (2001, .arr 48), (2002, .arr 58)]⟩ .leaf))) .leaf)))))))))))))))))) [(26, some 134, i_within_fs), (29, some 21, i_StewBook_service_v1_fs), (31, some 98, i_StewBook_count_fs), (36, some 82, i_StewBook_mayEnd_fs), (37, some 36, i_StewBook_copy_v1_fs), (37, some 58, i_StewBook_copy_v1_fs), (37, some 78, i_StewBook_copy_v1_fs), (56, some 16, i_formed_fs), (57, some 265, slices_Insert_fs), (58, some 286, slices_DeleteFunc_fs)] (.cons i_within_ok (.cons i_StewBook_service_v1_ok (.cons i_StewBook_count_ok (.cons i_StewBook_mayEnd_ok (.cons i_StewBook_copy_v1_ok (.cons i_StewBook_copy_v1_ok (.cons i_StewBook_copy_v1_ok (.cons i_formed_ok (.cons slices_Insert_ok (.cons slices_DeleteFunc_ok .nil)))))))))) (by kernel_rfl) (by kernel_rfl) (by kernel_rfl) (fun xs => by kernel_rfl)
def i_StewApply.d1 (t0_0 t0_1 t0_2 t0_3 t1_0 t1_1 t1_2 t1_3 t1_4 t1_5 t1_6 t1_7 : C) : R := (call1 (i_StewValid [t0_0, t0_1, t0_2, t0_3]) fun y1_t0 => (bif (!y1_t0.B) then (some (.ret [.i 0, .i 1, .l nils, .l nils, .l nils])) else (call4 (i_clone [t0_0, t0_1, t0_2, t0_3]) fun y2_t0_0 y2_a3000 y2_a3001 y2_a3002 => (call5 (i_StewBook_act [t1_0, t1_1, t1_2, t1_3, t1_4, t1_5, t1_6, t1_7, y2_t0_0, .l y2_a3000.L, .l y2_a3001.L, .l y2_a3002.L]) fun y3_t0 y3_b2000_0 y3_a2003 y3_a2001 y3_a2002 => (bif (y3_t0.I != 0) then (call4 (i_clone [t0_0, t0_1, t0_2, t0_3]) fun y4_t0_0 y4_a3000 y4_a3001 y4_a3002 => (some (.ret [y4_t0_0, y3_t0, .l y4_a3000.L, .l y4_a3001.L, .l y4_a3002.L]))) else (some (.ret [y3_b2000_0, .i 0, .l y3_a2001.L, .l y3_a2002.L, .l y3_a2003.L])))))))
def i_StewApply : List C → Option (List C) := fun xs => finR (ap12 i_StewApply.d1 xs)
def i_StewApply_fs : FS := ⟨2, ⟨[(0, z2), (1, z9)], []⟩, ⟨[(0, (.tu [z23, zi]))], [(3000, .arr 48), (3001, .arr 58), (3002, .arr 55)]⟩, [], i_StewApply⟩
theorem i_StewApply_ok : FSOk Try.checked.prog T0 9 i_StewApply_fs := okOf base0 (fn := Try.f9) (c := Try.f9.body.getD .skip) i_StewApply_fs .leaf [(13, some 9, i_StewValid_fs), (22, some 13, i_clone_fs), (22, some 19, i_clone_fs), (23, some 15, i_StewBook_act_fs)] (.cons i_StewValid_ok (.cons i_clone_ok (.cons i_clone_ok (.cons i_StewBook_act_ok .nil)))) (by kernel_rfl) (by kernel_rfl) (by kernel_rfl) (fun xs => by kernel_rfl)
def w_FnStewAsks.d1 (t7 t81 b4_0 b4_1 b4_2 b4_3 a97208 b6_0 b6_1 b6_2 b6_3 b10_0 a273336 a273337 a273338 : C) : R := (bif t81.B then (some (.ret [.b false])) else (some (.again [.i (w64 (t7.I + 1)), b4_0, b4_1, b4_2, b4_3, .l a97208.L, b10_0, .l a273336.L, .l a273337.L, .l a273338.L])))
def w_FnStewAsks.d2 (t7 b4_0 b4_1 b4_2 b4_3 a97208 b6_0 b6_1 b6_2 b6_3 : C) : R := (bif (decide (t7.I < (a97208.L.length : Int))) then (bif (decide (0 ≤ t7.I)) then (bif (decide (t7.I < (a97208.L.length : Int))) then (call5 (i_StewApply [b4_0, b4_1, b4_2, b4_3, ((a97208.L.getD t7.I.toNat []).getD 0 .nil), ((a97208.L.getD t7.I.toNat []).getD 1 .nil), ((a97208.L.getD t7.I.toNat []).getD 2 .nil), ((a97208.L.getD t7.I.toNat []).getD 3 .nil), ((a97208.L.getD t7.I.toNat []).getD 4 .nil), ((a97208.L.getD t7.I.toNat []).getD 5 .nil), ((a97208.L.getD t7.I.toNat []).getD 6 .nil), ((a97208.L.getD t7.I.toNat []).getD 7 .nil)]) fun y6_t0_0_0 y6_t0_1 y6_a3000 y6_a3001 y6_a3002 => (bif (decide (0 ≤ t7.I)) then (bif (decide (t7.I < (a97208.L.length : Int))) then (call5 (i_StewApply [b6_0, b6_1, b6_2, b6_3, ((a97208.L.getD t7.I.toNat []).getD 0 .nil), ((a97208.L.getD t7.I.toNat []).getD 1 .nil), ((a97208.L.getD t7.I.toNat []).getD 2 .nil), ((a97208.L.getD t7.I.toNat []).getD 3 .nil), ((a97208.L.getD t7.I.toNat []).getD 4 .nil), ((a97208.L.getD t7.I.toNat []).getD 5 .nil), ((a97208.L.getD t7.I.toNat []).getD 6 .nil), ((a97208.L.getD t7.I.toNat []).getD 7 .nil)]) fun y7_t0_0_0 y7_t0_1 y7_a3000 y7_a3001 y7_a3002 => (bindNrm (bif (y6_t0_1.I != 0) then (bif (!(y6_t0_1.I != 7)) then (bif (y7_t0_1.I != 0) then (some (.nrm [t7, .b (y7_t0_1.I != 7), b4_0, b4_1, b4_2, b4_3, .l a97208.L, b6_0, b6_1, b6_2, b6_3, y7_t0_0_0, .l y7_a3000.L, .l y7_a3001.L, .l y7_a3002.L])) else (some (.nrm [t7, .b false, b4_0, b4_1, b4_2, b4_3, .l a97208.L, b6_0, b6_1, b6_2, b6_3, y7_t0_0_0, .l y7_a3000.L, .l y7_a3001.L, .l y7_a3002.L]))) else (some (.nrm [t7, .b true, b4_0, b4_1, b4_2, b4_3, .l a97208.L, b6_0, b6_1, b6_2, b6_3, y7_t0_0_0, .l y7_a3000.L, .l y7_a3001.L, .l y7_a3002.L]))) else (bif (y7_t0_1.I != 0) then (some (.nrm [t7, .b (y7_t0_1.I != 7), b4_0, b4_1, b4_2, b4_3, .l a97208.L, b6_0, b6_1, b6_2, b6_3, y7_t0_0_0, .l y7_a3000.L, .l y7_a3001.L, .l y7_a3002.L])) else (some (.nrm [t7, .b false, b4_0, b4_1, b4_2, b4_3, .l a97208.L, b6_0, b6_1, b6_2, b6_3, y7_t0_0_0, .l y7_a3000.L, .l y7_a3001.L, .l y7_a3002.L])))) (ap15 w_FnStewAsks.d1))) else none) else none)) else none) else none) else (some (.brk 0 [])))
def w_FnStewAsks.d3 : R := (some (.ret [.b true]))
def w_FnStewAsks.d4 (t0 : C) : R := (bif (decide ((t0.L.length : Int) > 1048576)) then (some (.ret [.b true])) else (call5 (s_DrawStewAsk [t0]) fun y1_t0_0 y1_t0_1_0 y1_t0_1_1 y1_t0_1_2 y1_t0_1_3 => (call1 (i_StewAsk [y1_t0_0, y1_t0_1_0, y1_t0_1_1, y1_t0_1_2, y1_t0_1_3]) fun y2_a3000 => (call1 (s_StewAsk [y1_t0_0, y1_t0_1_0, y1_t0_1_1, y1_t0_1_2, y1_t0_1_3]) fun y3_a3000 => (call1 (w_wsActs [.l y2_a3000.L, .l y3_a3000.L]) fun y4_t0 => (bif (!y4_t0.B) then (some (.ret [.b false])) else (call1 (s_StewValid [y1_t0_1_0, y1_t0_1_1, y1_t0_1_2, y1_t0_1_3]) fun y5_t0 => (bif (!(!y5_t0.B)) then (bif (!(decide (y1_t0_0.I < 1))) then (bif (decide (y1_t0_0.I > 6)) then (some (.ret [.b ((y2_a3000.L.length : Int) == 0)])) else (bindBlk 0 (lim (ap10 w_FnStewAsks.d2) [.i 0, y1_t0_1_0, y1_t0_1_1, y1_t0_1_2, y1_t0_1_3, .l y2_a3000.L, y1_t0_1_0, y1_t0_1_1, y1_t0_1_2, y1_t0_1_3]) (fun xs => w_FnStewAsks.d3))) else (some (.ret [.b ((y2_a3000.L.length : Int) == 0)]))) else (some (.ret [.b ((y2_a3000.L.length : Int) == 0)]))))))))))
def w_FnStewAsks : List C → Option (List C) := fun xs => finR (ap1 w_FnStewAsks.d4 xs)
def w_FnStewAsks_fs : FS := ⟨1, ⟨[(0, (zl 5))], []⟩, ⟨[(0, zo)], []⟩, [], w_FnStewAsks⟩
theorem w_FnStewAsks_ok : FSOk Try.checked.prog T0 3 w_FnStewAsks_fs := okOf base0 (fn := Try.f3) (c := Try.f3.body.getD .skip) w_FnStewAsks_fs (.seq .leaf (.seq .leaf (.seq .leaf (.seq .leaf (.seq .leaf (.seq .leaf (.seq .leaf (.seq (.seq .leaf (.block ⟨[], []⟩ (.loop ⟨[(4, (.pt 4 0)), (5, (.ow 97208)), (6, (.pt 6 0)), (7, zi)], [(4, z0), (97208, .arr 38), (6, z0)]⟩ (.seq .leaf (.seq (.skip (.seq .leaf (.seq .leaf (.seq (.seq (.join ⟨[(4, (.pt 4 0)), (5, (.ow 97208)), (6, (.pt 6 0)), (7, zi), (10, (.pt 10 0)), (81, zo)], [(4, z0), (97208, .arr 38), (6, z0), (10, .var 27 [zi, (.ow 273336), (.ow 273337), (.ow 273338)]), (273336, .arr 48), (273337, .arr 58), (273338, .arr 55)]⟩ .leaf) .leaf) .leaf)))) .leaf))))) .leaf)))))))) [(4, some 17, s_DrawStewAsk_fs), (5, some 22, i_StewAsk_fs), (6, some 27, w_wsActs_fs), (7, some 26, s_StewAsk_fs), (8, some 30, s_StewValid_fs), (9, some 56, i_StewApply_fs), (9, some 65, i_StewApply_fs)] (.cons s_DrawStewAsk_ok (.cons i_StewAsk_ok (.cons w_wsActs_ok (.cons s_StewAsk_ok (.cons s_StewValid_ok (.cons i_StewApply_ok (.cons i_StewApply_ok .nil))))))) (by kernel_rfl) (by kernel_rfl) (by kernel_rfl) (fun xs => by kernel_rfl)
end
end Go.Ev
set_option maxRecDepth 8000
namespace Go.Ev
abbrev Str := ByteArray
structure Svc where
  name : Str
  ver : Int
  gone : Bool
  image : Int
  want : Int
  down : Int
  over : Int
  next : Int
  per : Int
  least : Int
  most : Int
  load : Int
  cool : Int
structure Cpy where
  svc : Str
  num : Int
  ver : Int
  image : Int
  state : Int
  ending : Bool
  berth : Str
structure Brt where
  name : Str
  drain : Bool
structure Book where
  now : Int
  svcs : List Svc
  cpys : List Cpy
  brts : List Brt
def Svc.e (s : Svc) : List C := [.s s.name, .i s.ver, .b s.gone, .i s.image, .i s.want, .i s.down, .i s.over, .i s.next, .i s.per, .i s.least, .i s.most, .i s.load, .i s.cool]
def Cpy.e (c : Cpy) : List C := [.s c.svc, .i c.num, .i c.ver, .i c.image, .i c.state, .b c.ending, .s c.berth]
def Brt.e (b : Brt) : List C := [.s b.name, .b b.drain]
def Book.e (b : Book) : List C := [.i b.now, .l (b.svcs.map Svc.e), .l (b.cpys.map Cpy.e), .l (b.brts.map Brt.e)]
def sEq (a b : Str) : Bool := a.toList == b.toList
def sLt (a b : Str) : Bool := Op.bytesLess a.toList b.toList
def within (a b c : Int) : Bool := decide (b ≤ a) && decide (a ≤ c)
def findIx {α : Type} (p : α → Bool) : List α → Nat → Int
  | [], _ => -1
  | x :: r, n => bif p x then n else findIx p r (n + 1)
theorem findIx_or {α : Type} (p : α → Bool) : ∀ (l : List α) (n : Nat), findIx p l n = -1 ∨ ∃ i, ∃ h : i < l.length, findIx p l n = n + i ∧ p l[i] = true
  | [], n => .inl rfl
  | x :: r, n => by
    cases hx : p x with
    | true => exact .inr ⟨0, by simp, by simp [findIx, hx], by simpa using hx⟩
    | false =>
      rcases findIx_or p r (n + 1) with h | ⟨i, h, h1, h2⟩
      · exact .inl (by simp [findIx, hx, h])
      · exact .inr ⟨i + 1, by simpa using h, by simp [findIx, hx, h1]; omega, by simpa using h2⟩
theorem loopL_find {α : Type} (p : α → Bool) (b : Nat) : ∀ (l : List α) (n : Nat), (bindBlk b (some (loopL (fun i s (_ : Unit) => bif p s then .inr (.ret [.i (i : Nat)]) else .inl ()) (fun _ => .brk b []) l n ())) fun _ => some (.ret [.i (-1)])) = some (.ret [.i (findIx p l n)])
  | [], n => by simp [loopL, findIx]
  | x :: r, n => by
    have ih := loopL_find p b r (n + 1)
    cases hx : p x <;> simp [loopL, findIx, hx, ih]
theorem loopL_all {α : Type} (p : Nat → α → Bool) (b : Nat) (ys : List C) (K : List C → R) : ∀ (l : List α) (n : Nat), bindBlk b (some (loopL (fun i s (_ : Unit) => bif p i s then .inl () else .inr (.ret [.b false])) (fun _ => .brk b ys) l n ())) K =
    bif (l.zipIdx n).all (fun x => p x.2 x.1) then K ys else some (.ret [.b false])
  | [], n => by simp [loopL]
  | x :: r, n => by
    have ih := loopL_all p b ys K r (n + 1)
    cases hx : p n x <;> simp [loopL, hx, ih]
theorem s_l18In_eq (a b c : Int) : s_l18In [.i a, .i b, .i c] = some [.b (within a b c)] := by
  simp only [s_l18In, s_l18In.d1, apL, jC, jD, C.I_i, ge_iff_le, within]
  cases decide (b ≤ a) <;> simp
def byteBad (n : Int) : Bool := !((decide (n ≥ 97) && decide (n ≤ 122)) || (decide (n ≥ 48) && decide (n ≤ 57)) || n == 45)
def nameOk (s : Str) : Bool := within s.size 1 20 && s.data.toList.all fun b => !byteBad b.toNat
theorem arr_getD {s : Str} {i : Nat} (h : i < s.data.toList.length) : s.data.getD i 0 = s.data.toList[i] := by
  have : i < s.data.size := by simpa using h
  simp only [Array.getD, dif_pos this, Array.getInternal_eq_getElem, Array.getElem_toList]
theorem s_l18NameOk_eq (s : Str) (hl : s.size < 4611686018427387904) : s_l18NameOk [.s s] = some [.b (nameOk s)] := by
  have hsz : s.size = s.data.toList.length := Array.length_toList.symm
  have h := lim_list (l := s.data.toList) (S := fun i (_ : Unit) => [.s s, .i (i : Nat)]) (body := ap2 s_l18NameOk.d2)
    (fun _ _ => True) (fun i b _ => bif !byteBad b.toNat then .inl () else .inr (.ret [.b false])) (fun _ => .brk 0 [])
    (fun i _ hi _ => by
      have hi' : i < s.size := by omega
      have key : s_l18NameOk.d2 (.s s) (.i i) = s_l18NameOk.d1 (.s s) (.i i) (.b (byteBad s.data.toList[i].toNat)) := by
        simp only [s_l18NameOk.d2, C.I_i, C.S_s, jY, arr_getD hi, byteBad]
        generalize ((s.data.toList[i].toNat : Nat) : Int) = m
        have e1 : decide ((i : Int) < (s.size : Int)) = true := by simp; exact hi'
        simp only [e1, jR, jX, decide_true]
        cases decide (m ≥ 97) <;> cases decide (m ≤ 122) <;> cases decide (m ≥ 48) <;> cases decide (m ≤ 57) <;> simp [hi']
      cases hb : byteBad s.data.toList[i].toNat with
      | true => exact ⟨by show s_l18NameOk.d2 (.s s) (.i i) = _; rw [key, hb]; simp [s_l18NameOk.d1], trivial⟩
      | false => exact ⟨by show s_l18NameOk.d2 (.s s) (.i i) = _; rw [key, hb]; simp [s_l18NameOk.d1, w64_of (n := (i : Int) + 1) (by omega) (by omega)], trivial⟩)
    (fun _ _ => ⟨by show s_l18NameOk.d2 (.s s) (.i (s.data.toList.length : Nat)) = _; rw [← hsz]; simp [s_l18NameOk.d2], trivial⟩) _ 0 () rfl trivial
  simp only [Int.ofNat_zero, List.drop_zero] at h
  simp only [s_l18NameOk, s_l18NameOk.d4, apL, jC, C.S_s, s_l18In_eq, call1, jI, C.B_b]
  cases hw : within s.size 1 20 with
  | false => simp [nameOk, hw]
  | true =>
    simp only [jZ, jS]
    erw [h, loopL_all]
    have : (s.data.toList.zipIdx 0).all (fun x => !byteBad x.1.toNat) = s.data.toList.all fun b => !byteBad b.toNat := by
      have e : ∀ (l : List UInt8) n, (l.zipIdx n).all (fun x => !byteBad x.1.toNat) = l.all fun b => !byteBad b.toNat := by
        intro l
        induction l with
        | nil => intro n; rfl
        | cons x r ih => intro n; simp [ih]
      exact e _ _
    rw [this]
    simp only [nameOk, hw, Bool.true_and]
    cases (s.data.toList.all fun b => !byteBad b.toNat) <;> simp [s_l18NameOk.d3]
def svcOk (s : Svc) (now : Int) : Bool :=
  nameOk s.name && within s.ver 1 now && within s.image 1 1000000 && within s.next 1 1000000 && within s.want 0 10 && within s.down 0 10 && within s.over 0 10 && !(w64 (s.down + s.over) == 0) &&
  (bif s.per == 0 then s.least == 0 && (s.most == 0 && (s.load == 0 && s.cool == 0)) else within s.per 0 1000000 && (within s.load 0 1000000 && (within s.least 0 10 && (within s.most s.least 10 && within s.cool 0 3))))
theorem s_l18ServiceOk_eq (s : Svc) (now : Int) (hl : s.name.size < 4611686018427387904) : s_l18ServiceOk (s.e ++ [.i now]) = some [.b (svcOk s now)] := by
  simp only [s_l18ServiceOk, s_l18ServiceOk.d1, Svc.e, jA, jB, apL, jC, jD, s_l18NameOk_eq s.name hl, s_l18In_eq, call1, jI, C.B_b, C.I_i, svcOk]
  cases nameOk s.name <;> simp only [jZ, ja, jR, jS, Bool.true_and, Bool.false_and, jV]
  cases within s.ver 1 now <;> simp only [jZ, ja, jR, jS, Bool.true_and, Bool.false_and, jV]
  cases within s.image 1 1000000 <;> simp only [jZ, ja, jR, jS, Bool.true_and, Bool.false_and, jV]
  cases within s.next 1 1000000 <;> simp only [jZ, ja, jR, jS, Bool.true_and, Bool.false_and, jV]
  cases within s.want 0 10 <;> simp only [jZ, ja, jR, jS, Bool.true_and, Bool.false_and, jV]
  cases within s.down 0 10 <;> simp only [jZ, ja, jR, jS, Bool.true_and, Bool.false_and, jV]
  cases within s.over 0 10 <;> simp only [jZ, ja, jR, jS, Bool.true_and, Bool.false_and, jV]
  cases (w64 (s.down + s.over) == 0) <;> simp only [jZ, ja, jR, jS, Bool.true_and, Bool.false_and, jV]
  cases s.per == 0 <;> simp only [jZ, ja, jR, jS, Bool.true_and, Bool.false_and, jV]
  · cases within s.per 0 1000000 <;> cases within s.load 0 1000000 <;> cases within s.least 0 10 <;> cases within s.most s.least 10 <;> simp
  · cases s.least == 0 <;> cases s.most == 0 <;> cases s.load == 0 <;> simp
def svcIx (l : List Svc) (nm : Str) : Int := findIx (fun s => sEq s.name nm) l 0
def brtIx (l : List Brt) (nm : Str) : Int := findIx (fun s => sEq s.name nm) l 0
def cpyIx (l : List Cpy) (nm : Str) (n : Int) : Int := findIx (fun c => sEq c.svc nm && c.num == n) l 0
theorem s_l18Service_eq (b : Book) (nm : Str) (hl : b.svcs.length < 4611686018427387904) : s_l18Service (b.e ++ [.s nm]) = some [.i (svcIx b.svcs nm)] := by
  have h := lim_list (l := b.svcs) (S := fun i (_ : Unit) => [.s nm, .i (i : Nat), .i b.now, .l (b.svcs.map Svc.e), .l (b.cpys.map Cpy.e), .l (b.brts.map Brt.e)])
    (body := ap6 s_l18Service.d1)
    (fun _ _ => True) (fun i s _ => bif sEq s.name nm then .inr (.ret [.i (i : Nat)]) else .inl ()) (fun _ => .brk 0 [])
    (fun i _ hi _ => by
      cases hs : sEq b.svcs[i].name nm <;> simp only [sEq] at hs
      · exact ⟨by simp [s_l18Service.d1, Svc.e, hs, hi, w64_of (n := (i : Int) + 1) (by omega) (by omega)], trivial⟩
      · exact ⟨by simp [s_l18Service.d1, Svc.e, hs, hi], trivial⟩)
    (fun _ _ => ⟨by simp [s_l18Service.d1], trivial⟩) _ 0 () rfl trivial
  simp only [Int.ofNat_zero, List.drop_zero] at h
  simp only [s_l18Service, s_l18Service.d3, Book.e, jA, jB, apL, jC, jD]
  erw [h, loopL_find]
  rfl
theorem s_l18Berth_eq (b : Book) (nm : Str) (hl : b.brts.length < 4611686018427387904) : s_l18Berth (b.e ++ [.s nm]) = some [.i (brtIx b.brts nm)] := by
  have h := lim_list (l := b.brts) (S := fun i (_ : Unit) => [.s nm, .i (i : Nat), .i b.now, .l (b.svcs.map Svc.e), .l (b.cpys.map Cpy.e), .l (b.brts.map Brt.e)])
    (body := ap6 s_l18Berth.d1)
    (fun _ _ => True) (fun i s _ => bif sEq s.name nm then .inr (.ret [.i (i : Nat)]) else .inl ()) (fun _ => .brk 0 [])
    (fun i _ hi _ => by
      cases hs : sEq b.brts[i].name nm <;> simp only [sEq] at hs
      · exact ⟨by simp [s_l18Berth.d1, Brt.e, hs, hi, w64_of (n := (i : Int) + 1) (by omega) (by omega)], trivial⟩
      · exact ⟨by simp [s_l18Berth.d1, Brt.e, hs, hi], trivial⟩)
    (fun _ _ => ⟨by simp [s_l18Berth.d1], trivial⟩) _ 0 () rfl trivial
  simp only [Int.ofNat_zero, List.drop_zero] at h
  simp only [s_l18Berth, s_l18Berth.d3, Book.e, jA, jB, apL, jC, jD]
  erw [h, loopL_find]
  rfl
theorem s_l18Copy_eq (b : Book) (nm : Str) (n : Int) (hl : b.cpys.length < 4611686018427387904) : s_l18Copy (b.e ++ [.s nm, .i n]) = some [.i (cpyIx b.cpys nm n)] := by
  have h := lim_list (l := b.cpys) (S := fun i (_ : Unit) => [.s nm, .i n, .i (i : Nat), .i b.now, .l (b.svcs.map Svc.e), .l (b.cpys.map Cpy.e), .l (b.brts.map Brt.e)])
    (body := ap7 s_l18Copy.d1)
    (fun _ _ => True) (fun i c _ => bif sEq c.svc nm && c.num == n then .inr (.ret [.i (i : Nat)]) else .inl ()) (fun _ => .brk 0 [])
    (fun i _ hi _ => by
      cases hs : sEq b.cpys[i].svc nm <;> cases hn : b.cpys[i].num == n <;> simp only [sEq] at hs
      all_goals exact ⟨by simp [s_l18Copy.d1, Cpy.e, hs, hn, hi, w64_of (n := (i : Int) + 1) (by omega) (by omega)], trivial⟩)
    (fun _ _ => ⟨by simp [s_l18Copy.d1], trivial⟩) _ 0 () rfl trivial
  simp only [Int.ofNat_zero, List.drop_zero] at h
  simp only [s_l18Copy, s_l18Copy.d3, Book.e, jA, jB, apL, jC, jD]
  erw [h, loopL_find]
  rfl
end Go.Ev
namespace Go.Ev
theorem findIx_spec {α : Type} (p : α → Bool) : ∀ (l : List α) (n : Nat), (l.find? p = none ∧ findIx p l n = -1) ∨ ∃ i, ∃ h : i < l.length, findIx p l n = ((n + i : Nat) : Int) ∧ l.find? p = some l[i] ∧ p l[i] = true
  | [], n => .inl ⟨rfl, rfl⟩
  | x :: r, n => by
    cases hx : p x with
    | true => exact .inr ⟨0, by simp, by simp [findIx, hx], by simp [hx], by simpa using hx⟩
    | false =>
      rcases findIx_spec p r (n + 1) with ⟨h0, h⟩ | ⟨i, h, h1, h2, h3⟩
      · exact .inl ⟨by simp [hx, h0], by simp [findIx, hx, h]⟩
      · exact .inr ⟨i + 1, by simpa using h, by simp [findIx, hx, h1]; omega, by simp [hx, h2], by simpa using h3⟩
def svcOf (b : Book) (nm : Str) : Option Svc := b.svcs.find? fun s => sEq s.name nm
def brtOf (b : Book) (nm : Str) : Option Brt := b.brts.find? fun s => sEq s.name nm
def cpyOf (b : Book) (nm : Str) (n : Int) : Option Cpy := b.cpys.find? fun c => sEq c.svc nm && c.num == n
def cpyOk (b : Book) (c : Cpy) : Bool := match svcOf b c.svc with
  | none => false
  | some s => within c.num 1 (w64 (s.next - 1)) && within c.ver 1 b.now && within c.image 1 1000000 && within c.state 1 4 &&
    (bif c.state == 1 then sEq c.berth (bs #[]) else (brtOf b c.berth).isSome)
structure Small (b : Book) : Prop where
  s : b.svcs.length < 4611686018427387904
  c : b.cpys.length < 4611686018427387904
  t : b.brts.length < 4611686018427387904
theorem brtIx_ge (b : Book) (nm : Str) : decide (brtIx b.brts nm ≥ 0) = (brtOf b nm).isSome := by
  rcases findIx_spec (fun s : Brt => sEq s.name nm) b.brts 0 with ⟨h1, h2⟩ | ⟨i, h, h1, h2, _⟩
  · simp [brtIx, brtOf, h1, h2]
  · simp [brtIx, brtOf, h1, h2]
theorem s_l18CopyOk_eq (b : Book) (c : Cpy) (hb : Small b) : s_l18CopyOk (b.e ++ c.e) = some [.b (cpyOk b c)] := by
  have e1 := s_l18Service_eq b c.svc hb.s
  have e2 := s_l18Berth_eq b c.berth hb.t
  have e3 := brtIx_ge b c.berth
  simp only [Book.e, jA, jB] at e1 e2
  simp only [s_l18CopyOk, s_l18CopyOk.d1, Book.e, Cpy.e, jA, jB, apL, jC, jD, e1, e2, s_l18In_eq, call1, jI, C.B_b, C.I_i, C.L_l, C.S_s, e3, cpyOk]
  rcases findIx_spec (fun s : Svc => sEq s.name c.svc) b.svcs 0 with ⟨h1, h2⟩ | ⟨i, h, h1, h2, _⟩
  · simp [svcIx, svcOf, h1, h2]
  · simp only [Nat.zero_add] at h1
    simp only [svcIx, svcOf, h1, h2, jW, jY, getD_map_lt Svc.e h]
    have q1 : decide ((i : Int) < 0) = false := by simp
    have q2 : decide ((i : Int) < (b.svcs.length : Int)) = true := by simp [h]
    simp only [q1, q2, jX, decide_true, ja, jZ, jR, Svc.e, apL, jC, jD, C.I_i]
    cases within c.num 1 (w64 (b.svcs[i].next - 1)) <;> simp only [jZ, ja, jR, jS, Bool.true_and, Bool.false_and, jV]
    cases within c.ver 1 b.now <;> simp only [jZ, ja, jR, jS, Bool.true_and, Bool.false_and, jV]
    cases within c.image 1 1000000 <;> simp only [jZ, ja, jR, jS, Bool.true_and, Bool.false_and, jV]
    cases within c.state 1 4 <;> simp only [jZ, ja, jR, jS, Bool.true_and, Bool.false_and, jV]
    cases c.state == 1 <;> simp [sEq]
def cLt (a b : Cpy) : Bool := sLt a.svc b.svc || (sEq a.svc b.svc && decide (a.num < b.num))
theorem s_l18Ahead_eq (a b : Cpy) : s_l18Ahead (a.e ++ b.e) = some [.b (cLt a b)] := by
  simp only [s_l18Ahead, s_l18Ahead.d1, Cpy.e, jA, jB, apL, jC, jD, C.S_s, C.I_i, cLt, sLt, sEq]
  cases Op.bytesLess a.svc.toList b.svc.toList <;> cases a.svc.toList == b.svc.toList <;> simp
def prevOk {α : Type} (lt : α → α → Bool) (l : List α) (i : Nat) (s : α) : Bool := i == 0 || match l[i - 1]? with | some y => lt y s | none => false
def chainOk {α : Type} (ok : α → Bool) (lt : α → α → Bool) (l : List α) : Bool := (l.zipIdx 0).all fun x => ok x.1 && prevOk lt l x.2 x.1
def validB (b : Book) : Bool :=
  within b.now 0 1000000 && decide (b.svcs.length ≤ 8) && decide (b.cpys.length ≤ 200) && decide (b.brts.length ≤ 6) &&
  chainOk (fun s => svcOk s b.now) (fun s t => sLt s.name t.name) b.svcs && chainOk (fun s => nameOk s.name) (fun s t : Brt => sLt s.name t.name) b.brts && chainOk (cpyOk b) cLt b.cpys
structure Names (b : Book) : Prop where
  s : ∀ s, s ∈ b.svcs → s.name.size < 4611686018427387904
  t : ∀ s, s ∈ b.brts → s.name.size < 4611686018427387904
theorem w64_1 : w64 1 = 1 := w64_of (by omega) (by omega)
theorem chain_loop {α : Type} (ok : α → Bool) (lt : α → α → Bool) (b : Nat) (ys : List C) (K : List C → R) (l : List α) :
    bindBlk b (some (loopL (fun i s (_ : Unit) => bif ok s && prevOk lt l i s then .inl () else .inr (.ret [.b false])) (fun _ => .brk b ys) l 0 ())) K = bif chainOk ok lt l then K ys else some (.ret [.b false]) := by
  have := loopL_all (fun i s => ok s && prevOk lt l i s) b ys K l 0
  exact this
theorem s_StewValid_l1 (b : Book) (hb : Small b) (hn : Names b) (K : List C → R) :
    bindBlk 0 (lim (ap5 s_StewValid.d1) (.i 0 :: b.e)) K
      = bif chainOk (fun s => svcOk s b.now) (fun s t => sLt s.name t.name) b.svcs then K b.e else some (.ret [.b false]) := by
  have L1 := lim_list (l := b.svcs) (S := fun i (_ : Unit) => .i (i : Nat) :: b.e)
    (body := ap5 s_StewValid.d1)
    (fun _ _ => True) (fun i s _ => bif svcOk s b.now && prevOk (fun s t => sLt s.name t.name) b.svcs i s then .inl () else .inr (.ret [.b false]))
    (fun _ => .brk 0 b.e)
    (fun i _ hi _ => by
      have e1 := s_l18ServiceOk_eq b.svcs[i] b.now (hn.s _ (List.getElem_mem hi))
      simp only [Svc.e, jA, jB] at e1
      have hs := hb.s
      have w1 : w64 ((i : Int) + 1) = (i : Int) + 1 := w64_of (by omega) (by omega)
      cases i with
      | zero =>
        cases hk : svcOk b.svcs[0] b.now
        all_goals exact ⟨by simp [Book.e, s_StewValid.d1, getD_map_lt Svc.e hi, Svc.e, hi, e1, hk, call1, w64_1, prevOk], trivial⟩
      | succ i =>
        have w2 : w64 (i : Int) = (i : Int) := w64_of (by omega) (by omega)
        have hi' : i < b.svcs.length := by omega
        have q1 : (i : Int) + 1 < (b.svcs.length : Int) := by omega
        have q2 : (i : Int) < (b.svcs.length : Int) := by omega
        have q3 : (0 : Int) < (i : Int) + 1 := by omega
        have q4 : (0 : Int) ≤ (i : Int) + 1 := by omega
        have q5 : ((i : Int) + 1).toNat = i + 1 := by omega
        simp only [prevOk, Nat.add_sub_cancel, List.getElem?_eq_getElem hi']
        simp only [Int.natCast_add, Int.natCast_one] at w1
        cases hk : svcOk b.svcs[i + 1] b.now <;> cases hq : sLt b.svcs[i].name b.svcs[i + 1].name <;> simp only [sLt] at hq
        all_goals exact ⟨by simp [Book.e, s_StewValid.d1, getD_map_lt Svc.e hi, getD_map_lt Svc.e hi', Svc.e, hi, hi', e1, hk, hq, call1, w1, w2, q1, q2, q3, q4, q5], trivial⟩)
    (fun _ _ => ⟨by simp [Book.e, s_StewValid.d1], trivial⟩) _ 0 () rfl trivial
  simp only [Int.ofNat_zero, List.drop_zero] at L1
  erw [L1]
  exact chain_loop _ _ _ _ _ _
theorem s_StewValid_l2 (b : Book) (hb : Small b) (hn : Names b) (K : List C → R) :
    bindBlk 2 (lim (ap5 s_StewValid.d2) (.i 0 :: b.e)) K
      = bif chainOk (fun s => nameOk s.name) (fun s t : Brt => sLt s.name t.name) b.brts then K b.e else some (.ret [.b false]) := by
  have L1 := lim_list (l := b.brts) (S := fun i (_ : Unit) => .i (i : Nat) :: b.e)
    (body := ap5 s_StewValid.d2)
    (fun _ _ => True) (fun i s _ => bif nameOk s.name && prevOk (fun s t => sLt s.name t.name) b.brts i s then .inl () else .inr (.ret [.b false]))
    (fun _ => .brk 2 b.e)
    (fun i _ hi _ => by
      have e1 := s_l18NameOk_eq b.brts[i].name (hn.t _ (List.getElem_mem hi))
      have hs := hb.t
      have w1 : w64 ((i : Int) + 1) = (i : Int) + 1 := w64_of (by omega) (by omega)
      cases i with
      | zero =>
        cases hk : nameOk b.brts[0].name
        all_goals exact ⟨by simp [Book.e, s_StewValid.d2, getD_map_lt Brt.e hi, Brt.e, hi, e1, hk, call1, w64_1, prevOk], trivial⟩
      | succ i =>
        have w2 : w64 (i : Int) = (i : Int) := w64_of (by omega) (by omega)
        have hi' : i < b.brts.length := by omega
        have q1 : (i : Int) + 1 < (b.brts.length : Int) := by omega
        have q2 : (i : Int) < (b.brts.length : Int) := by omega
        have q3 : (0 : Int) < (i : Int) + 1 := by omega
        have q4 : (0 : Int) ≤ (i : Int) + 1 := by omega
        have q5 : ((i : Int) + 1).toNat = i + 1 := by omega
        simp only [prevOk, Nat.add_sub_cancel, List.getElem?_eq_getElem hi']
        simp only [Int.natCast_add, Int.natCast_one] at w1
        cases hk : nameOk b.brts[i + 1].name <;> cases hq : sLt b.brts[i].name b.brts[i + 1].name <;> simp only [sLt] at hq
        all_goals exact ⟨by simp [Book.e, s_StewValid.d2, getD_map_lt Brt.e hi, getD_map_lt Brt.e hi', Brt.e, hi, hi', e1, hk, hq, call1, w1, w2, q1, q2, q3, q4, q5], trivial⟩)
    (fun _ _ => ⟨by simp [Book.e, s_StewValid.d2], trivial⟩) _ 0 () rfl trivial
  simp only [Int.ofNat_zero, List.drop_zero] at L1
  erw [L1]
  exact chain_loop _ _ _ _ _ _
theorem s_StewValid_l3 (b : Book) (hb : Small b) (K : List C → R) :
    bindBlk 4 (lim (ap5 s_StewValid.d3) (.i 0 :: b.e)) K
      = bif chainOk (cpyOk b) cLt b.cpys then K [] else some (.ret [.b false]) := by
  have L1 := lim_list (l := b.cpys) (S := fun i (_ : Unit) => .i (i : Nat) :: b.e)
    (body := ap5 s_StewValid.d3)
    (fun _ _ => True) (fun i s _ => bif cpyOk b s && prevOk cLt b.cpys i s then .inl () else .inr (.ret [.b false]))
    (fun _ => .brk 4 [])
    (fun i _ hi _ => by
      have e1 := s_l18CopyOk_eq b b.cpys[i] hb
      simp only [Book.e, Cpy.e, jA, jB] at e1
      have hs := hb.c
      have w1 : w64 ((i : Int) + 1) = (i : Int) + 1 := w64_of (by omega) (by omega)
      cases i with
      | zero =>
        cases hk : cpyOk b b.cpys[0]
        all_goals exact ⟨by simp [Book.e, s_StewValid.d3, getD_map_lt Cpy.e hi, Cpy.e, hi, e1, hk, call1, w64_1, prevOk], trivial⟩
      | succ i =>
        have w2 : w64 (i : Int) = (i : Int) := w64_of (by omega) (by omega)
        have hi' : i < b.cpys.length := by omega
        have e2 := s_l18Ahead_eq b.cpys[i] b.cpys[i + 1]
        simp only [Cpy.e, jA, jB] at e2
        have q1 : (i : Int) + 1 < (b.cpys.length : Int) := by omega
        have q2 : (i : Int) < (b.cpys.length : Int) := by omega
        have q3 : (0 : Int) < (i : Int) + 1 := by omega
        have q4 : (0 : Int) ≤ (i : Int) + 1 := by omega
        have q5 : ((i : Int) + 1).toNat = i + 1 := by omega
        simp only [prevOk, Nat.add_sub_cancel, List.getElem?_eq_getElem hi']
        simp only [Int.natCast_add, Int.natCast_one] at w1
        cases hk : cpyOk b b.cpys[i + 1] <;> cases hq : cLt b.cpys[i] b.cpys[i + 1]
        all_goals exact ⟨by simp [Book.e, s_StewValid.d3, getD_map_lt Cpy.e hi, getD_map_lt Cpy.e hi', Cpy.e, hi, hi', e1, e2, hk, hq, call1, w1, w2, q1, q2, q3, q4, q5], trivial⟩)
    (fun _ _ => ⟨by simp [Book.e, s_StewValid.d3], trivial⟩) _ 0 () rfl trivial
  simp only [Int.ofNat_zero, List.drop_zero] at L1
  erw [L1]
  exact chain_loop _ _ _ _ _ _
theorem s_StewValid_eq (b : Book) (hb : Small b) (hn : Names b) : s_StewValid b.e = some [.b (validB b)] := by
  have l1 := s_StewValid_l1 b hb hn
  have l2 := s_StewValid_l2 b hb hn
  have l3 := s_StewValid_l3 b hb
  simp only [Book.e] at l1 l2 l3
  simp only [s_StewValid, s_StewValid.d7, Book.e, apL, jC, jD, C.I_i, C.L_l, s_l18In_eq, call1, jI, C.B_b, jW, l1, validB]
  cases within b.now 0 1000000 <;> simp only [jZ, ja, jR, jS, Bool.true_and, Bool.false_and, jV]
  by_cases h1 : b.svcs.length ≤ 8
  · have a1 : decide ((b.svcs.length : Int) > 8) = false := by simp; omega
    simp only [a1, h1, decide_true, ja, jR, Bool.true_and]
    by_cases h2 : b.cpys.length ≤ 200
    · have a2 : decide ((b.cpys.length : Int) > 200) = false := by simp; omega
      simp only [a2, h2, decide_true, ja, jR, Bool.true_and]
      by_cases h3 : b.brts.length ≤ 6
      · have a3 : decide ((b.brts.length : Int) > 6) = false := by simp; omega
        simp only [a3, h3, decide_true, jS, Bool.true_and]
        cases chainOk (fun s => svcOk s b.now) (fun s t => sLt s.name t.name) b.svcs <;> simp only [jR, jS, Bool.true_and, Bool.false_and, jV]
        simp only [s_StewValid.d6, apL, jC, jD, l2]
        cases chainOk (fun s => nameOk s.name) (fun s t : Brt => sLt s.name t.name) b.brts <;> simp only [jR, jS, Bool.true_and, Bool.false_and, jV]
        simp only [s_StewValid.d5, apL, jC, jD, l3]
        cases chainOk (cpyOk b) cLt b.cpys <;> simp [s_StewValid.d4]
      · have a3 : decide ((b.brts.length : Int) > 6) = true := by simp; omega
        simp [a3, h3]
    · have a2 : decide ((b.cpys.length : Int) > 200) = true := by simp; omega
      simp [a2, h2]
  · have a1 : decide ((b.svcs.length : Int) > 8) = true := by simp; omega
    simp [a1, h1]
end Go.Ev
namespace Go.Ev
theorem bytesLess_not : ∀ (a b : List UInt8), (Op.bytesLess a b || a == b) = !Op.bytesLess b a
  | [], [] => by simp [Op.bytesLess]
  | [], _ :: _ => by simp [Op.bytesLess]
  | _ :: _, [] => by simp [Op.bytesLess]
  | x :: a, y :: b => by
    have ih := bytesLess_not a b
    simp only [Op.bytesLess]
    rcases Nat.lt_trichotomy x.toNat y.toNat with h | h | h
    · have h1 : x < y := h
      have h2 : ¬ y < x := fun h' => Nat.lt_asymm h h'
      have h3 : ¬ y = x := fun e => by subst e; exact Nat.lt_irrefl _ h
      simp [h1, h2, h3]
    · have e : x = y := UInt8.toNat_inj.1 h
      subst e
      have : ¬ x < x := Nat.lt_irrefl x.toNat
      simp only [this, decide_false, beq_self_eq_true, Bool.false_or, Bool.true_and]
      simpa using ih
    · have h1 : ¬ x < y := fun h' => Nat.lt_asymm h h'
      have h2 : y < x := h
      have h3 : ¬ x = y := fun e => by subst e; exact Nat.lt_irrefl _ h
      simp [h1, h2, h3]
theorem sLt_not (a b : Str) : (sLt a b || sEq a b) = !sLt b a := bytesLess_not _ _
theorem i_within_eq (a b c : Int) : i_within [.i a, .i b, .i c] = some [.b (within a b c)] := by
  simp only [i_within, i_within.d1, apL, jC, jD, C.I_i, ge_iff_le, within]
  cases decide (b ≤ a) <;> simp
theorem i_isName_eq (s : Str) (hl : s.size < 4611686018427387904) : i_isName [.s s] = some [.b (nameOk s)] := by
  have hsz : s.size = s.data.toList.length := Array.length_toList.symm
  have h := lim_list (l := s.data.toList) (S := fun i (_ : Unit) => [.s s, .i (s.size : Nat), .i (i : Nat)]) (body := ap3 i_isName.d2)
    (fun _ _ => True) (fun i b _ => bif !byteBad b.toNat then .inl () else .inr (.ret [.b false])) (fun _ => .brk 0 [])
    (fun i _ hi _ => by
      have hi' : i < s.size := by omega
      have key : i_isName.d2 (.s s) (.i (s.size : Nat)) (.i i) = i_isName.d1 (.s s) (.i (s.size : Nat)) (.i i) (.b (byteBad s.data.toList[i].toNat)) := by
        simp only [i_isName.d2, C.I_i, C.S_s, jY, arr_getD hi, byteBad]
        generalize ((s.data.toList[i].toNat : Nat) : Int) = m
        have e1 : decide ((i : Int) < (s.size : Int)) = true := by simp; exact hi'
        simp only [e1, jR, jX, decide_true]
        cases decide (m ≥ 97) <;> cases decide (m ≤ 122) <;> cases decide (m ≥ 48) <;> cases decide (m ≤ 57) <;> simp [hi']
      cases hb : byteBad s.data.toList[i].toNat with
      | true => exact ⟨by show i_isName.d2 (.s s) (.i (s.size : Nat)) (.i i) = _; rw [key, hb]; simp [i_isName.d1], trivial⟩
      | false => exact ⟨by show i_isName.d2 (.s s) (.i (s.size : Nat)) (.i i) = _; rw [key, hb]; simp [i_isName.d1, w64_of (n := (i : Int) + 1) (by omega) (by omega)], trivial⟩)
    (fun _ _ => ⟨by show i_isName.d2 (.s s) (.i (s.size : Nat)) (.i (s.data.toList.length : Nat)) = _; rw [← hsz]; simp [i_isName.d2], trivial⟩) _ 0 () rfl trivial
  simp only [Int.ofNat_zero, List.drop_zero] at h
  have all_eq : (s.data.toList.zipIdx 0).all (fun x => !byteBad x.1.toNat) = s.data.toList.all fun b => !byteBad b.toNat := by
    have e : ∀ (l : List UInt8) n, (l.zipIdx n).all (fun x => !byteBad x.1.toNat) = l.all fun b => !byteBad b.toNat := by
      intro l
      induction l with
      | nil => intro n; rfl
      | cons x r ih => intro n; simp [ih]
    exact e _ _
  simp only [i_isName, i_isName.d4, apL, jC, C.S_s]
  have w1 : decide ((s.size : Int) < 1) = !decide (1 ≤ (s.size : Int)) := by
    by_cases h : (s.size : Int) < 1
    · have : ¬ (1 ≤ (s.size : Int)) := by omega
      simp only [h, this, decide_true, decide_false, ja]
    · have : (1 ≤ (s.size : Int)) := by omega
      simp only [h, this, decide_true, decide_false, jZ]
  have w2 : decide ((s.size : Int) > 20) = !decide ((s.size : Int) ≤ 20) := by
    by_cases h : (s.size : Int) > 20
    · have : ¬ ((s.size : Int) ≤ 20) := by omega
      simp only [h, this, decide_true, decide_false, ja]
    · have : ((s.size : Int) ≤ 20) := by omega
      simp only [h, this, decide_true, decide_false, jZ]
  rw [w1, w2]
  simp only [nameOk, within]
  cases decide (1 ≤ (s.size : Int)) <;> simp only [Bool.not_not, jZ, ja, jR, jS, Bool.true_and, Bool.false_and, jV]
  cases decide ((s.size : Int) ≤ 20) <;> simp only [jZ, ja, jR, jS, Bool.true_and, Bool.false_and, jV]
  erw [h, loopL_all, all_eq]
  cases (s.data.toList.all fun b => !byteBad b.toNat) <;> simp [i_isName.d3]
theorem i_serviceOk_eq (s : Svc) (now : Int) (hl : s.name.size < 4611686018427387904) : i_serviceOk (s.e ++ [.i now]) = some [.b (svcOk s now)] := by
  simp only [i_serviceOk, i_serviceOk.d1, Svc.e, jA, jB, apL, jC, jD, i_isName_eq s.name hl, i_within_eq, call1, jI, C.B_b, C.I_i, svcOk]
  cases nameOk s.name <;> simp only [jZ, ja, jR, jS, Bool.true_and, Bool.false_and, jV]
  cases within s.ver 1 now <;> simp only [jZ, ja, jR, jS, Bool.true_and, Bool.false_and, jV]
  cases within s.image 1 1000000 <;> simp only [jZ, ja, jR, jS, Bool.true_and, Bool.false_and, jV]
  cases within s.next 1 1000000 <;> simp only [jZ, ja, jR, jS, Bool.true_and, Bool.false_and, jV]
  cases within s.want 0 10 <;> simp only [jZ, ja, jR, jS, Bool.true_and, Bool.false_and, jV]
  cases within s.down 0 10 <;> simp only [jZ, ja, jR, jS, Bool.true_and, Bool.false_and, jV]
  cases within s.over 0 10 <;> simp only [jZ, ja, jR, jS, Bool.true_and, Bool.false_and, jV]
  cases (w64 (s.down + s.over) == 0) <;> simp only [jZ, ja, jR, jS, Bool.true_and, Bool.false_and, jV]
  by_cases hp : s.per = 0
  · rw [hp]
    have e1 : within 0 0 1000000 = true := by decide
    simp only [e1, beq_self_eq_true, jR, jZ, ja]
    by_cases h1 : s.load = 0
    · by_cases h2 : s.least = 0
      · by_cases h3 : s.most = 0
        · by_cases h4 : s.cool = 0
          · rw [h1, h2, h3, h4]; rfl
          · have : (s.cool == 0) = false := by simp [h4]
            rw [h1, h2, h3, this]
            cases within s.cool 0 3 <;> rfl
        · have : (s.most == 0) = false := by simp [h3]
          rw [h1, h2, this]
          cases within s.most 0 10 <;> cases decide ((0 : Int) > s.most) <;> cases within s.cool 0 3 <;> rfl
      · have : (s.least == 0) = false := by simp [h2]
        rw [h1, this]
        cases within s.least 0 10 <;> cases within s.most 0 10 <;> cases decide (s.least > s.most) <;> cases within s.cool 0 3 <;> rfl
    · have : (s.load == 0) = false := by simp [h1]
      rw [this]
      cases within s.load 0 1000000 <;> cases within s.least 0 10 <;> cases within s.most 0 10 <;> cases decide (s.least > s.most) <;> cases within s.cool 0 3 <;> cases s.least == 0 <;> cases s.most == 0 <;> rfl
  · have e1 : (s.per == 0) = false := by simp [hp]
    simp only [e1, jS]
    by_cases hq : s.per > 0
    · have e2 : decide (s.per > 0) = true := by simp [hq]
      rw [e2]
      have e3 : within s.most s.least 10 = (within s.most s.least 10) := rfl
      by_cases h1 : within s.least 0 10 = true
      · by_cases h2 : s.least > s.most
        · have a1 : decide (s.least > s.most) = true := by simp [h2]
          have a2 : within s.most s.least 10 = false := by simp only [within, Bool.and_eq_false_iff, decide_eq_false_iff_not]; omega
          rw [a1, a2, h1]
          cases within s.per 0 1000000 <;> cases within s.load 0 1000000 <;> cases within s.most 0 10 <;> rfl
        · have a1 : decide (s.least > s.most) = false := by simp; omega
          have a2 : within s.most s.least 10 = within s.most 0 10 := by
            simp only [within, Bool.and_eq_true, decide_eq_true_eq] at h1 ⊢
            have b1 : s.least ≤ s.most := by omega
            have b2 : (0 : Int) ≤ s.most := by omega
            simp [b1, b2]
          rw [a1, a2, h1]
          cases within s.per 0 1000000 <;> cases within s.load 0 1000000 <;> cases within s.most 0 10 <;> cases within s.cool 0 3 <;> rfl
      · have h1' : within s.least 0 10 = false := by simpa using h1
        rw [h1']
        cases within s.per 0 1000000 <;> cases within s.load 0 1000000 <;> rfl
    · have e2 : within s.per 0 1000000 = false := by simp only [within, Bool.and_eq_false_iff, decide_eq_false_iff_not]; omega
      rw [e2]; rfl
end Go.Ev
namespace Go.Ev
def rowP {α : Type} (e : α → List C) : Option α → C
  | none => .nil
  | some x => .p (e x)
@[simp] theorem rowP_none {α : Type} (e : α → List C) : rowP e none = .nil := rfl
@[simp] theorem rowP_some {α : Type} (e : α → List C) (x : α) : rowP e (some x) = .p (e x) := rfl
theorem loopL_findP {α : Type} (p : α → Bool) (b : Nat) (ex : α → List C) (ys : List C) (K : List C → R) (hK : K ys = some (.ret (.nil :: ys))) : ∀ (l : List α) (n : Nat),
    bindBlk b (some (loopL (fun i s (_ : Unit) => bif p s then .inr (.ret (.p (ex s) :: ys)) else .inl ()) (fun _ => .brk b ys) l n ())) K = some (.ret (rowP ex (l.find? p) :: ys))
  | [], n => by simp [loopL, hK]
  | x :: r, n => by
    have ih := loopL_findP p b ex ys K hK r (n + 1)
    cases hx : p x <;> simp [loopL, hx, ih]
theorem i_service_eq (b : Book) (nm : Str) (hb : Small b) : i_StewBook_service (.s nm :: b.e) = some (rowP Svc.e (svcOf b nm) :: b.e) := by
  have hl := hb.s
  have h := lim_list (l := b.svcs) (S := fun i (_ : Unit) => .s nm :: .i (b.svcs.length : Nat) :: .i (i : Nat) :: b.e)
    (body := ap7 i_StewBook_service.d1)
    (fun _ _ => True) (fun i s _ => bif sEq s.name nm then .inr (.ret (.p s.e :: b.e)) else .inl ()) (fun _ => .brk 0 b.e)
    (fun i _ hi _ => by
      cases hs : sEq b.svcs[i].name nm <;> simp only [sEq] at hs
      · exact ⟨by simp [Book.e, i_StewBook_service.d1, getD_map_lt Svc.e hi, Svc.e, hs, hi, w64_of (n := (i : Int) + 1) (by omega) (by omega)], trivial⟩
      · exact ⟨by simp [Book.e, i_StewBook_service.d1, getD_map_lt Svc.e hi, Svc.e, hs, hi], trivial⟩)
    (fun _ _ => ⟨by simp [Book.e, i_StewBook_service.d1], trivial⟩) _ 0 () rfl trivial
  simp only [Int.ofNat_zero, List.drop_zero] at h
  simp only [Book.e] at h
  simp only [i_StewBook_service, i_StewBook_service.d3, Book.e, apL, jC, jD, C.L_l, jW]
  erw [h]
  rw [loopL_findP _ _ _ _ _ (by rfl)]
  rfl
theorem i_berth_eq (b : Book) (nm : Str) (hb : Small b) : i_StewBook_berth (.s nm :: b.e) = some (rowP Brt.e (brtOf b nm) :: b.e) := by
  have hl := hb.t
  have h := lim_list (l := b.brts) (S := fun i (_ : Unit) => .s nm :: .i (b.brts.length : Nat) :: .i (i : Nat) :: b.e)
    (body := ap7 i_StewBook_berth.d1)
    (fun _ _ => True) (fun i s _ => bif sEq s.name nm then .inr (.ret (.p s.e :: b.e)) else .inl ()) (fun _ => .brk 0 b.e)
    (fun i _ hi _ => by
      cases hs : sEq b.brts[i].name nm <;> simp only [sEq] at hs
      · exact ⟨by simp [Book.e, i_StewBook_berth.d1, getD_map_lt Brt.e hi, Brt.e, hs, hi, w64_of (n := (i : Int) + 1) (by omega) (by omega)], trivial⟩
      · exact ⟨by simp [Book.e, i_StewBook_berth.d1, getD_map_lt Brt.e hi, Brt.e, hs, hi], trivial⟩)
    (fun _ _ => ⟨by simp [Book.e, i_StewBook_berth.d1], trivial⟩) _ 0 () rfl trivial
  simp only [Int.ofNat_zero, List.drop_zero] at h
  simp only [Book.e] at h
  simp only [i_StewBook_berth, i_StewBook_berth.d3, Book.e, apL, jC, jD, C.L_l, jW]
  erw [h]
  rw [loopL_findP _ _ _ _ _ (by rfl)]
  rfl
theorem bytesLess_irrefl (a : List UInt8) : Op.bytesLess a a = false := by
  have := bytesLess_not a a
  cases h : Op.bytesLess a a <;> simp [h] at this ⊢
theorem i_StewValid_l1 (b : Book) (hb : Small b) (hn : Names b) (K : List C → R) :
    bindBlk 0 (lim (ap7 i_StewValid.d1) (.l (b.svcs.map Svc.e) :: .i (b.svcs.length : Nat) :: .i 0 :: b.e)) K
      = bif chainOk (fun s => svcOk s b.now) (fun s t => sLt s.name t.name) b.svcs then K b.e else some (.ret [.b false]) := by
  have L1 := lim_list (l := b.svcs) (S := fun i (_ : Unit) => .l (b.svcs.map Svc.e) :: .i (b.svcs.length : Nat) :: .i (i : Nat) :: b.e)
    (body := ap7 i_StewValid.d1)
    (fun _ _ => True) (fun i s _ => bif svcOk s b.now && prevOk (fun s t => sLt s.name t.name) b.svcs i s then .inl () else .inr (.ret [.b false]))
    (fun _ => .brk 0 b.e)
    (fun i _ hi _ => by
      have e1 := i_serviceOk_eq b.svcs[i] b.now (hn.s _ (List.getElem_mem hi))
      simp only [Svc.e, jA, jB] at e1
      have hs := hb.s
      have w1 : w64 ((i : Int) + 1) = (i : Int) + 1 := w64_of (by omega) (by omega)
      cases i with
      | zero =>
        cases hk : svcOk b.svcs[0] b.now
        all_goals exact ⟨by simp [Book.e, i_StewValid.d1, getD_map_lt Svc.e hi, Svc.e, hi, e1, hk, call1, w64_1, prevOk], trivial⟩
      | succ i =>
        have w2 : w64 (i : Int) = (i : Int) := w64_of (by omega) (by omega)
        have hi' : i < b.svcs.length := by omega
        have q1 : (i : Int) + 1 < (b.svcs.length : Int) := by omega
        have q2 : (i : Int) < (b.svcs.length : Int) := by omega
        have q3 : (0 : Int) < (i : Int) + 1 := by omega
        have q4 : (0 : Int) ≤ (i : Int) + 1 := by omega
        have q5 : ((i : Int) + 1).toNat = i + 1 := by omega
        simp only [prevOk, Nat.add_sub_cancel, List.getElem?_eq_getElem hi']
        simp only [Int.natCast_add, Int.natCast_one] at w1
        cases hk : svcOk b.svcs[i + 1] b.now <;> cases hq : sLt b.svcs[i].name b.svcs[i + 1].name <;> simp only [sLt] at hq
        all_goals exact ⟨by simp [Book.e, i_StewValid.d1, bytesLess_not, getD_map_lt Svc.e hi, getD_map_lt Svc.e hi', Svc.e, hi, hi', e1, hk, hq, call1, w1, w2, q1, q2, q3, q4, q5], trivial⟩)
    (fun _ _ => ⟨by simp [Book.e, i_StewValid.d1], trivial⟩) _ 0 () rfl trivial
  simp only [Int.ofNat_zero, List.drop_zero] at L1
  erw [L1]
  exact chain_loop _ _ _ _ _ _
theorem i_StewValid_l2 (b : Book) (hb : Small b) (hn : Names b) (K : List C → R) :
    bindBlk 2 (lim (ap7 i_StewValid.d2) (.l (b.brts.map Brt.e) :: .i (b.brts.length : Nat) :: .i 0 :: b.e)) K
      = bif chainOk (fun s => nameOk s.name) (fun s t : Brt => sLt s.name t.name) b.brts then K b.e else some (.ret [.b false]) := by
  have L1 := lim_list (l := b.brts) (S := fun i (_ : Unit) => .l (b.brts.map Brt.e) :: .i (b.brts.length : Nat) :: .i (i : Nat) :: b.e)
    (body := ap7 i_StewValid.d2)
    (fun _ _ => True) (fun i s _ => bif nameOk s.name && prevOk (fun s t => sLt s.name t.name) b.brts i s then .inl () else .inr (.ret [.b false]))
    (fun _ => .brk 2 b.e)
    (fun i _ hi _ => by
      have e1 := i_isName_eq b.brts[i].name (hn.t _ (List.getElem_mem hi))
      have hs := hb.t
      have w1 : w64 ((i : Int) + 1) = (i : Int) + 1 := w64_of (by omega) (by omega)
      cases i with
      | zero =>
        cases hk : nameOk b.brts[0].name
        all_goals exact ⟨by simp [Book.e, i_StewValid.d2, getD_map_lt Brt.e hi, Brt.e, hi, e1, hk, call1, w64_1, prevOk], trivial⟩
      | succ i =>
        have w2 : w64 (i : Int) = (i : Int) := w64_of (by omega) (by omega)
        have hi' : i < b.brts.length := by omega
        have q1 : (i : Int) + 1 < (b.brts.length : Int) := by omega
        have q2 : (i : Int) < (b.brts.length : Int) := by omega
        have q3 : (0 : Int) < (i : Int) + 1 := by omega
        have q4 : (0 : Int) ≤ (i : Int) + 1 := by omega
        have q5 : ((i : Int) + 1).toNat = i + 1 := by omega
        simp only [prevOk, Nat.add_sub_cancel, List.getElem?_eq_getElem hi']
        simp only [Int.natCast_add, Int.natCast_one] at w1
        cases hk : nameOk b.brts[i + 1].name <;> cases hq : sLt b.brts[i].name b.brts[i + 1].name <;> simp only [sLt] at hq
        all_goals exact ⟨by simp [Book.e, i_StewValid.d2, bytesLess_not, getD_map_lt Brt.e hi, getD_map_lt Brt.e hi', Brt.e, hi, hi', e1, hk, hq, call1, w1, w2, q1, q2, q3, q4, q5], trivial⟩)
    (fun _ _ => ⟨by simp [Book.e, i_StewValid.d2], trivial⟩) _ 0 () rfl trivial
  simp only [Int.ofNat_zero, List.drop_zero] at L1
  erw [L1]
  exact chain_loop _ _ _ _ _ _
theorem i_StewValid_l4 (b : Book) (hb : Small b) (K : List C → R) :
    bindBlk 4 (lim (ap7 i_StewValid.d4) (.l (b.cpys.map Cpy.e) :: .i (b.cpys.length : Nat) :: .i 0 :: b.e)) K
      = bif chainOk (cpyOk b) cLt b.cpys then K [] else some (.ret [.b false]) := by
  have L1 := lim_list (l := b.cpys) (S := fun i (_ : Unit) => .l (b.cpys.map Cpy.e) :: .i (b.cpys.length : Nat) :: .i (i : Nat) :: b.e)
    (body := ap7 i_StewValid.d4)
    (fun _ _ => True) (fun i s _ => bif cpyOk b s && prevOk cLt b.cpys i s then .inl () else .inr (.ret [.b false]))
    (fun _ => .brk 4 [])
    (fun i _ hi _ => by
      have e1 := i_service_eq b b.cpys[i].svc hb
      have e2 := i_berth_eq b b.cpys[i].berth hb
      have hs := hb.c
      have w1 : w64 ((i : Int) + 1) = (i : Int) + 1 := w64_of (by omega) (by omega)
      have d3 : ∀ v : Bool, i_StewValid.d3 (.i i) (.l (b.cpys.map Cpy.e)) (.i (b.cpys.length : Nat)) (.i i) (.b v) (.i b.now) (.l (b.svcs.map Svc.e)) (.l (b.cpys.map Cpy.e)) (.l (b.brts.map Brt.e))
          (.s b.cpys[i].svc) (.i b.cpys[i].num) (.i b.cpys[i].ver) (.i b.cpys[i].image) (.i b.cpys[i].state) (.b b.cpys[i].ending) (.s b.cpys[i].berth)
          = bif !v && prevOk cLt b.cpys i b.cpys[i] then some (.again (.l (b.cpys.map Cpy.e) :: .i (b.cpys.length : Nat) :: .i ((i + 1 : Nat) : Int) :: b.e)) else some (.ret [.b false]) := by
        intro v
        cases v with
        | true => simp [i_StewValid.d3]
        | false =>
          cases i with
          | zero => simp [i_StewValid.d3, prevOk, w64_1, Book.e]
          | succ i =>
            have w2 : w64 (i : Int) = (i : Int) := w64_of (by omega) (by omega)
            have hi' : i < b.cpys.length := by omega
            have q2 : (i : Int) < (b.cpys.length : Int) := by omega
            have q3 : (0 : Int) < (i : Int) + 1 := by omega
            simp only [Int.natCast_add, Int.natCast_one] at w1
            simp only [prevOk, Nat.add_sub_cancel, List.getElem?_eq_getElem hi', cLt, sLt, sEq]
            have tri := bytesLess_not b.cpys[i + 1].svc.toList b.cpys[i].svc.toList
            cases hL : Op.bytesLess b.cpys[i + 1].svc.toList b.cpys[i].svc.toList
            · rw [hL, Bool.false_or] at tri
              by_cases hE : b.cpys[i + 1].svc.toList = b.cpys[i].svc.toList
              · have hG := bytesLess_irrefl b.cpys[i].svc.toList
                by_cases hn : b.cpys[i + 1].num ≤ b.cpys[i].num
                · have hn' : ¬ b.cpys[i].num < b.cpys[i + 1].num := by omega
                  simp [i_StewValid.d3, getD_map_lt Cpy.e hi', Cpy.e, hi', hL, hE, hG, hn, hn', w1, w2, q2, q3, Book.e]
                · have hn' : b.cpys[i].num < b.cpys[i + 1].num := by omega
                  simp [i_StewValid.d3, getD_map_lt Cpy.e hi', Cpy.e, hi', hL, hE, hG, hn, hn', w1, w2, q2, q3, Book.e]
              · have hE' : (b.cpys[i + 1].svc.toList == b.cpys[i].svc.toList) = false := by simp [hE]
                have hG : Op.bytesLess b.cpys[i].svc.toList b.cpys[i + 1].svc.toList = true := by rw [hE'] at tri; simpa using tri.symm
                simp [i_StewValid.d3, getD_map_lt Cpy.e hi', Cpy.e, hi', hL, hE', hG, w1, w2, q2, q3, Book.e]
            · rw [hL, Bool.true_or] at tri
              have hG : Op.bytesLess b.cpys[i].svc.toList b.cpys[i + 1].svc.toList = false := by simpa using tri.symm
              have hE : ¬ b.cpys[i].svc.toList = b.cpys[i + 1].svc.toList := by
                intro e; rw [e, bytesLess_irrefl] at hL; simp at hL
              have hE' : (b.cpys[i].svc.toList == b.cpys[i + 1].svc.toList) = false := by simp [hE]
              simp [i_StewValid.d3, getD_map_lt Cpy.e hi', Cpy.e, hi', hL, hE', hG, w1, w2, q2, q3, Book.e]
      have hlt : (i : Int) < (b.cpys.length : Int) := by omega
      have body : i_StewValid.d4 (.l (b.cpys.map Cpy.e)) (.i (b.cpys.length : Nat)) (.i i) (.i b.now) (.l (b.svcs.map Svc.e)) (.l (b.cpys.map Cpy.e)) (.l (b.brts.map Brt.e))
          = bif cpyOk b b.cpys[i] && prevOk cLt b.cpys i b.cpys[i] then some (.again (.l (b.cpys.map Cpy.e) :: .i (b.cpys.length : Nat) :: .i ((i + 1 : Nat) : Int) :: b.e)) else some (.ret [.b false]) := by
        simp only [Book.e] at e1 e2
        simp only [i_StewValid.d4, C.I_i, C.L_l, jW, jY, getD_map_lt Cpy.e hi, Cpy.e, apL, jC, jD, C.S_s, C.B_b, hlt, decide_true, jR, jX, e1, e2, call5, call1, jI, i_within_eq, cpyOk]
        cases hsv : svcOf b b.cpys[i].svc with
        | none => simp
        | some s =>
          simp only [rowP_some, C.isP_p, jZ, ja, jR, C.P_p, Svc.e, apL, jC, jD, C.I_i, i_within_eq, jI, C.B_b]
          cases within b.cpys[i].num 1 (w64 (s.next - 1)) <;> simp only [jZ, ja, jR, jS, Bool.true_and, Bool.false_and]
          cases within b.cpys[i].ver 1 b.now <;> simp only [jZ, ja, jR, jS, Bool.true_and, Bool.false_and]
          cases within b.cpys[i].image 1 1000000 <;> simp only [jZ, ja, jR, jS, Bool.true_and, Bool.false_and]
          cases within b.cpys[i].state 1 4 <;> simp only [jZ, ja, jR, jS, Bool.true_and, Bool.false_and]
          have hp : (rowP Brt.e (brtOf b b.cpys[i].berth)).isP = (brtOf b b.cpys[i].berth).isSome := by cases brtOf b b.cpys[i].berth <;> rfl
          cases hst : b.cpys[i].state == 1
          · have hst' : (b.cpys[i].state != 1) = true := by simp [bne, hst]
            simp only [hst', jR, jS, jJ, apL, jC, jD, d3, hp, Bool.not_not]
          · have hst' : (b.cpys[i].state != 1) = false := by simp [bne, hst]
            simp only [hst', jR, jS, sEq]
            cases b.cpys[i].berth.toList == (bs #[]).toList <;> simp only [jZ, ja, jR, jS, jJ, apL, jC, jD, d3, Bool.true_and, Bool.false_and, Bool.not_not]
      cases hk : (cpyOk b b.cpys[i] && prevOk cLt b.cpys i b.cpys[i])
      · exact ⟨by rw [hk, jS] at body; exact body, trivial⟩
      · exact ⟨by rw [hk, jR] at body; exact body, trivial⟩)
    (fun _ _ => ⟨by simp [Book.e, i_StewValid.d4], trivial⟩) _ 0 () rfl trivial
  simp only [Int.ofNat_zero, List.drop_zero] at L1
  erw [L1]
  exact chain_loop _ _ _ _ _ _
end Go.Ev
namespace Go.Ev
theorem i_StewValid_eq (b : Book) (hb : Small b) (hn : Names b) : i_StewValid b.e = some [.b (validB b)] := by
  have l1 := i_StewValid_l1 b hb hn
  have l2 := i_StewValid_l2 b hb hn
  have l3 := i_StewValid_l4 b hb
  simp only [Book.e] at l1 l2 l3
  simp only [i_StewValid, i_StewValid.d8, Book.e, apL, jC, jD, C.I_i, C.L_l, i_within_eq, call1, jI, C.B_b, jW, l1, validB]
  cases within b.now 0 1000000 <;> simp only [jZ, ja, jR, jS, Bool.true_and, Bool.false_and, jV]
  by_cases h1 : b.svcs.length ≤ 8
  · have a1 : decide ((b.svcs.length : Int) > 8) = false := by simp; omega
    simp only [a1, h1, decide_true, ja, jR, Bool.true_and]
    by_cases h2 : b.cpys.length ≤ 200
    · have a2 : decide ((b.cpys.length : Int) > 200) = false := by simp; omega
      simp only [a2, h2, decide_true, ja, jR, Bool.true_and]
      by_cases h3 : b.brts.length ≤ 6
      · have a3 : decide ((b.brts.length : Int) > 6) = false := by simp; omega
        simp only [a3, h3, decide_true, jS, Bool.true_and]
        cases chainOk (fun s => svcOk s b.now) (fun s t => sLt s.name t.name) b.svcs <;> simp only [jR, jS, Bool.true_and, Bool.false_and, jV]
        simp only [i_StewValid.d7, apL, jC, jD, C.L_l, jW, l2]
        cases chainOk (fun s => nameOk s.name) (fun s t : Brt => sLt s.name t.name) b.brts <;> simp only [jR, jS, Bool.true_and, Bool.false_and, jV]
        simp only [i_StewValid.d6, apL, jC, jD, C.L_l, jW, l3]
        cases chainOk (cpyOk b) cLt b.cpys <;> simp [i_StewValid.d5]
      · have a3 : decide ((b.brts.length : Int) > 6) = true := by simp; omega
        simp [a3, h3]
    · have a2 : decide ((b.cpys.length : Int) > 200) = true := by simp; omega
      simp [a2, h2]
  · have a1 : decide ((b.svcs.length : Int) > 8) = true := by simp; omega
    simp [a1, h1]
end Go.Ev
namespace Go.Ev
theorem lim_ex {σ : Type} {body : List C → R} (S : σ → List C) (m : σ → Nat) (Inv : σ → Prop) (Post : Out → Prop)
    (h : ∀ a, Inv a → (∃ b, body (S a) = some (.again (S b)) ∧ Inv b ∧ m b < m a) ∨ ∃ o, body (S a) = some o ∧ o.stops ∧ Post o) :
    ∀ (n : Nat) (a : σ), m a < n → Inv a → ∃ o, lim body (S a) = some o ∧ Post o
  | 0, a, hn, _ => by omega
  | n + 1, a, hn, ha => by
    rcases h a ha with ⟨b, h1, h2, h3⟩ | ⟨o, h1, h2, h3⟩
    · obtain ⟨o, q1, q2⟩ := lim_ex S m Inv Post h n b (by omega) h2
      exact ⟨o, by rw [lim_again h1]; exact q1, q2⟩
    · exact ⟨o, lim_stop h1 h2, h3⟩
theorem lim_exs {σ : Type} {body : List C → R} (S : σ → List C) (m : σ → Nat) (Inv : σ → Prop) (Post : Out → Prop) (a : σ) (ha : Inv a)
    (h : ∀ a, Inv a → (∃ b, body (S a) = some (.again (S b)) ∧ Inv b ∧ m b < m a) ∨ ∃ o, body (S a) = some o ∧ o.stops ∧ Post o) : ∃ o, lim body (S a) = some o ∧ Post o :=
  lim_ex S m Inv Post h (m a + 1) a (by omega) ha
theorem s_l18Book_eq (b : Book) (h1 : b.svcs.length ≤ 4294967296) (h2 : b.cpys.length ≤ 4294967296) (h3 : b.brts.length ≤ 4294967296) : s_l18Book b.e = some b.e := by
  simp [s_l18Book, s_l18Book.d1, Book.e, h1, h2, h3]
theorem s_l18Book_v1_eq (b : Book) (h1 : b.svcs.length ≤ 4294967296) (h2 : b.cpys.length ≤ 4294967296) (h3 : b.brts.length ≤ 4294967296) : s_l18Book_v1 b.e = some b.e := by
  simp [s_l18Book_v1, s_l18Book_v1.d1, Book.e, h1, h2, h3]
structure Fit (b : Book) : Prop where
  s : b.svcs.length ≤ 4294967296
  c : b.cpys.length ≤ 4294967296
  t : b.brts.length ≤ 4294967296
theorem Fit.small {b : Book} (h : Fit b) : Small b := ⟨by have := h.s; omega, by have := h.c; omega, by have := h.t; omega⟩
structure Wrd (b : Book) : Prop extends Names b where
  c : ∀ c, c ∈ b.cpys → c.svc.size < 4611686018427387904 ∧ c.berth.size < 4611686018427387904
theorem s_l23Least_ex (b : Book) (hb : Fit b) : ∃ s : Str, s_l23Least b.e = some [.s s] ∧ (s = bs #[] ∨ ∃ t, t ∈ b.brts ∧ s = t.name) := by
  have ht := hb.t
  have hc := hb.c
  have inner : ∀ (best : Str) (least : Int) (i : Nat) (hi : i < b.brts.length), ∃ o, lim (ap9 s_l23Least.d1) (.s best :: .i least :: .i (i : Nat) :: .i 0 :: .i 0 :: b.e) = some o ∧
      ∃ n : Int, o = .brk 2 (.s best :: .i least :: .i (i : Nat) :: .i n :: b.e) := by
    intro best least i hi
    refine lim_exs (fun a : Int × Nat => .s best :: .i least :: .i (i : Nat) :: .i a.1 :: .i (a.2 : Nat) :: b.e) (fun a => b.cpys.length - a.2) (fun a => a.2 ≤ b.cpys.length) _ (0, 0) (Nat.zero_le _) ?_
    rintro ⟨n, k⟩ hk
    simp only at hk
    have q1 : (i : Int) < (b.brts.length : Int) := by omega
    have w1 : w64 ((k : Int) + 1) = (k : Int) + 1 := w64_of (by omega) (by omega)
    by_cases hlt : k < b.cpys.length
    · left
      cases he : (b.cpys[k].berth.toList == b.brts[i].name.toList)
      · exact ⟨(n, k + 1), by simp [s_l23Least.d1, Book.e, getD_map_lt Cpy.e hlt, getD_map_lt Brt.e hi, Cpy.e, Brt.e, hlt, hi, he, w1], Nat.succ_le_of_lt hlt, by simp only; omega⟩
      · exact ⟨(w64 (n + 1), k + 1), by simp [s_l23Least.d1, Book.e, getD_map_lt Cpy.e hlt, getD_map_lt Brt.e hi, Cpy.e, Brt.e, hlt, hi, he, w1], Nat.succ_le_of_lt hlt, by simp only; omega⟩
    · right
      have : k = b.cpys.length := by omega
      subst this
      exact ⟨.brk 2 (.s best :: .i least :: .i (i : Nat) :: .i n :: b.e), by simp [s_l23Least.d1, Book.e], trivial, n, rfl⟩
  have outer : ∃ o, lim (ap7 s_l23Least.d4) (.s (bs #[]) :: .i 0 :: .i 0 :: b.e) = some o ∧
      ∃ s : Str, o = .brk 0 [.s s] ∧ (s = bs #[] ∨ ∃ t, t ∈ b.brts ∧ s = t.name) := by
    refine lim_exs (fun a : Str × Int × Nat => .s a.1 :: .i a.2.1 :: .i (a.2.2 : Nat) :: b.e) (fun a => b.brts.length - a.2.2) (fun a => a.2.2 ≤ b.brts.length ∧ (a.1 = bs #[] ∨ ∃ t, t ∈ b.brts ∧ a.1 = t.name)) _ (bs #[], 0, 0) ⟨Nat.zero_le _, .inl rfl⟩ ?_
    rintro ⟨best, least, i⟩ ⟨hi, hbest⟩
    simp only at hi hbest
    have w1 : w64 ((i : Int) + 1) = (i : Int) + 1 := w64_of (by omega) (by omega)
    by_cases hlt : i < b.brts.length
    · left
      obtain ⟨o, h1, n, rfl⟩ := inner best least i hlt
      simp only [Book.e] at h1
      have step : ∃ best' least', s_l23Least.d4 (.s best) (.i least) (.i (i : Nat)) (.i b.now) (.l (b.svcs.map Svc.e)) (.l (b.cpys.map Cpy.e)) (.l (b.brts.map Brt.e)) = some (.again (.s best' :: .i least' :: .i ((i + 1 : Nat) : Int) :: b.e)) ∧ (best' = bs #[] ∨ ∃ t, t ∈ b.brts ∧ best' = t.name) := by
        have hd : decide ((i : Int) < (b.brts.length : Int)) = true := by simp [hlt]
        have keep : ∀ v : Bool, ∃ best' least', s_l23Least.d2 (.s best) (.i least) (.i (i : Nat)) (.i n) (.b v) (.i b.now) (.l (b.svcs.map Svc.e)) (.l (b.cpys.map Cpy.e)) (.l (b.brts.map Brt.e)) = some (.again (.s best' :: .i least' :: .i ((i + 1 : Nat) : Int) :: b.e)) ∧ (best' = bs #[] ∨ ∃ t, t ∈ b.brts ∧ best' = t.name) := by
          intro v
          cases v with
          | true => exact ⟨b.brts[i].name, n, by simp [s_l23Least.d2, getD_map_lt Brt.e hlt, Brt.e, hlt, w1, Book.e], .inr ⟨_, List.getElem_mem hlt, rfl⟩⟩
          | false => exact ⟨best, least, by simp [s_l23Least.d2, w1, Book.e], hbest⟩
        simp only [s_l23Least.d4, C.I_i, C.L_l, jW, hd, jR]
        rw [h1]
        simp only [bindBlk_self, apL, jC, jD, s_l23Least.d3, C.I_i, C.L_l, jW, jY, getD_map_lt Brt.e hlt, Brt.e, C.B_b, C.S_s, hd, jX, decide_true, jR]
        cases !b.brts[i].drain <;> simp only [jR, jS, jJ, apL, jC, jD]
        · exact keep _
        · cases !(best.toList == (bs #[]).toList) <;> simp only [jR, jS, jJ, apL, jC, jD]
          · exact keep _
          · exact keep _
      obtain ⟨best', least', h2, h3⟩ := step
      exact ⟨(best', least', i + 1), h2, ⟨Nat.succ_le_of_lt hlt, h3⟩, by simp only; omega⟩
    · right
      have : i = b.brts.length := by omega
      subst this
      exact ⟨.brk 0 [.s best], by simp [s_l23Least.d4, Book.e], trivial, best, rfl, hbest⟩
  obtain ⟨o, h1, s, rfl, h2⟩ := outer
  simp only [Book.e] at h1
  refine ⟨s, ?_, h2⟩
  simp only [s_l23Least, s_l23Least.d6, Book.e, apL, jC, jD]
  rw [h1]
  rfl
end Go.Ev
namespace Go.Ev
def Wc (c : Cpy) : Prop := c.svc.size < 4611686018427387904 ∧ c.berth.size < 4611686018427387904
theorem set_cpy (cs : List Cpy) (i : Nat) (c : Cpy) : (cs.map Cpy.e).set i c.e = (cs.set i c).map Cpy.e := List.map_set.symm
theorem setCs_state (c : Cpy) (n : Int) : setCs c.e 4 [.i n] = ({ c with state := n } : Cpy).e := rfl
theorem setCs_ver (c : Cpy) (n : Int) : setCs c.e 2 [.i n] = ({ c with ver := n } : Cpy).e := rfl
theorem setCs_berth (c : Cpy) (s : Str) : setCs c.e 6 [.s s] = ({ c with berth := s } : Cpy).e := rfl
theorem setCs_ending (c : Cpy) (v : Bool) : setCs c.e 5 [.b v] = ({ c with ending := v } : Cpy).e := rfl
theorem size_empty : (bs #[]).size = 0 := rfl
theorem s_l23Tick_ex (b : Book) (v : Int) (hb : Fit b) (hw : Wrd b) : ∃ cs : List Cpy, s_l23Tick (b.e ++ [.i v]) = some [.i b.now, .l (b.svcs.map Svc.e), .l (b.brts.map Brt.e), .l (cs.map Cpy.e)] ∧ cs.length ≤ b.cpys.length ∧ ∀ c, c ∈ cs → Wc c := by
  have hc := hb.c
  have L1 : ∃ o, lim (ap11 s_l23Tick.d2) (.i v :: .i 0 :: b.e ++ [.i 0, .l [], .l [], .l [], .l []]) = some o ∧
      ∃ cs : List Cpy, o = .brk 0 (.i v :: b.e ++ [.i 0, .l (cs.map Cpy.e), .l [], .l [], .l []]) ∧ cs.length ≤ b.cpys.length ∧ ∀ c, c ∈ cs → Wc c := by
    refine lim_exs (fun a : List Cpy × Nat => .i v :: .i (a.2 : Nat) :: b.e ++ [.i 0, .l (a.1.map Cpy.e), .l [], .l [], .l []]) (fun a => b.cpys.length - a.2) (fun a => a.2 ≤ b.cpys.length ∧ a.1.length ≤ a.2 ∧ ∀ c, c ∈ a.1 → Wc c) _ ([], 0) ⟨Nat.zero_le _, Nat.zero_le _, by simp⟩ ?_
    rintro ⟨cs, i⟩ ⟨hi, hcs, hcw⟩
    simp only at hi hcs hcw
    have w1 : w64 ((i : Int) + 1) = (i : Int) + 1 := w64_of (by omega) (by omega)
    by_cases hlt : i < b.cpys.length
    · left
      have hwi := hw.c _ (List.getElem_mem hlt)
      have q1 : cs.length + 1 ≤ 4294967296 := by omega
      cases he : b.cpys[i].ending
      · by_cases hs : b.cpys[i].state = 2
        · refine ⟨(cs ++ [{ b.cpys[i] with state := 3, ver := v }], i + 1), ?_, ⟨Nat.succ_le_of_lt hlt, by simpa using hcs, fun c hc => ?_⟩, by simp only; omega⟩
          · simp [s_l23Tick.d2, s_l23Tick.d1, Book.e, getD_map_lt Cpy.e hlt, Cpy.e, hlt, he, hs, w1, q1]
          · rcases List.mem_append.1 hc with h | h
            · exact hcw c h
            · simp at h; subst h; exact hwi
        · refine ⟨(cs ++ [b.cpys[i]], i + 1), ?_, ⟨Nat.succ_le_of_lt hlt, by simpa using hcs, fun c hc => ?_⟩, by simp only; omega⟩
          · have hs' : (b.cpys[i].state == 2) = false := by simp [hs]
            simp [s_l23Tick.d2, s_l23Tick.d1, Book.e, getD_map_lt Cpy.e hlt, Cpy.e, hlt, he, hs', w1, q1]
          · rcases List.mem_append.1 hc with h | h
            · exact hcw c h
            · simp at h; subst h; exact hwi
      · exact ⟨(cs, i + 1), by simp [s_l23Tick.d2, s_l23Tick.d1, Book.e, getD_map_lt Cpy.e hlt, Cpy.e, hlt, he, w1], ⟨Nat.succ_le_of_lt hlt, by simp only; omega, hcw⟩, by simp only; omega⟩
    · right
      have : i = b.cpys.length := by omega
      subst this
      exact ⟨.brk 0 (.i v :: b.e ++ [.i 0, .l (cs.map Cpy.e), .l [], .l [], .l []]), by simp [s_l23Tick.d2, Book.e], trivial, cs, rfl, hcs, hcw⟩
  obtain ⟨o1, h1, cs, rfl, hcs, hcw⟩ := L1
  have L2 : ∃ o, lim (ap10 s_l23Tick.d4) [.i v, .i 0, .i b.now, .l (b.svcs.map Svc.e), .l (b.brts.map Brt.e), .i 0, .l (cs.map Cpy.e), .l [], .l [], .l []] = some o ∧
      ∃ ds : List Cpy, o = .brk 2 [.i b.now, .l (b.svcs.map Svc.e), .l (b.brts.map Brt.e), .i 0, .l (ds.map Cpy.e), .l [], .l [], .l []] ∧ ds.length ≤ b.cpys.length ∧ ∀ c, c ∈ ds → Wc c := by
    refine lim_exs (fun a : List Cpy × Nat => [.i v, .i (a.2 : Nat), .i b.now, .l (b.svcs.map Svc.e), .l (b.brts.map Brt.e), .i 0, .l (a.1.map Cpy.e), .l [], .l [], .l []]) (fun a => b.cpys.length - a.2) (fun a => a.2 ≤ a.1.length ∧ a.1.length ≤ b.cpys.length ∧ ∀ c, c ∈ a.1 → Wc c) _ (cs, 0) ⟨Nat.zero_le _, hcs, hcw⟩ ?_
    rintro ⟨ds, i⟩ ⟨hi, hds, hdw⟩
    simp only at hi hds hdw
    have w1 : w64 ((i : Int) + 1) = (i : Int) + 1 := w64_of (by omega) (by omega)
    by_cases hlt : i < ds.length
    · left
      obtain ⟨s, hs, hsw⟩ := s_l23Least_ex ⟨b.now, b.svcs, ds, b.brts⟩ ⟨hb.s, by simp only; omega, hb.t⟩
      have hsz : s.size < 4611686018427387904 := by
        rcases hsw with rfl | ⟨t, ht, rfl⟩
        · rw [size_empty]; omega
        · exact hw.t t ht
      simp only [Book.e] at hs
      have hwi := hdw _ (List.getElem_mem hlt)
      have go : ∀ u : Bool, ∃ es : List Cpy, s_l23Tick.d3 (.i v) (.i (i : Nat)) (.s s) (.b u) (.i b.now) (.l (b.svcs.map Svc.e)) (.l (b.brts.map Brt.e)) (.i 0) (.l (ds.map Cpy.e)) (.l []) (.l []) (.l []) = some (.again [.i v, .i ((i + 1 : Nat) : Int), .i b.now, .l (b.svcs.map Svc.e), .l (b.brts.map Brt.e), .i 0, .l (es.map Cpy.e), .l [], .l [], .l []]) ∧ es.length = ds.length ∧ ∀ c, c ∈ es → Wc c := by
        intro u
        cases u with
        | false => exact ⟨ds, by simp [s_l23Tick.d3, w1], rfl, hdw⟩
        | true =>
          refine ⟨ds.set i { ds[i] with state := 2, berth := s, ver := v }, ?_, by simp, fun c hc => ?_⟩
          · have g : (ds.map Cpy.e).getD i [] = ds[i].e := getD_map_lt Cpy.e hlt []
            simp only [s_l23Tick.d3, C.B_b, jR, C.I_i, C.L_l, jY, g, setCs_state, set_cpy, jW, List.length_set]
            have g2 : ((ds.set i { ds[i] with state := 2 }).map Cpy.e).getD i [] = ({ ds[i] with state := 2 } : Cpy).e := by
              rw [getD_map_lt Cpy.e (by simpa using hlt)]; simp
            simp only [g2, setCs_berth, set_cpy, jW, List.length_set, List.set_set]
            have g3 : ((ds.set i { ds[i] with state := 2, berth := s }).map Cpy.e).getD i [] = ({ ds[i] with state := 2, berth := s } : Cpy).e := by
              rw [getD_map_lt Cpy.e (by simpa using hlt)]; simp
            simp only [g3, setCs_ver, set_cpy, List.set_set]
            simp [hlt, w1]
          · rcases List.mem_or_eq_of_mem_set hc with h | rfl
            · exact hdw c h
            · exact ⟨hwi.1, hsz⟩
      have q : decide ((i : Int) < (ds.length : Int)) = true := by simp [hlt]
      have fin : ∃ es : List Cpy, s_l23Tick.d4 (.i v) (.i (i : Nat)) (.i b.now) (.l (b.svcs.map Svc.e)) (.l (b.brts.map Brt.e)) (.i 0) (.l (ds.map Cpy.e)) (.l []) (.l []) (.l []) = some (.again [.i v, .i ((i + 1 : Nat) : Int), .i b.now, .l (b.svcs.map Svc.e), .l (b.brts.map Brt.e), .i 0, .l (es.map Cpy.e), .l [], .l [], .l []]) ∧ es.length = ds.length ∧ ∀ c, c ∈ es → Wc c := by
        simp only [s_l23Tick.d4, C.I_i, C.L_l, jW, q, jR, hs, call1, jI, apL, jC, jX, decide_true, jY, getD_map_lt Cpy.e hlt]
        cases (ds[i].e.getD 4 .nil).I == 1 <;> simp only [jR, jS, jJ, apL, jC, jD]
        · exact go _
        · exact go _
      obtain ⟨es, e1, e2, e3⟩ := fin
      exact ⟨(es, i + 1), e1, ⟨by simp only; omega, by simp only; omega, e3⟩, by simp only; omega⟩
    · right
      have : i = ds.length := by omega
      subst this
      exact ⟨.brk 2 [.i b.now, .l (b.svcs.map Svc.e), .l (b.brts.map Brt.e), .i 0, .l (ds.map Cpy.e), .l [], .l [], .l []], by simp [s_l23Tick.d4], trivial, ds, rfl, hds, hdw⟩
  obtain ⟨o2, h2, ds, rfl, hds, hdw⟩ := L2
  refine ⟨ds, ?_, hds, hdw⟩
  simp only [Book.e, jA, jB] at h1
  simp only [s_l23Tick, s_l23Tick.d7, Book.e, jA, jB, apL, jC, jD]
  erw [h1]
  simp only [bindBlk_self, apL, jC, jD, s_l23Tick.d6, C.L_l]
  erw [h2]
  rfl
end Go.Ev
namespace Go.Ev
theorem take_all {α : Type} (l : List α) (n : Nat) (h : l.length ≤ n) : l.take n = l := List.take_of_length_le h
theorem s_l23Wish_ex (b : Book) (w : Svc) (v : Int) (hb : Fit b) (hs : b.svcs.length ≤ 1000) : ∃ ss : List Svc, s_l23Wish (b.e ++ w.e ++ [.i v]) = some [.i b.now, .l (b.cpys.map Cpy.e), .l (b.brts.map Brt.e), .l (ss.map Svc.e)] ∧
    ss.length ≤ b.svcs.length + 1 ∧ ∀ s, s ∈ ss → s.name = w.name ∨ s ∈ b.svcs := by
  have L1 : ∃ o, lim (ap23 s_l23Wish.d1)
      (.i v :: .i 0 :: (b.e ++ w.e ++ [.i 0, .l [], .l [], .l []])) = some o ∧ ∃ k : Nat, k ≤ b.svcs.length ∧ o = .brk 0 (.i v :: .i (k : Nat) :: (b.e ++ w.e ++ [.i 0, .l [], .l [], .l []])) := by
    refine lim_exs (fun k : Nat => .i v :: .i (k : Nat) :: (b.e ++ w.e ++ [.i 0, .l [], .l [], .l []])) (fun k => b.svcs.length - k) (fun k => k ≤ b.svcs.length) _ 0 (Nat.zero_le _) ?_
    intro k hk
    have w1 : w64 ((k : Int) + 1) = (k : Int) + 1 := w64_of (by omega) (by omega)
    by_cases hlt : k < b.svcs.length
    · cases hq : Op.bytesLess b.svcs[k].name.toList w.name.toList
      · right
        exact ⟨.brk 0 (.i v :: .i (k : Nat) :: (b.e ++ w.e ++ [.i 0, .l [], .l [], .l []])), by simp only [s_l23Wish.d1, Book.e, Svc.e, jA, jB, apL, jC, jD, C.I_i, C.L_l, jW, jY, getD_map_lt Svc.e hlt, C.S_s, hq]; simp [hlt], trivial, k, hk, rfl⟩
      · left
        exact ⟨k + 1, by simp only [s_l23Wish.d1, Book.e, Svc.e, jA, jB, apL, jC, jD, C.I_i, C.L_l, jW, jY, getD_map_lt Svc.e hlt, C.S_s, hq]; simp [hlt, w1], Nat.succ_le_of_lt hlt, by omega⟩
    · right
      have : k = b.svcs.length := by omega
      subst this
      exact ⟨.brk 0 (.i v :: .i (b.svcs.length : Nat) :: (b.e ++ w.e ++ [.i 0, .l [], .l [], .l []])), by simp only [s_l23Wish.d1, Book.e, Svc.e, jA, jB, apL, jC, jD, C.I_i, C.L_l, jW, C.S_s]; simp, trivial, _, hk, rfl⟩
  obtain ⟨o, h1, k, hk, rfl⟩ := L1
  have ht : (b.svcs.map Svc.e).take b.svcs.length = b.svcs.map Svc.e := take_all _ _ (by simp)
  have hd : (b.svcs.map Svc.e).drop k = (b.svcs.drop k).map Svc.e := List.map_drop.symm
  have htk : (b.svcs.map Svc.e).take k = (b.svcs.take k).map Svc.e := List.map_take.symm
  have key2 : ∀ (w' : Svc) (rs : List Svc), rs.length ≤ b.svcs.length → s_l23Wish.d2 (.i (k : Nat)) (.l (rs.map Svc.e)) (.i b.now) (.l (b.svcs.map Svc.e)) (.l (b.cpys.map Cpy.e)) (.l (b.brts.map Brt.e)) (.s w'.name) (.i w'.ver) (.b w'.gone) (.i w'.image) (.i w'.want) (.i w'.down) (.i w'.over) (.i w'.next) (.i w'.per) (.i w'.least) (.i w'.most) (.i w'.load) (.i w'.cool) (.i 0) (.l []) (.l []) (.l [])
      = some (.ret [.i b.now, .l (b.cpys.map Cpy.e), .l (b.brts.map Brt.e), .l ((b.svcs.take k ++ [w'] ++ rs).map Svc.e)]) := by
    intro w' rs hrs
    have q1 : (k : Int) ≤ (b.svcs.length : Int) := by omega
    simp only [s_l23Wish.d2, C.I_i, C.L_l, jW, jY, htk, List.drop_zero, nils, jB, rows, jX, q1, decide_true, jR, List.length_nil, List.length_append, List.length_singleton, List.length_take]
    have a1 : 0 + min k b.svcs.length ≤ 4294967296 := by omega
    have a2 : min k b.svcs.length + 1 ≤ 4294967296 := by omega
    have a3 : min k b.svcs.length + 1 + rs.length ≤ 4294967296 := by omega
    simp only [a1, a2, a3, decide_true, jR, List.map_append, List.map_cons, List.map_nil, Svc.e]
  have fin : ∃ ss : List Svc, s_l23Wish.d3 (.i v) (.i (k : Nat)) (.i b.now) (.l (b.svcs.map Svc.e)) (.l (b.cpys.map Cpy.e)) (.l (b.brts.map Brt.e)) (.s w.name) (.i w.ver) (.b w.gone) (.i w.image) (.i w.want) (.i w.down) (.i w.over) (.i w.next) (.i w.per) (.i w.least) (.i w.most) (.i w.load) (.i w.cool) (.i 0) (.l []) (.l []) (.l [])
      = some (.ret [.i b.now, .l (b.cpys.map Cpy.e), .l (b.brts.map Brt.e), .l (ss.map Svc.e)]) ∧ ss.length ≤ b.svcs.length + 1 ∧ ∀ s, s ∈ ss → s.name = w.name ∨ s ∈ b.svcs := by
    have q1 : (k : Int) ≤ (b.svcs.length : Int) := by omega
    simp only [s_l23Wish.d3, C.I_i, C.L_l, jW, jY, jX, q1, Int.le_refl, decide_true, jR, ht, hd]
    have mem : ∀ (w' : Svc) (rs : List Svc), w'.name = w.name → (∀ s, s ∈ rs → s ∈ b.svcs) → ∀ s, s ∈ b.svcs.take k ++ [w'] ++ rs → s.name = w.name ∨ s ∈ b.svcs := by
      intro w' rs hw' hrs s hs
      rcases List.mem_append.1 hs with h | h
      · rcases List.mem_append.1 h with h | h
        · exact .inr (List.mem_of_mem_take h)
        · simp at h; subst h; exact .inl hw'
      · exact .inr (hrs s h)
    cases hr : b.svcs.drop k with
    | nil =>
      refine ⟨b.svcs.take k ++ [{ w with ver := v, next := 1, cool := 0 }] ++ [], ?_, by simp; omega, mem _ _ rfl (by simp)⟩
      have := key2 { w with ver := v, next := 1, cool := 0 } [] (by simp)
      simp only [List.map_nil] at this
      simpa using this
    | cons r rs =>
      have hlen : rs.length + 1 = b.svcs.length - k := by have := congrArg List.length hr; simp at this; omega
      have hmem : ∀ s, s ∈ r :: rs → s ∈ b.svcs := fun s hs => List.mem_of_mem_drop (by rw [hr]; exact hs)
      have p1 : (0 : Int) < (rs.length : Int) + 1 := by omega
      have p2 : (1 : Int) ≤ (rs.length : Int) + 1 := by omega
      have p3 : ((rs.length : Int) + 1).toNat = rs.length + 1 := by omega
      have p4 : (rs.map Svc.e).take rs.length = rs.map Svc.e := take_all _ _ (by simp)
      cases he : (r.name.toList == w.name.toList)
      · refine ⟨b.svcs.take k ++ [{ w with ver := v, next := 1, cool := 0 }] ++ (r :: rs), ?_, by simp; omega, mem _ _ rfl hmem⟩
        have := key2 { w with ver := v, next := 1, cool := 0 } (r :: rs) (by simp; omega)
        simp only [List.map_cons, List.length_cons, jW, apL, jC, Int.natCast_add, Int.natCast_one, gt_iff_lt, p1, decide_true, jR, Svc.e, C.S_s, he, jS, jJ, jD] at this ⊢
        exact this
      · refine ⟨b.svcs.take k ++ [{ w with ver := v, next := r.next, cool := 0 }] ++ rs, ?_, by simp; omega, mem _ _ rfl (fun s hs => hmem s (List.mem_cons_of_mem _ hs))⟩
        have := key2 { w with ver := v, next := r.next, cool := 0 } rs (by omega)
        simp only [List.map_cons, List.length_cons, jW, apL, jC, Int.natCast_add, Int.natCast_one, gt_iff_lt, p1, p2, decide_true, jR, Svc.e, C.S_s, he, jS, jJ, jD, Int.le_refl, decide_true, p3, List.take_succ_cons, List.drop_succ_cons, List.drop_zero, p4] at this ⊢
        exact this
  obtain ⟨ss, h2, h3, h4⟩ := fin
  refine ⟨ss, ?_, h3, h4⟩
  simp only [Book.e, Svc.e, jA, jB] at h1
  simp only [s_l23Wish, s_l23Wish.d4, Book.e, Svc.e, jA, jB, apL, jC, jD]
  erw [h1]
  simp only [bindBlk_self, apL, jC, jD]
  erw [h2]
  rfl
end Go.Ev
namespace Go.Ev
theorem s_l23Raise_ex (b : Book) (nm : Str) (fl : Bool) (hb : Fit b) (hs : b.brts.length ≤ 1000) : ∃ ss : List Brt, s_l23Raise (b.e ++ [.s nm, .b fl]) = some [.i b.now, .l (b.svcs.map Svc.e), .l (b.cpys.map Cpy.e), .l (ss.map Brt.e)] ∧
    ss.length ≤ b.brts.length + 1 ∧ ∀ s, s ∈ ss → s.name = nm ∨ s ∈ b.brts := by
  have L1 : ∃ o, lim (ap11 s_l23Raise.d1)
      (.s nm :: .b fl :: .i 0 :: (b.e ++ [.i 0, .l [], .l [], .l []])) = some o ∧ ∃ k : Nat, k ≤ b.brts.length ∧ o = .brk 0 (.s nm :: .b fl :: .i (k : Nat) :: (b.e ++ [.i 0, .l [], .l [], .l []])) := by
    refine lim_exs (fun k : Nat => .s nm :: .b fl :: .i (k : Nat) :: (b.e ++ [.i 0, .l [], .l [], .l []])) (fun k => b.brts.length - k) (fun k => k ≤ b.brts.length) _ 0 (Nat.zero_le _) ?_
    intro k hk
    have w1 : w64 ((k : Int) + 1) = (k : Int) + 1 := w64_of (by omega) (by omega)
    by_cases hlt : k < b.brts.length
    · cases hq : Op.bytesLess b.brts[k].name.toList nm.toList
      · right
        exact ⟨.brk 0 (.s nm :: .b fl :: .i (k : Nat) :: (b.e ++ [.i 0, .l [], .l [], .l []])), by simp only [s_l23Raise.d1, Book.e, Brt.e, jA, jB, apL, jC, jD, C.I_i, C.L_l, jW, jY, getD_map_lt Brt.e hlt, C.S_s, hq]; simp [hlt], trivial, k, hk, rfl⟩
      · left
        exact ⟨k + 1, by simp only [s_l23Raise.d1, Book.e, Brt.e, jA, jB, apL, jC, jD, C.I_i, C.L_l, jW, jY, getD_map_lt Brt.e hlt, C.S_s, hq]; simp [hlt, w1], Nat.succ_le_of_lt hlt, by omega⟩
    · right
      have : k = b.brts.length := by omega
      subst this
      exact ⟨.brk 0 (.s nm :: .b fl :: .i (b.brts.length : Nat) :: (b.e ++ [.i 0, .l [], .l [], .l []])), by simp only [s_l23Raise.d1, Book.e, Brt.e, jA, jB, apL, jC, jD, C.I_i, C.L_l, jW, C.S_s]; simp, trivial, _, hk, rfl⟩
  obtain ⟨o, h1, k, hk, rfl⟩ := L1
  have ht : (b.brts.map Brt.e).take b.brts.length = b.brts.map Brt.e := take_all _ _ (by simp)
  have hd : (b.brts.map Brt.e).drop k = (b.brts.drop k).map Brt.e := List.map_drop.symm
  have htk : (b.brts.map Brt.e).take k = (b.brts.take k).map Brt.e := List.map_take.symm
  have key2 : ∀ (rs : List Brt), rs.length ≤ b.brts.length → s_l23Raise.d2 (.s nm) (.b fl) (.i (k : Nat)) (.l (rs.map Brt.e)) (.i b.now) (.l (b.svcs.map Svc.e)) (.l (b.cpys.map Cpy.e)) (.l (b.brts.map Brt.e)) (.i 0) (.l []) (.l []) (.l [])
      = some (.ret [.i b.now, .l (b.svcs.map Svc.e), .l (b.cpys.map Cpy.e), .l ((b.brts.take k ++ [(⟨nm, fl⟩ : Brt)] ++ rs).map Brt.e)]) := by
    intro rs hrs
    have q1 : (k : Int) ≤ (b.brts.length : Int) := by omega
    simp only [s_l23Raise.d2, C.I_i, C.L_l, C.B_b, jW, jY, htk, List.drop_zero, nils, jB, rows, jX, q1, decide_true, jR, List.length_nil, List.length_append, List.length_singleton, List.length_take]
    have a1 : 0 + min k b.brts.length ≤ 4294967296 := by omega
    have a2 : min k b.brts.length + 1 ≤ 4294967296 := by omega
    have a3 : min k b.brts.length + 1 + rs.length ≤ 4294967296 := by omega
    simp only [a1, a2, a3, decide_true, jR, List.map_append, List.map_cons, List.map_nil, Brt.e]
  have fin : ∃ ss : List Brt, s_l23Raise.d3 (.s nm) (.b fl) (.i (k : Nat)) (.i b.now) (.l (b.svcs.map Svc.e)) (.l (b.cpys.map Cpy.e)) (.l (b.brts.map Brt.e)) (.i 0) (.l []) (.l []) (.l [])
      = some (.ret [.i b.now, .l (b.svcs.map Svc.e), .l (b.cpys.map Cpy.e), .l (ss.map Brt.e)]) ∧ ss.length ≤ b.brts.length + 1 ∧ ∀ s, s ∈ ss → s.name = nm ∨ s ∈ b.brts := by
    have q1 : (k : Int) ≤ (b.brts.length : Int) := by omega
    simp only [s_l23Raise.d3, C.I_i, C.L_l, jW, jY, jX, q1, Int.le_refl, decide_true, jR, ht, hd]
    have mem : ∀ (rs : List Brt), (∀ s, s ∈ rs → s ∈ b.brts) → ∀ s, s ∈ b.brts.take k ++ [(⟨nm, fl⟩ : Brt)] ++ rs → s.name = nm ∨ s ∈ b.brts := by
      intro rs hrs s hs
      rcases List.mem_append.1 hs with h | h
      · rcases List.mem_append.1 h with h | h
        · exact .inr (List.mem_of_mem_take h)
        · simp at h; subst h; exact .inl rfl
      · exact .inr (hrs s h)
    cases hr : b.brts.drop k with
    | nil =>
      refine ⟨b.brts.take k ++ [(⟨nm, fl⟩ : Brt)] ++ [], ?_, by simp; omega, mem _ (by simp)⟩
      have := key2 [] (by simp)
      simp only [List.map_nil] at this
      simpa using this
    | cons r rs =>
      have hlen : rs.length + 1 = b.brts.length - k := by have := congrArg List.length hr; simp at this; omega
      have hmem : ∀ s, s ∈ r :: rs → s ∈ b.brts := fun s hs => List.mem_of_mem_drop (by rw [hr]; exact hs)
      have p1 : (0 : Int) < (rs.length : Int) + 1 := by omega
      have p2 : (1 : Int) ≤ (rs.length : Int) + 1 := by omega
      have p3 : ((rs.length : Int) + 1).toNat = rs.length + 1 := by omega
      have p4 : (rs.map Brt.e).take rs.length = rs.map Brt.e := take_all _ _ (by simp)
      cases he : (r.name.toList == nm.toList)
      · refine ⟨b.brts.take k ++ [(⟨nm, fl⟩ : Brt)] ++ (r :: rs), ?_, by simp; omega, mem _ hmem⟩
        have := key2 (r :: rs) (by simp; omega)
        simp only [List.map_cons, List.length_cons, jW, apL, jC, Int.natCast_add, Int.natCast_one, gt_iff_lt, p1, decide_true, jR, Brt.e, C.S_s, he, jS, jJ, jD] at this ⊢
        exact this
      · refine ⟨b.brts.take k ++ [(⟨nm, fl⟩ : Brt)] ++ rs, ?_, by simp; omega, mem _ (fun s hs => hmem s (List.mem_cons_of_mem _ hs))⟩
        have := key2 rs (by omega)
        simp only [List.map_cons, List.length_cons, jW, apL, jC, Int.natCast_add, Int.natCast_one, gt_iff_lt, p1, p2, decide_true, jR, Brt.e, C.S_s, he, jS, jJ, jD, Int.le_refl, p3, List.take_succ_cons, List.drop_succ_cons, List.drop_zero, p4] at this ⊢
        exact this
  obtain ⟨ss, h2, h3, h4⟩ := fin
  refine ⟨ss, ?_, h3, h4⟩
  simp only [Book.e, jA, jB] at h1
  simp only [s_l23Raise, s_l23Raise.d4, Book.e, jA, jB, apL, jC, jD]
  erw [h1]
  simp only [bindBlk_self, apL, jC, jD]
  erw [h2]
  rfl
structure Ev1 where
  kind : Int
  w : Svc
  name : Str
  number : Int
  flag : Bool
def Ev1.e (v : Ev1) : List C := .i v.kind :: (v.w.e ++ [.s v.name, .i v.number, .b v.flag])
structure Evw (v : Ev1) : Prop where
  w : v.w.name.size < 4611686018427387904
  n : v.name.size < 4611686018427387904
theorem set_svc (cs : List Svc) (i : Nat) (c : Svc) : (cs.map Svc.e).set i c.e = (cs.set i c).map Svc.e := List.map_set.symm
theorem setS_load (c : Svc) (n : Int) : setCs c.e 11 [.i n] = ({ c with load := n } : Svc).e := rfl
theorem setS_ver (c : Svc) (n : Int) : setCs c.e 1 [.i n] = ({ c with ver := n } : Svc).e := rfl
structure Grw (b b' : Book) : Prop where
  s : b'.svcs.length ≤ b.svcs.length + 1
  c : b'.cpys.length ≤ b.cpys.length
  t : b'.brts.length ≤ b.brts.length + 1
  w : Wrd b'
def Book.r5 (b : Book) (code : Int) : List C := [.i b.now, .l (b.svcs.map Svc.e), .l (b.cpys.map Cpy.e), .l (b.brts.map Brt.e), .i code]
end Go.Ev
namespace Go.Ev
theorem ix_cases {α : Type} (p : α → Bool) (l : List α) : findIx p l 0 = -1 ∨ ∃ i : Nat, ∃ h : i < l.length, findIx p l 0 = (i : Int) ∧ p l[i] = true := by
  rcases findIx_spec p l 0 with ⟨_, h⟩ | ⟨i, h, h1, _, h2⟩
  · exact .inl h
  · exact .inr ⟨i, h, by simpa using h1, h2⟩
theorem s_l23Sea_ex (b : Book) (v : Ev1) (hb : Fit b) (hs : b.svcs.length ≤ 1000) (ht : b.brts.length ≤ 1000) (hw : Wrd b) (hv : Evw v) :
    ∃ (b' : Book) (code : Int), s_l23Sea (.i b.now :: (v.e ++ [.l (b.svcs.map Svc.e), .l (b.cpys.map Cpy.e), .l (b.brts.map Brt.e)])) = some (b'.r5 code) ∧ Grw b b' := by
  have same : Grw b b := ⟨by omega, by omega, by omega, hw⟩
  have hbc := hb.c
  simp only [s_l23Sea, Ev1.e, Svc.e, jA, jB, apL, jC, jD, s_l23Sea.d4, C.I_i, C.L_l]
  cases k1 : v.kind == 1
  rotate_left
  · obtain ⟨cs, h1, h2, h3⟩ := s_l23Tick_ex b (w64 (b.now + 1)) hb hw
    simp only [Book.e, jA, jB] at h1
    refine ⟨⟨w64 (b.now + 1), b.svcs, cs, b.brts⟩, 0, ?_, ⟨by simp, h2, by simp, ⟨⟨hw.s, hw.t⟩, h3⟩⟩⟩
    simp [h1, call4, Book.r5]
  simp only [jS]
  cases k2 : v.kind == 2
  rotate_left
  · obtain ⟨ss, h1, h2, h3⟩ := s_l23Wish_ex b v.w (w64 (b.now + 1)) hb hs
    simp only [Book.e, Svc.e, jA, jB] at h1
    refine ⟨⟨w64 (b.now + 1), ss, b.cpys, b.brts⟩, 0, ?_, ⟨h2, by simp, by simp, ⟨⟨fun s hs => ?_, hw.t⟩, hw.c⟩⟩⟩
    · simp [h1, call4, Book.r5]
    · rcases h3 s hs with e | h
      · rw [e]; exact hv.w
      · exact hw.s s h
  simp only [jS]
  cases k3 : v.kind == 3
  rotate_left
  · have e1 := s_l18Copy_eq b v.name v.number hb.small.c
    simp only [Book.e, jA, jB] at e1
    simp only [jR, e1, call1, jI, apL, jC, C.I_i, C.L_l, jW, cpyIx]
    rcases ix_cases (fun c : Cpy => sEq c.svc v.name && c.num == v.number) b.cpys with h | ⟨i, h, h1, _⟩
    · exact ⟨b, 3, by simp [h, Book.r5], same⟩
    · have q1 : (i : Int) < (b.cpys.length : Int) := by omega
      have q2 : ¬ (i : Int) < 0 := by omega
      have g : (b.cpys.map Cpy.e).getD i [] = b.cpys[i].e := getD_map_lt Cpy.e h []
      have fin : ∃ b' : Book, s_l23Sea.d1 (.i (w64 (b.now + 1))) (.i (i : Nat)) (.i b.now) (.i 0) (.l (b.svcs.map Svc.e)) (.l (b.cpys.map Cpy.e)) (.l (b.brts.map Brt.e)) (.l []) (.l []) (.l []) = some (.ret (b'.r5 0)) ∧ Grw b b' := by
        refine ⟨⟨w64 (b.now + 1), b.svcs, b.cpys.set i { b.cpys[i] with state := 4, ver := w64 (b.now + 1) }, b.brts⟩, ?_, ⟨by simp, by simp, by simp, ⟨⟨hw.s, hw.t⟩, fun c hc => ?_⟩⟩⟩
        · simp only [s_l23Sea.d1, C.I_i, C.L_l, jY, g, setCs_state, set_cpy, jW, List.length_set]
          have g2 : ((b.cpys.set i { b.cpys[i] with state := 4 }).map Cpy.e).getD i [] = ({ b.cpys[i] with state := 4 } : Cpy).e := by
            rw [getD_map_lt Cpy.e (by simpa using h)]; simp
          simp only [g2, setCs_ver, set_cpy, List.set_set, q1, jX, decide_true, jR, Book.r5]
        · rcases List.mem_or_eq_of_mem_set hc with h' | rfl
          · exact hw.c c h'
          · exact hw.c b.cpys[i] (List.getElem_mem h)
      obtain ⟨b', f1, f2⟩ := fin
      simp only [h1, q1, q2, decide_true, decide_false, ja, jR, jX, jY, g, nils]
      cases (b.cpys[i].e.getD 4 .nil).I != 3
      · exact ⟨b', 0, by simp only [jS, jJ, apL, jC, jD, f1, jV], f2⟩
      · cases (b.cpys[i].e.getD 4 .nil).I != 2
        · exact ⟨b', 0, by simp only [jR, jS, jJ, apL, jC, jD, f1, jV], f2⟩
        · exact ⟨b, 3, by simp [Book.r5], same⟩
  simp only [jS]
  cases k4 : v.kind == 4
  rotate_left
  · have e1 := s_l18Berth_eq b v.name hb.small.t
    simp only [Book.e, jA, jB] at e1
    simp only [jR, e1, call1, jI, apL, jC, C.I_i, C.L_l, jW, brtIx]
    rcases ix_cases (fun c : Brt => sEq c.name v.name) b.brts with h | ⟨i, h, h1, _⟩
    · exact ⟨b, 3, by simp [h, Book.r5], same⟩
    · have q1 : (i : Int) < (b.brts.length : Int) := by omega
      have q2 : ¬ (i : Int) < 0 := by omega
      have q3 : (i : Int) ≤ (b.brts.length : Int) := by omega
      have w1 : w64 ((i : Int) + 1) = ((i + 1 : Nat) : Int) := by rw [w64_of (by omega) (by omega)]; rfl
      have q4 : ((i + 1 : Nat) : Int) ≤ (b.brts.length : Int) := by omega
      have tk : (b.brts.map Brt.e).take i = (b.brts.take i).map Brt.e := List.map_take.symm
      have ta : (b.brts.map Brt.e).take b.brts.length = b.brts.map Brt.e := take_all _ _ (by simp)
      have dr : (b.brts.map Brt.e).drop (i + 1) = (b.brts.drop (i + 1)).map Brt.e := List.map_drop.symm
      have L2 : ∃ o, lim (ap28 s_l23Sea.d2)
          [.i (w64 (b.now + 1)), .i 0, .i b.now, .i v.kind, .s v.w.name, .i v.w.ver, .b v.w.gone, .i v.w.image, .i v.w.want, .i v.w.down, .i v.w.over, .i v.w.next, .i v.w.per, .i v.w.least, .i v.w.most, .i v.w.load, .i v.w.cool, .s v.name, .i v.number, .b v.flag, .i 0, .l [], .l (b.svcs.map Svc.e), .l (b.cpys.map Cpy.e), .l ((b.brts.take i).map Brt.e ++ (b.brts.drop (i + 1)).map Brt.e), .l [], .l [], .l []] = some o ∧
          ∃ cs : List Cpy, o = .brk 1 [.i (w64 (b.now + 1)), .i b.now, .i 0, .l (cs.map Cpy.e), .l (b.svcs.map Svc.e), .l (b.cpys.map Cpy.e), .l ((b.brts.take i).map Brt.e ++ (b.brts.drop (i + 1)).map Brt.e), .l [], .l [], .l []] ∧ cs.length ≤ b.cpys.length ∧ ∀ c, c ∈ cs → Wc c := by
        refine lim_exs (fun a : List Cpy × Nat => [.i (w64 (b.now + 1)), .i (a.2 : Nat), .i b.now, .i v.kind, .s v.w.name, .i v.w.ver, .b v.w.gone, .i v.w.image, .i v.w.want, .i v.w.down, .i v.w.over, .i v.w.next, .i v.w.per, .i v.w.least, .i v.w.most, .i v.w.load, .i v.w.cool, .s v.name, .i v.number, .b v.flag, .i 0, .l (a.1.map Cpy.e), .l (b.svcs.map Svc.e), .l (b.cpys.map Cpy.e), .l ((b.brts.take i).map Brt.e ++ (b.brts.drop (i + 1)).map Brt.e), .l [], .l [], .l []])
          (fun a => b.cpys.length - a.2) (fun a => a.2 ≤ b.cpys.length ∧ a.1.length ≤ a.2 ∧ ∀ c, c ∈ a.1 → Wc c) _ ([], 0) ⟨Nat.zero_le _, Nat.zero_le _, by simp⟩ ?_
        rintro ⟨cs, j⟩ ⟨hj, hcs, hcw⟩
        simp only at hj hcs hcw
        have w1 : w64 ((j : Int) + 1) = (j : Int) + 1 := w64_of (by omega) (by omega)
        by_cases hlt : j < b.cpys.length
        · left
          have hwi := hw.c _ (List.getElem_mem hlt)
          have p1 : cs.length + 1 ≤ 4294967296 := by omega
          have p2 : (j : Int) < (b.cpys.length : Int) := by omega
          have g : (b.cpys.map Cpy.e).getD j [] = b.cpys[j].e := getD_map_lt Cpy.e hlt []
          cases he : (b.cpys[j].berth.toList == v.name.toList)
          · refine ⟨(cs ++ [b.cpys[j]], j + 1), ?_, ⟨Nat.succ_le_of_lt hlt, by simpa using hcs, fun c hc => ?_⟩, by simp only; omega⟩
            · simp [s_l23Sea.d2, g, Cpy.e, he, w1, p1, hlt]
            · rcases List.mem_append.1 hc with h | h
              · exact hcw c h
              · simp at h; subst h; exact hwi
          · exact ⟨(cs, j + 1), by simp [s_l23Sea.d2, g, Cpy.e, he, w1, hlt], ⟨Nat.succ_le_of_lt hlt, by simp only; omega, hcw⟩, by simp only; omega⟩
        · right
          have : j = b.cpys.length := by omega
          subst this
          exact ⟨.brk 1 [.i (w64 (b.now + 1)), .i b.now, .i 0, .l (cs.map Cpy.e), .l (b.svcs.map Svc.e), .l (b.cpys.map Cpy.e), .l ((b.brts.take i).map Brt.e ++ (b.brts.drop (i + 1)).map Brt.e), .l [], .l [], .l []], by simp [s_l23Sea.d2], trivial, cs, rfl, hcs, hcw⟩
      obtain ⟨o, h2, cs, rfl, hcs, hcw⟩ := L2
      refine ⟨⟨w64 (b.now + 1), b.svcs, cs, b.brts.take i ++ b.brts.drop (i + 1)⟩, 0, ?_, ⟨by simp, hcs, by simp; omega, ⟨⟨hw.s, fun s hs => ?_⟩, hcw⟩⟩⟩
      · have a1 : 0 + min i b.brts.length ≤ 4294967296 := by omega
        have a2 : min i b.brts.length + (b.brts.length - (i + 1)) ≤ 4294967296 := by omega
        simp only [h1, q2, q3, q4, w1, decide_true, decide_false, jR, jS, jX, jY, nils, List.length_nil, jB, List.drop_zero, tk, ta, dr, jW, List.length_take, List.length_drop, a1, a2, Int.le_refl]
        erw [h2]
        simp [s_l23Sea.d3, Book.r5]
      · rcases List.mem_append.1 hs with h' | h'
        · exact hw.t s (List.mem_of_mem_take h')
        · exact hw.t s (List.mem_of_mem_drop h')
  simp only [jS]
  cases k5 : v.kind == 5
  rotate_left
  · obtain ⟨ss, h1, h2, h3⟩ := s_l23Raise_ex b v.name v.flag hb ht
    simp only [Book.e, jA, jB] at h1
    refine ⟨⟨w64 (b.now + 1), b.svcs, b.cpys, ss⟩, 0, ?_, ⟨by simp, by simp, h2, ⟨⟨hw.s, fun s hs => ?_⟩, hw.c⟩⟩⟩
    · simp [h1, call4, Book.r5]
    · rcases h3 s hs with e | h
      · rw [e]; exact hv.n
      · exact hw.t s h
  simp only [jS]
  cases k6 : v.kind == 6
  rotate_left
  · have e1 := s_l18Service_eq b v.name hb.small.s
    simp only [Book.e, jA, jB] at e1
    simp only [jR, e1, call1, jI, apL, jC, C.I_i, C.L_l, jW, svcIx]
    rcases ix_cases (fun c : Svc => sEq c.name v.name) b.svcs with h | ⟨i, h, h1, _⟩
    · exact ⟨b, 3, by simp [h, Book.r5], same⟩
    · have q1 : (i : Int) < (b.svcs.length : Int) := by omega
      have q2 : ¬ (i : Int) < 0 := by omega
      have g : (b.svcs.map Svc.e).getD i [] = b.svcs[i].e := getD_map_lt Svc.e h []
      simp only [h1, q1, q2, decide_true, decide_false, ja, jR, jX, jY, g, setS_load, set_svc, jW, List.length_set]
      have g2 : ((b.svcs.set i { b.svcs[i] with load := v.number }).map Svc.e).getD i [] = ({ b.svcs[i] with load := v.number } : Svc).e := by
        rw [getD_map_lt Svc.e (by simpa using h)]; simp
      cases (b.svcs[i].e.getD 8 .nil).I == 0
      · refine ⟨⟨w64 (b.now + 1), b.svcs.set i { b.svcs[i] with load := v.number, ver := w64 (b.now + 1) }, b.cpys, b.brts⟩, 0, ?_, ⟨by simp, by simp, by simp, ⟨⟨fun s hs => ?_, hw.t⟩, hw.c⟩⟩⟩
        · simp only [jS, g2, setS_ver, set_svc, List.set_set, q1, decide_true, jR, jV, Book.r5]
        · rcases List.mem_or_eq_of_mem_set hs with h' | rfl
          · exact hw.s s h'
          · exact hw.s b.svcs[i] (List.getElem_mem h)
      · exact ⟨b, 3, by simp [Book.r5], same⟩
  exact ⟨b, 4, by simp [Book.r5], same⟩
end Go.Ev
namespace Go.Ev
structure Bnd (b : Book) : Prop where
  s : b.svcs.length ≤ 8
  c : b.cpys.length ≤ 200
  t : b.brts.length ≤ 6
  w : Wrd b
theorem Bnd.fit {b : Book} (h : Bnd b) : Fit b := ⟨by have := h.s; omega, by have := h.c; omega, by have := h.t; omega⟩
theorem Bnd.small {b : Book} (h : Bnd b) : Small b := h.fit.small
def Book.nil : Book := ⟨0, [], [], []⟩
theorem Bnd.nil : Bnd Book.nil := ⟨by simp [Book.nil], by simp [Book.nil], by simp [Book.nil], ⟨⟨by simp [Book.nil], by simp [Book.nil]⟩, by simp [Book.nil]⟩⟩
theorem validB_bnd {b : Book} (h : validB b = true) (hw : Wrd b) : Bnd b := by
  simp only [validB, Bool.and_eq_true, decide_eq_true_eq] at h
  exact ⟨h.1.1.1.1.1.2, h.1.1.1.1.2, h.1.1.1.2, hw⟩
def Book.r2 (b : Book) (code : Int) : List C := [.i b.now, .i code, .l (b.svcs.map Svc.e), .l (b.cpys.map Cpy.e), .l (b.brts.map Brt.e)]
theorem s_StewSea_ex (b : Book) (v : Ev1) (hb : Fit b) (hw : Wrd b) (hv : Evw v) : ∃ (b' : Book) (code : Int), s_StewSea (b.e ++ v.e) = some (b'.r2 code) ∧ Bnd b' := by
  have e1 := s_StewValid_eq b hb.small hw.toNames
  simp only [Book.e] at e1
  simp only [s_StewSea, s_StewSea.d2, Book.e, Ev1.e, Svc.e, jA, jB, apL, jC, jD, e1, call1, jI, C.B_b, C.I_i]
  cases hvb : validB b
  · exact ⟨Book.nil, 1, by simp [Book.r2, Book.nil], Bnd.nil⟩
  · have hbn := validB_bnd hvb hw
    have e2 := s_l18Book_eq b hb.s hb.c hb.t
    simp only [Book.e] at e2
    simp only [jZ, jS, e2, call4, jI, apL, jC, jD, C.L_l, s_l18In_eq, C.B_b]
    cases decide (b.now ≥ 1000000)
    · obtain ⟨x, code, h1, h2⟩ := s_l23Sea_ex b v hb (by have := hbn.s; omega) (by have := hbn.t; omega) hw hv
      simp only [Ev1.e, Svc.e, jA, jB] at h1
      have hx : Fit x := ⟨by have := h2.s; have := hbn.s; omega, by have := h2.c; have := hbn.c; omega, by have := h2.t; have := hbn.t; omega⟩
      have e3 := s_StewValid_eq x hx.small h2.w.toNames
      have e4 := s_l18Book_eq x hx.s hx.c hx.t
      simp only [Book.e] at e3 e4
      simp only [jS, h1, call5, jI, Book.r5, apL, jC, jD, C.I_i, e3, C.B_b]
      have fin : ∀ c : Int, c ≠ 0 ∨ validB x = true → ∃ (b' : Book) (code : Int), finR (s_StewSea.d1 (.i c) (.i b.now) (.l (b.svcs.map Svc.e)) (.l (b.cpys.map Cpy.e)) (.l (b.brts.map Brt.e)) (.i 0) (.i x.now) (.l (x.svcs.map Svc.e)) (.l (x.cpys.map Cpy.e)) (.l (x.brts.map Brt.e)) (.l nils) (.l nils) (.l nils)) = some (b'.r2 code) ∧ Bnd b' := by
        intro c hc
        simp only [s_StewSea.d1, C.I_i, e2, e4, call4, jI, apL, jC, jD, C.L_l]
        by_cases h0 : c = 0
        · subst h0
          exact ⟨x, 0, by simp [Book.r2], validB_bnd (hc.resolve_left (by simp)) h2.w⟩
        · have : (c != 0) = true := by simp [h0]
          exact ⟨b, c, by simp [this, Book.r2], hbn⟩
      by_cases h0 : code = 0
      · have k0 : (code == 0) = true := by simp [h0]
        simp only [k0, jR]
        cases hvx : validB x
        · simp only [ja, jR, jJ, apL, jC, jD]
          exact fin 2 (.inl (by decide))
        · simp only [jZ, jS, jJ, apL, jC, jD]
          exact fin code (.inr hvx)
      · have k0 : (code == 0) = false := by simp [h0]
        simp only [k0, jS, jJ, apL, jC, jD]
        exact fin code (.inl h0)
    · cases within v.kind 1 6
      · exact ⟨b, 4, by simp [Book.r2], hbn⟩
      · exact ⟨b, 7, by simp [Book.r2], hbn⟩
structure Wld where
  past : List Book
  book : Book
def Wld.e (w : Wld) : List C := .l (w.past.map Book.e) :: w.book.e
structure WOk (w : Wld) : Prop where
  l : w.past.length ≤ 8
  p : ∀ p, p ∈ w.past → Bnd p
  b : Bnd w.book
theorem s_l25Next_ex (w : Wld) (b : Book) (hw : WOk w) (hb : Bnd b) : ∃ w' : Wld, s_l25Next (w.e ++ b.e) = some w'.e ∧ WOk w' := by
  simp only [s_l25Next, s_l25Next.d1, Wld.e, Book.e, jA, jB, apL, jC, jD, C.I_i, C.L_l]
  have hl := hw.l
  cases b.now == w.book.now
  · have a1 : 0 + w.past.length ≤ 4294967296 := by omega
    have a2 : w.past.length + 1 ≤ 4294967296 := by omega
    have mp : ∀ p, p ∈ w.past ++ [w.book] → Bnd p := by
      intro p hp
      rcases List.mem_append.1 hp with h | h
      · exact hw.p p h
      · simp at h; subst h; exact hw.b
    have er : List.map Book.e w.past ++ [[C.i w.book.now, C.l (List.map Svc.e w.book.svcs), C.l (List.map Cpy.e w.book.cpys), C.l (List.map Brt.e w.book.brts)]] = List.map Book.e (w.past ++ [w.book]) := by simp [Book.e]
    have er0 : List.map (fun b => [C.i b.now, C.l (List.map Svc.e b.svcs), C.l (List.map Cpy.e b.cpys), C.l (List.map Brt.e b.brts)]) = List.map Book.e := rfl
    simp only [jS, nils, List.length_nil, jB, List.length_append, jW, rows, List.length_singleton, a1, a2, decide_true, jR, er, er0]
    by_cases h8 : w.past.length = 8
    · have p1 : ((w.past.length + 1 : Nat) : Int) > 8 := by omega
      have p2 : (1 : Int) ≤ ((w.past.length + 1 : Nat) : Int) := by omega
      refine ⟨⟨(w.past ++ [w.book]).drop 1, b⟩, ?_, ⟨by simp; omega, fun p hp => mp p (List.mem_of_mem_drop hp), hb⟩⟩
      have ta : (List.map Book.e (w.past ++ [w.book])).take (w.past.length + 1) = List.map Book.e (w.past ++ [w.book]) := take_all _ _ (by simp)
      simp only [p1, p2, Int.le_refl, decide_true, jR, jY, ta, jV, List.map_drop]
    · have p1 : ¬ ((w.past.length + 1 : Nat) : Int) > 8 := by omega
      exact ⟨⟨w.past ++ [w.book], b⟩, by simp only [p1, decide_false, jS, jV], ⟨by simp; omega, mp, hb⟩⟩
  · exact ⟨w, rfl, hw⟩
theorem s_l25View_ex (w : Wld) (age : Int) (hw : WOk w) : ∃ b : Book, s_l25View (w.e ++ [.i age]) = some b.e ∧ Bnd b := by
  have hl := hw.l
  simp only [s_l25View, s_l25View.d1, Wld.e, Book.e, jA, jB, apL, jC, jD, C.I_i, C.L_l, jW]
  by_cases h0 : age ≤ 0
  · simp only [h0, decide_true, jZ, jS]
    exact ⟨w.book, rfl, hw.b⟩
  · simp only [h0, decide_false, ja, jR]
    cases hn : ((w.past.length : Int) == 0)
    · have hpos : 0 < w.past.length := by
        rcases Nat.eq_zero_or_pos w.past.length with h | h
        · rw [h] at hn; simp at hn
        · exact h
      have at_ : ∀ (i : Nat) (hi : i < w.past.length), ∃ b : Book, finR (bif decide (0 ≤ (i : Int)) then bif decide ((i : Int) < (w.past.length : Int)) then some (.ret [((w.past.map Book.e).getD i []).getD 0 .nil, ((w.past.map Book.e).getD i []).getD 1 .nil, ((w.past.map Book.e).getD i []).getD 2 .nil, ((w.past.map Book.e).getD i []).getD 3 .nil]) else none else none) = some b.e ∧ Bnd b := by
        intro i hi
        have p1 : (i : Int) < (w.past.length : Int) := by omega
        refine ⟨w.past[i], ?_, hw.p _ (List.getElem_mem hi)⟩
        simp only [jX, p1, decide_true, jR, getD_map_lt Book.e hi, jV, Book.e, apL, jC, jD]
      simp only [jS]
      by_cases ha : age > (w.past.length : Int)
      · have e : w64 ((w.past.length : Int) - (w.past.length : Int)) = ((0 : Nat) : Int) := by rw [w64_of (by omega) (by omega)]; omega
        simp only [ha, decide_true, jR, e, jY]
        exact at_ 0 hpos
      · have e : w64 ((w.past.length : Int) - age) = ((w.past.length - age.toNat : Nat) : Int) := by
          have ha' : age ≤ (w.past.length : Int) := by omega
          rw [w64_of (n := (w.past.length : Int) - age) (by omega) (by omega)]; omega
        simp only [ha, decide_false, jS, e, jY]
        exact at_ _ (by omega)
    · exact ⟨w.book, rfl, hw.b⟩
end Go.Ev
namespace Go.Ev
def ixE (i : Nat) : List C := [.i (i : Nat)]
def enE (p : Int × Int) : List C := [.i p.1, .i p.2]
theorem s_l22Live_ex (b : Book) (nm : Str) (hb : Bnd b) : ∃ ix : List Nat, s_l22Live (b.e ++ [.s nm]) = some [.l (ix.map ixE)] ∧ ix.length ≤ b.cpys.length ∧ ∀ i, i ∈ ix → i < b.cpys.length := by
  have hc := hb.c
  have L : ∃ o, lim (ap7 s_l22Live.d1) (.s nm :: .i 0 :: (b.e ++ [.l []])) = some o ∧
      ∃ ix : List Nat, o = .brk 0 [.l (ix.map ixE)] ∧ ix.length ≤ b.cpys.length ∧ ∀ i, i ∈ ix → i < b.cpys.length := by
    refine lim_exs (fun a : List Nat × Nat => .s nm :: .i (a.2 : Nat) :: (b.e ++ [.l (a.1.map ixE)])) (fun a => b.cpys.length - a.2) (fun a => a.2 ≤ b.cpys.length ∧ a.1.length ≤ a.2 ∧ ∀ i, i ∈ a.1 → i < b.cpys.length) _ ([], 0) ⟨Nat.zero_le _, Nat.zero_le _, by simp⟩ ?_
    rintro ⟨ix, i⟩ ⟨hi, hx, hm⟩
    simp only at hi hx hm
    have w1 : w64 ((i : Int) + 1) = (i : Int) + 1 := w64_of (by omega) (by omega)
    by_cases hlt : i < b.cpys.length
    · left
      have p1 : ix.length + 1 ≤ 4294967296 := by omega
      cases he : (b.cpys[i].svc.toList == nm.toList)
      · exact ⟨(ix, i + 1), by simp [s_l22Live.d1, Book.e, getD_map_lt Cpy.e hlt, Cpy.e, hlt, he, w1], ⟨Nat.succ_le_of_lt hlt, by simp only; omega, hm⟩, by simp only; omega⟩
      · cases hq : b.cpys[i].ending
        · refine ⟨(ix ++ [i], i + 1), by simp [s_l22Live.d1, Book.e, getD_map_lt Cpy.e hlt, Cpy.e, hlt, he, hq, w1, p1, ixE], ⟨Nat.succ_le_of_lt hlt, by simpa using hx, fun j hj => ?_⟩, by simp only; omega⟩
          rcases List.mem_append.1 hj with h | h
          · exact hm j h
          · simp at h; subst h; exact hlt
        · exact ⟨(ix, i + 1), by simp [s_l22Live.d1, Book.e, getD_map_lt Cpy.e hlt, Cpy.e, hlt, he, hq, w1], ⟨Nat.succ_le_of_lt hlt, by simp only; omega, hm⟩, by simp only; omega⟩
    · right
      have : i = b.cpys.length := by omega
      subst this
      exact ⟨.brk 0 [.l (ix.map ixE)], by simp [s_l22Live.d1, Book.e], trivial, ix, rfl, hx, hm⟩
  obtain ⟨o, h1, ix, rfl, h2, h3⟩ := L
  refine ⟨ix, ?_, h2, h3⟩
  simp only [Book.e, jA, jB] at h1
  simp only [s_l22Live, s_l22Live.d3, Book.e, jA, jB, apL, jC, jD]
  erw [h1]
  rfl
theorem s_l22Live_v1_same : s_l22Live_v1 = s_l22Live := rfl
theorem s_l22Some_v1_same : s_l22Some_v1 = s_l22Some := rfl
theorem s_l22Drains_ex (b : Book) (c : Cpy) (hb : Bnd b) : ∃ v : Bool, s_l22Drains (b.e ++ c.e) = some [.b v] := by
  have e1 := s_l18Berth_eq b c.berth hb.small.t
  simp only [Book.e, jA, jB] at e1
  simp only [s_l22Drains, s_l22Drains.d1, Book.e, Cpy.e, jA, jB, apL, jC, jD, e1, call1, jI, C.I_i, C.L_l, jW, brtIx]
  rcases ix_cases (fun t : Brt => sEq t.name c.berth) b.brts with h | ⟨i, h, h1, _⟩
  · exact ⟨false, by simp [h]⟩
  · exact ⟨b.brts[i].drain, by simp [h1, h, getD_map_lt Brt.e h, Brt.e]⟩
theorem s_l22Sooner_ex (b : Book) (x y : Cpy) (im : Int) (hb : Bnd b) : ∃ v : Bool, s_l22Sooner (b.e ++ x.e ++ y.e ++ [.i im]) = some [.b v] := by
  obtain ⟨v1, e1⟩ := s_l22Drains_ex b x hb
  obtain ⟨v2, e2⟩ := s_l22Drains_ex b y hb
  simp only [Book.e, Cpy.e, jA, jB] at e1 e2
  simp only [s_l22Sooner, s_l22Sooner.d1, Book.e, Cpy.e, jA, jB, apL, jC, jD, e1, e2, call1, jI, C.I_i, C.B_b]
  cases !((x.state != 3) == (y.state != 3))
  · cases !((x.image != im) == (y.image != im))
    · cases !(v1 == v2)
      · exact ⟨_, rfl⟩
      · exact ⟨_, rfl⟩
    · exact ⟨_, rfl⟩
  · exact ⟨_, rfl⟩
theorem s_l22First_ex (b : Book) (s : Svc) (ix : List Nat) (hb : Bnd b) (hl : ix.length ≤ 200) (hx : ∀ i, i ∈ ix → i < b.cpys.length) : ∃ en : List (Int × Int), s_l22First (b.e ++ s.e ++ [.l (ix.map ixE)]) = some [.l (en.map enE)] ∧ en.length ≤ 1 ∧ (ix ≠ [] → en.length = 1) := by
  cases ix with
  | nil => exact ⟨[], by simp [s_l22First, s_l22First.d3, Book.e, Svc.e], by simp, by simp⟩
  | cons j js =>
    have hj := hx j (List.mem_cons_self ..)
    have L : ∀ best : Cpy, ∃ o, lim (ap26 s_l22First.d1)
        (.l ((j :: js).map ixE) :: .i 1 :: (b.e ++ s.e ++ best.e)) = some o ∧ ∃ c : Cpy, o = .brk 0 c.e := by
      intro best
      refine lim_exs (fun a : Cpy × Nat => .l ((j :: js).map ixE) :: .i (a.2 : Nat) :: (b.e ++ s.e ++ a.1.e)) (fun a => (j :: js).length - a.2) (fun a => a.2 ≤ (j :: js).length) _ (best, 1) (by simp) ?_
      rintro ⟨best, i⟩ hi
      simp only at hi
      have w1 : w64 ((i : Int) + 1) = (i : Int) + 1 := w64_of (by omega) (by omega)
      by_cases hlt : i < (j :: js).length
      · left
        have hk := hx _ (List.getElem_mem hlt)
        generalize hkk : (j :: js)[i] = k at hk
        have g1 : ((j :: js).map ixE).getD i [] = ixE k := by rw [getD_map_lt ixE hlt, hkk]
        have g2 : (b.cpys.map Cpy.e).getD k [] = b.cpys[k].e := getD_map_lt Cpy.e hk []
        obtain ⟨v, e1⟩ := s_l22Sooner_ex b b.cpys[k] best s.image hb
        simp only [Book.e, Cpy.e, jA, jB] at e1
        have p1 : (i : Int) < ((j :: js).length : Int) := by omega
        have p2 : (k : Int) < (b.cpys.length : Int) := by omega
        have step : ∃ c : Cpy, s_l22First.d1 (.l ((j :: js).map ixE)) (.i (i : Nat)) (.i b.now) (.l (b.svcs.map Svc.e)) (.l (b.cpys.map Cpy.e)) (.l (b.brts.map Brt.e)) (.s s.name) (.i s.ver) (.b s.gone) (.i s.image) (.i s.want) (.i s.down) (.i s.over) (.i s.next) (.i s.per) (.i s.least) (.i s.most) (.i s.load) (.i s.cool)
            (.s best.svc) (.i best.num) (.i best.ver) (.i best.image) (.i best.state) (.b best.ending) (.s best.berth) = some (.again (.l ((j :: js).map ixE) :: .i ((i + 1 : Nat) : Int) :: (b.e ++ s.e ++ c.e))) := by
          simp only [s_l22First.d1, C.I_i, C.L_l, jY, g1, jW, p1, decide_true, jR, jX, ixE, apL, jC, jD, p2, g2, Cpy.e, e1, call1, jI, C.B_b, w1]
          cases v
          · exact ⟨best, rfl⟩
          · exact ⟨b.cpys[k], rfl⟩
        obtain ⟨c, hc⟩ := step
        exact ⟨(c, i + 1), hc, Nat.succ_le_of_lt hlt, by simp only; omega⟩
      · right
        have : i = (j :: js).length := by omega
        subst this
        have p1 : ¬ ((((j :: js).length : Nat) : Int) < (((j :: js).map ixE).length : Int)) := by simp
        exact ⟨.brk 0 best.e, by show s_l22First.d1 _ _ _ _ _ _ _ _ _ _ _ _ _ _ _ _ _ _ _ _ _ _ _ _ _ _ = _; simp only [s_l22First.d1, apL, jC, jD, C.I_i, C.L_l, p1, decide_false, jS]; rfl, trivial, best, rfl⟩
    obtain ⟨o, h1, c, rfl⟩ := L b.cpys[j]
    refine ⟨[(c.num, c.ver)], ?_, by simp, by simp⟩
    have g2 : (b.cpys.map Cpy.e).getD j [] = b.cpys[j].e := getD_map_lt Cpy.e hj []
    have p2 : (j : Int) < (b.cpys.length : Int) := by omega
    have p3 : (0 : Int) < ((js.length + 1 : Nat) : Int) := by omega
    have p4 : (((js.length + 1 : Nat) : Int) == 0) = false := by simp; omega
    simp only [Book.e, Svc.e, Cpy.e, jA, jB, List.map_cons] at h1
    simp only [s_l22First, s_l22First.d3, Book.e, Svc.e, jA, jB, apL, jC, jD, C.L_l, List.map_cons, List.length_cons, jW, p3, p4, jS, decide_true, jR, ixE, C.I_i, jX, jY, p2, g2, Cpy.e]
    simp only [ixE] at h1
    erw [h1]
    rfl
end Go.Ev
