/- Proved here: the law FnStewDone of the given program answers true at every input, and leaves the input as it was; no condition. This text: lemmas on the way (an evaluator of the program's code, sound once for all; the functions it prints; plain proofs on these). -/
import Derived.Test.YtpfjmhaknhnamaaGreatP3
set_option linter.all false
set_option autoImplicit false
set_option maxRecDepth 8000
namespace Go.Ev
def apT (a : Act) (now : Int) (s : Svc) (ss : List Svc) (cs : List Cpy) (ts : List Brt) : List C := a.e ++ [.i 0, .i now] ++ s.e ++ [.l [], .l [], .l [], .l (ss.map Svc.e), .l (cs.map Cpy.e), .l (ts.map Brt.e)]
def apU (a : Act) (now : Int) (s : Svc) (c : Cpy) (ss : List Svc) (cs : List Cpy) (ts : List Brt) : List C := a.e ++ [.i 0, .i now] ++ s.e ++ c.e ++ [.l [], .l [], .l [], .l (ss.map Svc.e), .l (cs.map Cpy.e), .l (ts.map Brt.e)]
theorem apply4 (a : Act) (j v n now : Int) (s : Svc) (c : Cpy) (ss : List Svc) (cs : List Cpy) (ts : List Brt) (hc : cs.length ≤ 200) : ∃ o, lim (fun xs => s_l21Apply.d4 (xs.getD 0 .nil) (xs.getD 1 .nil) (xs.getD 2 .nil) (xs.getD 3 .nil) (xs.getD 4 .nil) (xs.getD 5 .nil) (xs.getD 6 .nil) (xs.getD 7 .nil) (xs.getD 8 .nil) (xs.getD 9 .nil) (xs.getD 10 .nil) (xs.getD 11 .nil) (xs.getD 12 .nil) (xs.getD 13 .nil) (xs.getD 14 .nil) (xs.getD 15 .nil) (xs.getD 16 .nil) (xs.getD 17 .nil) (xs.getD 18 .nil) (xs.getD 19 .nil) (xs.getD 20 .nil) (xs.getD 21 .nil) (xs.getD 22 .nil) (xs.getD 23 .nil) (xs.getD 24 .nil) (xs.getD 25 .nil) (xs.getD 26 .nil) (xs.getD 27 .nil) (xs.getD 28 .nil) (xs.getD 29 .nil) (xs.getD 30 .nil) (xs.getD 31 .nil) (xs.getD 32 .nil) (xs.getD 33 .nil) (xs.getD 34 .nil) (xs.getD 35 .nil) (xs.getD 36 .nil) (xs.getD 37 .nil) (xs.getD 38 .nil) (xs.getD 39 .nil)) (.i j :: .i v :: .i n :: .i 0 :: apU a now s c ss cs ts) = some o ∧
    ∃ i : Nat, i ≤ cs.length ∧ o = .brk 8 (.i j :: .i v :: .i n :: .i (i : Nat) :: apU a now s c ss cs ts) := by
  refine lim_exs (fun i : Nat => .i j :: .i v :: .i n :: .i (i : Nat) :: apU a now s c ss cs ts) (fun i => cs.length - i) (fun i => i ≤ cs.length) _ 0 (Nat.zero_le _) ?_
  intro i hi
  have w1 : w64 ((i : Int) + 1) = (i : Int) + 1 := w64_of (by omega) (by omega)
  simp only [apU, Book.e, Svc.e, Cpy.e, Brt.e, Act.e, Wld.e, Ev1.e, jA, jB, jC, jD, jE, jF, jG, jH, call1, call2, call3, call4, call5, call6, call7, call8, call13, call15, call16, call17, call19, call21, jI, jJ, jK, jL, jM, jN, jO, jP, jQ, jR, jS, jT, jU, jV, jW, jX, jY, nils, rows, jZ, ja, jb, jc, jd]
  by_cases hlt : i < cs.length
  · have p1 : (i : Int) < (cs.length : Int) := by omega
    have g1 : (cs.map Cpy.e).getD i [] = cs[i].e := getD_map_lt Cpy.e hlt []
    have e1 := s_l18Ahead_eq cs[i] c
    simp only [Book.e, Svc.e, Cpy.e, Brt.e, Act.e, Wld.e, Ev1.e, jA, jB, jC, jD, jE, jF, jG, jH, call1, call2, call3, call4, call5, call6, call7, call8, call13, call15, call16, call17, call19, call21, jI, jJ, jK, jL, jM, jN, jO, jP, jQ, jR, jS, jT, jU, jV, jW, jX, jY, nils, rows, jZ, ja, jb, jc, jd] at e1 g1
    simp only [s_l21Apply.d4, jA, jB, jC, jD, jE, jF, jG, jH, call1, call2, call3, call4, call5, call6, call7, call8, call13, call15, call16, call17, call19, call21, jI, jJ, jK, jL, jM, jN, jO, jP, jQ, jR, jS, jT, jU, jV, jW, jX, jY, nils, rows, jZ, ja, jb, jc, jd, p1, g1, e1, w1]
    cases cLt cs[i] c
    · right; exact ⟨_, rfl, trivial, i, hi, rfl⟩
    · left; exact ⟨i + 1, rfl, hlt, by omega⟩
  · right
    have p1 : ¬ (i : Int) < (cs.length : Int) := by omega
    refine ⟨_, ?_, ?_, i, hi, rfl⟩
    · simp only [s_l21Apply.d4, jA, jB, jC, jD, jE, jF, jG, jH, call1, call2, call3, call4, call5, call6, call7, call8, call13, call15, call16, call17, call19, call21, jI, jJ, jK, jL, jM, jN, jO, jP, jQ, jR, jS, jT, jU, jV, jW, jX, jY, nils, rows, jZ, ja, jb, jc, jd, p1]
    · trivial
theorem apply6 (a : Act) (j v now : Int) (s : Svc) (ss : List Svc) (cs : List Cpy) (ts : List Brt) (ha : ActW a) (h0 : 0 ≤ a.create) (hc : (cs.length : Int) + a.create ≤ 200) (hw : ∀ c, c ∈ cs → Wc c) : ∃ o, lim (fun xs => s_l21Apply.d6 (xs.getD 0 .nil) (xs.getD 1 .nil) (xs.getD 2 .nil) (xs.getD 3 .nil) (xs.getD 4 .nil) (xs.getD 5 .nil) (xs.getD 6 .nil) (xs.getD 7 .nil) (xs.getD 8 .nil) (xs.getD 9 .nil) (xs.getD 10 .nil) (xs.getD 11 .nil) (xs.getD 12 .nil) (xs.getD 13 .nil) (xs.getD 14 .nil) (xs.getD 15 .nil) (xs.getD 16 .nil) (xs.getD 17 .nil) (xs.getD 18 .nil) (xs.getD 19 .nil) (xs.getD 20 .nil) (xs.getD 21 .nil) (xs.getD 22 .nil) (xs.getD 23 .nil) (xs.getD 24 .nil) (xs.getD 25 .nil) (xs.getD 26 .nil) (xs.getD 27 .nil) (xs.getD 28 .nil) (xs.getD 29 .nil) (xs.getD 30 .nil) (xs.getD 31 .nil)) (.i j :: .i v :: .i 0 :: apT a now s ss cs ts) = some o ∧
    ∃ (x : Int) (ds : List Cpy), o = .brk 6 (.i j :: .i v :: apT a now { s with next := x } ss ds ts) ∧ ds.length ≤ 200 ∧ ∀ c, c ∈ ds → Wc c := by
  refine lim_exs (fun q : Int × List Cpy × Nat => .i j :: .i v :: .i (q.2.2 : Nat) :: apT a now { s with next := q.1 } ss q.2.1 ts) (fun q => a.create.toNat - q.2.2) (fun q => (q.2.2 : Int) ≤ a.create ∧ q.2.1.length = cs.length + q.2.2 ∧ ∀ c, c ∈ q.2.1 → Wc c) _ (s.next, cs, 0) ⟨h0, rfl, hw⟩ ?_
  rintro ⟨x, ds, n⟩ ⟨hn, hl, hm⟩
  simp only at hn hl hm
  have w1 : w64 ((n : Int) + 1) = (n : Int) + 1 := w64_of (by omega) (by omega)
  by_cases hlt : (n : Int) < a.create
  · left
    obtain ⟨o, e1, i, hi, rfl⟩ := apply4 a j v n now { s with next := x } ⟨a.svc, x, v, s.image, 1, false, bs #[]⟩ ss ds ts (by omega)
    refine ⟨(w64 (x + 1), ds.take i ++ [⟨a.svc, x, v, s.image, 1, false, bs #[]⟩] ++ ds.drop i, n + 1), ?_, ⟨by simp only; omega, by simp; omega, fun c hc => ?_⟩, by simp only; omega⟩
    · simp only [apU, Book.e, Svc.e, Cpy.e, Brt.e, Act.e, Wld.e, Ev1.e, jA, jB, jC, jD, jE, jF, jG, jH, call1, call2, call3, call4, call5, call6, call7, call8, call13, call15, call16, call17, call19, call21, jI, jJ, jK, jL, jM, jN, jO, jP, jQ, jR, jS, jT, jU, jV, jW, jX, jY, nils, rows, jZ, ja, jb, jc, jd] at e1
      simp only [apT, Book.e, Svc.e, Cpy.e, Brt.e, Act.e, Wld.e, Ev1.e, jA, jB, jC, jD, jE, jF, jG, jH, call1, call2, call3, call4, call5, call6, call7, call8, call13, call15, call16, call17, call19, call21, jI, jJ, jK, jL, jM, jN, jO, jP, jQ, jR, jS, jT, jU, jV, jW, jX, jY, nils, rows, jZ, ja, jb, jc, jd, s_l21Apply.d6, hlt]
      rw [e1]
      have q1 : (i : Int) ≤ (ds.length : Int) := by omega
      have q2 : min i ds.length ≤ 4294967296 := by omega
      have q3 : min i ds.length + 1 ≤ 4294967296 := by omega
      have q4 : min i ds.length + 1 + (ds.length - i) ≤ 4294967296 := by omega
      have ta : (List.map Cpy.e ds).take ds.length = List.map Cpy.e ds := take_all _ _ (by simp)
      have tl : ∀ X : C, [X].length = 1 := fun _ => rfl
      simp only [jA, jB, jC, jD, jE, jF, jG, jH, call1, call2, call3, call4, call5, call6, call7, call8, call13, call15, call16, call17, call19, call21, jI, jJ, jK, jL, jM, jN, jO, jP, jQ, jR, jS, jT, jU, jV, jW, jX, jY, nils, rows, jZ, ja, jb, jc, jd, s_l21Apply.d5, q1, List.drop_zero, List.length_take, List.length_append, List.length_drop, Nat.min_self, q2, q3, q4, ta, w1, Int.le_refl, List.map_append, List.map_take, List.map_drop, List.map_cons, List.map_nil, Cpy.e]
      rfl
    · simp only [List.mem_append, List.mem_singleton] at hc
      rcases hc with (h | h) | h
      · exact hm c (List.mem_of_mem_take h)
      · subst h; exact ⟨ha.s, by simp only; rw [size_empty]; omega⟩
      · exact hm c (List.mem_of_mem_drop h)
  · right
    refine ⟨_, ?_, ?_, x, ds, rfl, by omega, hm⟩
    · simp only [apT, Book.e, Svc.e, Cpy.e, Brt.e, Act.e, Wld.e, Ev1.e, jA, jB, jC, jD, jE, jF, jG, jH, call1, call2, call3, call4, call5, call6, call7, call8, call13, call15, call16, call17, call19, call21, jI, jJ, jK, jL, jM, jN, jO, jP, jQ, jR, jS, jT, jU, jV, jW, jX, jY, nils, rows, jZ, ja, jb, jc, jd, s_l21Apply.d6, hlt]
    · trivial
theorem setS_all (s t : Svc) : setCs s.e 0 [.s t.name, .i t.ver, .b t.gone, .i t.image, .i t.want, .i t.down, .i t.over, .i t.next, .i t.per, .i t.least, .i t.most, .i t.load, .i t.cool] = t.e := rfl
theorem apply7 (a : Act) (j : Nat) (v now : Int) (s : Svc) (ss : List Svc) (cs : List Cpy) (ts : List Brt) (hs : ss.length ≤ 8) (hj : j < ss.length) (hn : s.name.size < 4611686018427387904) (hm : ∀ s, s ∈ ss → s.name.size < 4611686018427387904) :
    ∃ rs : List Svc, finR ((fun xs => s_l21Apply.d7 (xs.getD 0 .nil) (xs.getD 1 .nil) (xs.getD 2 .nil) (xs.getD 3 .nil) (xs.getD 4 .nil) (xs.getD 5 .nil) (xs.getD 6 .nil) (xs.getD 7 .nil) (xs.getD 8 .nil) (xs.getD 9 .nil) (xs.getD 10 .nil) (xs.getD 11 .nil) (xs.getD 12 .nil) (xs.getD 13 .nil) (xs.getD 14 .nil) (xs.getD 15 .nil) (xs.getD 16 .nil) (xs.getD 17 .nil) (xs.getD 18 .nil) (xs.getD 19 .nil) (xs.getD 20 .nil) (xs.getD 21 .nil) (xs.getD 22 .nil) (xs.getD 23 .nil) (xs.getD 24 .nil) (xs.getD 25 .nil) (xs.getD 26 .nil) (xs.getD 27 .nil) (xs.getD 28 .nil) (xs.getD 29 .nil) (xs.getD 30 .nil)) (.i j :: .i v :: apT a now s ss cs ts)) = some [.i v, .l (rs.map Svc.e), .l (cs.map Cpy.e), .l (ts.map Brt.e), .i 0] ∧ rs.length ≤ 8 ∧ ∀ s, s ∈ rs → s.name.size < 4611686018427387904 := by
  have p1 : (j : Int) < (ss.length : Int) := by omega
  have p2 : (j : Int) ≤ (ss.length : Int) := by omega
  have w1 : w64 ((j : Int) + 1) = ((j + 1 : Nat) : Int) := by rw [w64_of (by omega) (by omega)]; omega
  have p3 : ((j + 1 : Nat) : Int) ≤ (ss.length : Int) := by omega
  have g1 : (ss.map Svc.e).getD j [] = ss[j].e := getD_map_lt Svc.e hj []
  have st := setS_all ss[j] { s with ver := v }
  have q2 : min j ss.length ≤ 4294967296 := by omega
  have q4 : min j ss.length + (ss.length - (j + 1)) ≤ 4294967296 := by omega
  have hset : ∀ x, x ∈ ss.set j { s with ver := v } → x.name.size < 4611686018427387904 := by
    intro x hx
    rcases List.mem_or_eq_of_mem_set hx with h | h
    · exact hm x h
    · subst h; exact hn
  simp only at st
  cases hd : a.drop
  · refine ⟨ss.set j { s with ver := v }, ?_, by simpa using hs, hset⟩
    simp only [apT, Act.e, Svc.e, jA, jB, jC, jD, jE, jF, jG, jH, call1, call2, call3, call4, call5, call6, call7, call8, call13, call15, call16, call17, call19, call21, jI, jJ, jK, jL, jM, jN, jO, jP, jQ, jR, jS, jT, jU, jV, jW, jX, jY, nils, rows, jZ, ja, jb, jc, jd, s_l21Apply.d7, p1, hd]
    simp only [Svc.e] at g1 st
    rw [g1, st, List.map_set]
    simp only [Svc.e]
  · have ta : (List.map Svc.e (ss.set j { s with ver := v })).take ss.length = List.map Svc.e (ss.set j { s with ver := v }) := take_all _ _ (by simp)
    refine ⟨(ss.set j { s with ver := v }).take j ++ (ss.set j { s with ver := v }).drop (j + 1), ?_, by simp; omega, fun x hx => ?_⟩
    · have g1' := g1
      simp only [Svc.e] at g1' st
      simp only [apT, Act.e, Svc.e, jA, jB, jC, jD, jE, jF, jG, jH, call1, call2, call3, call4, call5, call6, call7, call8, call13, call15, call16, call17, call19, call21, jI, jJ, jK, jL, jM, jN, jO, jP, jQ, jR, jS, jT, jU, jV, jW, jX, jY, nils, rows, jZ, ja, jb, jc, jd, s_l21Apply.d7, p1, hd, g1', st, List.length_set, p2, w1, p3, List.drop_zero, List.length_take, List.length_append, List.length_drop, Nat.min_self, q2, q4, Int.le_refl]
      have er : (List.map Svc.e ss).set j [C.s s.name, C.i v, C.b s.gone, C.i s.image, C.i s.want, C.i s.down, C.i s.over, C.i s.next, C.i s.per, C.i s.least, C.i s.most, C.i s.load, C.i s.cool] = List.map Svc.e (ss.set j { s with ver := v }) := by rw [List.map_set]; rfl
      simp only [er, ta, List.map_append, List.map_take, List.map_drop]
    · rcases List.mem_append.1 hx with h | h
      · exact hset x (List.mem_of_mem_take h)
      · exact hset x (List.mem_of_mem_drop h)
end Go.Ev
namespace Go.Ev
theorem Bnd.r5 {b : Book} (hb : Bnd b) (n : Int) : ∃ (b' : Book) (code : Int), some (b.r5 n) = some (b'.r5 code) ∧ Bnd b' := ⟨b, n, rfl, hb⟩
theorem apply8 (b : Book) (a : Act) (j : Nat) (v : Int) (s : Svc) (cs : List Cpy) (hb : Bnd b) (ha : ActW a) (h0 : 0 ≤ a.create ∧ a.create ≤ 20) (hc : cs.length = b.cpys.length) (hw : ∀ c, c ∈ cs → Wc c) (hj : j < b.svcs.length) (hn : s.name.size < 4611686018427387904) :
    ∃ (b' : Book) (code : Int), finR ((fun xs => s_l21Apply.d8 (xs.getD 0 .nil) (xs.getD 1 .nil) (xs.getD 2 .nil) (xs.getD 3 .nil) (xs.getD 4 .nil) (xs.getD 5 .nil) (xs.getD 6 .nil) (xs.getD 7 .nil) (xs.getD 8 .nil) (xs.getD 9 .nil) (xs.getD 10 .nil) (xs.getD 11 .nil) (xs.getD 12 .nil) (xs.getD 13 .nil) (xs.getD 14 .nil) (xs.getD 15 .nil) (xs.getD 16 .nil) (xs.getD 17 .nil) (xs.getD 18 .nil) (xs.getD 19 .nil) (xs.getD 20 .nil) (xs.getD 21 .nil) (xs.getD 22 .nil) (xs.getD 23 .nil) (xs.getD 24 .nil) (xs.getD 25 .nil) (xs.getD 26 .nil) (xs.getD 27 .nil) (xs.getD 28 .nil) (xs.getD 29 .nil) (xs.getD 30 .nil) (xs.getD 31 .nil) (xs.getD 32 .nil) (xs.getD 33 .nil) (xs.getD 34 .nil)) (.i j :: .i v :: (b.e ++ apT a b.now s b.svcs cs b.brts))) = some (b'.r5 code) ∧ Bnd b' := by
  have hc2 := hb.c
  have w1 : w64 ((b.cpys.length : Int) + a.create) = (b.cpys.length : Int) + a.create := w64_of (by omega) (by omega)
  simp only [apT, Book.e, Svc.e, Cpy.e, Brt.e, Act.e, Wld.e, Ev1.e, jA, jB, jC, jD, jE, jF, jG, jH, call1, call2, call3, call4, call5, call6, call7, call8, call13, call15, call16, call17, call19, call21, jI, jJ, jK, jL, jM, jN, jO, jP, jQ, jR, jS, jT, jU, jV, jW, jX, jY, nils, rows, jZ, ja, jb, jc, jd, s_l21Apply.d8, w1]
  by_cases h1 : (b.cpys.length : Int) + a.create > 200
  · simp only [h1, jA, jB, jC, jD, jE, jF, jG, jH, call1, call2, call3, call4, call5, call6, call7, call8, call13, call15, call16, call17, call19, call21, jI, jJ, jK, jL, jM, jN, jO, jP, jQ, jR, jS, jT, jU, jV, jW, jX, jY, nils, rows, jZ, ja, jb, jc, jd]; exact hb.r5 7
  · simp only [h1, jA, jB, jC, jD, jE, jF, jG, jH, call1, call2, call3, call4, call5, call6, call7, call8, call13, call15, call16, call17, call19, call21, jI, jJ, jK, jL, jM, jN, jO, jP, jQ, jR, jS, jT, jU, jV, jW, jX, jY, nils, rows, jZ, ja, jb, jc, jd]
    cases decide (w64 (s.next + a.create) > 1000000) <;> simp only [jA, jB, jC, jD, jE, jF, jG, jH, call1, call2, call3, call4, call5, call6, call7, call8, call13, call15, call16, call17, call19, call21, jI, jJ, jK, jL, jM, jN, jO, jP, jQ, jR, jS, jT, jU, jV, jW, jX, jY, nils, rows, jZ, ja, jb, jc, jd]
    · cases decide (b.now ≥ 1000000) <;> simp only [jA, jB, jC, jD, jE, jF, jG, jH, call1, call2, call3, call4, call5, call6, call7, call8, call13, call15, call16, call17, call19, call21, jI, jJ, jK, jL, jM, jN, jO, jP, jQ, jR, jS, jT, jU, jV, jW, jX, jY, nils, rows, jZ, ja, jb, jc, jd]
      · obtain ⟨o, e1, x, ds, rfl, hd, hdw⟩ := apply6 a j v b.now s b.svcs cs b.brts ha h0.1 (by omega) hw
        simp only [apT, Book.e, Svc.e, Cpy.e, Brt.e, Act.e, Wld.e, Ev1.e, jA, jB, jC, jD, jE, jF, jG, jH, call1, call2, call3, call4, call5, call6, call7, call8, call13, call15, call16, call17, call19, call21, jI, jJ, jK, jL, jM, jN, jO, jP, jQ, jR, jS, jT, jU, jV, jW, jX, jY, nils, rows, jZ, ja, jb, jc, jd] at e1
        rw [e1]
        obtain ⟨rs, e2, hr, hrm⟩ := apply7 a j v b.now { s with next := x } b.svcs ds b.brts hb.s hj hn hb.w.s
        simp only [apT, Book.e, Svc.e, Cpy.e, Brt.e, Act.e, Wld.e, Ev1.e, jA, jB, jC, jD, jE, jF, jG, jH, call1, call2, call3, call4, call5, call6, call7, call8, call13, call15, call16, call17, call19, call21, jI, jJ, jK, jL, jM, jN, jO, jP, jQ, jR, jS, jT, jU, jV, jW, jX, jY, nils, rows, jZ, ja, jb, jc, jd] at e2
        simp only [jA, jB, jC, jD, jE, jF, jG, jH, call1, call2, call3, call4, call5, call6, call7, call8, call13, call15, call16, call17, call19, call21, jI, jJ, jK, jL, jM, jN, jO, jP, jQ, jR, jS, jT, jU, jV, jW, jX, jY, nils, rows, jZ, ja, jb, jc, jd, e2]
        exact ⟨⟨v, rs, ds, b.brts⟩, 0, rfl, ⟨hr, hd, hb.t, ⟨⟨hrm, hb.w.t⟩, hdw⟩⟩⟩
      · exact hb.r5 7
    · exact hb.r5 7
theorem apply10 (b : Book) (a : Act) (j : Nat) (v : Int) (s : Svc) (cs : List Cpy) (hb : Bnd b) (ha : ActW a) (h0 : 0 ≤ a.create ∧ a.create ≤ 20) (hc : cs.length = b.cpys.length) (hw : ∀ c, c ∈ cs → Wc c) (hj : j < b.svcs.length) (hn : s.name.size < 4611686018427387904) :
    ∃ (b' : Book) (code : Int), finR ((fun xs => s_l21Apply.d10 (xs.getD 0 .nil) (xs.getD 1 .nil) (xs.getD 2 .nil) (xs.getD 3 .nil) (xs.getD 4 .nil) (xs.getD 5 .nil) (xs.getD 6 .nil) (xs.getD 7 .nil) (xs.getD 8 .nil) (xs.getD 9 .nil) (xs.getD 10 .nil) (xs.getD 11 .nil) (xs.getD 12 .nil) (xs.getD 13 .nil) (xs.getD 14 .nil) (xs.getD 15 .nil) (xs.getD 16 .nil) (xs.getD 17 .nil) (xs.getD 18 .nil) (xs.getD 19 .nil) (xs.getD 20 .nil) (xs.getD 21 .nil) (xs.getD 22 .nil) (xs.getD 23 .nil) (xs.getD 24 .nil) (xs.getD 25 .nil) (xs.getD 26 .nil) (xs.getD 27 .nil) (xs.getD 28 .nil) (xs.getD 29 .nil) (xs.getD 30 .nil) (xs.getD 31 .nil) (xs.getD 32 .nil) (xs.getD 33 .nil) (xs.getD 34 .nil)) (.i j :: .i v :: (b.e ++ apT a b.now s b.svcs cs b.brts))) = some (b'.r5 code) ∧ Bnd b' := by
  have hb' : Bnd { b with cpys := cs } := hb.cp (by have := hb.c; omega) hw
  obtain ⟨n1, n2, n3, n4, n5, e1⟩ := s_l19Count_ex { b with cpys := cs } a.svc hb'
  simp only [Book.e, Svc.e, Cpy.e, Brt.e, Act.e, Wld.e, Ev1.e, jA, jB, jC, jD, jE, jF, jG, jH, call1, call2, call3, call4, call5, call6, call7, call8, call13, call15, call16, call17, call19, call21, jI, jJ, jK, jL, jM, jN, jO, jP, jQ, jR, jS, jT, jU, jV, jW, jX, jY, nils, rows, jZ, ja, jb, jc, jd] at e1
  have e8 := apply8 b a j v s cs hb ha h0 hc hw hj hn
  simp only [apT, Book.e, Svc.e, Cpy.e, Brt.e, Act.e, Wld.e, Ev1.e, jA, jB, jC, jD, jE, jF, jG, jH, call1, call2, call3, call4, call5, call6, call7, call8, call13, call15, call16, call17, call19, call21, jI, jJ, jK, jL, jM, jN, jO, jP, jQ, jR, jS, jT, jU, jV, jW, jX, jY, nils, rows, jZ, ja, jb, jc, jd] at e8 ⊢
  simp only [s_l21Apply.d10, jA, jB, jC, jD, jE, jF, jG, jH, call1, call2, call3, call4, call5, call6, call7, call8, call13, call15, call16, call17, call19, call21, jI, jJ, jK, jL, jM, jN, jO, jP, jQ, jR, jS, jT, jU, jV, jW, jX, jY, nils, rows, jZ, ja, jb, jc, jd, e1]
  have e9 : ∃ (b' : Book) (code : Int), finR ((fun xs => s_l21Apply.d9 (xs.getD 0 .nil) (xs.getD 1 .nil) (xs.getD 2 .nil) (xs.getD 3 .nil) (xs.getD 4 .nil) (xs.getD 5 .nil) (xs.getD 6 .nil) (xs.getD 7 .nil) (xs.getD 8 .nil) (xs.getD 9 .nil) (xs.getD 10 .nil) (xs.getD 11 .nil) (xs.getD 12 .nil) (xs.getD 13 .nil) (xs.getD 14 .nil) (xs.getD 15 .nil) (xs.getD 16 .nil) (xs.getD 17 .nil) (xs.getD 18 .nil) (xs.getD 19 .nil) (xs.getD 20 .nil) (xs.getD 21 .nil) (xs.getD 22 .nil) (xs.getD 23 .nil) (xs.getD 24 .nil) (xs.getD 25 .nil) (xs.getD 26 .nil) (xs.getD 27 .nil) (xs.getD 28 .nil) (xs.getD 29 .nil) (xs.getD 30 .nil) (xs.getD 31 .nil) (xs.getD 32 .nil) (xs.getD 33 .nil) (xs.getD 34 .nil)) (.i j :: .i v :: (b.e ++ apT a b.now s b.svcs cs b.brts))) = some (b'.r5 code) ∧ Bnd b' := by
    simp only [apT, Book.e, Svc.e, Cpy.e, Brt.e, Act.e, Wld.e, Ev1.e, jA, jB, jC, jD, jE, jF, jG, jH, call1, call2, call3, call4, call5, call6, call7, call8, call13, call15, call16, call17, call19, call21, jI, jJ, jK, jL, jM, jN, jO, jP, jQ, jR, jS, jT, jU, jV, jW, jX, jY, nils, rows, jZ, ja, jb, jc, jd, s_l21Apply.d9]
    cases hsc : a.scale <;> simp only [jA, jB, jC, jD, jE, jF, jG, jH, call1, call2, call3, call4, call5, call6, call7, call8, call13, call15, call16, call17, call19, call21, jI, jJ, jK, jL, jM, jN, jO, jP, jQ, jR, jS, jT, jU, jV, jW, jX, jY, nils, rows, jZ, ja, jb, jc, jd] <;> rw [hsc] at e8
    · exact e8
    · cases s.per == 0 <;> simp only [jA, jB, jC, jD, jE, jF, jG, jH, call1, call2, call3, call4, call5, call6, call7, call8, call13, call15, call16, call17, call19, call21, jI, jJ, jK, jL, jM, jN, jO, jP, jQ, jR, jS, jT, jU, jV, jW, jX, jY, nils, rows, jZ, ja, jb, jc, jd, s_l18In_eq]
      · cases within a.want s.least s.most <;> simp only [jA, jB, jC, jD, jE, jF, jG, jH, call1, call2, call3, call4, call5, call6, call7, call8, call13, call15, call16, call17, call19, call21, jI, jJ, jK, jL, jM, jN, jO, jP, jQ, jR, jS, jT, jU, jV, jW, jX, jY, nils, rows, jZ, ja, jb, jc, jd]
        · exact hb.r5 6
        · exact e8
      · exact hb.r5 6
  simp only [apT, Book.e, Svc.e, Cpy.e, Brt.e, Act.e, Wld.e, Ev1.e, jA, jB, jC, jD, jE, jF, jG, jH, call1, call2, call3, call4, call5, call6, call7, call8, call13, call15, call16, call17, call19, call21, jI, jJ, jK, jL, jM, jN, jO, jP, jQ, jR, jS, jT, jU, jV, jW, jX, jY, nils, rows, jZ, ja, jb, jc, jd] at e9
  rw [Bool.cond_eq_ite]
  split <;> try simp only [jA, jB, jC, jD, jE, jF, jG, jH, call1, call2, call3, call4, call5, call6, call7, call8, call13, call15, call16, call17, call19, call21, jI, jJ, jK, jL, jM, jN, jO, jP, jQ, jR, jS, jT, jU, jV, jW, jX, jY, nils, rows, jZ, ja, jb, jc, jd]
  · cases hgn : s.gone <;> simp only [jA, jB, jC, jD, jE, jF, jG, jH, call1, call2, call3, call4, call5, call6, call7, call8, call13, call15, call16, call17, call19, call21, jI, jJ, jK, jL, jM, jN, jO, jP, jQ, jR, jS, jT, jU, jV, jW, jX, jY, nils, rows, jZ, ja, jb, jc, jd] <;> rw [hgn] at e9
    · rw [Bool.cond_eq_ite]
      split <;> try simp only [jA, jB, jC, jD, jE, jF, jG, jH, call1, call2, call3, call4, call5, call6, call7, call8, call13, call15, call16, call17, call19, call21, jI, jJ, jK, jL, jM, jN, jO, jP, jQ, jR, jS, jT, jU, jV, jW, jX, jY, nils, rows, jZ, ja, jb, jc, jd]
      · exact hb.r5 6
      · exact e9
    · exact hb.r5 6
  · exact e9
theorem apply12 (b : Book) (a : Act) (j : Nat) (v : Int) (cs : List Cpy) (hb : Bnd b) (ha : ActW a) (h0 : 0 ≤ a.create ∧ a.create ≤ 20) (hc : cs.length = b.cpys.length) (hw : ∀ c, c ∈ cs → Wc c) (hj : j < b.svcs.length) :
    ∃ (b' : Book) (code : Int), finR ((fun xs => s_l21Apply.d12 (xs.getD 0 .nil) (xs.getD 1 .nil) (xs.getD 2 .nil) (xs.getD 3 .nil) (xs.getD 4 .nil) (xs.getD 5 .nil) (xs.getD 6 .nil) (xs.getD 7 .nil) (xs.getD 8 .nil) (xs.getD 9 .nil) (xs.getD 10 .nil) (xs.getD 11 .nil) (xs.getD 12 .nil) (xs.getD 13 .nil) (xs.getD 14 .nil) (xs.getD 15 .nil) (xs.getD 16 .nil) (xs.getD 17 .nil) (xs.getD 18 .nil) (xs.getD 19 .nil) (xs.getD 20 .nil) (xs.getD 21 .nil)) (.i j :: .i v :: (b.e ++ a.e ++ [.i 0, .i b.now, .l [], .l [], .l [], .l (b.svcs.map Svc.e), .l (cs.map Cpy.e), .l (b.brts.map Brt.e)]))) = some (b'.r5 code) ∧ Bnd b' := by
  obtain ⟨n1, n2, n3, n4, n5, e1⟩ := s_l19Count_ex b a.svc hb
  simp only [Book.e, Svc.e, Cpy.e, Brt.e, Act.e, Wld.e, Ev1.e, jA, jB, jC, jD, jE, jF, jG, jH, call1, call2, call3, call4, call5, call6, call7, call8, call13, call15, call16, call17, call19, call21, jI, jJ, jK, jL, jM, jN, jO, jP, jQ, jR, jS, jT, jU, jV, jW, jX, jY, nils, rows, jZ, ja, jb, jc, jd] at e1
  have g1 : (b.svcs.map Svc.e).getD j [] = b.svcs[j].e := getD_map_lt Svc.e hj []
  have p1 : (j : Int) < (b.svcs.length : Int) := by omega
  have hn := hb.w.s _ (List.getElem_mem hj)
  have e11 : ∃ (b' : Book) (code : Int), finR ((fun xs => s_l21Apply.d11 (xs.getD 0 .nil) (xs.getD 1 .nil) (xs.getD 2 .nil) (xs.getD 3 .nil) (xs.getD 4 .nil) (xs.getD 5 .nil) (xs.getD 6 .nil) (xs.getD 7 .nil) (xs.getD 8 .nil) (xs.getD 9 .nil) (xs.getD 10 .nil) (xs.getD 11 .nil) (xs.getD 12 .nil) (xs.getD 13 .nil) (xs.getD 14 .nil) (xs.getD 15 .nil) (xs.getD 16 .nil) (xs.getD 17 .nil) (xs.getD 18 .nil) (xs.getD 19 .nil) (xs.getD 20 .nil) (xs.getD 21 .nil) (xs.getD 22 .nil) (xs.getD 23 .nil) (xs.getD 24 .nil) (xs.getD 25 .nil) (xs.getD 26 .nil) (xs.getD 27 .nil) (xs.getD 28 .nil) (xs.getD 29 .nil) (xs.getD 30 .nil) (xs.getD 31 .nil) (xs.getD 32 .nil) (xs.getD 33 .nil) (xs.getD 34 .nil)) (.i j :: .i v :: (b.e ++ apT a b.now b.svcs[j] b.svcs cs b.brts))) = some (b'.r5 code) ∧ Bnd b' := by
    have q1 := apply10 b a j v b.svcs[j] cs hb ha h0 hc hw hj hn
    have q2 := apply10 b a j v { b.svcs[j] with want := a.want, cool := a.cool } cs hb ha h0 hc hw hj hn
    simp only [apT, Book.e, Svc.e, Cpy.e, Brt.e, Act.e, Wld.e, Ev1.e, jA, jB, jC, jD, jE, jF, jG, jH, call1, call2, call3, call4, call5, call6, call7, call8, call13, call15, call16, call17, call19, call21, jI, jJ, jK, jL, jM, jN, jO, jP, jQ, jR, jS, jT, jU, jV, jW, jX, jY, nils, rows, jZ, ja, jb, jc, jd] at q1 q2
    simp only [apT, Book.e, Svc.e, Cpy.e, Brt.e, Act.e, Wld.e, Ev1.e, jA, jB, jC, jD, jE, jF, jG, jH, call1, call2, call3, call4, call5, call6, call7, call8, call13, call15, call16, call17, call19, call21, jI, jJ, jK, jL, jM, jN, jO, jP, jQ, jR, jS, jT, jU, jV, jW, jX, jY, nils, rows, jZ, ja, jb, jc, jd, s_l21Apply.d11]
    cases hsc : a.scale <;> simp only [jA, jB, jC, jD, jE, jF, jG, jH, call1, call2, call3, call4, call5, call6, call7, call8, call13, call15, call16, call17, call19, call21, jI, jJ, jK, jL, jM, jN, jO, jP, jQ, jR, jS, jT, jU, jV, jW, jX, jY, nils, rows, jZ, ja, jb, jc, jd] <;> rw [hsc] at q1 q2
    · exact q1
    · exact q2
  simp only [apT, Book.e, Svc.e, Cpy.e, Brt.e, Act.e, Wld.e, Ev1.e, jA, jB, jC, jD, jE, jF, jG, jH, call1, call2, call3, call4, call5, call6, call7, call8, call13, call15, call16, call17, call19, call21, jI, jJ, jK, jL, jM, jN, jO, jP, jQ, jR, jS, jT, jU, jV, jW, jX, jY, nils, rows, jZ, ja, jb, jc, jd] at e11
  simp only [Book.e, Svc.e, Cpy.e, Brt.e, Act.e, Wld.e, Ev1.e, jA, jB, jC, jD, jE, jF, jG, jH, call1, call2, call3, call4, call5, call6, call7, call8, call13, call15, call16, call17, call19, call21, jI, jJ, jK, jL, jM, jN, jO, jP, jQ, jR, jS, jT, jU, jV, jW, jX, jY, nils, rows, jZ, ja, jb, jc, jd, s_l21Apply.d12, p1, e1, g1]
  cases hd : a.drop <;> simp only [jA, jB, jC, jD, jE, jF, jG, jH, call1, call2, call3, call4, call5, call6, call7, call8, call13, call15, call16, call17, call19, call21, jI, jJ, jK, jL, jM, jN, jO, jP, jQ, jR, jS, jT, jU, jV, jW, jX, jY, nils, rows, jZ, ja, jb, jc, jd] <;> rw [hd] at e11
  · exact e11
  · cases hgn : b.svcs[j].gone <;> simp only [jA, jB, jC, jD, jE, jF, jG, jH, call1, call2, call3, call4, call5, call6, call7, call8, call13, call15, call16, call17, call19, call21, jI, jJ, jK, jL, jM, jN, jO, jP, jQ, jR, jS, jT, jU, jV, jW, jX, jY, nils, rows, jZ, ja, jb, jc, jd] <;> rw [hgn] at e11
    · exact hb.r5 6
    · cases decide (w64 (n1 + n5) > 0) <;> simp only [jA, jB, jC, jD, jE, jF, jG, jH, call1, call2, call3, call4, call5, call6, call7, call8, call13, call15, call16, call17, call19, call21, jI, jJ, jK, jL, jM, jN, jO, jP, jQ, jR, jS, jT, jU, jV, jW, jX, jY, nils, rows, jZ, ja, jb, jc, jd]
      · exact e11
      · exact hb.r5 6
theorem s_l21Apply_ex (b : Book) (a : Act) (hb : Bnd b) (ha : ActW a) : ∃ (b' : Book) (code : Int), s_l21Apply (b.e ++ a.e) = some (b'.r5 code) ∧ Bnd b' := by
  obtain ⟨u, e1, hu⟩ := s_l21ActOk_ex a ha
  have e2 := s_l18Service_eq b a.svc hb.small.s
  simp only [Book.e, Svc.e, Cpy.e, Brt.e, Act.e, Wld.e, Ev1.e, jA, jB, jC, jD, jE, jF, jG, jH, call1, call2, call3, call4, call5, call6, call7, call8, call13, call15, call16, call17, call19, call21, jI, jJ, jK, jL, jM, jN, jO, jP, jQ, jR, jS, jT, jU, jV, jW, jX, jY, nils, rows, jZ, ja, jb, jc, jd] at e1 e2
  simp only [s_l21Apply, s_l21Apply.d15, Book.e, Svc.e, Cpy.e, Brt.e, Act.e, Wld.e, Ev1.e, jA, jB, jC, jD, jE, jF, jG, jH, call1, call2, call3, call4, call5, call6, call7, call8, call13, call15, call16, call17, call19, call21, jI, jJ, jK, jL, jM, jN, jO, jP, jQ, jR, jS, jT, jU, jV, jW, jX, jY, nils, rows, jZ, ja, jb, jc, jd, e1, e2]
  cases u <;> simp only [jA, jB, jC, jD, jE, jF, jG, jH, call1, call2, call3, call4, call5, call6, call7, call8, call13, call15, call16, call17, call19, call21, jI, jJ, jK, jL, jM, jN, jO, jP, jQ, jR, jS, jT, jU, jV, jW, jX, jY, nils, rows, jZ, ja, jb, jc, jd]
  · exact hb.r5 2
  · have h0 := hu rfl
    rcases findIx_spec (fun s : Svc => sEq s.name a.svc) b.svcs 0 with ⟨q1, q2⟩ | ⟨j, hj, q1, q2, _⟩
    · have q : svcIx b.svcs a.svc = -1 := q2
      rw [q]
      exact hb.r5 3
    · have q : svcIx b.svcs a.svc = (j : Int) := by rw [svcIx, q1]; omega
      have hs : (svcOf b a.svc).isSome := by rw [svcOf, q2]; rfl
      have p0 : ¬ (j : Int) < 0 := by omega
      have p1 : (j : Int) < (b.svcs.length : Int) := by omega
      have g1 : (b.svcs.map Svc.e).getD j [] = b.svcs[j].e := getD_map_lt Svc.e hj []
      obtain ⟨o1, f1, h1⟩ := apply1 b a j hb ha
      simp only [Book.e, Svc.e, Cpy.e, Brt.e, Act.e, Wld.e, Ev1.e, jA, jB, jC, jD, jE, jF, jG, jH, call1, call2, call3, call4, call5, call6, call7, call8, call13, call15, call16, call17, call19, call21, jI, jJ, jK, jL, jM, jN, jO, jP, jQ, jR, jS, jT, jU, jV, jW, jX, jY, nils, rows, jZ, ja, jb, jc, jd] at f1
      simp only [q, p0, jA, jB, jC, jD, jE, jF, jG, jH, call1, call2, call3, call4, call5, call6, call7, call8, call13, call15, call16, call17, call19, call21, jI, jJ, jK, jL, jM, jN, jO, jP, jQ, jR, jS, jT, jU, jV, jW, jX, jY, nils, rows, jZ, ja, jb, jc, jd]
      rw [f1]
      rcases h1 with ⟨rfl, hx⟩ | rfl
      · simp only [Book.e, Svc.e, Cpy.e, Brt.e, Act.e, Wld.e, Ev1.e, jA, jB, jC, jD, jE, jF, jG, jH, call1, call2, call3, call4, call5, call6, call7, call8, call13, call15, call16, call17, call19, call21, jI, jJ, jK, jL, jM, jN, jO, jP, jQ, jR, jS, jT, jU, jV, jW, jX, jY, nils, rows, jZ, ja, jb, jc, jd, s_l21Apply.d14, p1, g1]
        cases (b.svcs[j].ver != a.seen) <;> simp only [jA, jB, jC, jD, jE, jF, jG, jH, call1, call2, call3, call4, call5, call6, call7, call8, call13, call15, call16, call17, call19, call21, jI, jJ, jK, jL, jM, jN, jO, jP, jQ, jR, jS, jT, jU, jV, jW, jX, jY, nils, rows, jZ, ja, jb, jc, jd]
        · obtain ⟨o2, f2, h2⟩ := apply2 b a j hb ha hx
          simp only [Book.e, Svc.e, Cpy.e, Brt.e, Act.e, Wld.e, Ev1.e, jA, jB, jC, jD, jE, jF, jG, jH, call1, call2, call3, call4, call5, call6, call7, call8, call13, call15, call16, call17, call19, call21, jI, jJ, jK, jL, jM, jN, jO, jP, jQ, jR, jS, jT, jU, jV, jW, jX, jY, nils, rows, jZ, ja, jb, jc, jd] at f2
          rw [f2]
          rcases h2 with rfl | rfl
          · have e3 := s_l18Book_eq b hb.fit.s hb.fit.c hb.fit.t
            obtain ⟨o3, f3, h3⟩ := apply3 b a j (w64 (b.now + 1)) hb ha hs
            simp only [Book.e, Svc.e, Cpy.e, Brt.e, Act.e, Wld.e, Ev1.e, jA, jB, jC, jD, jE, jF, jG, jH, call1, call2, call3, call4, call5, call6, call7, call8, call13, call15, call16, call17, call19, call21, jI, jJ, jK, jL, jM, jN, jO, jP, jQ, jR, jS, jT, jU, jV, jW, jX, jY, nils, rows, jZ, ja, jb, jc, jd] at f3 e3
            simp only [Book.e, Svc.e, Cpy.e, Brt.e, Act.e, Wld.e, Ev1.e, jA, jB, jC, jD, jE, jF, jG, jH, call1, call2, call3, call4, call5, call6, call7, call8, call13, call15, call16, call17, call19, call21, jI, jJ, jK, jL, jM, jN, jO, jP, jQ, jR, jS, jT, jU, jV, jW, jX, jY, nils, rows, jZ, ja, jb, jc, jd, s_l21Apply.d13, e3]
            rw [f3]
            rcases h3 with ⟨cs, rfl, hcl, hcw⟩ | rfl
            · have f4 := apply12 b a j (w64 (b.now + 1)) cs hb ha h0 hcl hcw hj
              simp only [Book.e, Svc.e, Cpy.e, Brt.e, Act.e, Wld.e, Ev1.e, jA, jB, jC, jD, jE, jF, jG, jH, call1, call2, call3, call4, call5, call6, call7, call8, call13, call15, call16, call17, call19, call21, jI, jJ, jK, jL, jM, jN, jO, jP, jQ, jR, jS, jT, jU, jV, jW, jX, jY, nils, rows, jZ, ja, jb, jc, jd] at f4
              simp only [Book.e, Svc.e, Cpy.e, Brt.e, Act.e, Wld.e, Ev1.e, jA, jB, jC, jD, jE, jF, jG, jH, call1, call2, call3, call4, call5, call6, call7, call8, call13, call15, call16, call17, call19, call21, jI, jJ, jK, jL, jM, jN, jO, jP, jQ, jR, jS, jT, jU, jV, jW, jX, jY, nils, rows, jZ, ja, jb, jc, jd]
              exact f4
            · exact hb.r5 5
          · exact hb.r5 4
        · exact hb.r5 4
      · exact hb.r5 3
theorem s_StewApply_ex (b : Book) (a : Act) (hb : Bnd b) (ha : ActW a) : ∃ (b' : Book) (code : Int), s_StewApply (b.e ++ a.e) = some (b'.r2 code) ∧ Bnd b' := by
  have e1 := s_StewValid_eq b hb.small hb.w.toNames
  obtain ⟨x, code, e2, hx⟩ := s_l21Apply_ex b a hb ha
  have e3 := s_l18Book_eq x hx.fit.s hx.fit.c hx.fit.t
  simp only [Book.e, Svc.e, Cpy.e, Brt.e, Act.e, Wld.e, Ev1.e, jA, jB, jC, jD, jE, jF, jG, jH, call1, call2, call3, call4, call5, call6, call7, call8, call13, call15, call16, call17, call19, call21, jI, jJ, jK, jL, jM, jN, jO, jP, jQ, jR, jS, jT, jU, jV, jW, jX, jY, nils, rows, jZ, ja, jb, jc, jd, Book.r5] at e1 e2 e3
  simp only [s_StewApply, s_StewApply.d1, Book.e, Svc.e, Cpy.e, Brt.e, Act.e, Wld.e, Ev1.e, jA, jB, jC, jD, jE, jF, jG, jH, call1, call2, call3, call4, call5, call6, call7, call8, call13, call15, call16, call17, call19, call21, jI, jJ, jK, jL, jM, jN, jO, jP, jQ, jR, jS, jT, jU, jV, jW, jX, jY, nils, rows, jZ, ja, jb, jc, jd, e1, e2, e3]
  cases validB b <;> simp only [jA, jB, jC, jD, jE, jF, jG, jH, call1, call2, call3, call4, call5, call6, call7, call8, call13, call15, call16, call17, call19, call21, jI, jJ, jK, jL, jM, jN, jO, jP, jQ, jR, jS, jT, jU, jV, jW, jX, jY, nils, rows, jZ, ja, jb, jc, jd]
  · exact ⟨Book.nil, 1, rfl, Bnd.nil⟩
  · exact ⟨x, code, rfl, hx⟩
end Go.Ev
namespace Go.Ev
def inE (n : Int) : List C := [.i n]
theorem s_l25Do_ex (w : Wld) (k age : Int) (v : Ev1) (hw : WOk w) (hv : Evw v) : ∃ (w' : Wld) (cs : List Int), s_l25Do (w.e ++ (.i k :: .i age :: v.e)) = some (w'.e ++ [.l (cs.map inE)]) ∧ WOk w' := by
  simp only [s_l25Do, s_l25Do.d3, Book.e, Svc.e, Cpy.e, Brt.e, Act.e, Wld.e, Ev1.e, jA, jB, jC, jD, jE, jF, jG, jH, call1, call2, call3, call4, call5, call6, call7, call8, call13, call15, call16, call17, call19, call21, jI, jJ, jK, jL, jM, jN, jO, jP, jQ, jR, jS, jT, jU, jV, jW, jX, jY, nils, rows, jZ, ja, jb, jc, jd, s_l18In_eq]
  cases within k 1 6 <;> simp only [jA, jB, jC, jD, jE, jF, jG, jH, call1, call2, call3, call4, call5, call6, call7, call8, call13, call15, call16, call17, call19, call21, jI, jJ, jK, jL, jM, jN, jO, jP, jQ, jR, jS, jT, jU, jV, jW, jX, jY, nils, rows, jZ, ja, jb, jc, jd]
  · obtain ⟨b, code, e1, hb⟩ := s_StewSea_ex w.book v hw.b.fit hw.b.w hv
    obtain ⟨w', e2, hw'⟩ := s_l25Next_ex w b hw hb
    simp only [Book.e, Svc.e, Cpy.e, Brt.e, Act.e, Wld.e, Ev1.e, jA, jB, jC, jD, jE, jF, jG, jH, call1, call2, call3, call4, call5, call6, call7, call8, call13, call15, call16, call17, call19, call21, jI, jJ, jK, jL, jM, jN, jO, jP, jQ, jR, jS, jT, jU, jV, jW, jX, jY, nils, rows, jZ, ja, jb, jc, jd, Book.r2] at e1 e2
    simp only [jA, jB, jC, jD, jE, jF, jG, jH, call1, call2, call3, call4, call5, call6, call7, call8, call13, call15, call16, call17, call19, call21, jI, jJ, jK, jL, jM, jN, jO, jP, jQ, jR, jS, jT, jU, jV, jW, jX, jY, nils, rows, jZ, ja, jb, jc, jd, e1, e2]
    exact ⟨w', [code], rfl, hw'⟩
  · obtain ⟨b, e1, hb⟩ := s_l25View_ex w age hw
    obtain ⟨ac, e2, hl, ha⟩ := s_StewAsk_ex k b hb
    simp only [Book.e, Svc.e, Cpy.e, Brt.e, Act.e, Wld.e, Ev1.e, jA, jB, jC, jD, jE, jF, jG, jH, call1, call2, call3, call4, call5, call6, call7, call8, call13, call15, call16, call17, call19, call21, jI, jJ, jK, jL, jM, jN, jO, jP, jQ, jR, jS, jT, jU, jV, jW, jX, jY, nils, rows, jZ, ja, jb, jc, jd] at e1 e2
    simp only [jA, jB, jC, jD, jE, jF, jG, jH, call1, call2, call3, call4, call5, call6, call7, call8, call13, call15, call16, call17, call19, call21, jI, jJ, jK, jL, jM, jN, jO, jP, jQ, jR, jS, jT, jU, jV, jW, jX, jY, nils, rows, jZ, ja, jb, jc, jd, e1, e2]
    have L : ∃ o, lim (fun xs => s_l25Do.d1 (xs.getD 0 .nil) (xs.getD 1 .nil) (xs.getD 2 .nil) (xs.getD 3 .nil) (xs.getD 4 .nil) (xs.getD 5 .nil) (xs.getD 6 .nil) (xs.getD 7 .nil) (xs.getD 8 .nil) (xs.getD 9 .nil) (xs.getD 10 .nil) (xs.getD 11 .nil) (xs.getD 12 .nil)) (.i 0 :: (w.e ++ [.i 0, .l [], .l (ac.map Act.e), .l [], .l [], .l [], .l []])) = some o ∧ ∃ (w' : Wld) (cs : List Int), o = .brk 0 (w'.e ++ [.i 0, .l (cs.map inE), .l [], .l [], .l [], .l []]) ∧ WOk w' := by
      refine lim_exs (fun q : Wld × List Int × Nat => .i (q.2.2 : Nat) :: (q.1.e ++ [.i 0, .l (q.2.1.map inE), .l (ac.map Act.e), .l [], .l [], .l [], .l []])) (fun q => ac.length - q.2.2) (fun q => q.2.2 ≤ ac.length ∧ q.2.1.length = q.2.2 ∧ WOk q.1) _ (w, [], 0) ⟨Nat.zero_le _, rfl, hw⟩ ?_
      rintro ⟨u, cs, i⟩ ⟨hi, hc, hu⟩
      simp only at hi hc hu
      have w1 : w64 ((i : Int) + 1) = (i : Int) + 1 := w64_of (by omega) (by omega)
      by_cases hlt : i < ac.length
      · left
        have g1 : (ac.map Act.e).getD i [] = ac[i].e := getD_map_lt Act.e hlt []
        have p1 : (i : Int) < (ac.length : Int) := by omega
        have p2 : cs.length + 1 ≤ 4294967296 := by omega
        obtain ⟨b', code, e3, hb'⟩ := s_StewApply_ex u.book ac[i] hu.b (ha _ (List.getElem_mem hlt))
        obtain ⟨u', e4, hu'⟩ := s_l25Next_ex u b' hu hb'
        simp only [Book.e, Svc.e, Cpy.e, Brt.e, Act.e, Wld.e, Ev1.e, jA, jB, jC, jD, jE, jF, jG, jH, call1, call2, call3, call4, call5, call6, call7, call8, call13, call15, call16, call17, call19, call21, jI, jJ, jK, jL, jM, jN, jO, jP, jQ, jR, jS, jT, jU, jV, jW, jX, jY, nils, rows, jZ, ja, jb, jc, jd, Book.r2] at e3 e4
        refine ⟨(u', cs ++ [code], i + 1), ?_, ⟨hlt, by simp [hc], hu'⟩, by simp only; omega⟩
        simp only [s_l25Do.d1, Book.e, Svc.e, Cpy.e, Brt.e, Act.e, Wld.e, Ev1.e, jA, jB, jC, jD, jE, jF, jG, jH, call1, call2, call3, call4, call5, call6, call7, call8, call13, call15, call16, call17, call19, call21, jI, jJ, jK, jL, jM, jN, jO, jP, jQ, jR, jS, jT, jU, jV, jW, jX, jY, nils, rows, jZ, ja, jb, jc, jd, p1, g1, e3, e4, p2, w1, List.map_append, List.map_cons, List.map_nil]
        rfl
      · right
        have p1 : ¬ (i : Int) < (ac.length : Int) := by omega
        refine ⟨_, ?_, ?_, u, cs, rfl, hu⟩
        · simp only [s_l25Do.d1, Book.e, Svc.e, Cpy.e, Brt.e, Act.e, Wld.e, Ev1.e, jA, jB, jC, jD, jE, jF, jG, jH, call1, call2, call3, call4, call5, call6, call7, call8, call13, call15, call16, call17, call19, call21, jI, jJ, jK, jL, jM, jN, jO, jP, jQ, jR, jS, jT, jU, jV, jW, jX, jY, nils, rows, jZ, ja, jb, jc, jd, p1]
        · trivial
    obtain ⟨o, e3, w', cs, rfl, hw'⟩ := L
    simp only [Book.e, Svc.e, Cpy.e, Brt.e, Act.e, Wld.e, Ev1.e, jA, jB, jC, jD, jE, jF, jG, jH, call1, call2, call3, call4, call5, call6, call7, call8, call13, call15, call16, call17, call19, call21, jI, jJ, jK, jL, jM, jN, jO, jP, jQ, jR, jS, jT, jU, jV, jW, jX, jY, nils, rows, jZ, ja, jb, jc, jd] at e3
    rw [e3]
    exact ⟨w', cs, rfl, hw'⟩
theorem s_StewWorldOk_ex (w : Wld) (hw : WOk w) : ∃ v : Bool, s_StewWorldOk w.e = some [.b v] := by
  have e1 := s_StewValid_eq w.book hw.b.small hw.b.w.toNames
  have hl := hw.l
  simp only [Book.e, Svc.e, Cpy.e, Brt.e, Act.e, Wld.e, Ev1.e, jA, jB, jC, jD, jE, jF, jG, jH, call1, call2, call3, call4, call5, call6, call7, call8, call13, call15, call16, call17, call19, call21, jI, jJ, jK, jL, jM, jN, jO, jP, jQ, jR, jS, jT, jU, jV, jW, jX, jY, nils, rows, jZ, ja, jb, jc, jd] at e1
  have L : ∃ o, lim (fun xs => s_StewWorldOk.d1 (xs.getD 0 .nil) (xs.getD 1 .nil) (xs.getD 2 .nil) (xs.getD 3 .nil) (xs.getD 4 .nil) (xs.getD 5 .nil)) (.i 0 :: w.e) = some o ∧ (o = .brk 0 [] ∨ o = .ret [.b false]) := by
    refine lim_exs (fun i : Nat => .i (i : Nat) :: w.e) (fun i => w.past.length - i) (fun i => i ≤ w.past.length) _ 0 (Nat.zero_le _) ?_
    intro i hi
    have w1 : w64 ((i : Int) + 1) = (i : Int) + 1 := w64_of (by omega) (by omega)
    simp only [Book.e, Svc.e, Cpy.e, Brt.e, Act.e, Wld.e, Ev1.e, jA, jB, jC, jD, jE, jF, jG, jH, call1, call2, call3, call4, call5, call6, call7, call8, call13, call15, call16, call17, call19, call21, jI, jJ, jK, jL, jM, jN, jO, jP, jQ, jR, jS, jT, jU, jV, jW, jX, jY, nils, rows, jZ, ja, jb, jc, jd]
    by_cases hlt : i < w.past.length
    · have g1 : (w.past.map Book.e).getD i [] = w.past[i].e := getD_map_lt Book.e hlt []
      have p1 : (i : Int) < (w.past.length : Int) := by omega
      have hp := hw.p _ (List.getElem_mem hlt)
      have e2 := s_StewValid_eq w.past[i] hp.small hp.w.toNames
      simp only [Book.e, Svc.e, Cpy.e, Brt.e, Act.e, Wld.e, Ev1.e, jA, jB, jC, jD, jE, jF, jG, jH, call1, call2, call3, call4, call5, call6, call7, call8, call13, call15, call16, call17, call19, call21, jI, jJ, jK, jL, jM, jN, jO, jP, jQ, jR, jS, jT, jU, jV, jW, jX, jY, nils, rows, jZ, ja, jb, jc, jd] at e2 g1
      have er : List.map (fun b : Book => [C.i b.now, C.l (List.map Svc.e b.svcs), C.l (List.map Cpy.e b.cpys), C.l (List.map Brt.e b.brts)]) w.past = w.past.map Book.e := rfl
      simp only [s_StewWorldOk.d1, jA, jB, jC, jD, jE, jF, jG, jH, call1, call2, call3, call4, call5, call6, call7, call8, call13, call15, call16, call17, call19, call21, jI, jJ, jK, jL, jM, jN, jO, jP, jQ, jR, jS, jT, jU, jV, jW, jX, jY, nils, rows, jZ, ja, jb, jc, jd, p1, g1, e2]
      cases validB w.past[i] <;> simp only [jA, jB, jC, jD, jE, jF, jG, jH, call1, call2, call3, call4, call5, call6, call7, call8, call13, call15, call16, call17, call19, call21, jI, jJ, jK, jL, jM, jN, jO, jP, jQ, jR, jS, jT, jU, jV, jW, jX, jY, nils, rows, jZ, ja, jb, jc, jd]
      · right; exact ⟨_, rfl, trivial, .inr rfl⟩
      · rw [Bool.cond_eq_ite]; split
        · rw [Bool.cond_eq_ite]; split
          · rename_i hh
            have h0 : 0 < i := by simp at hh; omega
            have w2 : w64 ((i : Int) - 1) = ((i - 1 : Nat) : Int) := by rw [w64_of (by omega) (by omega)]; omega
            have p2 : ((i - 1 : Nat) : Int) < (w.past.length : Int) := by omega
            have g2 : (w.past.map Book.e).getD (i - 1) [] = w.past[i - 1].e := getD_map_lt Book.e (by omega) []
            simp only [Book.e, Svc.e, Cpy.e, Brt.e, Act.e, Wld.e, Ev1.e, jA, jB, jC, jD, jE, jF, jG, jH, call1, call2, call3, call4, call5, call6, call7, call8, call13, call15, call16, call17, call19, call21, jI, jJ, jK, jL, jM, jN, jO, jP, jQ, jR, jS, jT, jU, jV, jW, jX, jY, nils, rows, jZ, ja, jb, jc, jd] at g2
            simp only [jA, jB, jC, jD, jE, jF, jG, jH, call1, call2, call3, call4, call5, call6, call7, call8, call13, call15, call16, call17, call19, call21, jI, jJ, jK, jL, jM, jN, jO, jP, jQ, jR, jS, jT, jU, jV, jW, jX, jY, nils, rows, jZ, ja, jb, jc, jd, w2, p2, g2]
            cases decide (w.past[i - 1].now > w.past[i].now) <;> simp only [jA, jB, jC, jD, jE, jF, jG, jH, call1, call2, call3, call4, call5, call6, call7, call8, call13, call15, call16, call17, call19, call21, jI, jJ, jK, jL, jM, jN, jO, jP, jQ, jR, jS, jT, jU, jV, jW, jX, jY, nils, rows, jZ, ja, jb, jc, jd]
            · left; exact ⟨i + 1, by rw [w1]; rfl, hlt, by omega⟩
            · right; exact ⟨_, rfl, trivial, .inr rfl⟩
          · left; exact ⟨i + 1, by rw [w1]; rfl, hlt, by omega⟩
        · right; exact ⟨_, rfl, trivial, .inr rfl⟩
    · right
      have p1 : ¬ (i : Int) < (w.past.length : Int) := by omega
      refine ⟨.brk 0 [], ?_, trivial, .inl rfl⟩
      simp only [s_StewWorldOk.d1, jA, jB, jC, jD, jE, jF, jG, jH, call1, call2, call3, call4, call5, call6, call7, call8, call13, call15, call16, call17, call19, call21, jI, jJ, jK, jL, jM, jN, jO, jP, jQ, jR, jS, jT, jU, jV, jW, jX, jY, nils, rows, jZ, ja, jb, jc, jd, p1]
  obtain ⟨o, e2, ho⟩ := L
  simp only [Book.e, Svc.e, Cpy.e, Brt.e, Act.e, Wld.e, Ev1.e, jA, jB, jC, jD, jE, jF, jG, jH, call1, call2, call3, call4, call5, call6, call7, call8, call13, call15, call16, call17, call19, call21, jI, jJ, jK, jL, jM, jN, jO, jP, jQ, jR, jS, jT, jU, jV, jW, jX, jY, nils, rows, jZ, ja, jb, jc, jd] at e2
  have p1 : ¬ ((w.past.length : Int) > 8) := by omega
  simp only [s_StewWorldOk, s_StewWorldOk.d3, Book.e, Svc.e, Cpy.e, Brt.e, Act.e, Wld.e, Ev1.e, jA, jB, jC, jD, jE, jF, jG, jH, call1, call2, call3, call4, call5, call6, call7, call8, call13, call15, call16, call17, call19, call21, jI, jJ, jK, jL, jM, jN, jO, jP, jQ, jR, jS, jT, jU, jV, jW, jX, jY, nils, rows, jZ, ja, jb, jc, jd, e1, p1]
  cases validB w.book <;> simp only [jA, jB, jC, jD, jE, jF, jG, jH, call1, call2, call3, call4, call5, call6, call7, call8, call13, call15, call16, call17, call19, call21, jI, jJ, jK, jL, jM, jN, jO, jP, jQ, jR, jS, jT, jU, jV, jW, jX, jY, nils, rows, jZ, ja, jb, jc, jd]
  · exact ⟨_, rfl⟩
  · rw [e2]
    rcases ho with rfl | rfl
    · exact ⟨_, rfl⟩
    · exact ⟨_, rfl⟩
end Go.Ev
namespace Go.Ev
theorem s_l25Order_ex (os : List Int) (ho : os.length ≤ 100) : ∃ ks : List Int, s_l25Order [.l (os.map inE)] = some [.l (ks.map inE)] ∧ ks.length ≤ 1000 := by
  have L1 : ∀ (ks al : List Int) (i : Nat) (hk : ks.length ≤ 1000) (hi : i < al.length), ∃ (o : Out), lim (fun xs => s_l25Order.d1 (xs.getD 0 .nil) (xs.getD 1 .nil) (xs.getD 2 .nil) (xs.getD 3 .nil) (xs.getD 4 .nil)) [.i (i : Nat), .b false, .i 0, .l (ks.map inE), .l (al.map inE)] = some o ∧ ∃ v : Bool, o = .brk 2 [.i (i : Nat), .b v, .l (ks.map inE), .l (al.map inE)] := by
    intro ks al i hk hi
    refine lim_exs (fun q : Bool × Nat => [.i (i : Nat), .b q.1, .i (q.2 : Nat), .l (ks.map inE), .l (al.map inE)]) (fun q => ks.length - q.2) (fun q => q.2 ≤ ks.length) _ (false, 0) (Nat.zero_le _) ?_
    rintro ⟨v, k⟩ hkk
    simp only at hkk
    have w1 : w64 ((k : Int) + 1) = (k : Int) + 1 := w64_of (by omega) (by omega)
    by_cases hlt : k < ks.length
    · left
      have p1 : (k : Int) < (ks.length : Int) := by omega
      have p2 : (i : Int) < (al.length : Int) := by omega
      have g1 : (ks.map inE).getD k [] = inE ks[k] := getD_map_lt inE hlt []
      have g2 : (al.map inE).getD i [] = inE al[i] := getD_map_lt inE hi []
      cases v
      · exact ⟨(ks[k] == al[i], k + 1), by simp only [s_l25Order.d1, jA, jB, jC, jD, jE, jF, jG, jH, call1, call2, call3, call4, call5, call6, call7, call8, call13, call15, call16, call17, call19, call21, jI, jJ, jK, jL, jM, jN, jO, jP, jQ, jR, jS, jT, jU, jV, jW, jX, jY, nils, rows, jZ, ja, jb, jc, jd, p1, p2, g1, g2, inE, w1]; rfl, hlt, by simp only; omega⟩
      · exact ⟨(true, k + 1), by simp only [s_l25Order.d1, jA, jB, jC, jD, jE, jF, jG, jH, call1, call2, call3, call4, call5, call6, call7, call8, call13, call15, call16, call17, call19, call21, jI, jJ, jK, jL, jM, jN, jO, jP, jQ, jR, jS, jT, jU, jV, jW, jX, jY, nils, rows, jZ, ja, jb, jc, jd, p1, p2, w1]; rfl, hlt, by simp only; omega⟩
    · right
      have p1 : ¬ (k : Int) < (ks.length : Int) := by omega
      refine ⟨_, ?_, ?_, v, rfl⟩
      · simp only [s_l25Order.d1, jA, jB, jC, jD, jE, jF, jG, jH, call1, call2, call3, call4, call5, call6, call7, call8, call13, call15, call16, call17, call19, call21, jI, jJ, jK, jL, jM, jN, jO, jP, jQ, jR, jS, jT, jU, jV, jW, jX, jY, nils, rows, jZ, ja, jb, jc, jd, p1]
      · trivial
  have hal : (os ++ [1, 2, 3, 4, 5, 6]).length ≤ 200 := by simp; omega
  generalize hq : os ++ [1, 2, 3, 4, 5, 6] = al at hal
  have L : ∃ o, lim (fun xs => s_l25Order.d3 (xs.getD 0 .nil) (xs.getD 1 .nil) (xs.getD 2 .nil)) [.i 0, .l [], .l (al.map inE)] = some o ∧ ∃ ks : List Int, o = .brk 0 [.l (ks.map inE)] ∧ ks.length ≤ 1000 := by
    refine lim_exs (fun q : List Int × Nat => [.i (q.2 : Nat), .l (q.1.map inE), .l (al.map inE)]) (fun q => al.length - q.2) (fun q => q.2 ≤ al.length ∧ q.1.length ≤ q.2) _ ([], 0) ⟨Nat.zero_le _, Nat.zero_le _⟩ ?_
    rintro ⟨ks, i⟩ ⟨hi, hk⟩
    simp only at hi hk
    have w1 : w64 ((i : Int) + 1) = (i : Int) + 1 := w64_of (by omega) (by omega)
    by_cases hlt : i < al.length
    · left
      have p1 : (i : Int) < (al.length : Int) := by omega
      have p2 : ks.length + 1 ≤ 4294967296 := by omega
      have g2 : (al.map inE).getD i [] = inE al[i] := getD_map_lt inE hlt []
      obtain ⟨o, e1, v, rfl⟩ := L1 ks al i (by omega) hlt
      have step : ∃ ks' : List Int, s_l25Order.d3 (.i (i : Nat)) (.l (ks.map inE)) (.l (al.map inE)) = some (.again [.i ((i + 1 : Nat) : Int), .l (ks'.map inE), .l (al.map inE)]) ∧ ks'.length ≤ i + 1 := by
        simp only [s_l25Order.d3, jA, jB, jC, jD, jE, jF, jG, jH, call1, call2, call3, call4, call5, call6, call7, call8, call13, call15, call16, call17, call19, call21, jI, jJ, jK, jL, jM, jN, jO, jP, jQ, jR, jS, jT, jU, jV, jW, jX, jY, nils, rows, jZ, ja, jb, jc, jd, p1]
        rw [e1]
        simp only [jA, jB, jC, jD, jE, jF, jG, jH, call1, call2, call3, call4, call5, call6, call7, call8, call13, call15, call16, call17, call19, call21, jI, jJ, jK, jL, jM, jN, jO, jP, jQ, jR, jS, jT, jU, jV, jW, jX, jY, nils, rows, jZ, ja, jb, jc, jd, s_l25Order.d2]
        cases v <;> simp only [jA, jB, jC, jD, jE, jF, jG, jH, call1, call2, call3, call4, call5, call6, call7, call8, call13, call15, call16, call17, call19, call21, jI, jJ, jK, jL, jM, jN, jO, jP, jQ, jR, jS, jT, jU, jV, jW, jX, jY, nils, rows, jZ, ja, jb, jc, jd, p1, g2, inE, s_l18In_eq]
        · cases within al[i] 1 6 <;> simp only [jA, jB, jC, jD, jE, jF, jG, jH, call1, call2, call3, call4, call5, call6, call7, call8, call13, call15, call16, call17, call19, call21, jI, jJ, jK, jL, jM, jN, jO, jP, jQ, jR, jS, jT, jU, jV, jW, jX, jY, nils, rows, jZ, ja, jb, jc, jd, w1]
          · exact ⟨ks, rfl, by omega⟩
          · exact ⟨ks ++ [al[i]], by simp only [jA, jB, jC, jD, jE, jF, jG, jH, call1, call2, call3, call4, call5, call6, call7, call8, call13, call15, call16, call17, call19, call21, jI, jJ, jK, jL, jM, jN, jO, jP, jQ, jR, jS, jT, jU, jV, jW, jX, jY, nils, rows, jZ, ja, jb, jc, jd, p2, List.map_append, List.map_cons, List.map_nil, inE]; rfl, by simp; omega⟩
        · exact ⟨ks, by rw [w1]; rfl, by omega⟩
      obtain ⟨ks', h1, h2⟩ := step
      exact ⟨(ks', i + 1), h1, ⟨hlt, h2⟩, by simp only; omega⟩
    · right
      have p1 : ¬ (i : Int) < (al.length : Int) := by omega
      refine ⟨_, ?_, ?_, ks, rfl, by omega⟩
      · simp only [s_l25Order.d3, jA, jB, jC, jD, jE, jF, jG, jH, call1, call2, call3, call4, call5, call6, call7, call8, call13, call15, call16, call17, call19, call21, jI, jJ, jK, jL, jM, jN, jO, jP, jQ, jR, jS, jT, jU, jV, jW, jX, jY, nils, rows, jZ, ja, jb, jc, jd, p1]
      · trivial
  obtain ⟨o, e1, ks, rfl, hk⟩ := L
  refine ⟨ks, ?_, hk⟩
  have q1 : os.length ≤ 4294967296 := by omega
  have q2 : os.length + 6 ≤ 4294967296 := by omega
  have er : List.map inE os ++ [[C.i 1], [C.i 2], [C.i 3], [C.i 4], [C.i 5], [C.i 6]] = List.map inE al := by rw [← hq, List.map_append]; rfl
  have l6 : [[C.i 1], [C.i 2], [C.i 3], [C.i 4], [C.i 5], [C.i 6]].length = 6 := rfl
  simp only [s_l25Order, s_l25Order.d5, jA, jB, jC, jD, jE, jF, jG, jH, call1, call2, call3, call4, call5, call6, call7, call8, call13, call15, call16, call17, call19, call21, jI, jJ, jK, jL, jM, jN, jO, jP, jQ, jR, jS, jT, jU, jV, jW, jX, jY, nils, rows, jZ, ja, jb, jc, jd, q1, l6, q2, er]
  rw [e1]
  rfl
def Wld.c (w : Wld) : List C := [.i w.book.now, .l (w.past.map Book.e), .l (w.book.svcs.map Svc.e), .l (w.book.cpys.map Cpy.e), .l (w.book.brts.map Brt.e)]
theorem s_l25Copy_ex (w : Wld) (hw : WOk w) : s_l25Copy w.e = some w.c := by
  have hl := hw.l
  have L : ∃ o, lim (fun xs => s_l25Copy.d1 (xs.getD 0 .nil) (xs.getD 1 .nil) (xs.getD 2 .nil) (xs.getD 3 .nil) (xs.getD 4 .nil) (xs.getD 5 .nil) (xs.getD 6 .nil) (xs.getD 7 .nil) (xs.getD 8 .nil) (xs.getD 9 .nil) (xs.getD 10 .nil) (xs.getD 11 .nil) (xs.getD 12 .nil) (xs.getD 13 .nil) (xs.getD 14 .nil) (xs.getD 15 .nil)) (.i 0 :: (w.e ++ [.i 0, .i w.book.now, .l [], .l [], .l [], .l [], .l [], .l (w.book.svcs.map Svc.e), .l (w.book.cpys.map Cpy.e), .l (w.book.brts.map Brt.e)])) = some o ∧ o = .brk 0 [.i 0, .i w.book.now, .l [], .l [], .l [], .l [], .l (w.past.map Book.e), .l (w.book.svcs.map Svc.e), .l (w.book.cpys.map Cpy.e), .l (w.book.brts.map Brt.e)] := by
    refine lim_exs (fun i : Nat => .i (i : Nat) :: (w.e ++ [.i 0, .i w.book.now, .l [], .l [], .l [], .l [], .l ((w.past.take i).map Book.e), .l (w.book.svcs.map Svc.e), .l (w.book.cpys.map Cpy.e), .l (w.book.brts.map Brt.e)])) (fun i => w.past.length - i) (fun i => i ≤ w.past.length) _ 0 (Nat.zero_le _) ?_
    intro i hi
    have w1 : w64 ((i : Int) + 1) = (i : Int) + 1 := w64_of (by omega) (by omega)
    by_cases hlt : i < w.past.length
    · left
      refine ⟨i + 1, ?_, hlt, by omega⟩
      have hp := hw.p _ (List.getElem_mem hlt)
      have e2 := s_l18Book_v1_eq w.past[i] hp.fit.s hp.fit.c hp.fit.t
      have g1 : (w.past.map Book.e).getD i [] = w.past[i].e := getD_map_lt Book.e hlt []
      have p1 : (i : Int) < (w.past.length : Int) := by omega
      have p2 : min i w.past.length + 1 ≤ 4294967296 := by omega
      simp only [Book.e, Svc.e, Cpy.e, Brt.e, Act.e, Wld.e, Ev1.e, jA, jB, jC, jD, jE, jF, jG, jH, call1, call2, call3, call4, call5, call6, call7, call8, call13, call15, call16, call17, call19, call21, jI, jJ, jK, jL, jM, jN, jO, jP, jQ, jR, jS, jT, jU, jV, jW, jX, jY, nils, rows, jZ, ja, jb, jc, jd] at e2 g1
      have er : w.past.take (i + 1) = w.past.take i ++ [w.past[i]] := List.take_succ_eq_append_getElem hlt
      simp only [s_l25Copy.d1, Book.e, Svc.e, Cpy.e, Brt.e, Act.e, Wld.e, Ev1.e, jA, jB, jC, jD, jE, jF, jG, jH, call1, call2, call3, call4, call5, call6, call7, call8, call13, call15, call16, call17, call19, call21, jI, jJ, jK, jL, jM, jN, jO, jP, jQ, jR, jS, jT, jU, jV, jW, jX, jY, nils, rows, jZ, ja, jb, jc, jd, p1, g1, e2, w1, List.length_take, p2, er, List.map_append, List.map_cons, List.map_nil]
      rfl
    · right
      have : i = w.past.length := by omega
      subst this
      have p1 : ¬ (w.past.length : Int) < (w.past.length : Int) := by omega
      refine ⟨_, ?_, ?_, rfl⟩
      · simp only [s_l25Copy.d1, Book.e, Svc.e, Cpy.e, Brt.e, Act.e, Wld.e, Ev1.e, jA, jB, jC, jD, jE, jF, jG, jH, call1, call2, call3, call4, call5, call6, call7, call8, call13, call15, call16, call17, call19, call21, jI, jJ, jK, jL, jM, jN, jO, jP, jQ, jR, jS, jT, jU, jV, jW, jX, jY, nils, rows, jZ, ja, jb, jc, jd, p1, List.take_length]
      · trivial
  obtain ⟨o, e1, rfl⟩ := L
  have e2 := s_l18Book_eq w.book hw.b.fit.s hw.b.fit.c hw.b.fit.t
  simp only [Book.e, Svc.e, Cpy.e, Brt.e, Act.e, Wld.e, Ev1.e, jA, jB, jC, jD, jE, jF, jG, jH, call1, call2, call3, call4, call5, call6, call7, call8, call13, call15, call16, call17, call19, call21, jI, jJ, jK, jL, jM, jN, jO, jP, jQ, jR, jS, jT, jU, jV, jW, jX, jY, nils, rows, jZ, ja, jb, jc, jd] at e1 e2
  simp only [s_l25Copy, s_l25Copy.d3, Book.e, Svc.e, Cpy.e, Brt.e, Act.e, Wld.e, Ev1.e, jA, jB, jC, jD, jE, jF, jG, jH, call1, call2, call3, call4, call5, call6, call7, call8, call13, call15, call16, call17, call19, call21, jI, jJ, jK, jL, jM, jN, jO, jP, jQ, jR, jS, jT, jU, jV, jW, jX, jY, nils, rows, jZ, ja, jb, jc, jd, e2]
  rw [e1]
  rfl
def Ev1.tick : Ev1 := ⟨1, ⟨bs #[], 0, false, 0, 0, 0, 0, 0, 0, 0, 0, 0, 0⟩, bs #[], 0, false⟩
theorem Wld.nil_ok : WOk ⟨[], Book.nil⟩ := ⟨by simp, by simp, Bnd.nil⟩
end Go.Ev
namespace Go.Ev
theorem Ev1.tick_ok (k : Int) : Evw ⟨k, ⟨bs #[], 0, false, 0, 0, 0, 0, 0, 0, 0, 0, 0, 0⟩, bs #[], 0, false⟩ := ⟨by simp only; rw [size_empty]; omega, by simp only; rw [size_empty]; omega⟩
theorem s_StewCalm_ex (w : Wld) (n : Int) (os : List Int) (hw : WOk w) (ho : os.length ≤ 100) : ∃ w' : Wld, s_StewCalm (w.e ++ [.i n, .l (os.map inE)]) = some w'.c ∧ WOk w' := by
  obtain ⟨v, e1⟩ := s_StewWorldOk_ex w hw
  obtain ⟨ks, e2, hk⟩ := s_l25Order_ex os ho
  simp only [Book.e, Svc.e, Cpy.e, Brt.e, Act.e, Wld.e, Ev1.e, jA, jB, jC, jD, jE, jF, jG, jH, call1, call2, call3, call4, call5, call6, call7, call8, call13, call15, call16, call17, call19, call21, jI, jJ, jK, jL, jM, jN, jO, jP, jQ, jR, jS, jT, jU, jV, jW, jX, jY, nils, rows, jZ, ja, jb, jc, jd] at e1 e2
  simp only [s_StewCalm, s_StewCalm.d5, Book.e, Svc.e, Cpy.e, Brt.e, Act.e, Wld.e, Ev1.e, jA, jB, jC, jD, jE, jF, jG, jH, call1, call2, call3, call4, call5, call6, call7, call8, call13, call15, call16, call17, call19, call21, jI, jJ, jK, jL, jM, jN, jO, jP, jQ, jR, jS, jT, jU, jV, jW, jX, jY, nils, rows, jZ, ja, jb, jc, jd, e1, e2]
  cases v <;> simp only [jA, jB, jC, jD, jE, jF, jG, jH, call1, call2, call3, call4, call5, call6, call7, call8, call13, call15, call16, call17, call19, call21, jI, jJ, jK, jL, jM, jN, jO, jP, jQ, jR, jS, jT, jU, jV, jW, jX, jY, nils, rows, jZ, ja, jb, jc, jd]
  · exact ⟨⟨[], Book.nil⟩, rfl, Wld.nil_ok⟩
  · have L1 : ∀ (u : Wld) (r : Int), WOk u → ∃ o, lim (fun xs => s_StewCalm.d1 (xs.getD 0 .nil) (xs.getD 1 .nil) (xs.getD 2 .nil) (xs.getD 3 .nil) (xs.getD 4 .nil) (xs.getD 5 .nil) (xs.getD 6 .nil) (xs.getD 7 .nil) (xs.getD 8 .nil) (xs.getD 9 .nil) (xs.getD 10 .nil) (xs.getD 11 .nil) (xs.getD 12 .nil) (xs.getD 13 .nil)) (.i n :: .i r :: .i 0 :: .i 0 :: .l (ks.map inE) :: (u.e ++ [.l [], .l [], .l [], .l []])) = some o ∧ ∃ u' : Wld, o = .brk 2 (.i n :: .i r :: .i 0 :: .l (ks.map inE) :: (u'.e ++ [.l [], .l [], .l [], .l []])) ∧ WOk u' := by
      intro u r hu
      refine lim_exs (fun q : Wld × Nat => .i n :: .i r :: .i (q.2 : Nat) :: .i 0 :: .l (ks.map inE) :: (q.1.e ++ [.l [], .l [], .l [], .l []])) (fun q => ks.length - q.2) (fun q => q.2 ≤ ks.length ∧ WOk q.1) _ (u, 0) ⟨Nat.zero_le _, hu⟩ ?_
      rintro ⟨x, i⟩ ⟨hi, hx⟩
      simp only at hi hx
      have w1 : w64 ((i : Int) + 1) = (i : Int) + 1 := w64_of (by omega) (by omega)
      by_cases hlt : i < ks.length
      · left
        have p1 : (i : Int) < (ks.length : Int) := by omega
        have g2 : (ks.map inE).getD i [] = inE ks[i] := getD_map_lt inE hlt []
        obtain ⟨x', cs, e3, hx'⟩ := s_l25Do_ex x ks[i] 0 ⟨0, ⟨bs #[], 0, false, 0, 0, 0, 0, 0, 0, 0, 0, 0, 0⟩, bs #[], 0, false⟩ hx (Ev1.tick_ok 0)
        simp only [Book.e, Svc.e, Cpy.e, Brt.e, Act.e, Wld.e, Ev1.e, jA, jB, jC, jD, jE, jF, jG, jH, call1, call2, call3, call4, call5, call6, call7, call8, call13, call15, call16, call17, call19, call21, jI, jJ, jK, jL, jM, jN, jO, jP, jQ, jR, jS, jT, jU, jV, jW, jX, jY, nils, rows, jZ, ja, jb, jc, jd] at e3
        refine ⟨(x', i + 1), ?_, ⟨hlt, hx'⟩, by simp only; omega⟩
        simp only [s_StewCalm.d1, Book.e, Svc.e, Cpy.e, Brt.e, Act.e, Wld.e, Ev1.e, jA, jB, jC, jD, jE, jF, jG, jH, call1, call2, call3, call4, call5, call6, call7, call8, call13, call15, call16, call17, call19, call21, jI, jJ, jK, jL, jM, jN, jO, jP, jQ, jR, jS, jT, jU, jV, jW, jX, jY, nils, rows, jZ, ja, jb, jc, jd, p1, g2, inE, e3, w1]
        rfl
      · right
        have p1 : ¬ (i : Int) < (ks.length : Int) := by omega
        refine ⟨_, ?_, ?_, x, rfl, hx⟩
        · simp only [s_StewCalm.d1, Book.e, Svc.e, Cpy.e, Brt.e, Act.e, Wld.e, Ev1.e, jA, jB, jC, jD, jE, jF, jG, jH, call1, call2, call3, call4, call5, call6, call7, call8, call13, call15, call16, call17, call19, call21, jI, jJ, jK, jL, jM, jN, jO, jP, jQ, jR, jS, jT, jU, jV, jW, jX, jY, nils, rows, jZ, ja, jb, jc, jd, p1]
        · trivial
    have L2 : ∃ o, lim (fun xs => s_StewCalm.d3 (xs.getD 0 .nil) (xs.getD 1 .nil) (xs.getD 2 .nil) (xs.getD 3 .nil) (xs.getD 4 .nil) (xs.getD 5 .nil) (xs.getD 6 .nil) (xs.getD 7 .nil) (xs.getD 8 .nil) (xs.getD 9 .nil) (xs.getD 10 .nil) (xs.getD 11 .nil) (xs.getD 12 .nil)) (.i n :: .i 0 :: .i 0 :: .l (ks.map inE) :: (w.e ++ [.l [], .l [], .l [], .l []])) = some o ∧ ∃ u' : Wld, o = .brk 0 (.i 0 :: (u'.e ++ [.l [], .l [], .l [], .l []])) ∧ WOk u' := by
      refine lim_exs (fun q : Wld × Nat => .i n :: .i (q.2 : Nat) :: .i 0 :: .l (ks.map inE) :: (q.1.e ++ [.l [], .l [], .l [], .l []])) (fun q => 1000 - q.2) (fun q => WOk q.1) _ (w, 0) hw ?_
      rintro ⟨x, i⟩ hx
      simp only at hx
      by_cases h1 : (i : Int) < n
      · by_cases h2 : (i : Int) < 1000
        · left
          have w1 : w64 ((i : Int) + 1) = (i : Int) + 1 := w64_of (by omega) (by omega)
          obtain ⟨x', cs, e3, hx'⟩ := s_l25Do_ex x 0 0 ⟨1, ⟨bs #[], 0, false, 0, 0, 0, 0, 0, 0, 0, 0, 0, 0⟩, bs #[], 0, false⟩ hx (Ev1.tick_ok 1)
          obtain ⟨o, e4, y, rfl, hy⟩ := L1 x' i hx'
          simp only [Book.e, Svc.e, Cpy.e, Brt.e, Act.e, Wld.e, Ev1.e, jA, jB, jC, jD, jE, jF, jG, jH, call1, call2, call3, call4, call5, call6, call7, call8, call13, call15, call16, call17, call19, call21, jI, jJ, jK, jL, jM, jN, jO, jP, jQ, jR, jS, jT, jU, jV, jW, jX, jY, nils, rows, jZ, ja, jb, jc, jd] at e3 e4
          refine ⟨(y, i + 1), ?_, hy, by simp only; omega⟩
          simp only [s_StewCalm.d3, Book.e, Svc.e, Cpy.e, Brt.e, Act.e, Wld.e, Ev1.e, jA, jB, jC, jD, jE, jF, jG, jH, call1, call2, call3, call4, call5, call6, call7, call8, call13, call15, call16, call17, call19, call21, jI, jJ, jK, jL, jM, jN, jO, jP, jQ, jR, jS, jT, jU, jV, jW, jX, jY, nils, rows, jZ, ja, jb, jc, jd, h1, h2, e3]
          rw [e4]
          simp only [jA, jB, jC, jD, jE, jF, jG, jH, call1, call2, call3, call4, call5, call6, call7, call8, call13, call15, call16, call17, call19, call21, jI, jJ, jK, jL, jM, jN, jO, jP, jQ, jR, jS, jT, jU, jV, jW, jX, jY, nils, rows, jZ, ja, jb, jc, jd, s_StewCalm.d2, w1]
          rfl
        · right
          refine ⟨_, ?_, ?_, x, rfl, hx⟩
          · simp only [s_StewCalm.d3, Book.e, Svc.e, Cpy.e, Brt.e, Act.e, Wld.e, Ev1.e, jA, jB, jC, jD, jE, jF, jG, jH, call1, call2, call3, call4, call5, call6, call7, call8, call13, call15, call16, call17, call19, call21, jI, jJ, jK, jL, jM, jN, jO, jP, jQ, jR, jS, jT, jU, jV, jW, jX, jY, nils, rows, jZ, ja, jb, jc, jd, h1, h2]
          · trivial
      · right
        refine ⟨_, ?_, ?_, x, rfl, hx⟩
        · simp only [s_StewCalm.d3, Book.e, Svc.e, Cpy.e, Brt.e, Act.e, Wld.e, Ev1.e, jA, jB, jC, jD, jE, jF, jG, jH, call1, call2, call3, call4, call5, call6, call7, call8, call13, call15, call16, call17, call19, call21, jI, jJ, jK, jL, jM, jN, jO, jP, jQ, jR, jS, jT, jU, jV, jW, jX, jY, nils, rows, jZ, ja, jb, jc, jd, h1]
        · trivial
    obtain ⟨o, e3, u, rfl, hu⟩ := L2
    have e4 := s_l25Copy_ex u hu
    simp only [Book.e, Svc.e, Cpy.e, Brt.e, Act.e, Wld.e, Ev1.e, jA, jB, jC, jD, jE, jF, jG, jH, call1, call2, call3, call4, call5, call6, call7, call8, call13, call15, call16, call17, call19, call21, jI, jJ, jK, jL, jM, jN, jO, jP, jQ, jR, jS, jT, jU, jV, jW, jX, jY, nils, rows, jZ, ja, jb, jc, jd, Wld.c] at e3 e4
    rw [e3]
    simp only [jA, jB, jC, jD, jE, jF, jG, jH, call1, call2, call3, call4, call5, call6, call7, call8, call13, call15, call16, call17, call19, call21, jI, jJ, jK, jL, jM, jN, jO, jP, jQ, jR, jS, jT, jU, jV, jW, jX, jY, nils, rows, jZ, ja, jb, jc, jd, s_StewCalm.d4, e4]
    exact ⟨u, rfl, hu⟩
structure Rd where
  b : List Int
  p : Nat
def Rd.e (r : Rd) : List C := [.l (r.b.map inE), .i (r.p : Nat)]
structure ROk (m : Nat) (r : Rd) : Prop where
  l : r.b.length ≤ 2000
  y : ∀ n, n ∈ r.b → 0 ≤ n ∧ n ≤ 255
  p : r.p ≤ m
theorem ROk.le {m n : Nat} {r : Rd} (h : ROk m r) (hm : m ≤ n) : ROk n r := ⟨h.l, h.y, Nat.le_trans h.p hm⟩
theorem xor_nonneg (x : Int) (h0 : 0 ≤ x) (h1 : x ≤ 4611686018427387904) : 0 ≤ w64 ((BitVec.ofInt (IntKind.bits .i64) x ^^^ BitVec.ofInt (IntKind.bits .i64) (x.tdiv 64)).toNat : Int) := by
  have hb : IntKind.bits .i64 = 64 := rfl
  rw [hb]
  obtain ⟨n, rfl⟩ := Int.eq_ofNat_of_zero_le h0
  have e1 : BitVec.ofInt 64 (n : Int) = BitVec.ofNat 64 n := BitVec.ofInt_natCast 64 n
  have e2 : ((n : Int)).tdiv 64 = ((n / 64 : Nat) : Int) := rfl
  have e3 : BitVec.ofInt 64 ((n / 64 : Nat) : Int) = BitVec.ofNat 64 (n / 64) := BitVec.ofInt_natCast 64 (n / 64)
  rw [e2]
  have hlt : (BitVec.ofInt 64 (n : Int) ^^^ BitVec.ofInt 64 ((n / 64 : Nat) : Int)).toNat < 2 ^ 63 := by
    rw [e1, e3, BitVec.toNat_xor]
    apply Nat.xor_lt_two_pow
    · rw [BitVec.toNat_ofNat]; omega
    · rw [BitVec.toNat_ofNat]; omega
  rw [w64_of (by omega) (by omega)]
  omega
end Go.Ev
namespace Go.Ev
theorem tmod_nat (a b : Nat) : ((a : Int)).tmod (b : Int) = ((a % b : Nat) : Int) := rfl
theorem tdiv_nat (a b : Nat) : ((a : Int)).tdiv (b : Int) = ((a / b : Nat) : Int) := rfl
theorem w64_nat {n : Nat} (h : n ≤ 9223372036854775807) : w64 (n : Int) = (n : Int) := w64_of (by omega) (by omega)
theorem byte_at {m : Nat} {r : Rd} (h : ROk m r) {i : Nat} (hi : i < r.b.length) : ∃ k : Nat, (r.b.map inE).getD i [] = [.i (k : Nat)] ∧ k ≤ 255 := by
  obtain ⟨h1, h2⟩ := h.y _ (List.getElem_mem hi)
  refine ⟨r.b[i].toNat, ?_, by omega⟩
  rw [getD_map_lt inE hi, inE]
  congr 2
  omega
theorem s_pick_ex (r : Rd) (n : Int) {m : Nat} (hr : ROk m r) (hm : m ≤ 1000000000000) (hn : n ≤ 1000000) : ∃ x : Int, s_l18Rd_pick (.i n :: r.e) = some (.i x :: (Rd.e ⟨r.b, r.p + 1⟩)) ∧ 0 ≤ x ∧ (1 ≤ n → x < n) := by
  have hp := hr.p
  have w1 : w64 ((r.p : Int) + 1) = ((r.p + 1 : Nat) : Int) := w64_nat (n := r.p + 1) (by omega)
  have w2 : w64 (((r.p + 1 : Nat) : Int) - 1) = (r.p : Int) := by rw [w64_of (by omega) (by omega)]; omega
  simp only [s_l18Rd_pick, s_l18Rd_pick.d1, Rd.e, jA, jB, jC, jD, jE, jF, jG, jH, call1, call2, call3, call4, call5, call6, call7, call8, call13, call15, call16, call17, call19, call21, jI, jJ, jK, jL, jM, jN, jO, jP, jQ, jR, jS, jT, jU, jV, jW, jX, jY, nils, rows, jZ, ja, jb, jc, jd, w1, w2]
  by_cases h1 : n < 1
  · simp only [h1, jA, jB, jC, jD, jE, jF, jG, jH, call1, call2, call3, call4, call5, call6, call7, call8, call13, call15, call16, call17, call19, call21, jI, jJ, jK, jL, jM, jN, jO, jP, jQ, jR, jS, jT, jU, jV, jW, jX, jY, nils, rows, jZ, ja, jb, jc, jd]
    exact ⟨0, rfl, by omega, fun h => by omega⟩
  · have hn0 : (n != 0) = true := by simp; omega
    obtain ⟨d, rfl⟩ := Int.eq_ofNat_of_zero_le (show 0 ≤ n by omega)
    simp only [h1, jA, jB, jC, jD, jE, jF, jG, jH, call1, call2, call3, call4, call5, call6, call7, call8, call13, call15, call16, call17, call19, call21, jI, jJ, jK, jL, jM, jN, jO, jP, jQ, jR, jS, jT, jU, jV, jW, jX, jY, nils, rows, jZ, ja, jb, jc, jd, hn0]
    by_cases hz : r.b.length = 0
    · have : ((r.b.length : Int) == 0) = true := by simp [hz]
      simp only [this, jA, jB, jC, jD, jE, jF, jG, jH, call1, call2, call3, call4, call5, call6, call7, call8, call13, call15, call16, call17, call19, call21, jI, jJ, jK, jL, jM, jN, jO, jP, jQ, jR, jS, jT, jU, jV, jW, jX, jY, nils, rows, jZ, ja, jb, jc, jd]
      exact ⟨0, rfl, by omega, fun h => by omega⟩
    · have z1 : ((r.b.length : Int) == 0) = false := by simp; intro h; exact hz (by rw [h]; rfl)
      have z2 : ((r.b.length : Int) != 0) = true := by simp only [bne, z1, ja]
      simp only [z1, z2, jA, jB, jC, jD, jE, jF, jG, jH, call1, call2, call3, call4, call5, call6, call7, call8, call13, call15, call16, call17, call19, call21, jI, jJ, jK, jL, jM, jN, jO, jP, jQ, jR, jS, jT, jU, jV, jW, jX, jY, nils, rows, jZ, ja, jb, jc, jd]
      by_cases hlt : (r.p : Int) < (r.b.length : Int)
      · obtain ⟨k, hk, hk2⟩ := byte_at hr (i := r.p) (by omega)
        simp only [hlt, hk, jA, jB, jC, jD, jE, jF, jG, jH, call1, call2, call3, call4, call5, call6, call7, call8, call13, call15, call16, call17, call19, call21, jI, jJ, jK, jL, jM, jN, jO, jP, jQ, jR, jS, jT, jU, jV, jW, jX, jY, nils, rows, jZ, ja, jb, jc, jd, w64_nat (n := k) (by omega), tmod_nat]
        exact ⟨_, rfl, by omega, fun _ => by have := Nat.mod_lt k (show d > 0 by omega); omega⟩
      · have l0 : r.b.length > 0 := by omega
        have m1 := Nat.mod_lt r.p l0
        have m2 := Nat.mod_lt (r.p * 7 + 3) l0
        have v1 : w64 ((r.p : Int) * 7) = ((r.p * 7 : Nat) : Int) := by rw [w64_of (by omega) (by omega)]; omega
        have v2 : w64 (((r.p * 7 : Nat) : Int) + 3) = ((r.p * 7 + 3 : Nat) : Int) := by rw [w64_of (by omega) (by omega)]; omega
        obtain ⟨k1, hk1, hk1'⟩ := byte_at hr (i := r.p % r.b.length) m1
        obtain ⟨k2, hk2, hk2'⟩ := byte_at hr (i := (r.p * 7 + 3) % r.b.length) m2
        have q1 : ((r.p % r.b.length : Nat) : Int) < (r.b.length : Int) := by omega
        have q2 : (((r.p * 7 + 3) % r.b.length : Nat) : Int) < (r.b.length : Int) := by omega
        have q3 : r.p / r.b.length ≤ r.p := Nat.div_le_self _ _
        simp only [hlt, jA, jB, jC, jD, jE, jF, jG, jH, call1, call2, call3, call4, call5, call6, call7, call8, call13, call15, call16, call17, call19, call21, jI, jJ, jK, jL, jM, jN, jO, jP, jQ, jR, jS, jT, jU, jV, jW, jX, jY, nils, rows, jZ, ja, jb, jc, jd, v1, v2, tmod_nat, tdiv_nat, q1, q2, hk1, hk2, w64_nat (n := k1) (by omega), w64_nat (n := k2) (by omega)]
        generalize hQ : r.p / r.b.length = Q at q3 ⊢
        have u1 : w64 ((k1 : Int) * 131) = ((k1 * 131 : Nat) : Int) := by rw [w64_of (by omega) (by omega)]; omega
        have u2 : w64 ((k2 : Int) * 1117) = ((k2 * 1117 : Nat) : Int) := by rw [w64_of (by omega) (by omega)]; omega
        have u3 : w64 ((r.p : Int) * 29) = ((r.p * 29 : Nat) : Int) := by rw [w64_of (by omega) (by omega)]; omega
        have u4 : w64 ((Q : Nat) : Int) = ((Q : Nat) : Int) := w64_nat (by omega)
        have u5 : w64 (((Q : Nat) : Int) * 53) = ((Q * 53 : Nat) : Int) := by rw [w64_of (by omega) (by omega)]; omega
        have u6 : w64 (((k1 * 131 : Nat) : Int) + ((k2 * 1117 : Nat) : Int)) = ((k1 * 131 + k2 * 1117 : Nat) : Int) := by rw [w64_of (by omega) (by omega)]; omega
        have u7 : w64 (((k1 * 131 + k2 * 1117 : Nat) : Int) + ((r.p * 29 : Nat) : Int)) = ((k1 * 131 + k2 * 1117 + r.p * 29 : Nat) : Int) := by rw [w64_of (by omega) (by omega)]; omega
        have u8 : w64 (((k1 * 131 + k2 * 1117 + r.p * 29 : Nat) : Int) + ((Q * 53 : Nat) : Int)) = ((k1 * 131 + k2 * 1117 + r.p * 29 + Q * 53 : Nat) : Int) := by rw [w64_of (by omega) (by omega)]; omega
        simp only [u1, u2, u3, u4, u5, u6, u7, u8]
        have hb : k1 * 131 + k2 * 1117 + r.p * 29 + Q * 53 ≤ 4611686018427387904 / 2 := by omega
        generalize hX : k1 * 131 + k2 * 1117 + r.p * 29 + Q * 53 = X at hb
        have vd : ((X : Int)).tdiv 64 = ((X / 64 : Nat) : Int) := rfl
        have vw : w64 (((X : Int)).tdiv 64) = ((X : Int)).tdiv 64 := by rw [vd]; exact w64_nat (by omega)
        have xn := xor_nonneg (X : Int) (by omega) (by omega)
        simp only [vw]
        obtain ⟨Y, hY⟩ := Int.eq_ofNat_of_zero_le xn
        rw [hY]
        simp only [tmod_nat]
        exact ⟨_, rfl, by omega, fun _ => by have := Nat.mod_lt Y (show d > 0 by omega); omega⟩
end Go.Ev
namespace Go.Ev
theorem pick_ex (r : Rd) (n : Int) {m : Nat} (hr : ROk m r) (hm : m ≤ 1000000000000) (hn : n ≤ 1000000) : ∃ (x : Int) (r' : Rd), s_l18Rd_pick [.i n, .l (r.b.map inE), .i (r.p : Nat)] = some [.i x, .l (r'.b.map inE), .i (r'.p : Nat)] ∧ 0 ≤ x ∧ (1 ≤ n → x < n) ∧ ROk (m + 1) r' := by
  obtain ⟨x, h1, h2, h3⟩ := s_pick_ex r n hr hm hn
  exact ⟨x, ⟨r.b, r.p + 1⟩, h1, h2, h3, ⟨hr.l, hr.y, Nat.succ_le_succ hr.p⟩⟩
theorem lit_s (l : List Str) (x : Int) (h0 : 0 ≤ x) (h1 : x < l.length) : ∃ t, t ∈ l ∧ ((l.map fun t => [C.s t]).getD x.toNat []).getD 0 .nil = .s t := by
  have h : x.toNat < l.length := by omega
  exact ⟨l[x.toNat], List.getElem_mem h, by rw [getD_map_lt (fun t => [C.s t]) h]; rfl⟩
theorem lit_i (l : List Int) (x : Int) (h0 : 0 ≤ x) (h1 : x < l.length) : ∃ t : Int, ((l.map inE).getD x.toNat []).getD 0 .nil = .i t := by
  have h : x.toNat < l.length := by omega
  exact ⟨l[x.toNat], by rw [getD_map_lt inE h]; rfl⟩
theorem small_bs {a : Array UInt8} (h : a.size ≤ 100) : (bs a).size < 4611686018427387904 := by
  have : (bs a).size = a.size := rfl
  omega
theorem s_l18DrawWish_ex (r : Rd) {m : Nat} (hr : ROk m r) (hm : m ≤ 999999999) : ∃ (s : Svc) (r' : Rd), s_l18DrawWish r.e = some (s.e ++ r'.e) ∧ s.name.size < 4611686018427387904 ∧ ROk (m + 20) r' := by
  obtain ⟨x1, r1, e1, a1, b1, h1⟩ := pick_ex r 3 hr (by omega) (by omega)
  obtain ⟨x2, r2, e2, a2, b2, h2⟩ := pick_ex r1 3 h1 (by omega) (by omega)
  obtain ⟨x3, r3, e3, a3, b3, h3⟩ := pick_ex r2 6 h2 (by omega) (by omega)
  obtain ⟨x4, r4, e4, a4, b4, h4⟩ := pick_ex r3 3 h3 (by omega) (by omega)
  obtain ⟨x5, r5, e5, a5, b5, h5⟩ := pick_ex r4 3 h4 (by omega) (by omega)
  obtain ⟨x6, r6, e6, a6, b6, h6⟩ := pick_ex r5 10 h5 (by omega) (by omega)
  obtain ⟨x7, r7, e7, a7, b7, h7⟩ := pick_ex r6 3 h6 (by omega) (by omega)
  obtain ⟨x8, r8, e8, a8, b8, h8⟩ := pick_ex r7 9 h7 (by omega) (by omega)
  obtain ⟨x9, r9, e9, a9, b9, h9⟩ := pick_ex r8 3 h8 (by omega) (by omega)
  obtain ⟨y1, t1, f1, c1, d1, k1⟩ := pick_ex r9 5 h9 (by omega) (by omega)
  obtain ⟨y2, t2, f2, c2, d2, k2⟩ := pick_ex t1 60 k1 (by omega) (by omega)
  obtain ⟨y3, t3, f3, c3, d3, k3⟩ := pick_ex t2 4 k2 (by omega) (by omega)
  obtain ⟨nm, hn1, hn2⟩ := lit_s [bs #[100, 98], bs #[119, 101, 98], bs #[120, 45, 49]] x1 a1 (b1 (by omega))
  have hsz : nm.size < 4611686018427387904 := by
    simp only [List.mem_cons, List.mem_nil_iff, or_false] at hn1
    rcases hn1 with rfl | rfl | rfl <;> exact small_bs (by decide)
  have p1 : x1 < ((3 : Nat) : Int) := b1 (by omega)
  have l3 : [[C.s (bs #[100, 98])], [C.s (bs #[119, 101, 98])], [C.s (bs #[120, 45, 49])]].length = 3 := rfl
  simp only [List.map_cons, List.map_nil] at hn2
  have key : ∃ (q1 q2 q3 q4 q5 q6 q7 q8 q9 q10 q11 : Int) (g : Bool) (r' : Rd), s_l18DrawWish r.e = some ([.s nm, .i q1, .b g, .i q2, .i q3, .i q4, .i q5, .i q6, .i q7, .i q8, .i q9, .i q10, .i q11] ++ r'.e) ∧ ROk (m + 20) r' := by
    simp only [s_l18DrawWish, s_l18DrawWish.d2, Rd.e, jA, jB, jC, jD, jE, jF, jG, jH, call1, call2, call3, call4, call5, call6, call7, call8, call13, call15, call16, call17, call19, call21, jI, jJ, jK, jL, jM, jN, jO, jP, jQ, jR, jS, jT, jU, jV, jW, jX, jY, nils, rows, jZ, ja, jb, jc, jd, e1, a1, p1, l3, e2, e3, e4, e5, e6, hn2]
    rw [Bool.cond_eq_ite]
    split
    all_goals simp only [jA, jB, jC, jD, jE, jF, jG, jH, call1, call2, call3, call4, call5, call6, call7, call8, call13, call15, call16, call17, call19, call21, jI, jJ, jK, jL, jM, jN, jO, jP, jQ, jR, jS, jT, jU, jV, jW, jX, jY, nils, rows, jZ, ja, jb, jc, jd, s_l18DrawWish.d1, e7]
    all_goals rw [Bool.cond_eq_ite]
    all_goals split
    all_goals simp only [jA, jB, jC, jD, jE, jF, jG, jH, call1, call2, call3, call4, call5, call6, call7, call8, call13, call15, call16, call17, call19, call21, jI, jJ, jK, jL, jM, jN, jO, jP, jQ, jR, jS, jT, jU, jV, jW, jX, jY, nils, rows, jZ, ja, jb, jc, jd, e8, e9, f1, f2, f3]
    any_goals (rw [Bool.cond_eq_ite]; split)
    all_goals try simp only [jA, jB, jC, jD, jE, jF, jG, jH, call1, call2, call3, call4, call5, call6, call7, call8, call13, call15, call16, call17, call19, call21, jI, jJ, jK, jL, jM, jN, jO, jP, jQ, jR, jS, jT, jU, jV, jW, jX, jY, nils, rows, jZ, ja, jb, jc, jd]
    any_goals exact ⟨_, _, _, _, _, _, _, _, _, _, _, _, t3, rfl, k3.le (by omega)⟩
    any_goals exact ⟨_, _, _, _, _, _, _, _, _, _, _, _, r7, rfl, h7.le (by omega)⟩
  obtain ⟨q1, q2, q3, q4, q5, q6, q7, q8, q9, q10, q11, g, r', h, hr'⟩ := key
  exact ⟨⟨nm, q1, g, q2, q3, q4, q5, q6, q7, q8, q9, q10, q11⟩, r', h, hsz, hr'⟩
end Go.Ev
namespace Go.Ev
def zE : List C := [.i 0, .s (bs #[]), .i 0, .b false, .i 0, .i 0, .i 0, .i 0, .i 0, .i 0, .i 0, .i 0, .i 0, .i 0, .s (bs #[]), .i 0, .b false]
theorem zEvw (k n : Int) (nm : Str) (f : Bool) (h : nm.size < 4611686018427387904) : Evw ⟨k, ⟨bs #[], 0, false, 0, 0, 0, 0, 0, 0, 0, 0, 0, 0⟩, nm, n, f⟩ := ⟨by simp only; rw [size_empty]; omega, h⟩
theorem ev_loop (r : Rd) (b : Book) {m : Nat} (hr : ROk m r) (hm : m ≤ 999999999) (hb : Bnd b) : ∃ o, lim (fun xs => s_l23Event.d1 (xs.getD 0 .nil) (xs.getD 1 .nil) (xs.getD 2 .nil) (xs.getD 3 .nil) (xs.getD 4 .nil) (xs.getD 5 .nil) (xs.getD 6 .nil) (xs.getD 7 .nil) (xs.getD 8 .nil) (xs.getD 9 .nil) (xs.getD 10 .nil) (xs.getD 11 .nil) (xs.getD 12 .nil) (xs.getD 13 .nil) (xs.getD 14 .nil) (xs.getD 15 .nil) (xs.getD 16 .nil) (xs.getD 17 .nil) (xs.getD 18 .nil) (xs.getD 19 .nil) (xs.getD 20 .nil) (xs.getD 21 .nil) (xs.getD 22 .nil) (xs.getD 23 .nil)) (.i 0 :: (r.e ++ b.e ++ zE)) = some o ∧
    ((∃ r' : Rd, o = .brk 1 (r'.e ++ b.e ++ zE) ∧ ROk (m + 8) r') ∨ ∃ (v : Ev1) (r' : Rd), o = .ret (v.e ++ r'.e) ∧ Evw v ∧ ROk (m + 8) r') := by
  have hs := hb.s
  refine lim_exs (fun q : Rd × Nat => .i (q.2 : Nat) :: (q.1.e ++ b.e ++ zE)) (fun q => b.svcs.length - q.2) (fun q => q.2 ≤ b.svcs.length ∧ ROk (m + q.2) q.1) _ (r, 0) ⟨Nat.zero_le _, hr⟩ ?_
  rintro ⟨x, i⟩ ⟨hi, hx⟩
  simp only at hi hx
  have w1 : w64 ((i : Int) + 1) = (i : Int) + 1 := w64_of (by omega) (by omega)
  by_cases hlt : i < b.svcs.length
  · have p1 : (i : Int) < (b.svcs.length : Int) := by omega
    have g1 : (b.svcs.map Svc.e).getD i [] = b.svcs[i].e := getD_map_lt Svc.e hlt []
    obtain ⟨y, x', e1, a1, b1, hx'⟩ := pick_ex x 2 hx (by omega) (by omega)
    simp only [zE, Rd.e, Book.e, Svc.e, Cpy.e, Brt.e, Act.e, Wld.e, Ev1.e, jA, jB, jC, jD, jE, jF, jG, jH, call1, call2, call3, call4, call5, call6, call7, call8, call13, call15, call16, call17, call19, call21, jI, jJ, jK, jL, jM, jN, jO, jP, jQ, jR, jS, jT, jU, jV, jW, jX, jY, nils, rows, jZ, ja, jb, jc, jd, s_l23Event.d1, p1, g1, e1]
    cases y == 0 <;> simp only [jA, jB, jC, jD, jE, jF, jG, jH, call1, call2, call3, call4, call5, call6, call7, call8, call13, call15, call16, call17, call19, call21, jI, jJ, jK, jL, jM, jN, jO, jP, jQ, jR, jS, jT, jU, jV, jW, jX, jY, nils, rows, jZ, ja, jb, jc, jd]
    · left
      exact ⟨(x', i + 1), by rw [w1]; rfl, ⟨hlt, hx'.le (by omega)⟩, by simp only; omega⟩
    · right
      exact ⟨_, rfl, trivial, .inr ⟨⟨2, { b.svcs[i] with image := w64 (b.svcs[i].image + 1) }, bs #[], 0, false⟩, x', rfl, ⟨hb.w.s b.svcs[i] (List.getElem_mem hlt), by simp only; rw [size_empty]; omega⟩, hx'.le (by omega)⟩⟩
  · right
    have p1 : ¬ (i : Int) < (b.svcs.length : Int) := by omega
    refine ⟨_, ?_, ?_, .inl ⟨x, rfl, hx.le (by omega)⟩⟩
    · simp only [zE, Rd.e, Book.e, Svc.e, Cpy.e, Brt.e, Act.e, Wld.e, Ev1.e, jA, jB, jC, jD, jE, jF, jG, jH, call1, call2, call3, call4, call5, call6, call7, call8, call13, call15, call16, call17, call19, call21, jI, jJ, jK, jL, jM, jN, jO, jP, jQ, jR, jS, jT, jU, jV, jW, jX, jY, nils, rows, jZ, ja, jb, jc, jd, s_l23Event.d1, p1]
    · trivial
theorem ev_fall (r : Rd) (b : Book) {m : Nat} (hr : ROk m r) (hm : m ≤ 999999999) (hb : Bnd b) : ∃ (v : Ev1) (r' : Rd), finR ((fun xs => s_l23Event.d8 (xs.getD 0 .nil) (xs.getD 1 .nil) (xs.getD 2 .nil) (xs.getD 3 .nil) (xs.getD 4 .nil) (xs.getD 5 .nil) (xs.getD 6 .nil) (xs.getD 7 .nil) (xs.getD 8 .nil) (xs.getD 9 .nil) (xs.getD 10 .nil) (xs.getD 11 .nil) (xs.getD 12 .nil) (xs.getD 13 .nil) (xs.getD 14 .nil) (xs.getD 15 .nil) (xs.getD 16 .nil) (xs.getD 17 .nil) (xs.getD 18 .nil) (xs.getD 19 .nil) (xs.getD 20 .nil) (xs.getD 21 .nil) (xs.getD 22 .nil)) (r.e ++ b.e ++ zE)) = some (v.e ++ r'.e) ∧ Evw v ∧ ROk (m + 4) r' := by
  have hc := hb.c
  have F : ∀ (u : Bool) (x : Rd), ROk (m + 1) x → (u = true → 0 < b.cpys.length) → ∃ (v : Ev1) (r' : Rd), finR ((fun xs => s_l23Event.d7 (xs.getD 0 .nil) (xs.getD 1 .nil) (xs.getD 2 .nil) (xs.getD 3 .nil) (xs.getD 4 .nil) (xs.getD 5 .nil) (xs.getD 6 .nil) (xs.getD 7 .nil) (xs.getD 8 .nil) (xs.getD 9 .nil) (xs.getD 10 .nil) (xs.getD 11 .nil) (xs.getD 12 .nil) (xs.getD 13 .nil) (xs.getD 14 .nil) (xs.getD 15 .nil) (xs.getD 16 .nil) (xs.getD 17 .nil) (xs.getD 18 .nil) (xs.getD 19 .nil) (xs.getD 20 .nil) (xs.getD 21 .nil) (xs.getD 22 .nil) (xs.getD 23 .nil)) (.b u :: (x.e ++ b.e ++ zE))) = some (v.e ++ r'.e) ∧ Evw v ∧ ROk (m + 4) r' := by
    intro u x hx hu
    cases u
    · obtain ⟨y, x', e1, a1, b1, hx'⟩ := pick_ex x 6 hx (by omega) (by omega)
      simp only [zE, Rd.e, Book.e, Svc.e, Cpy.e, Brt.e, Act.e, Wld.e, Ev1.e, jA, jB, jC, jD, jE, jF, jG, jH, call1, call2, call3, call4, call5, call6, call7, call8, call13, call15, call16, call17, call19, call21, jI, jJ, jK, jL, jM, jN, jO, jP, jQ, jR, jS, jT, jU, jV, jW, jX, jY, nils, rows, jZ, ja, jb, jc, jd, s_l23Event.d7, e1]
      exact ⟨⟨3, ⟨bs #[], 0, false, 0, 0, 0, 0, 0, 0, 0, 0, 0, 0⟩, bs #[119, 101, 98], w64 (1 + y), false⟩, x', rfl, zEvw _ _ _ _ (small_bs (by decide)), hx'.le (by omega)⟩
    · have hpos := hu rfl
      obtain ⟨y, x', e1, a1, b1, hx'⟩ := pick_ex x (b.cpys.length : Int) hx (by omega) (by omega)
      obtain ⟨k, rfl⟩ := Int.eq_ofNat_of_zero_le a1
      have b2 := b1 (by omega)
      have hk : k < b.cpys.length := by omega
      have g1 : (b.cpys.map Cpy.e).getD k [] = b.cpys[k].e := getD_map_lt Cpy.e hk []
      simp only [zE, Rd.e, Book.e, Svc.e, Cpy.e, Brt.e, Act.e, Wld.e, Ev1.e, jA, jB, jC, jD, jE, jF, jG, jH, call1, call2, call3, call4, call5, call6, call7, call8, call13, call15, call16, call17, call19, call21, jI, jJ, jK, jL, jM, jN, jO, jP, jQ, jR, jS, jT, jU, jV, jW, jX, jY, nils, rows, jZ, ja, jb, jc, jd, s_l23Event.d7, e1, b2, g1]
      exact ⟨⟨3, ⟨bs #[], 0, false, 0, 0, 0, 0, 0, 0, 0, 0, 0, 0⟩, b.cpys[k].svc, b.cpys[k].num, false⟩, x', rfl, zEvw _ _ _ _ (hb.w.c _ (List.getElem_mem hk)).1, hx'.le (by omega)⟩
  obtain ⟨y, x, e1, a1, b1, hx⟩ := pick_ex r 8 hr (by omega) (by omega)
  by_cases h : (b.cpys.length : Int) > 0
  · have f := F (decide (y > 0)) x hx (fun _ => by omega)
    simp only [zE, Rd.e, Book.e, Svc.e, Cpy.e, Brt.e, Act.e, Wld.e, Ev1.e, jA, jB, jC, jD, jE, jF, jG, jH, call1, call2, call3, call4, call5, call6, call7, call8, call13, call15, call16, call17, call19, call21, jI, jJ, jK, jL, jM, jN, jO, jP, jQ, jR, jS, jT, jU, jV, jW, jX, jY, nils, rows, jZ, ja, jb, jc, jd] at f
    simp only [zE, Rd.e, Book.e, Svc.e, Cpy.e, Brt.e, Act.e, Wld.e, Ev1.e, jA, jB, jC, jD, jE, jF, jG, jH, call1, call2, call3, call4, call5, call6, call7, call8, call13, call15, call16, call17, call19, call21, jI, jJ, jK, jL, jM, jN, jO, jP, jQ, jR, jS, jT, jU, jV, jW, jX, jY, nils, rows, jZ, ja, jb, jc, jd, s_l23Event.d8, h, e1]
    exact f
  · have f := F false r (hr.le (by omega)) (by simp)
    simp only [zE, Rd.e, Book.e, Svc.e, Cpy.e, Brt.e, Act.e, Wld.e, Ev1.e, jA, jB, jC, jD, jE, jF, jG, jH, call1, call2, call3, call4, call5, call6, call7, call8, call13, call15, call16, call17, call19, call21, jI, jJ, jK, jL, jM, jN, jO, jP, jQ, jR, jS, jT, jU, jV, jW, jX, jY, nils, rows, jZ, ja, jb, jc, jd] at f
    simp only [zE, Rd.e, Book.e, Svc.e, Cpy.e, Brt.e, Act.e, Wld.e, Ev1.e, jA, jB, jC, jD, jE, jF, jG, jH, call1, call2, call3, call4, call5, call6, call7, call8, call13, call15, call16, call17, call19, call21, jI, jJ, jK, jL, jM, jN, jO, jP, jQ, jR, jS, jT, jU, jV, jW, jX, jY, nils, rows, jZ, ja, jb, jc, jd, s_l23Event.d8, h]
    exact f
end Go.Ev
namespace Go.Ev
def EvR (m : Nat) (o : Option (List C)) : Prop := ∃ (v : Ev1) (r' : Rd), o = some (v.e ++ r'.e) ∧ Evw v ∧ ROk m r'
theorem EvR.le {m n : Nat} {o : Option (List C)} (h : EvR m o) (hm : m ≤ n) : EvR n o := by
  obtain ⟨v, r, h1, h2, h3⟩ := h
  exact ⟨v, r, h1, h2, h3.le hm⟩
noncomputable def fallK : List C → R := (fun xs => s_l23Event.d8 (xs.getD 0 .nil) (xs.getD 1 .nil) (xs.getD 2 .nil) (xs.getD 3 .nil) (xs.getD 4 .nil) (xs.getD 5 .nil) (xs.getD 6 .nil) (xs.getD 7 .nil) (xs.getD 8 .nil) (xs.getD 9 .nil) (xs.getD 10 .nil) (xs.getD 11 .nil) (xs.getD 12 .nil) (xs.getD 13 .nil) (xs.getD 14 .nil) (xs.getD 15 .nil) (xs.getD 16 .nil) (xs.getD 17 .nil) (xs.getD 18 .nil) (xs.getD 19 .nil) (xs.getD 20 .nil) (xs.getD 21 .nil) (xs.getD 22 .nil))
theorem ev3 (t : Bool) (r : Rd) (b : Book) {m : Nat} (hr : ROk m r) (hm : m ≤ 999999999) (hb : Bnd b) : EvR (m + 10) (finR (bindNrm ((fun xs => s_l23Event.d3 (xs.getD 0 .nil) (xs.getD 1 .nil) (xs.getD 2 .nil) (xs.getD 3 .nil) (xs.getD 4 .nil) (xs.getD 5 .nil) (xs.getD 6 .nil) (xs.getD 7 .nil) (xs.getD 8 .nil) (xs.getD 9 .nil) (xs.getD 10 .nil) (xs.getD 11 .nil) (xs.getD 12 .nil) (xs.getD 13 .nil) (xs.getD 14 .nil) (xs.getD 15 .nil) (xs.getD 16 .nil) (xs.getD 17 .nil) (xs.getD 18 .nil) (xs.getD 19 .nil) (xs.getD 20 .nil) (xs.getD 21 .nil) (xs.getD 22 .nil) (xs.getD 23 .nil)) (.b t :: (r.e ++ b.e ++ zE))) fallK)) := by
  cases t
  · exact (ev_fall r b hr hm hb).imp fun v h => h.imp fun r' h => ⟨h.1, h.2.1, h.2.2.le (by omega)⟩
  · obtain ⟨x, r1, e1, a1, b1, h1⟩ := pick_ex r 3 hr (by omega) (by omega)
    obtain ⟨y, r2, e2, a2, b2, h2⟩ := pick_ex r1 60 h1 (by omega) (by omega)
    obtain ⟨nm, hn1, hn2⟩ := lit_s [bs #[100, 98], bs #[119, 101, 98], bs #[120, 45, 49]] x a1 (b1 (by omega))
    have hsz : nm.size < 4611686018427387904 := by
      simp only [List.mem_cons, List.mem_nil_iff, or_false] at hn1
      rcases hn1 with rfl | rfl | rfl <;> exact small_bs (by decide)
    have p1 : x < ((3 : Nat) : Int) := b1 (by omega)
    have l3 : [[C.s (bs #[100, 98])], [C.s (bs #[119, 101, 98])], [C.s (bs #[120, 45, 49])]].length = 3 := rfl
    simp only [List.map_cons, List.map_nil] at hn2
    simp only [zE, Rd.e, Book.e, Svc.e, Cpy.e, Brt.e, Act.e, Wld.e, Ev1.e, jA, jB, jC, jD, jE, jF, jG, jH, call1, call2, call3, call4, call5, call6, call7, call8, call13, call15, call16, call17, call19, call21, jI, jJ, jK, jL, jM, jN, jO, jP, jQ, jR, jS, jT, jU, jV, jW, jX, jY, nils, rows, jZ, ja, jb, jc, jd, s_l23Event.d3, e1, a1, p1, l3, e2, hn2]
    exact ⟨⟨6, ⟨bs #[], 0, false, 0, 0, 0, 0, 0, 0, 0, 0, 0, 0⟩, nm, y, false⟩, r2, rfl, zEvw _ _ _ _ hsz, h2.le (by omega)⟩
theorem ev4 (nm : Str) (k : Int) (t : Bool) (r : Rd) (b : Book) {m : Nat} (hr : ROk m r) (hm : m ≤ 999999999) (hb : Bnd b) (hn : nm.size < 4611686018427387904) : EvR (m + 10) (finR (bindNrm ((fun xs => s_l23Event.d4 (xs.getD 0 .nil) (xs.getD 1 .nil) (xs.getD 2 .nil) (xs.getD 3 .nil) (xs.getD 4 .nil) (xs.getD 5 .nil) (xs.getD 6 .nil) (xs.getD 7 .nil) (xs.getD 8 .nil) (xs.getD 9 .nil) (xs.getD 10 .nil) (xs.getD 11 .nil) (xs.getD 12 .nil) (xs.getD 13 .nil) (xs.getD 14 .nil) (xs.getD 15 .nil) (xs.getD 16 .nil) (xs.getD 17 .nil) (xs.getD 18 .nil) (xs.getD 19 .nil) (xs.getD 20 .nil) (xs.getD 21 .nil) (xs.getD 22 .nil) (xs.getD 23 .nil) (xs.getD 24 .nil) (xs.getD 25 .nil)) (.s nm :: .i k :: .b t :: (r.e ++ b.e ++ zE))) fallK)) := by
  have f3 := fun t => ev3 t r b hr hm hb
  simp only [zE, Rd.e, Book.e, Svc.e, Cpy.e, Brt.e, Act.e, Wld.e, Ev1.e, jA, jB, jC, jD, jE, jF, jG, jH, call1, call2, call3, call4, call5, call6, call7, call8, call13, call15, call16, call17, call19, call21, jI, jJ, jK, jL, jM, jN, jO, jP, jQ, jR, jS, jT, jU, jV, jW, jX, jY, nils, rows, jZ, ja, jb, jc, jd] at f3
  cases t
  · simp only [zE, Rd.e, Book.e, Svc.e, Cpy.e, Brt.e, Act.e, Wld.e, Ev1.e, jA, jB, jC, jD, jE, jF, jG, jH, call1, call2, call3, call4, call5, call6, call7, call8, call13, call15, call16, call17, call19, call21, jI, jJ, jK, jL, jM, jN, jO, jP, jQ, jR, jS, jT, jU, jV, jW, jX, jY, nils, rows, jZ, ja, jb, jc, jd, s_l23Event.d4]
    cases k == 14 <;> simp only [jA, jB, jC, jD, jE, jF, jG, jH, call1, call2, call3, call4, call5, call6, call7, call8, call13, call15, call16, call17, call19, call21, jI, jJ, jK, jL, jM, jN, jO, jP, jQ, jR, jS, jT, jU, jV, jW, jX, jY, nils, rows, jZ, ja, jb, jc, jd]
    · exact f3 _
    · exact f3 _
  · obtain ⟨x, r1, e1, a1, b1, h1⟩ := pick_ex r 3 hr (by omega) (by omega)
    simp only [zE, Rd.e, Book.e, Svc.e, Cpy.e, Brt.e, Act.e, Wld.e, Ev1.e, jA, jB, jC, jD, jE, jF, jG, jH, call1, call2, call3, call4, call5, call6, call7, call8, call13, call15, call16, call17, call19, call21, jI, jJ, jK, jL, jM, jN, jO, jP, jQ, jR, jS, jT, jU, jV, jW, jX, jY, nils, rows, jZ, ja, jb, jc, jd, s_l23Event.d4, e1]
    exact ⟨⟨5, ⟨bs #[], 0, false, 0, 0, 0, 0, 0, 0, 0, 0, 0, 0⟩, nm, 0, _⟩, r1, rfl, zEvw _ _ _ _ hn, h1.le (by omega)⟩
theorem ev5 (nm : Str) (k : Int) (t : Bool) (r : Rd) (b : Book) {m : Nat} (hr : ROk m r) (hm : m ≤ 99999999) (hb : Bnd b) (hn : nm.size < 4611686018427387904) : EvR (m + 30) (finR (bindNrm ((fun xs => s_l23Event.d5 (xs.getD 0 .nil) (xs.getD 1 .nil) (xs.getD 2 .nil) (xs.getD 3 .nil) (xs.getD 4 .nil) (xs.getD 5 .nil) (xs.getD 6 .nil) (xs.getD 7 .nil) (xs.getD 8 .nil) (xs.getD 9 .nil) (xs.getD 10 .nil) (xs.getD 11 .nil) (xs.getD 12 .nil) (xs.getD 13 .nil) (xs.getD 14 .nil) (xs.getD 15 .nil) (xs.getD 16 .nil) (xs.getD 17 .nil) (xs.getD 18 .nil) (xs.getD 19 .nil) (xs.getD 20 .nil) (xs.getD 21 .nil) (xs.getD 22 .nil) (xs.getD 23 .nil) (xs.getD 24 .nil) (xs.getD 25 .nil)) (.s nm :: .i k :: .b t :: (r.e ++ b.e ++ zE))) fallK)) := by
  cases t
  · simp only [zE, Rd.e, Book.e, Svc.e, Cpy.e, Brt.e, Act.e, Wld.e, Ev1.e, jA, jB, jC, jD, jE, jF, jG, jH, call1, call2, call3, call4, call5, call6, call7, call8, call13, call15, call16, call17, call19, call21, jI, jJ, jK, jL, jM, jN, jO, jP, jQ, jR, jS, jT, jU, jV, jW, jX, jY, nils, rows, jZ, ja, jb, jc, jd, s_l23Event.d5]
    cases k == 10 <;> simp only [jA, jB, jC, jD, jE, jF, jG, jH, call1, call2, call3, call4, call5, call6, call7, call8, call13, call15, call16, call17, call19, call21, jI, jJ, jK, jL, jM, jN, jO, jP, jQ, jR, jS, jT, jU, jV, jW, jX, jY, nils, rows, jZ, ja, jb, jc, jd]
    · cases k == 11 <;> simp only [jA, jB, jC, jD, jE, jF, jG, jH, call1, call2, call3, call4, call5, call6, call7, call8, call13, call15, call16, call17, call19, call21, jI, jJ, jK, jL, jM, jN, jO, jP, jQ, jR, jS, jT, jU, jV, jW, jX, jY, nils, rows, jZ, ja, jb, jc, jd]
      · have f4 := fun t => (ev4 nm k t r b hr (by omega) hb hn).le (show m + 10 ≤ m + 30 by omega)
        simp only [zE, Rd.e, Book.e, Svc.e, Cpy.e, Brt.e, Act.e, Wld.e, Ev1.e, jA, jB, jC, jD, jE, jF, jG, jH, call1, call2, call3, call4, call5, call6, call7, call8, call13, call15, call16, call17, call19, call21, jI, jJ, jK, jL, jM, jN, jO, jP, jQ, jR, jS, jT, jU, jV, jW, jX, jY, nils, rows, jZ, ja, jb, jc, jd] at f4
        cases hk : k == 12 <;> simp only [jA, jB, jC, jD, jE, jF, jG, jH, call1, call2, call3, call4, call5, call6, call7, call8, call13, call15, call16, call17, call19, call21, jI, jJ, jK, jL, jM, jN, jO, jP, jQ, jR, jS, jT, jU, jV, jW, jX, jY, nils, rows, jZ, ja, jb, jc, jd]
        · exact f4 _
        · exact f4 _
      · exact ⟨⟨4, ⟨bs #[], 0, false, 0, 0, 0, 0, 0, 0, 0, 0, 0, 0⟩, nm, 0, false⟩, r, rfl, zEvw _ _ _ _ hn, hr.le (by omega)⟩
    · obtain ⟨o, e1, h⟩ := ev_loop r b hr (by omega) hb
      simp only [zE, Rd.e, Book.e, Svc.e, Cpy.e, Brt.e, Act.e, Wld.e, Ev1.e, jA, jB, jC, jD, jE, jF, jG, jH, call1, call2, call3, call4, call5, call6, call7, call8, call13, call15, call16, call17, call19, call21, jI, jJ, jK, jL, jM, jN, jO, jP, jQ, jR, jS, jT, jU, jV, jW, jX, jY, nils, rows, jZ, ja, jb, jc, jd] at e1
      rw [e1]
      rcases h with ⟨r', rfl, hr'⟩ | ⟨v, r', rfl, hv, hr'⟩
      · have f := ev_fall r' b hr' (by omega) hb
        simp only [zE, Rd.e, Book.e, Svc.e, Cpy.e, Brt.e, Act.e, Wld.e, Ev1.e, jA, jB, jC, jD, jE, jF, jG, jH, call1, call2, call3, call4, call5, call6, call7, call8, call13, call15, call16, call17, call19, call21, jI, jJ, jK, jL, jM, jN, jO, jP, jQ, jR, jS, jT, jU, jV, jW, jX, jY, nils, rows, jZ, ja, jb, jc, jd] at f
        simp only [zE, Rd.e, Book.e, Svc.e, Cpy.e, Brt.e, Act.e, Wld.e, Ev1.e, jA, jB, jC, jD, jE, jF, jG, jH, call1, call2, call3, call4, call5, call6, call7, call8, call13, call15, call16, call17, call19, call21, jI, jJ, jK, jL, jM, jN, jO, jP, jQ, jR, jS, jT, jU, jV, jW, jX, jY, nils, rows, jZ, ja, jb, jc, jd, s_l23Event.d2, fallK]
        exact f.imp fun v h => h.imp fun r' h => ⟨h.1, h.2.1, h.2.2.le (by omega)⟩
      · exact ⟨v, r', rfl, hv, hr'.le (by omega)⟩
  · obtain ⟨s, r', e1, hs, hr'⟩ := s_l18DrawWish_ex r hr (by omega)
    simp only [Rd.e, Book.e, Svc.e, Cpy.e, Brt.e, Act.e, Wld.e, Ev1.e, jA, jB, jC, jD, jE, jF, jG, jH, call1, call2, call3, call4, call5, call6, call7, call8, call13, call15, call16, call17, call19, call21, jI, jJ, jK, jL, jM, jN, jO, jP, jQ, jR, jS, jT, jU, jV, jW, jX, jY, nils, rows, jZ, ja, jb, jc, jd] at e1
    simp only [zE, Rd.e, Book.e, Svc.e, Cpy.e, Brt.e, Act.e, Wld.e, Ev1.e, jA, jB, jC, jD, jE, jF, jG, jH, call1, call2, call3, call4, call5, call6, call7, call8, call13, call15, call16, call17, call19, call21, jI, jJ, jK, jL, jM, jN, jO, jP, jQ, jR, jS, jT, jU, jV, jW, jX, jY, nils, rows, jZ, ja, jb, jc, jd, s_l23Event.d5, e1]
    exact ⟨⟨2, s, bs #[], 0, false⟩, r', rfl, ⟨hs, by simp only; rw [size_empty]; omega⟩, hr'.le (by omega)⟩
theorem ev6 (nm : Str) (k : Int) (t : Bool) (r : Rd) (b : Book) {m : Nat} (hr : ROk m r) (hm : m ≤ 99999999) (hb : Bnd b) (hn : nm.size < 4611686018427387904) : EvR (m + 30) (finR (bindNrm ((fun xs => s_l23Event.d6 (xs.getD 0 .nil) (xs.getD 1 .nil) (xs.getD 2 .nil) (xs.getD 3 .nil) (xs.getD 4 .nil) (xs.getD 5 .nil) (xs.getD 6 .nil) (xs.getD 7 .nil) (xs.getD 8 .nil) (xs.getD 9 .nil) (xs.getD 10 .nil) (xs.getD 11 .nil) (xs.getD 12 .nil) (xs.getD 13 .nil) (xs.getD 14 .nil) (xs.getD 15 .nil) (xs.getD 16 .nil) (xs.getD 17 .nil) (xs.getD 18 .nil) (xs.getD 19 .nil) (xs.getD 20 .nil) (xs.getD 21 .nil) (xs.getD 22 .nil) (xs.getD 23 .nil) (xs.getD 24 .nil) (xs.getD 25 .nil)) (.s nm :: .i k :: .b t :: (r.e ++ b.e ++ zE))) fallK)) := by
  have f5 := fun t => ev5 nm k t r b hr hm hb hn
  simp only [zE, Rd.e, Book.e, Svc.e, Cpy.e, Brt.e, Act.e, Wld.e, Ev1.e, jA, jB, jC, jD, jE, jF, jG, jH, call1, call2, call3, call4, call5, call6, call7, call8, call13, call15, call16, call17, call19, call21, jI, jJ, jK, jL, jM, jN, jO, jP, jQ, jR, jS, jT, jU, jV, jW, jX, jY, nils, rows, jZ, ja, jb, jc, jd] at f5
  cases t
  · simp only [zE, Rd.e, Book.e, Svc.e, Cpy.e, Brt.e, Act.e, Wld.e, Ev1.e, jA, jB, jC, jD, jE, jF, jG, jH, call1, call2, call3, call4, call5, call6, call7, call8, call13, call15, call16, call17, call19, call21, jI, jJ, jK, jL, jM, jN, jO, jP, jQ, jR, jS, jT, jU, jV, jW, jX, jY, nils, rows, jZ, ja, jb, jc, jd, s_l23Event.d6]
    cases k == 7 <;> simp only [jA, jB, jC, jD, jE, jF, jG, jH, call1, call2, call3, call4, call5, call6, call7, call8, call13, call15, call16, call17, call19, call21, jI, jJ, jK, jL, jM, jN, jO, jP, jQ, jR, jS, jT, jU, jV, jW, jX, jY, nils, rows, jZ, ja, jb, jc, jd]
    · cases k == 8 <;> simp only [jA, jB, jC, jD, jE, jF, jG, jH, call1, call2, call3, call4, call5, call6, call7, call8, call13, call15, call16, call17, call19, call21, jI, jJ, jK, jL, jM, jN, jO, jP, jQ, jR, jS, jT, jU, jV, jW, jX, jY, nils, rows, jZ, ja, jb, jc, jd]
      · exact f5 _
      · exact f5 _
    · exact f5 _
  · exact ⟨⟨1, ⟨bs #[], 0, false, 0, 0, 0, 0, 0, 0, 0, 0, 0, 0⟩, bs #[], 0, false⟩, r, rfl, Ev1.tick_ok 1, hr.le (by omega)⟩
theorem s_l23Event_ex (r : Rd) (b : Book) {m : Nat} (hr : ROk m r) (hm : m ≤ 9999999) (hb : Bnd b) : EvR (m + 40) (s_l23Event (b.e ++ r.e)) := by
  obtain ⟨x, r1, e1, a1, b1, h1⟩ := pick_ex r 3 hr (by omega) (by omega)
  obtain ⟨y, r2, e2, a2, b2, h2⟩ := pick_ex r1 20 h1 (by omega) (by omega)
  obtain ⟨nm, hn1, hn2⟩ := lit_s [bs #[97], bs #[98], bs #[99]] x a1 (b1 (by omega))
  have hsz : nm.size < 4611686018427387904 := by
    simp only [List.mem_cons, List.mem_nil_iff, or_false] at hn1
    rcases hn1 with rfl | rfl | rfl <;> exact small_bs (by decide)
  have p1 : x < ((3 : Nat) : Int) := b1 (by omega)
  have l3 : [[C.s (bs #[97])], [C.s (bs #[98])], [C.s (bs #[99])]].length = 3 := rfl
  simp only [List.map_cons, List.map_nil] at hn2
  have f6 := fun t => (ev6 nm y t r2 b h2 (by omega) hb hsz).le (show m + 1 + 1 + 30 ≤ m + 40 by omega)
  simp only [zE, Rd.e, Book.e, Svc.e, Cpy.e, Brt.e, Act.e, Wld.e, Ev1.e, jA, jB, jC, jD, jE, jF, jG, jH, call1, call2, call3, call4, call5, call6, call7, call8, call13, call15, call16, call17, call19, call21, jI, jJ, jK, jL, jM, jN, jO, jP, jQ, jR, jS, jT, jU, jV, jW, jX, jY, nils, rows, jZ, ja, jb, jc, jd, fallK] at f6
  simp only [s_l23Event, s_l23Event.d9, zE, Rd.e, Book.e, Svc.e, Cpy.e, Brt.e, Act.e, Wld.e, Ev1.e, jA, jB, jC, jD, jE, jF, jG, jH, call1, call2, call3, call4, call5, call6, call7, call8, call13, call15, call16, call17, call19, call21, jI, jJ, jK, jL, jM, jN, jO, jP, jQ, jR, jS, jT, jU, jV, jW, jX, jY, nils, rows, jZ, ja, jb, jc, jd, e1, a1, p1, l3, e2, hn2]
  repeat' (rw [Bool.cond_eq_ite]; split <;> try simp only [jA, jB, jC, jD, jE, jF, jG, jH, call1, call2, call3, call4, call5, call6, call7, call8, call13, call15, call16, call17, call19, call21, jI, jJ, jK, jL, jM, jN, jO, jP, jQ, jR, jS, jT, jU, jV, jW, jX, jY, nils, rows, jZ, ja, jb, jc, jd])
  all_goals exact f6 _
theorem s_l25Move_ex (r : Rd) (b : Book) {m : Nat} (hr : ROk m r) (hm : m ≤ 999999) (hb : Bnd b) : ∃ (k age : Int) (v : Ev1) (r' : Rd), s_l25Move (b.e ++ r.e) = some (.i k :: .i age :: (v.e ++ r'.e)) ∧ Evw v ∧ ROk (m + 50) r' := by
  obtain ⟨x, r1, e1, a1, b1, h1⟩ := pick_ex r 5 hr (by omega) (by omega)
  obtain ⟨y, r2, e2, a2, b2, h2⟩ := pick_ex r1 6 h1 (by omega) (by omega)
  obtain ⟨z, r3, e3, a3, b3, h3⟩ := pick_ex r2 6 h2 (by omega) (by omega)
  obtain ⟨v, r4, e4, hv, h4⟩ := s_l23Event_ex r1 b h1 (by omega) hb
  obtain ⟨t, ht⟩ := lit_i [0, 0, 1, 2, 5, 9] z a3 (b3 (by omega))
  have p1 : z < ((6 : Nat) : Int) := b3 (by omega)
  have l3 : [[C.i 0], [C.i 0], [C.i 1], [C.i 2], [C.i 5], [C.i 9]].length = 6 := rfl
  simp only [List.map_cons, List.map_nil, inE] at ht
  simp only [Rd.e, Book.e, Svc.e, Cpy.e, Brt.e, Act.e, Wld.e, Ev1.e, jA, jB, jC, jD, jE, jF, jG, jH, call1, call2, call3, call4, call5, call6, call7, call8, call13, call15, call16, call17, call19, call21, jI, jJ, jK, jL, jM, jN, jO, jP, jQ, jR, jS, jT, jU, jV, jW, jX, jY, nils, rows, jZ, ja, jb, jc, jd] at e4
  simp only [s_l25Move, s_l25Move.d1, Rd.e, Book.e, Svc.e, Cpy.e, Brt.e, Act.e, Wld.e, Ev1.e, jA, jB, jC, jD, jE, jF, jG, jH, call1, call2, call3, call4, call5, call6, call7, call8, call13, call15, call16, call17, call19, call21, jI, jJ, jK, jL, jM, jN, jO, jP, jQ, jR, jS, jT, jU, jV, jW, jX, jY, nils, rows, jZ, ja, jb, jc, jd, e1, e2, e3, a3, p1, l3, e4, ht]
  rw [Bool.cond_eq_ite]
  split <;> try simp only [jA, jB, jC, jD, jE, jF, jG, jH, call1, call2, call3, call4, call5, call6, call7, call8, call13, call15, call16, call17, call19, call21, jI, jJ, jK, jL, jM, jN, jO, jP, jQ, jR, jS, jT, jU, jV, jW, jX, jY, nils, rows, jZ, ja, jb, jc, jd]
  · exact ⟨_, t, ⟨0, ⟨bs #[], 0, false, 0, 0, 0, 0, 0, 0, 0, 0, 0, 0⟩, bs #[], 0, false⟩, r3, rfl, Ev1.tick_ok 0, h3.le (by omega)⟩
  · exact ⟨0, 0, v, r4, rfl, hv, h4.le (by omega)⟩
end Go.Ev
namespace Go.Ev
def rwE (r : Rd) (w : Wld) : List C := r.e ++ [.i 0] ++ w.e ++ [.l [], .l [], .l [], .l []]
theorem rch1 (r : Rd) (w : Wld) (n : Nat) {m : Nat} (hr : ROk m r) (hm : m ≤ 99999) (hn : n ≤ 2) (hw : WOk w) : ∃ o, lim (fun xs => s_l25Reached.d1 (xs.getD 0 .nil) (xs.getD 1 .nil) (xs.getD 2 .nil) (xs.getD 3 .nil) (xs.getD 4 .nil) (xs.getD 5 .nil) (xs.getD 6 .nil) (xs.getD 7 .nil) (xs.getD 8 .nil) (xs.getD 9 .nil) (xs.getD 10 .nil) (xs.getD 11 .nil) (xs.getD 12 .nil)) (.i (n : Nat) :: rwE r w) = some o ∧ ∃ (r' : Rd) (w' : Wld), o = .brk 0 (rwE r' w') ∧ ROk (m + 40) r' ∧ WOk w' := by
  refine lim_exs (fun q : Rd × Wld × Nat => .i (q.2.2 : Nat) :: rwE q.1 q.2.1) (fun q => q.2.2) (fun q => q.2.2 ≤ n ∧ ROk (m + 20 * (n - q.2.2)) q.1 ∧ WOk q.2.1) _ (r, w, n) ⟨Nat.le_refl _, hr.le (by omega), hw⟩ ?_
  rintro ⟨x, u, i⟩ ⟨hi, hx, hu⟩
  simp only at hi hx hu
  by_cases hlt : (i : Int) > 0
  · left
    have w1 : w64 ((i : Int) - 1) = ((i - 1 : Nat) : Int) := by rw [w64_of (by omega) (by omega)]; omega
    obtain ⟨s, x', e1, hs, hx'⟩ := s_l18DrawWish_ex x hx (by omega)
    obtain ⟨u', cs, e2, hu'⟩ := s_l25Do_ex u 0 0 ⟨2, s, bs #[], 0, false⟩ hu ⟨hs, by simp only; rw [size_empty]; omega⟩
    simp only [Rd.e, Book.e, Svc.e, Cpy.e, Brt.e, Act.e, Wld.e, Ev1.e, jA, jB, jC, jD, jE, jF, jG, jH, call1, call2, call3, call4, call5, call6, call7, call8, call13, call15, call16, call17, call19, call21, jI, jJ, jK, jL, jM, jN, jO, jP, jQ, jR, jS, jT, jU, jV, jW, jX, jY, nils, rows, jZ, ja, jb, jc, jd] at e1 e2
    refine ⟨(x', u', i - 1), ?_, ⟨by simp only; omega, hx'.le (by simp only; omega), hu'⟩, by simp only; omega⟩
    simp only [rwE, Rd.e, Book.e, Svc.e, Cpy.e, Brt.e, Act.e, Wld.e, Ev1.e, jA, jB, jC, jD, jE, jF, jG, jH, call1, call2, call3, call4, call5, call6, call7, call8, call13, call15, call16, call17, call19, call21, jI, jJ, jK, jL, jM, jN, jO, jP, jQ, jR, jS, jT, jU, jV, jW, jX, jY, nils, rows, jZ, ja, jb, jc, jd, s_l25Reached.d1, hlt, e1, e2, w1]
  · right
    refine ⟨_, ?_, ?_, x, u, rfl, hx.le (by omega), hu⟩
    · simp only [rwE, Rd.e, Book.e, Svc.e, Cpy.e, Brt.e, Act.e, Wld.e, Ev1.e, jA, jB, jC, jD, jE, jF, jG, jH, call1, call2, call3, call4, call5, call6, call7, call8, call13, call15, call16, call17, call19, call21, jI, jJ, jK, jL, jM, jN, jO, jP, jQ, jR, jS, jT, jU, jV, jW, jX, jY, nils, rows, jZ, ja, jb, jc, jd, s_l25Reached.d1, hlt]
    · trivial
theorem rch2 (r : Rd) (w : Wld) (n : Nat) {m : Nat} (hr : ROk m r) (hm : m ≤ 99999) (hn : n ≤ 60) (hw : WOk w) : ∃ o, lim (fun xs => s_l25Reached.d2 (xs.getD 0 .nil) (xs.getD 1 .nil) (xs.getD 2 .nil) (xs.getD 3 .nil) (xs.getD 4 .nil) (xs.getD 5 .nil) (xs.getD 6 .nil) (xs.getD 7 .nil) (xs.getD 8 .nil) (xs.getD 9 .nil) (xs.getD 10 .nil) (xs.getD 11 .nil) (xs.getD 12 .nil)) (.i (n : Nat) :: rwE r w) = some o ∧ ∃ (r' : Rd) (w' : Wld), o = .brk 2 (rwE r' w') ∧ ROk (m + 3600) r' ∧ WOk w' := by
  refine lim_exs (fun q : Rd × Wld × Nat => .i (q.2.2 : Nat) :: rwE q.1 q.2.1) (fun q => q.2.2) (fun q => q.2.2 ≤ n ∧ ROk (m + 60 * (n - q.2.2)) q.1 ∧ WOk q.2.1) _ (r, w, n) ⟨Nat.le_refl _, hr.le (by omega), hw⟩ ?_
  rintro ⟨x, u, i⟩ ⟨hi, hx, hu⟩
  simp only at hi hx hu
  by_cases hlt : (i : Int) > 0
  · left
    have w1 : w64 ((i : Int) - 1) = ((i - 1 : Nat) : Int) := by rw [w64_of (by omega) (by omega)]; omega
    obtain ⟨k, age, v, x1, e1, hv, h1⟩ := s_l25Move_ex x u.book hx (by omega) hu.b
    obtain ⟨u', cs, e2, hu'⟩ := s_l25Do_ex u k age v hu hv
    obtain ⟨y, x2, e3, a3, b3, h2⟩ := pick_ex x1 8 h1 (by omega) (by omega)
    obtain ⟨y4, x3, e4, a4, b4, h3⟩ := pick_ex x2 7 h2 (by omega) (by omega)
    obtain ⟨y5, x4, e5, a5, b5, h4⟩ := pick_ex x3 6 h3 (by omega) (by omega)
    obtain ⟨y6, x5, e6, a6, b6, h5⟩ := pick_ex x4 6 h4 (by omega) (by omega)
    obtain ⟨u2, e7, hu2⟩ := s_StewCalm_ex u' y4 [w64 (1 + y5), w64 (1 + y6)] hu' (by simp)
    simp only [Rd.e, Book.e, Svc.e, Cpy.e, Brt.e, Act.e, Wld.e, Ev1.e, jA, jB, jC, jD, jE, jF, jG, jH, call1, call2, call3, call4, call5, call6, call7, call8, call13, call15, call16, call17, call19, call21, jI, jJ, jK, jL, jM, jN, jO, jP, jQ, jR, jS, jT, jU, jV, jW, jX, jY, nils, rows, jZ, ja, jb, jc, jd, List.map_cons, List.map_nil, inE, Wld.c] at e1 e2 e7
    have key : ∃ (x' : Rd) (u' : Wld), s_l25Reached.d2 (.i (i : Nat)) (.l (x.b.map inE)) (.i (x.p : Nat)) (.i 0) (.l (u.past.map Book.e)) (.i u.book.now) (.l (u.book.svcs.map Svc.e)) (.l (u.book.cpys.map Cpy.e)) (.l (u.book.brts.map Brt.e)) (.l []) (.l []) (.l []) (.l []) = some (.again (.i ((i - 1 : Nat) : Int) :: rwE x' u')) ∧ ROk (m + 60 * (n - (i - 1))) x' ∧ WOk u' := by
      have er : (fun b : Book => [C.i b.now, C.l (List.map Svc.e b.svcs), C.l (List.map Cpy.e b.cpys), C.l (List.map Brt.e b.brts)]) = Book.e := rfl
      simp only [s_l25Reached.d2, jA, jB, jC, jD, jE, jF, jG, jH, call1, call2, call3, call4, call5, call6, call7, call8, call13, call15, call16, call17, call19, call21, jI, jJ, jK, jL, jM, jN, jO, jP, jQ, jR, jS, jT, jU, jV, jW, jX, jY, nils, rows, jZ, ja, jb, jc, jd, hlt, e1, e2, e3]
      rw [Bool.cond_eq_ite]
      split <;> simp only [jA, jB, jC, jD, jE, jF, jG, jH, call1, call2, call3, call4, call5, call6, call7, call8, call13, call15, call16, call17, call19, call21, jI, jJ, jK, jL, jM, jN, jO, jP, jQ, jR, jS, jT, jU, jV, jW, jX, jY, nils, rows, jZ, ja, jb, jc, jd, e4, e5, e6, e7, w1]
      · exact ⟨x5, u2, rfl, h5.le (by omega), hu2⟩
      · exact ⟨x2, u', rfl, h2.le (by omega), hu'⟩
    obtain ⟨x', u3, hk, hx', hu3⟩ := key
    exact ⟨(x', u3, i - 1), hk, ⟨by simp only; omega, hx', hu3⟩, by simp only; omega⟩
  · right
    refine ⟨_, ?_, ?_, x, u, rfl, hx.le (by omega), hu⟩
    · simp only [rwE, Rd.e, Book.e, Svc.e, Cpy.e, Brt.e, Act.e, Wld.e, Ev1.e, jA, jB, jC, jD, jE, jF, jG, jH, call1, call2, call3, call4, call5, call6, call7, call8, call13, call15, call16, call17, call19, call21, jI, jJ, jK, jL, jM, jN, jO, jP, jQ, jR, jS, jT, jU, jV, jW, jX, jY, nils, rows, jZ, ja, jb, jc, jd, s_l25Reached.d2, hlt]
    · trivial
theorem s_l25Reached_ex (r : Rd) {m : Nat} (hr : ROk m r) (hm : m ≤ 999) : ∃ (w : Wld) (r' : Rd), s_l25Reached r.e = some (.i w.book.now :: (r'.e ++ [.l (w.past.map Book.e), .l (w.book.svcs.map Svc.e), .l (w.book.cpys.map Cpy.e), .l (w.book.brts.map Brt.e)])) ∧ WOk w ∧ ROk (m + 4000) r' := by
  obtain ⟨u1, c1, e1, hu1⟩ := s_l25Do_ex ⟨[], Book.nil⟩ 0 0 ⟨5, ⟨bs #[], 0, false, 0, 0, 0, 0, 0, 0, 0, 0, 0, 0⟩, bs #[97], 0, false⟩ Wld.nil_ok (zEvw _ _ _ _ (small_bs (by decide)))
  obtain ⟨y, r1, e2, a2, b2, h1⟩ := pick_ex r 3 hr (by omega) (by omega)
  obtain ⟨u2, c2, e3, hu2⟩ := s_l25Do_ex u1 0 0 ⟨5, ⟨bs #[], 0, false, 0, 0, 0, 0, 0, 0, 0, 0, 0, 0⟩, bs #[98], 0, false⟩ hu1 (zEvw _ _ _ _ (small_bs (by decide)))
  have T : ∀ u : Wld, WOk u → ∃ (w : Wld) (r' : Rd), finR ((fun xs => s_l25Reached.d5 (xs.getD 0 .nil) (xs.getD 1 .nil) (xs.getD 2 .nil) (xs.getD 3 .nil) (xs.getD 4 .nil) (xs.getD 5 .nil) (xs.getD 6 .nil) (xs.getD 7 .nil) (xs.getD 8 .nil) (xs.getD 9 .nil) (xs.getD 10 .nil) (xs.getD 11 .nil)) (rwE r1 u)) = some (.i w.book.now :: (r'.e ++ [.l (w.past.map Book.e), .l (w.book.svcs.map Svc.e), .l (w.book.cpys.map Cpy.e), .l (w.book.brts.map Brt.e)])) ∧ WOk w ∧ ROk (m + 4000) r' := by
    intro u hu
    obtain ⟨y, r2, e4, a4, b4, h2⟩ := pick_ex r1 2 h1 (by omega) (by omega)
    have w1 : w64 (1 + y) = ((y.toNat + 1 : Nat) : Int) := by have := b4 (by omega); rw [w64_of (by omega) (by omega)]; omega
    obtain ⟨o, e5, r3, u3, rfl, h3, hu3⟩ := rch1 r2 u (y.toNat + 1) h2 (by omega) (by have := b4 (by omega); omega) hu
    obtain ⟨z, r4, e6, a6, b6, h4⟩ := pick_ex r3 50 h3 (by omega) (by omega)
    obtain ⟨k, rfl⟩ := Int.eq_ofNat_of_zero_le a6
    obtain ⟨o, e7, r5, u5, rfl, h5, hu5⟩ := rch2 r4 u3 k h4 (by omega) (by have := b6 (by omega); omega) hu3
    have e8 := s_l25Copy_ex u5 hu5
    simp only [rwE, Rd.e, Book.e, Svc.e, Cpy.e, Brt.e, Act.e, Wld.e, Ev1.e, jA, jB, jC, jD, jE, jF, jG, jH, call1, call2, call3, call4, call5, call6, call7, call8, call13, call15, call16, call17, call19, call21, jI, jJ, jK, jL, jM, jN, jO, jP, jQ, jR, jS, jT, jU, jV, jW, jX, jY, nils, rows, jZ, ja, jb, jc, jd, Wld.c] at e5 e7 e8
    simp only [rwE, Rd.e, Book.e, Svc.e, Cpy.e, Brt.e, Act.e, Wld.e, Ev1.e, jA, jB, jC, jD, jE, jF, jG, jH, call1, call2, call3, call4, call5, call6, call7, call8, call13, call15, call16, call17, call19, call21, jI, jJ, jK, jL, jM, jN, jO, jP, jQ, jR, jS, jT, jU, jV, jW, jX, jY, nils, rows, jZ, ja, jb, jc, jd, s_l25Reached.d5, e4, w1]
    rw [e5]
    simp only [rwE, Rd.e, Book.e, Svc.e, Cpy.e, Brt.e, Act.e, Wld.e, Ev1.e, jA, jB, jC, jD, jE, jF, jG, jH, call1, call2, call3, call4, call5, call6, call7, call8, call13, call15, call16, call17, call19, call21, jI, jJ, jK, jL, jM, jN, jO, jP, jQ, jR, jS, jT, jU, jV, jW, jX, jY, nils, rows, jZ, ja, jb, jc, jd, s_l25Reached.d4, e6]
    rw [e7]
    simp only [rwE, Rd.e, Book.e, Svc.e, Cpy.e, Brt.e, Act.e, Wld.e, Ev1.e, jA, jB, jC, jD, jE, jF, jG, jH, call1, call2, call3, call4, call5, call6, call7, call8, call13, call15, call16, call17, call19, call21, jI, jJ, jK, jL, jM, jN, jO, jP, jQ, jR, jS, jT, jU, jV, jW, jX, jY, nils, rows, jZ, ja, jb, jc, jd, s_l25Reached.d3, e8]
    exact ⟨u5, r5, rfl, hu5, h5.le (by omega)⟩
  have t1 := T u1 hu1
  have t2 := T u2 hu2
  simp only [rwE, Rd.e, Book.e, Svc.e, Cpy.e, Brt.e, Act.e, Wld.e, Ev1.e, jA, jB, jC, jD, jE, jF, jG, jH, call1, call2, call3, call4, call5, call6, call7, call8, call13, call15, call16, call17, call19, call21, jI, jJ, jK, jL, jM, jN, jO, jP, jQ, jR, jS, jT, jU, jV, jW, jX, jY, nils, rows, jZ, ja, jb, jc, jd, List.map_nil, Book.nil] at e1 e3 t1 t2
  simp only [s_l25Reached, s_l25Reached.d6, Rd.e, Book.e, Svc.e, Cpy.e, Brt.e, Act.e, Wld.e, Ev1.e, jA, jB, jC, jD, jE, jF, jG, jH, call1, call2, call3, call4, call5, call6, call7, call8, call13, call15, call16, call17, call19, call21, jI, jJ, jK, jL, jM, jN, jO, jP, jQ, jR, jS, jT, jU, jV, jW, jX, jY, nils, rows, jZ, ja, jb, jc, jd, e1, e2]
  rw [Bool.cond_eq_ite]
  split <;> simp only [jA, jB, jC, jD, jE, jF, jG, jH, call1, call2, call3, call4, call5, call6, call7, call8, call13, call15, call16, call17, call19, call21, jI, jJ, jK, jL, jM, jN, jO, jP, jQ, jR, jS, jT, jU, jV, jW, jX, jY, nils, rows, jZ, ja, jb, jc, jd, e3]
  · exact t2
  · exact t1
end Go.Ev
namespace Go.Ev
structure Big (b : Book) : Prop where
  s : b.svcs.length ≤ 8
  c : b.cpys.length ≤ 201
  t : b.brts.length ≤ 7
  w : Wrd b
theorem Bnd.big {b : Book} (h : Bnd b) : Big b := ⟨h.s, by have := h.c; omega, by have := h.t; omega, h.w⟩
theorem Big.now {b : Book} (h : Bnd b) (n : Int) : Big { b with now := n } := ⟨h.s, by have := h.c; simp only; omega, by have := h.t; simp only; omega, ⟨⟨h.w.s, h.w.t⟩, h.w.c⟩⟩
theorem Big.svc {b : Book} (h : Bnd b) (i : Nat) (s : Svc) (hs : s.name.size < 4611686018427387904) : Big { b with svcs := b.svcs.set i s } := by
  refine ⟨by have := h.s; simpa using this, by have := h.c; simp only; omega, by have := h.t; simp only; omega, ⟨⟨fun x hx => ?_, h.w.t⟩, h.w.c⟩⟩
  rcases List.mem_or_eq_of_mem_set hx with q | q
  · exact h.w.s x q
  · subst q; exact hs
theorem Big.cpy {b : Book} (h : Bnd b) (i : Nat) (c : Cpy) (hs : Wc c) : Big { b with cpys := b.cpys.set i c } := by
  refine ⟨h.s, by have := h.c; simp; omega, by have := h.t; simp only; omega, ⟨⟨h.w.s, h.w.t⟩, fun x hx => ?_⟩⟩
  rcases List.mem_or_eq_of_mem_set hx with q | q
  · exact h.w.c x q
  · subst q; exact hs
theorem Big.cpa {b : Book} (h : Bnd b) (c : Cpy) (hs : Wc c) : Big { b with cpys := b.cpys ++ [c] } := by
  refine ⟨h.s, by have := h.c; simp; omega, by have := h.t; simp only; omega, ⟨⟨h.w.s, h.w.t⟩, fun x hx => ?_⟩⟩
  rcases List.mem_append.1 hx with q | q
  · exact h.w.c x q
  · simp at q; subst q; exact hs
theorem Big.bra {b : Book} (h : Bnd b) (t : Brt) (hs : t.name.size < 4611686018427387904) : Big { b with brts := b.brts ++ [t] } := by
  refine ⟨h.s, by have := h.c; simp only; omega, by have := h.t; simp; omega, ⟨⟨h.w.s, fun x hx => ?_⟩, h.w.c⟩⟩
  rcases List.mem_append.1 hx with q | q
  · exact h.w.t x q
  · simp at q; subst q; exact hs
def bR (b : Book) (r : Rd) : List C := .i b.now :: (r.e ++ [.l (b.svcs.map Svc.e), .l (b.cpys.map Cpy.e), .l (b.brts.map Brt.e)])
def Sp (m : Nat) (o : Option (List C)) : Prop := ∃ (b : Book) (r : Rd), o = some (bR b r) ∧ Big b ∧ ROk m r
theorem ss_name (c : Svc) (n : Str) : setCs c.e 0 [.s n] = ({ c with name := n } : Svc).e := rfl
theorem ss_ver (c : Svc) (n : Int) : setCs c.e 1 [.i n] = ({ c with ver := n } : Svc).e := rfl
theorem ss_image (c : Svc) (n : Int) : setCs c.e 3 [.i n] = ({ c with image := n } : Svc).e := rfl
theorem ss_want (c : Svc) (n : Int) : setCs c.e 4 [.i n] = ({ c with want := n } : Svc).e := rfl
theorem ss_down (c : Svc) (n : Int) : setCs c.e 5 [.i n] = ({ c with down := n } : Svc).e := rfl
theorem ss_over (c : Svc) (n : Int) : setCs c.e 6 [.i n] = ({ c with over := n } : Svc).e := rfl
theorem ss_next (c : Svc) (n : Int) : setCs c.e 7 [.i n] = ({ c with next := n } : Svc).e := rfl
theorem ss_per (c : Svc) (n : Int) : setCs c.e 8 [.i n] = ({ c with per := n } : Svc).e := rfl
theorem ss_least (c : Svc) (n : Int) : setCs c.e 9 [.i n] = ({ c with least := n } : Svc).e := rfl
theorem ss_load (c : Svc) (n : Int) : setCs c.e 11 [.i n] = ({ c with load := n } : Svc).e := rfl
theorem ss_cool (c : Svc) (n : Int) : setCs c.e 12 [.i n] = ({ c with cool := n } : Svc).e := rfl
theorem cc_svc (c : Cpy) (n : Str) : setCs c.e 0 [.s n] = ({ c with svc := n } : Cpy).e := rfl
theorem cc_num (c : Cpy) (n : Int) : setCs c.e 1 [.i n] = ({ c with num := n } : Cpy).e := rfl
theorem cc_ver (c : Cpy) (n : Int) : setCs c.e 2 [.i n] = ({ c with ver := n } : Cpy).e := rfl
theorem cc_image (c : Cpy) (n : Int) : setCs c.e 3 [.i n] = ({ c with image := n } : Cpy).e := rfl
theorem cc_state (c : Cpy) (n : Int) : setCs c.e 4 [.i n] = ({ c with state := n } : Cpy).e := rfl
theorem cc_ending (c : Cpy) (n : Bool) : setCs c.e 5 [.b n] = ({ c with ending := n } : Cpy).e := rfl
theorem cc_berth (c : Cpy) (n : Str) : setCs c.e 6 [.s n] = ({ c with berth := n } : Cpy).e := rfl
theorem s_l18Spoil_ex (r : Rd) (b : Book) {m : Nat} (hr : ROk m r) (hm : m ≤ 99999) (hb : Bnd b) : Sp (m + 10) (s_l18Spoil (b.e ++ r.e)) := by
  have e0 := s_l18Book_eq b hb.fit.s hb.fit.c hb.fit.t
  obtain ⟨x2, r2, e2, a2, b2, h2⟩ := pick_ex r (b.svcs.length : Int) hr (by omega) (by have := hb.s; omega)
  obtain ⟨x3, r3, e3, a3, b3, h3⟩ := pick_ex r2 (b.cpys.length : Int) h2 (by omega) (by have := hb.c; omega)
  obtain ⟨x4, r4, e4, a4, b4, h4⟩ := pick_ex r3 20 h3 (by omega) (by omega)
  simp only [Book.e, jA, jB, jC, jD, jE, jF, jG, jH, call1, call2, call3, call4, call5, call6, call7, call8, call13, call15, call16, call17, call19, call21, jI, jJ, jK, jL, jM, jN, jO, jP, jQ, jR, jS, jT, jU, jV, jW, jX, jY, nils, rows, jZ, ja, jb, jc, jd] at e0
  simp only [s_l18Spoil, s_l18Spoil.d1, Book.e, Rd.e, jA, jB, jC, jD, jE, jF, jG, jH, call1, call2, call3, call4, call5, call6, call7, call8, call13, call15, call16, call17, call19, call21, jI, jJ, jK, jL, jM, jN, jO, jP, jQ, jR, jS, jT, jU, jV, jW, jX, jY, nils, rows, jZ, ja, jb, jc, jd, e0, e2, e3, e4]
  have bad : Sp (m + 10) (some [.i (-1), .l (r3.b.map inE), .i (r3.p : Nat), .l [], .l [], .l []]) := ⟨⟨-1, [], [], []⟩, r3, rfl, ⟨by simp, by simp, by simp, ⟨⟨by simp, by simp⟩, by simp⟩⟩, h3.le (by omega)⟩
  cases hs0 : ((b.svcs.length : Int) == 0) <;> simp only [jA, jB, jC, jD, jE, jF, jG, jH, call1, call2, call3, call4, call5, call6, call7, call8, call13, call15, call16, call17, call19, call21, jI, jJ, jK, jL, jM, jN, jO, jP, jQ, jR, jS, jT, jU, jV, jW, jX, jY, nils, rows, jZ, ja, jb, jc, jd]
  · cases hc0 : ((b.cpys.length : Int) == 0) <;> simp only [jA, jB, jC, jD, jE, jF, jG, jH, call1, call2, call3, call4, call5, call6, call7, call8, call13, call15, call16, call17, call19, call21, jI, jJ, jK, jL, jM, jN, jO, jP, jQ, jR, jS, jT, jU, jV, jW, jX, jY, nils, rows, jZ, ja, jb, jc, jd]
    · have hs1 : 0 < b.svcs.length := by
        rcases Nat.eq_zero_or_pos b.svcs.length with q | q
        · rw [q] at hs0; simp at hs0
        · exact q
      have hc1 : 0 < b.cpys.length := by
        rcases Nat.eq_zero_or_pos b.cpys.length with q | q
        · rw [q] at hc0; simp at hc0
        · exact q
      obtain ⟨i, rfl⟩ := Int.eq_ofNat_of_zero_le a2
      obtain ⟨k, rfl⟩ := Int.eq_ofNat_of_zero_le a3
      have p2 := b2 (by omega)
      have p3 := b3 (by omega)
      have hi : i < b.svcs.length := by omega
      have hk : k < b.cpys.length := by omega
      have g2 : (b.svcs.map Svc.e).getD i [] = b.svcs[i].e := getD_map_lt Svc.e hi []
      have g3 : (b.cpys.map Cpy.e).getD k [] = b.cpys[k].e := getD_map_lt Cpy.e hk []
      have hsn : b.svcs[i].name.size < 4611686018427387904 := hb.w.s _ (List.getElem_mem hi)
      have hcn : Wc b.cpys[k] := hb.w.c _ (List.getElem_mem hk)
      by_cases hk0 : (x4 == 0) = true
      · simp only [hk0, jA, jB, jC, jD, jE, jF, jG, jH, call1, call2, call3, call4, call5, call6, call7, call8, call13, call15, call16, call17, call19, call21, jI, jJ, jK, jL, jM, jN, jO, jP, jQ, jR, jS, jT, jU, jV, jW, jX, jY, nils, rows, jZ, ja, jb, jc, jd]
        obtain ⟨y, r5, e5, a5, b5, h5⟩ := pick_ex r4 5 h4 (by omega) (by omega)
        have b6 : y < ((5 : Nat) : Int) := b5 (by omega)
        have l5 : [[C.i (-1)], [C.i 0], [C.i 1], [C.i 1000000], [C.i 1000001]].length = 5 := rfl
        obtain ⟨t, ht⟩ := lit_i [-1, 0, 1, 1000000, 1000001] y a5 b6
        simp only [List.map_cons, List.map_nil, inE] at ht
        simp only [e5, jA, jB, jC, jD, jE, jF, jG, jH, call1, call2, call3, call4, call5, call6, call7, call8, call13, call15, call16, call17, call19, call21, jI, jJ, jK, jL, jM, jN, jO, jP, jQ, jR, jS, jT, jU, jV, jW, jX, jY, nils, rows, jZ, ja, jb, jc, jd, a5, l5, b6, ht]
        exact ⟨{ b with now := t }, r5, rfl, Big.now hb t, h5.le (by omega)⟩
      simp only [hk0, jA, jB, jC, jD, jE, jF, jG, jH, call1, call2, call3, call4, call5, call6, call7, call8, call13, call15, call16, call17, call19, call21, jI, jJ, jK, jL, jM, jN, jO, jP, jQ, jR, jS, jT, jU, jV, jW, jX, jY, nils, rows, jZ, ja, jb, jc, jd]
      by_cases hk1 : (x4 == 1) = true
      · simp only [hk1, jA, jB, jC, jD, jE, jF, jG, jH, call1, call2, call3, call4, call5, call6, call7, call8, call13, call15, call16, call17, call19, call21, jI, jJ, jK, jL, jM, jN, jO, jP, jQ, jR, jS, jT, jU, jV, jW, jX, jY, nils, rows, jZ, ja, jb, jc, jd]
        obtain ⟨y, r5, e5, a5, b5, h5⟩ := pick_ex r4 3 h4 (by omega) (by omega)
        have b6 : y < ((3 : Nat) : Int) := b5 (by omega)
        have l5 : [[C.s (bs #[])], [C.s (bs #[88])], [C.s (bs #[122, 122])]].length = 3 := rfl
        obtain ⟨t, hn1, ht⟩ := lit_s [bs #[], bs #[88], bs #[122, 122]] y a5 b6
        have hsz : t.size < 4611686018427387904 := by
          simp only [List.mem_cons, List.mem_nil_iff, or_false] at hn1
          rcases hn1 with rfl | rfl | rfl <;> exact small_bs (by decide)
        simp only [List.map_cons, List.map_nil] at ht
        simp only [e5, jA, jB, jC, jD, jE, jF, jG, jH, call1, call2, call3, call4, call5, call6, call7, call8, call13, call15, call16, call17, call19, call21, jI, jJ, jK, jL, jM, jN, jO, jP, jQ, jR, jS, jT, jU, jV, jW, jX, jY, nils, rows, jZ, ja, jb, jc, jd, a5, l5, b6, ht, p2, g2, ss_name, set_svc]
        exact ⟨{ b with svcs := b.svcs.set i { b.svcs[i] with name := t } }, r5, rfl, Big.svc hb i _ hsz, h5.le (by omega)⟩
      simp only [hk1, jA, jB, jC, jD, jE, jF, jG, jH, call1, call2, call3, call4, call5, call6, call7, call8, call13, call15, call16, call17, call19, call21, jI, jJ, jK, jL, jM, jN, jO, jP, jQ, jR, jS, jT, jU, jV, jW, jX, jY, nils, rows, jZ, ja, jb, jc, jd]
      by_cases hk2 : (x4 == 2) = true
      · simp only [hk2, jA, jB, jC, jD, jE, jF, jG, jH, call1, call2, call3, call4, call5, call6, call7, call8, call13, call15, call16, call17, call19, call21, jI, jJ, jK, jL, jM, jN, jO, jP, jQ, jR, jS, jT, jU, jV, jW, jX, jY, nils, rows, jZ, ja, jb, jc, jd]
        obtain ⟨y, r5, e5, a5, b5, h5⟩ := pick_ex r4 3 h4 (by omega) (by omega)
        have b6 : y < ((3 : Nat) : Int) := b5 (by omega)
        have l5 : [[C.i 0], [C.i b.now], [C.i (w64 (b.now + 1))]].length = 3 := rfl
        obtain ⟨t, ht⟩ := lit_i [0, b.now, w64 (b.now + 1)] y a5 b6
        simp only [List.map_cons, List.map_nil, inE] at ht
        simp only [e5, jA, jB, jC, jD, jE, jF, jG, jH, call1, call2, call3, call4, call5, call6, call7, call8, call13, call15, call16, call17, call19, call21, jI, jJ, jK, jL, jM, jN, jO, jP, jQ, jR, jS, jT, jU, jV, jW, jX, jY, nils, rows, jZ, ja, jb, jc, jd, a5, l5, b6, ht, p2, g2, ss_ver, set_svc]
        exact ⟨{ b with svcs := b.svcs.set i { b.svcs[i] with ver := t } }, r5, rfl, Big.svc hb i _ hsn, h5.le (by omega)⟩
      simp only [hk2, jA, jB, jC, jD, jE, jF, jG, jH, call1, call2, call3, call4, call5, call6, call7, call8, call13, call15, call16, call17, call19, call21, jI, jJ, jK, jL, jM, jN, jO, jP, jQ, jR, jS, jT, jU, jV, jW, jX, jY, nils, rows, jZ, ja, jb, jc, jd]
      by_cases hk3 : (x4 == 3) = true
      · simp only [hk3, jA, jB, jC, jD, jE, jF, jG, jH, call1, call2, call3, call4, call5, call6, call7, call8, call13, call15, call16, call17, call19, call21, jI, jJ, jK, jL, jM, jN, jO, jP, jQ, jR, jS, jT, jU, jV, jW, jX, jY, nils, rows, jZ, ja, jb, jc, jd]
        obtain ⟨y, r5, e5, a5, b5, h5⟩ := pick_ex r4 3 h4 (by omega) (by omega)
        have b6 : y < ((3 : Nat) : Int) := b5 (by omega)
        have l5 : [[C.i 0], [C.i 1000000], [C.i 1000001]].length = 3 := rfl
        obtain ⟨t, ht⟩ := lit_i [0, 1000000, 1000001] y a5 b6
        simp only [List.map_cons, List.map_nil, inE] at ht
        simp only [e5, jA, jB, jC, jD, jE, jF, jG, jH, call1, call2, call3, call4, call5, call6, call7, call8, call13, call15, call16, call17, call19, call21, jI, jJ, jK, jL, jM, jN, jO, jP, jQ, jR, jS, jT, jU, jV, jW, jX, jY, nils, rows, jZ, ja, jb, jc, jd, a5, l5, b6, ht, p2, g2, ss_image, set_svc]
        exact ⟨{ b with svcs := b.svcs.set i { b.svcs[i] with image := t } }, r5, rfl, Big.svc hb i _ hsn, h5.le (by omega)⟩
      simp only [hk3, jA, jB, jC, jD, jE, jF, jG, jH, call1, call2, call3, call4, call5, call6, call7, call8, call13, call15, call16, call17, call19, call21, jI, jJ, jK, jL, jM, jN, jO, jP, jQ, jR, jS, jT, jU, jV, jW, jX, jY, nils, rows, jZ, ja, jb, jc, jd]
      by_cases hk4 : (x4 == 4) = true
      · simp only [hk4, jA, jB, jC, jD, jE, jF, jG, jH, call1, call2, call3, call4, call5, call6, call7, call8, call13, call15, call16, call17, call19, call21, jI, jJ, jK, jL, jM, jN, jO, jP, jQ, jR, jS, jT, jU, jV, jW, jX, jY, nils, rows, jZ, ja, jb, jc, jd]
        obtain ⟨y, r5, e5, a5, b5, h5⟩ := pick_ex r4 3 h4 (by omega) (by omega)
        have b6 : y < ((3 : Nat) : Int) := b5 (by omega)
        have l5 : [[C.i (-1)], [C.i 10], [C.i 11]].length = 3 := rfl
        obtain ⟨t, ht⟩ := lit_i [-1, 10, 11] y a5 b6
        simp only [List.map_cons, List.map_nil, inE] at ht
        simp only [e5, jA, jB, jC, jD, jE, jF, jG, jH, call1, call2, call3, call4, call5, call6, call7, call8, call13, call15, call16, call17, call19, call21, jI, jJ, jK, jL, jM, jN, jO, jP, jQ, jR, jS, jT, jU, jV, jW, jX, jY, nils, rows, jZ, ja, jb, jc, jd, a5, l5, b6, ht, p2, g2, ss_want, set_svc]
        exact ⟨{ b with svcs := b.svcs.set i { b.svcs[i] with want := t } }, r5, rfl, Big.svc hb i _ hsn, h5.le (by omega)⟩
      simp only [hk4, jA, jB, jC, jD, jE, jF, jG, jH, call1, call2, call3, call4, call5, call6, call7, call8, call13, call15, call16, call17, call19, call21, jI, jJ, jK, jL, jM, jN, jO, jP, jQ, jR, jS, jT, jU, jV, jW, jX, jY, nils, rows, jZ, ja, jb, jc, jd]
      by_cases hk5 : (x4 == 5) = true
      · simp only [hk5, jA, jB, jC, jD, jE, jF, jG, jH, call1, call2, call3, call4, call5, call6, call7, call8, call13, call15, call16, call17, call19, call21, jI, jJ, jK, jL, jM, jN, jO, jP, jQ, jR, jS, jT, jU, jV, jW, jX, jY, nils, rows, jZ, ja, jb, jc, jd]
        obtain ⟨y, r5, e5, a5, b5, h5⟩ := pick_ex r4 3 h4 (by omega) (by omega)
        have b6 : y < ((3 : Nat) : Int) := b5 (by omega)
        have l5 : [[C.i (-1)], [C.i 10], [C.i 11]].length = 3 := rfl
        obtain ⟨t, ht⟩ := lit_i [-1, 10, 11] y a5 b6
        simp only [List.map_cons, List.map_nil, inE] at ht
        simp only [e5, jA, jB, jC, jD, jE, jF, jG, jH, call1, call2, call3, call4, call5, call6, call7, call8, call13, call15, call16, call17, call19, call21, jI, jJ, jK, jL, jM, jN, jO, jP, jQ, jR, jS, jT, jU, jV, jW, jX, jY, nils, rows, jZ, ja, jb, jc, jd, a5, l5, b6, ht, p2, g2, ss_down, set_svc]
        exact ⟨{ b with svcs := b.svcs.set i { b.svcs[i] with down := t } }, r5, rfl, Big.svc hb i _ hsn, h5.le (by omega)⟩
      simp only [hk5, jA, jB, jC, jD, jE, jF, jG, jH, call1, call2, call3, call4, call5, call6, call7, call8, call13, call15, call16, call17, call19, call21, jI, jJ, jK, jL, jM, jN, jO, jP, jQ, jR, jS, jT, jU, jV, jW, jX, jY, nils, rows, jZ, ja, jb, jc, jd]
      by_cases hk6 : (x4 == 6) = true
      · simp only [hk6, jA, jB, jC, jD, jE, jF, jG, jH, call1, call2, call3, call4, call5, call6, call7, call8, call13, call15, call16, call17, call19, call21, jI, jJ, jK, jL, jM, jN, jO, jP, jQ, jR, jS, jT, jU, jV, jW, jX, jY, nils, rows, jZ, ja, jb, jc, jd]
        obtain ⟨y, r5, e5, a5, b5, h5⟩ := pick_ex r4 3 h4 (by omega) (by omega)
        have b6 : y < ((3 : Nat) : Int) := b5 (by omega)
        have l5 : [[C.i 0], [C.i 1], [C.i 11]].length = 3 := rfl
        obtain ⟨t, ht⟩ := lit_i [0, 1, 11] y a5 b6
        simp only [List.map_cons, List.map_nil, inE] at ht
        have g4 : ((b.svcs.set i { b.svcs[i] with down := 0 }).map Svc.e).getD i [] = ({ b.svcs[i] with down := 0 } : Svc).e := by
          have : i < (b.svcs.set i { b.svcs[i] with down := 0 }).length := by simpa using hi
          rw [getD_map_lt Svc.e this]; simp
        simp only [e5, jA, jB, jC, jD, jE, jF, jG, jH, call1, call2, call3, call4, call5, call6, call7, call8, call13, call15, call16, call17, call19, call21, jI, jJ, jK, jL, jM, jN, jO, jP, jQ, jR, jS, jT, jU, jV, jW, jX, jY, nils, rows, jZ, ja, jb, jc, jd, a5, l5, b6, ht, p2, g2, ss_down, set_svc, g4, List.length_set, ss_over]
        refine ⟨{ b with svcs := b.svcs.set i { b.svcs[i] with down := 0, over := t } }, r5, ?_, Big.svc hb i _ hsn, h5.le (by omega)⟩
        rw [List.set_set]; rfl
      simp only [hk6, jA, jB, jC, jD, jE, jF, jG, jH, call1, call2, call3, call4, call5, call6, call7, call8, call13, call15, call16, call17, call19, call21, jI, jJ, jK, jL, jM, jN, jO, jP, jQ, jR, jS, jT, jU, jV, jW, jX, jY, nils, rows, jZ, ja, jb, jc, jd]
      by_cases hk7 : (x4 == 7) = true
      · simp only [hk7, jA, jB, jC, jD, jE, jF, jG, jH, call1, call2, call3, call4, call5, call6, call7, call8, call13, call15, call16, call17, call19, call21, jI, jJ, jK, jL, jM, jN, jO, jP, jQ, jR, jS, jT, jU, jV, jW, jX, jY, nils, rows, jZ, ja, jb, jc, jd]
        obtain ⟨y, r5, e5, a5, b5, h5⟩ := pick_ex r4 4 h4 (by omega) (by omega)
        have b6 : y < ((4 : Nat) : Int) := b5 (by omega)
        have l5 : [[C.i 0], [C.i 1], [C.i 1000000], [C.i 1000001]].length = 4 := rfl
        obtain ⟨t, ht⟩ := lit_i [0, 1, 1000000, 1000001] y a5 b6
        simp only [List.map_cons, List.map_nil, inE] at ht
        simp only [e5, jA, jB, jC, jD, jE, jF, jG, jH, call1, call2, call3, call4, call5, call6, call7, call8, call13, call15, call16, call17, call19, call21, jI, jJ, jK, jL, jM, jN, jO, jP, jQ, jR, jS, jT, jU, jV, jW, jX, jY, nils, rows, jZ, ja, jb, jc, jd, a5, l5, b6, ht, p2, g2, ss_next, set_svc]
        exact ⟨{ b with svcs := b.svcs.set i { b.svcs[i] with next := t } }, r5, rfl, Big.svc hb i _ hsn, h5.le (by omega)⟩
      simp only [hk7, jA, jB, jC, jD, jE, jF, jG, jH, call1, call2, call3, call4, call5, call6, call7, call8, call13, call15, call16, call17, call19, call21, jI, jJ, jK, jL, jM, jN, jO, jP, jQ, jR, jS, jT, jU, jV, jW, jX, jY, nils, rows, jZ, ja, jb, jc, jd]
      by_cases hk8 : (x4 == 8) = true
      · simp only [hk8, jA, jB, jC, jD, jE, jF, jG, jH, call1, call2, call3, call4, call5, call6, call7, call8, call13, call15, call16, call17, call19, call21, jI, jJ, jK, jL, jM, jN, jO, jP, jQ, jR, jS, jT, jU, jV, jW, jX, jY, nils, rows, jZ, ja, jb, jc, jd]
        obtain ⟨y, r5, e5, a5, b5, h5⟩ := pick_ex r4 4 h4 (by omega) (by omega)
        have b6 : y < ((4 : Nat) : Int) := b5 (by omega)
        have l5 : [[C.i (-1)], [C.i 0], [C.i 5], [C.i 1000001]].length = 4 := rfl
        obtain ⟨t, ht⟩ := lit_i [-1, 0, 5, 1000001] y a5 b6
        simp only [List.map_cons, List.map_nil, inE] at ht
        simp only [e5, jA, jB, jC, jD, jE, jF, jG, jH, call1, call2, call3, call4, call5, call6, call7, call8, call13, call15, call16, call17, call19, call21, jI, jJ, jK, jL, jM, jN, jO, jP, jQ, jR, jS, jT, jU, jV, jW, jX, jY, nils, rows, jZ, ja, jb, jc, jd, a5, l5, b6, ht, p2, g2, ss_per, set_svc]
        exact ⟨{ b with svcs := b.svcs.set i { b.svcs[i] with per := t } }, r5, rfl, Big.svc hb i _ hsn, h5.le (by omega)⟩
      simp only [hk8, jA, jB, jC, jD, jE, jF, jG, jH, call1, call2, call3, call4, call5, call6, call7, call8, call13, call15, call16, call17, call19, call21, jI, jJ, jK, jL, jM, jN, jO, jP, jQ, jR, jS, jT, jU, jV, jW, jX, jY, nils, rows, jZ, ja, jb, jc, jd]
      by_cases hk9 : (x4 == 9) = true
      · simp only [hk9, jA, jB, jC, jD, jE, jF, jG, jH, call1, call2, call3, call4, call5, call6, call7, call8, call13, call15, call16, call17, call19, call21, jI, jJ, jK, jL, jM, jN, jO, jP, jQ, jR, jS, jT, jU, jV, jW, jX, jY, nils, rows, jZ, ja, jb, jc, jd]
        obtain ⟨y, r5, e5, a5, b5, h5⟩ := pick_ex r4 3 h4 (by omega) (by omega)
        have b6 : y < ((3 : Nat) : Int) := b5 (by omega)
        have l5 : [[C.i (-1)], [C.i 1], [C.i 11]].length = 3 := rfl
        obtain ⟨t, ht⟩ := lit_i [-1, 1, 11] y a5 b6
        simp only [List.map_cons, List.map_nil, inE] at ht
        simp only [e5, jA, jB, jC, jD, jE, jF, jG, jH, call1, call2, call3, call4, call5, call6, call7, call8, call13, call15, call16, call17, call19, call21, jI, jJ, jK, jL, jM, jN, jO, jP, jQ, jR, jS, jT, jU, jV, jW, jX, jY, nils, rows, jZ, ja, jb, jc, jd, a5, l5, b6, ht, p2, g2, ss_least, set_svc]
        exact ⟨{ b with svcs := b.svcs.set i { b.svcs[i] with least := t } }, r5, rfl, Big.svc hb i _ hsn, h5.le (by omega)⟩
      simp only [hk9, jA, jB, jC, jD, jE, jF, jG, jH, call1, call2, call3, call4, call5, call6, call7, call8, call13, call15, call16, call17, call19, call21, jI, jJ, jK, jL, jM, jN, jO, jP, jQ, jR, jS, jT, jU, jV, jW, jX, jY, nils, rows, jZ, ja, jb, jc, jd]
      by_cases hk10 : (x4 == 10) = true
      · simp only [hk10, jA, jB, jC, jD, jE, jF, jG, jH, call1, call2, call3, call4, call5, call6, call7, call8, call13, call15, call16, call17, call19, call21, jI, jJ, jK, jL, jM, jN, jO, jP, jQ, jR, jS, jT, jU, jV, jW, jX, jY, nils, rows, jZ, ja, jb, jc, jd]
        obtain ⟨y, r5, e5, a5, b5, h5⟩ := pick_ex r4 4 h4 (by omega) (by omega)
        have b6 : y < ((4 : Nat) : Int) := b5 (by omega)
        have l5 : [[C.i (-1)], [C.i 1], [C.i 3], [C.i 4]].length = 4 := rfl
        obtain ⟨t, ht⟩ := lit_i [-1, 1, 3, 4] y a5 b6
        simp only [List.map_cons, List.map_nil, inE] at ht
        simp only [e5, jA, jB, jC, jD, jE, jF, jG, jH, call1, call2, call3, call4, call5, call6, call7, call8, call13, call15, call16, call17, call19, call21, jI, jJ, jK, jL, jM, jN, jO, jP, jQ, jR, jS, jT, jU, jV, jW, jX, jY, nils, rows, jZ, ja, jb, jc, jd, a5, l5, b6, ht, p2, g2, ss_cool, set_svc]
        exact ⟨{ b with svcs := b.svcs.set i { b.svcs[i] with cool := t } }, r5, rfl, Big.svc hb i _ hsn, h5.le (by omega)⟩
      simp only [hk10, jA, jB, jC, jD, jE, jF, jG, jH, call1, call2, call3, call4, call5, call6, call7, call8, call13, call15, call16, call17, call19, call21, jI, jJ, jK, jL, jM, jN, jO, jP, jQ, jR, jS, jT, jU, jV, jW, jX, jY, nils, rows, jZ, ja, jb, jc, jd]
      by_cases hk11 : (x4 == 11) = true
      · simp only [hk11, jA, jB, jC, jD, jE, jF, jG, jH, call1, call2, call3, call4, call5, call6, call7, call8, call13, call15, call16, call17, call19, call21, jI, jJ, jK, jL, jM, jN, jO, jP, jQ, jR, jS, jT, jU, jV, jW, jX, jY, nils, rows, jZ, ja, jb, jc, jd]
        obtain ⟨y, r5, e5, a5, b5, h5⟩ := pick_ex r4 3 h4 (by omega) (by omega)
        have b6 : y < ((3 : Nat) : Int) := b5 (by omega)
        have l5 : [[C.i (-1)], [C.i 1], [C.i 1000001]].length = 3 := rfl
        obtain ⟨t, ht⟩ := lit_i [-1, 1, 1000001] y a5 b6
        simp only [List.map_cons, List.map_nil, inE] at ht
        simp only [e5, jA, jB, jC, jD, jE, jF, jG, jH, call1, call2, call3, call4, call5, call6, call7, call8, call13, call15, call16, call17, call19, call21, jI, jJ, jK, jL, jM, jN, jO, jP, jQ, jR, jS, jT, jU, jV, jW, jX, jY, nils, rows, jZ, ja, jb, jc, jd, a5, l5, b6, ht, p2, g2, ss_load, set_svc]
        exact ⟨{ b with svcs := b.svcs.set i { b.svcs[i] with load := t } }, r5, rfl, Big.svc hb i _ hsn, h5.le (by omega)⟩
      simp only [hk11, jA, jB, jC, jD, jE, jF, jG, jH, call1, call2, call3, call4, call5, call6, call7, call8, call13, call15, call16, call17, call19, call21, jI, jJ, jK, jL, jM, jN, jO, jP, jQ, jR, jS, jT, jU, jV, jW, jX, jY, nils, rows, jZ, ja, jb, jc, jd]
      by_cases hk12 : (x4 == 12) = true
      · simp only [hk12, jA, jB, jC, jD, jE, jF, jG, jH, call1, call2, call3, call4, call5, call6, call7, call8, call13, call15, call16, call17, call19, call21, jI, jJ, jK, jL, jM, jN, jO, jP, jQ, jR, jS, jT, jU, jV, jW, jX, jY, nils, rows, jZ, ja, jb, jc, jd]
        obtain ⟨y, r5, e5, a5, b5, h5⟩ := pick_ex r4 2 h4 (by omega) (by omega)
        have b6 : y < ((2 : Nat) : Int) := b5 (by omega)
        have l5 : [[C.s (bs #[110, 111, 110, 101])], [C.s (bs #[])]].length = 2 := rfl
        obtain ⟨t, hn1, ht⟩ := lit_s [bs #[110, 111, 110, 101], bs #[]] y a5 b6
        have hsz : t.size < 4611686018427387904 := by
          simp only [List.mem_cons, List.mem_nil_iff, or_false] at hn1
          rcases hn1 with rfl | rfl <;> exact small_bs (by decide)
        simp only [List.map_cons, List.map_nil] at ht
        simp only [e5, jA, jB, jC, jD, jE, jF, jG, jH, call1, call2, call3, call4, call5, call6, call7, call8, call13, call15, call16, call17, call19, call21, jI, jJ, jK, jL, jM, jN, jO, jP, jQ, jR, jS, jT, jU, jV, jW, jX, jY, nils, rows, jZ, ja, jb, jc, jd, a5, l5, b6, ht, p3, g3, cc_svc, set_cpy]
        exact ⟨{ b with cpys := b.cpys.set k { b.cpys[k] with svc := t } }, r5, rfl, Big.cpy hb k _ ⟨hsz, hcn.2⟩, h5.le (by omega)⟩
      simp only [hk12, jA, jB, jC, jD, jE, jF, jG, jH, call1, call2, call3, call4, call5, call6, call7, call8, call13, call15, call16, call17, call19, call21, jI, jJ, jK, jL, jM, jN, jO, jP, jQ, jR, jS, jT, jU, jV, jW, jX, jY, nils, rows, jZ, ja, jb, jc, jd]
      by_cases hk13 : (x4 == 13) = true
      · simp only [hk13, jA, jB, jC, jD, jE, jF, jG, jH, call1, call2, call3, call4, call5, call6, call7, call8, call13, call15, call16, call17, call19, call21, jI, jJ, jK, jL, jM, jN, jO, jP, jQ, jR, jS, jT, jU, jV, jW, jX, jY, nils, rows, jZ, ja, jb, jc, jd]
        obtain ⟨y, r5, e5, a5, b5, h5⟩ := pick_ex r4 2 h4 (by omega) (by omega)
        have b6 : y < ((2 : Nat) : Int) := b5 (by omega)
        have l5 : [[C.i 0], [C.i 999]].length = 2 := rfl
        obtain ⟨t, ht⟩ := lit_i [0, 999] y a5 b6
        simp only [List.map_cons, List.map_nil, inE] at ht
        simp only [e5, jA, jB, jC, jD, jE, jF, jG, jH, call1, call2, call3, call4, call5, call6, call7, call8, call13, call15, call16, call17, call19, call21, jI, jJ, jK, jL, jM, jN, jO, jP, jQ, jR, jS, jT, jU, jV, jW, jX, jY, nils, rows, jZ, ja, jb, jc, jd, a5, l5, b6, ht, p3, g3, cc_num, set_cpy]
        exact ⟨{ b with cpys := b.cpys.set k { b.cpys[k] with num := t } }, r5, rfl, Big.cpy hb k _ hcn, h5.le (by omega)⟩
      simp only [hk13, jA, jB, jC, jD, jE, jF, jG, jH, call1, call2, call3, call4, call5, call6, call7, call8, call13, call15, call16, call17, call19, call21, jI, jJ, jK, jL, jM, jN, jO, jP, jQ, jR, jS, jT, jU, jV, jW, jX, jY, nils, rows, jZ, ja, jb, jc, jd]
      by_cases hk14 : (x4 == 14) = true
      · simp only [hk14, jA, jB, jC, jD, jE, jF, jG, jH, call1, call2, call3, call4, call5, call6, call7, call8, call13, call15, call16, call17, call19, call21, jI, jJ, jK, jL, jM, jN, jO, jP, jQ, jR, jS, jT, jU, jV, jW, jX, jY, nils, rows, jZ, ja, jb, jc, jd]
        obtain ⟨y, r5, e5, a5, b5, h5⟩ := pick_ex r4 4 h4 (by omega) (by omega)
        have b6 : y < ((4 : Nat) : Int) := b5 (by omega)
        have l5 : [[C.i 0], [C.i 1], [C.i 3], [C.i 5]].length = 4 := rfl
        obtain ⟨t, ht⟩ := lit_i [0, 1, 3, 5] y a5 b6
        simp only [List.map_cons, List.map_nil, inE] at ht
        simp only [e5, jA, jB, jC, jD, jE, jF, jG, jH, call1, call2, call3, call4, call5, call6, call7, call8, call13, call15, call16, call17, call19, call21, jI, jJ, jK, jL, jM, jN, jO, jP, jQ, jR, jS, jT, jU, jV, jW, jX, jY, nils, rows, jZ, ja, jb, jc, jd, a5, l5, b6, ht, p3, g3, cc_state, set_cpy]
        exact ⟨{ b with cpys := b.cpys.set k { b.cpys[k] with state := t } }, r5, rfl, Big.cpy hb k _ hcn, h5.le (by omega)⟩
      simp only [hk14, jA, jB, jC, jD, jE, jF, jG, jH, call1, call2, call3, call4, call5, call6, call7, call8, call13, call15, call16, call17, call19, call21, jI, jJ, jK, jL, jM, jN, jO, jP, jQ, jR, jS, jT, jU, jV, jW, jX, jY, nils, rows, jZ, ja, jb, jc, jd]
      by_cases hk15 : (x4 == 15) = true
      · simp only [hk15, jA, jB, jC, jD, jE, jF, jG, jH, call1, call2, call3, call4, call5, call6, call7, call8, call13, call15, call16, call17, call19, call21, jI, jJ, jK, jL, jM, jN, jO, jP, jQ, jR, jS, jT, jU, jV, jW, jX, jY, nils, rows, jZ, ja, jb, jc, jd]
        obtain ⟨y, r5, e5, a5, b5, h5⟩ := pick_ex r4 3 h4 (by omega) (by omega)
        have b6 : y < ((3 : Nat) : Int) := b5 (by omega)
        have l5 : [[C.s (bs #[])], [C.s (bs #[97])], [C.s (bs #[110, 111, 110, 101])]].length = 3 := rfl
        obtain ⟨t, hn1, ht⟩ := lit_s [bs #[], bs #[97], bs #[110, 111, 110, 101]] y a5 b6
        have hsz : t.size < 4611686018427387904 := by
          simp only [List.mem_cons, List.mem_nil_iff, or_false] at hn1
          rcases hn1 with rfl | rfl | rfl <;> exact small_bs (by decide)
        simp only [List.map_cons, List.map_nil] at ht
        simp only [e5, jA, jB, jC, jD, jE, jF, jG, jH, call1, call2, call3, call4, call5, call6, call7, call8, call13, call15, call16, call17, call19, call21, jI, jJ, jK, jL, jM, jN, jO, jP, jQ, jR, jS, jT, jU, jV, jW, jX, jY, nils, rows, jZ, ja, jb, jc, jd, a5, l5, b6, ht, p3, g3, cc_berth, set_cpy]
        exact ⟨{ b with cpys := b.cpys.set k { b.cpys[k] with berth := t } }, r5, rfl, Big.cpy hb k _ ⟨hcn.1, hsz⟩, h5.le (by omega)⟩
      simp only [hk15, jA, jB, jC, jD, jE, jF, jG, jH, call1, call2, call3, call4, call5, call6, call7, call8, call13, call15, call16, call17, call19, call21, jI, jJ, jK, jL, jM, jN, jO, jP, jQ, jR, jS, jT, jU, jV, jW, jX, jY, nils, rows, jZ, ja, jb, jc, jd]
      by_cases hk16 : (x4 == 16) = true
      · simp only [hk16, jA, jB, jC, jD, jE, jF, jG, jH, call1, call2, call3, call4, call5, call6, call7, call8, call13, call15, call16, call17, call19, call21, jI, jJ, jK, jL, jM, jN, jO, jP, jQ, jR, jS, jT, jU, jV, jW, jX, jY, nils, rows, jZ, ja, jb, jc, jd]
        have q : b.cpys.length + 1 ≤ 4294967296 := by have := hb.c; omega
        simp only [Cpy.e] at g3
        simp only [jA, jB, jC, jD, jE, jF, jG, jH, call1, call2, call3, call4, call5, call6, call7, call8, call13, call15, call16, call17, call19, call21, jI, jJ, jK, jL, jM, jN, jO, jP, jQ, jR, jS, jT, jU, jV, jW, jX, jY, nils, rows, jZ, ja, jb, jc, jd, p3, g3, q]
        refine ⟨{ b with cpys := b.cpys ++ [b.cpys[k]] }, r4, ?_, Big.cpa hb _ hcn, h4.le (by omega)⟩
        simp only [bR, List.map_append, List.map_cons, List.map_nil]; rfl
      simp only [hk16, jA, jB, jC, jD, jE, jF, jG, jH, call1, call2, call3, call4, call5, call6, call7, call8, call13, call15, call16, call17, call19, call21, jI, jJ, jK, jL, jM, jN, jO, jP, jQ, jR, jS, jT, jU, jV, jW, jX, jY, nils, rows, jZ, ja, jb, jc, jd]
      by_cases hk17 : (x4 == 17) = true
      · simp only [hk17, jA, jB, jC, jD, jE, jF, jG, jH, call1, call2, call3, call4, call5, call6, call7, call8, call13, call15, call16, call17, call19, call21, jI, jJ, jK, jL, jM, jN, jO, jP, jQ, jR, jS, jT, jU, jV, jW, jX, jY, nils, rows, jZ, ja, jb, jc, jd]
        obtain ⟨y, r5, e5, a5, b5, h5⟩ := pick_ex r4 3 h4 (by omega) (by omega)
        have b6 : y < ((3 : Nat) : Int) := b5 (by omega)
        have l5 : [[C.s (bs #[])], [C.s (bs #[122])], [C.s (bs #[97])]].length = 3 := rfl
        obtain ⟨t, hn1, ht⟩ := lit_s [bs #[], bs #[122], bs #[97]] y a5 b6
        have hsz : t.size < 4611686018427387904 := by
          simp only [List.mem_cons, List.mem_nil_iff, or_false] at hn1
          rcases hn1 with rfl | rfl | rfl <;> exact small_bs (by decide)
        simp only [List.map_cons, List.map_nil] at ht
        have q : b.brts.length + 1 ≤ 4294967296 := by have := hb.t; omega
        simp only [e5, jA, jB, jC, jD, jE, jF, jG, jH, call1, call2, call3, call4, call5, call6, call7, call8, call13, call15, call16, call17, call19, call21, jI, jJ, jK, jL, jM, jN, jO, jP, jQ, jR, jS, jT, jU, jV, jW, jX, jY, nils, rows, jZ, ja, jb, jc, jd, a5, l5, b6, ht, q]
        refine ⟨{ b with brts := b.brts ++ [⟨t, false⟩] }, r5, ?_, Big.bra hb _ hsz, h5.le (by omega)⟩
        simp only [bR, List.map_append, List.map_cons, List.map_nil]; rfl
      simp only [hk17, jA, jB, jC, jD, jE, jF, jG, jH, call1, call2, call3, call4, call5, call6, call7, call8, call13, call15, call16, call17, call19, call21, jI, jJ, jK, jL, jM, jN, jO, jP, jQ, jR, jS, jT, jU, jV, jW, jX, jY, nils, rows, jZ, ja, jb, jc, jd]
      by_cases hk18 : (x4 == 18) = true
      · simp only [hk18, jA, jB, jC, jD, jE, jF, jG, jH, call1, call2, call3, call4, call5, call6, call7, call8, call13, call15, call16, call17, call19, call21, jI, jJ, jK, jL, jM, jN, jO, jP, jQ, jR, jS, jT, jU, jV, jW, jX, jY, nils, rows, jZ, ja, jb, jc, jd]
        obtain ⟨y, r5, e5, a5, b5, h5⟩ := pick_ex r4 2 h4 (by omega) (by omega)
        have b6 : y < ((2 : Nat) : Int) := b5 (by omega)
        have l5 : [[C.i 0], [C.i (w64 (b.now + 1))]].length = 2 := rfl
        obtain ⟨t, ht⟩ := lit_i [0, w64 (b.now + 1)] y a5 b6
        simp only [List.map_cons, List.map_nil, inE] at ht
        simp only [e5, jA, jB, jC, jD, jE, jF, jG, jH, call1, call2, call3, call4, call5, call6, call7, call8, call13, call15, call16, call17, call19, call21, jI, jJ, jK, jL, jM, jN, jO, jP, jQ, jR, jS, jT, jU, jV, jW, jX, jY, nils, rows, jZ, ja, jb, jc, jd, a5, l5, b6, ht, p3, g3, cc_ver, set_cpy]
        exact ⟨{ b with cpys := b.cpys.set k { b.cpys[k] with ver := t } }, r5, rfl, Big.cpy hb k _ hcn, h5.le (by omega)⟩
      simp only [hk18, jA, jB, jC, jD, jE, jF, jG, jH, call1, call2, call3, call4, call5, call6, call7, call8, call13, call15, call16, call17, call19, call21, jI, jJ, jK, jL, jM, jN, jO, jP, jQ, jR, jS, jT, jU, jV, jW, jX, jY, nils, rows, jZ, ja, jb, jc, jd]
      have g5 : b.cpys[k].e.getD 5 .nil = .b b.cpys[k].ending := rfl
      simp only [jA, jB, jC, jD, jE, jF, jG, jH, call1, call2, call3, call4, call5, call6, call7, call8, call13, call15, call16, call17, call19, call21, jI, jJ, jK, jL, jM, jN, jO, jP, jQ, jR, jS, jT, jU, jV, jW, jX, jY, nils, rows, jZ, ja, jb, jc, jd, p3, g3, g5, cc_ending, set_cpy]
      exact ⟨{ b with cpys := b.cpys.set k { b.cpys[k] with ending := !b.cpys[k].ending } }, r4, rfl, Big.cpy hb k _ hcn, h4.le (by omega)⟩
    · exact bad
  · exact bad
end Go.Ev
namespace Go.Ev
theorem s_l18Open_ex (z : List Int) (hz : ∀ n, n ∈ z → 0 ≤ n ∧ n ≤ 255) : ∃ r : Rd, s_l18Open [.l (z.map inE)] = some r.e ∧ ROk 0 r := by
  simp only [s_l18Open, s_l18Open.d1, jA, jB, jC, jD, jE, jF, jG, jH, call1, call2, call3, call4, call5, call6, call7, call8, call13, call15, call16, call17, call19, call21, jI, jJ, jK, jL, jM, jN, jO, jP, jQ, jR, jS, jT, jU, jV, jW, jX, jY, nils, rows, jZ, ja, jb, jc, jd]
  by_cases h : (z.length : Int) > 2000
  · have h' : (2000 : Int) ≤ (z.length : Int) := by omega
    simp only [h, h', jA, jB, jC, jD, jE, jF, jG, jH, call1, call2, call3, call4, call5, call6, call7, call8, call13, call15, call16, call17, call19, call21, jI, jJ, jK, jL, jM, jN, jO, jP, jQ, jR, jS, jT, jU, jV, jW, jX, jY, nils, rows, jZ, ja, jb, jc, jd]
    refine ⟨⟨z.take 2000, 0⟩, by simp only [Rd.e, List.map_take, List.drop_zero]; rfl, ⟨by simp; omega, fun n hn => hz n (List.mem_of_mem_take hn), Nat.le_refl _⟩⟩
  · simp only [h, jA, jB, jC, jD, jE, jF, jG, jH, call1, call2, call3, call4, call5, call6, call7, call8, call13, call15, call16, call17, call19, call21, jI, jJ, jK, jL, jM, jN, jO, jP, jQ, jR, jS, jT, jU, jV, jW, jX, jY, nils, rows, jZ, ja, jb, jc, jd]
    exact ⟨⟨z, 0⟩, rfl, ⟨by simp only; omega, hz, Nat.le_refl _⟩⟩
theorem s_DrawStewDone_ex (z : List Int) (hz : ∀ n, n ∈ z → 0 ≤ n ∧ n ≤ 255) : ∃ b : Book, s_DrawStewDone [.l (z.map inE)] = some b.e ∧ Big b := by
  obtain ⟨r0, e0, h0⟩ := s_l18Open_ex z hz
  obtain ⟨w, r1, e1, hw, h1⟩ := s_l25Reached_ex r0 h0 (by omega)
  obtain ⟨y, r2, e2, a2, b2, h2⟩ := pick_ex r1 3 h1 (by omega) (by omega)
  obtain ⟨w', e3, hw'⟩ := s_StewCalm_ex w 60 [] hw (by simp)
  have T : ∀ u : Wld, WOk u → ∃ b : Book, finR ((fun xs => s_DrawStewDone.d1 (xs.getD 0 .nil) (xs.getD 1 .nil) (xs.getD 2 .nil) (xs.getD 3 .nil) (xs.getD 4 .nil) (xs.getD 5 .nil) (xs.getD 6 .nil) (xs.getD 7 .nil) (xs.getD 8 .nil) (xs.getD 9 .nil) (xs.getD 10 .nil)) (.i 0 :: (r2.e ++ [.i u.book.now, .l [], .l [], .l [], .l (u.past.map Book.e), .l (u.book.svcs.map Svc.e), .l (u.book.cpys.map Cpy.e), .l (u.book.brts.map Brt.e)]))) = some b.e ∧ Big b := by
    intro u hu
    obtain ⟨x, r3, e4, a4, b4, h4⟩ := pick_ex r2 6 h2 (by omega) (by omega)
    obtain ⟨c, r4, e5, hc, h5⟩ := s_l18Spoil_ex r3 u.book h4 (by omega) hu.b
    simp only [Book.e, Svc.e, Cpy.e, Brt.e, Act.e, Wld.e, Ev1.e, jA, jB, jC, jD, jE, jF, jG, jH, call1, call2, call3, call4, call5, call6, call7, call8, call13, call15, call16, call17, call19, call21, jI, jJ, jK, jL, jM, jN, jO, jP, jQ, jR, jS, jT, jU, jV, jW, jX, jY, nils, rows, jZ, ja, jb, jc, jd, Rd.e, bR] at e5
    simp only [s_DrawStewDone.d1, Rd.e, jA, jB, jC, jD, jE, jF, jG, jH, call1, call2, call3, call4, call5, call6, call7, call8, call13, call15, call16, call17, call19, call21, jI, jJ, jK, jL, jM, jN, jO, jP, jQ, jR, jS, jT, jU, jV, jW, jX, jY, nils, rows, jZ, ja, jb, jc, jd, e4]
    rw [Bool.cond_eq_ite]
    split <;> simp only [jA, jB, jC, jD, jE, jF, jG, jH, call1, call2, call3, call4, call5, call6, call7, call8, call13, call15, call16, call17, call19, call21, jI, jJ, jK, jL, jM, jN, jO, jP, jQ, jR, jS, jT, jU, jV, jW, jX, jY, nils, rows, jZ, ja, jb, jc, jd, e5]
    · exact ⟨c, rfl, hc⟩
    · exact ⟨u.book, rfl, hu.b.big⟩
  have t1 := T w hw
  have t2 := T w' hw'
  simp only [Book.e, Svc.e, Cpy.e, Brt.e, Act.e, Wld.e, Ev1.e, jA, jB, jC, jD, jE, jF, jG, jH, call1, call2, call3, call4, call5, call6, call7, call8, call13, call15, call16, call17, call19, call21, jI, jJ, jK, jL, jM, jN, jO, jP, jQ, jR, jS, jT, jU, jV, jW, jX, jY, nils, rows, jZ, ja, jb, jc, jd, Rd.e, Wld.c, List.map_nil] at e0 e1 e3 t1 t2
  simp only [s_DrawStewDone, s_DrawStewDone.d2, Book.e, Svc.e, Cpy.e, Brt.e, Act.e, Wld.e, Ev1.e, jA, jB, jC, jD, jE, jF, jG, jH, call1, call2, call3, call4, call5, call6, call7, call8, call13, call15, call16, call17, call19, call21, jI, jJ, jK, jL, jM, jN, jO, jP, jQ, jR, jS, jT, jU, jV, jW, jX, jY, nils, rows, jZ, ja, jb, jc, jd, e0, e1, e2]
  rw [Bool.cond_eq_ite]
  split <;> simp only [jA, jB, jC, jD, jE, jF, jG, jH, call1, call2, call3, call4, call5, call6, call7, call8, call13, call15, call16, call17, call19, call21, jI, jJ, jK, jL, jM, jN, jO, jP, jQ, jR, jS, jT, jU, jV, jW, jX, jY, nils, rows, jZ, ja, jb, jc, jd, e3]
  · exact t2
  · exact t1
end Go.Ev
namespace Go.Ev
theorem bytesLess_trans : ∀ (a b c : List UInt8), Op.bytesLess a b = true → Op.bytesLess b c = true → Op.bytesLess a c = true
  | _, _, [], _, h2 => by cases ‹List UInt8› <;> simp [Op.bytesLess] at h2
  | _, [], _ :: _, h1, _ => by simp [Op.bytesLess] at h1
  | [], _ :: _, _ :: _, _, _ => by simp [Op.bytesLess]
  | x :: a, y :: b, z :: c, h1, h2 => by
    simp only [Op.bytesLess, Bool.or_eq_true, Bool.and_eq_true, decide_eq_true_eq, beq_iff_eq] at h1 h2 ⊢
    have lt (p q : UInt8) : p < q ↔ p.toNat < q.toNat := Iff.rfl
    simp only [lt] at h1 h2 ⊢
    rcases h1 with h1 | ⟨rfl, h1⟩
    · rcases h2 with h2 | ⟨rfl, h2⟩
      · left; omega
      · left; exact h1
    · rcases h2 with h2 | ⟨rfl, h2⟩
      · left; exact h2
      · right; exact ⟨rfl, bytesLess_trans a b c h1 h2⟩
theorem chain_lt {α : Type} {ok : α → Bool} {lt : α → α → Bool} {l : List α} (h : chainOk ok lt l = true) (ht : ∀ a b c, lt a b = true → lt b c = true → lt a c = true) :
    ∀ (d i : Nat) (hj : i + d + 1 < l.length), lt (l[i]'(by omega)) l[i + d + 1] = true
  | 0, i, hj => by
    simp only [chainOk, List.all_eq_true] at h
    have := h (l[i + 1], i + 1) (List.mem_zipIdx_iff_getElem?.2 (by simp [hj]))
    have hi : i < l.length := by omega
    simp only [prevOk, Nat.add_sub_cancel, List.getElem?_eq_getElem hi, Bool.and_eq_true, Bool.or_eq_true, beq_iff_eq] at this
    rcases this.2 with q | q
    · omega
    · exact q
  | d + 1, i, hj => by
    have h1 := chain_lt h ht d i (by omega)
    have h2 := chain_lt h ht 0 (i + d + 1) (by omega)
    exact ht _ _ _ h1 h2
theorem sEq_iff (a b : Str) : sEq a b = true ↔ a.toList = b.toList := by simp [sEq]
theorem names_ne {b : Book} (h : validB b = true) {i j : Nat} (hi : i < b.svcs.length) (hj : j < b.svcs.length) (he : sEq b.svcs[i].name b.svcs[j].name = true) : i = j := by
  simp only [validB, Bool.and_eq_true] at h
  have hc := h.1.1.2
  have ht : ∀ s t u : Svc, sLt s.name t.name = true → sLt t.name u.name = true → sLt s.name u.name = true := fun s t u => bytesLess_trans _ _ _
  rcases Nat.lt_trichotomy i j with q | q | q
  · obtain ⟨d, rfl⟩ : ∃ d, j = i + d + 1 := ⟨j - i - 1, by omega⟩
    have := chain_lt hc ht d i hj
    rw [sEq_iff] at he
    simp only [sLt, he] at this
    rw [bytesLess_irrefl] at this; simp at this
  · exact q
  · obtain ⟨d, rfl⟩ : ∃ d, i = j + d + 1 := ⟨i - j - 1, by omega⟩
    have := chain_lt hc ht d j hi
    rw [sEq_iff] at he
    simp only [sLt, he] at this
    rw [bytesLess_irrefl] at this; simp at this
theorem svc_self {b : Book} (h : validB b = true) {j : Nat} (hj : j < b.svcs.length) : svcOf b b.svcs[j].name = some b.svcs[j] ∧ svcIx b.svcs b.svcs[j].name = (j : Int) := by
  rcases findIx_spec (fun s : Svc => sEq s.name b.svcs[j].name) b.svcs 0 with ⟨q, _⟩ | ⟨i, hi, h1, h2, h3⟩
  · have := List.find?_eq_none.1 q b.svcs[j] (List.getElem_mem hj)
    simp [sEq] at this
  · have e := names_ne h hi hj h3
    subst e
    exact ⟨h2, by rw [svcIx, h1]; omega⟩
end Go.Ev
namespace Go.Ev
def mine (s : Svc) (c : Cpy) : Bool := c.svc.toList == s.name.toList
def pLive (s : Svc) (c : Cpy) : Bool := mine s c && !c.ending
def pReady (s : Svc) (c : Cpy) : Bool := mine s c && (!c.ending && c.state == 3)
def pOld (s : Svc) (c : Cpy) : Bool := mine s c && (!c.ending && c.image != s.image)
def pFail (s : Svc) (c : Cpy) : Bool := mine s c && (!c.ending && c.state == 4)
def pEnd (s : Svc) (c : Cpy) : Bool := mine s c && c.ending
def cn (p : Cpy → Bool) (l : List Cpy) (i : Nat) : Int := (((l.take i).countP p : Nat) : Int)
theorem cn_zero (p : Cpy → Bool) (l : List Cpy) : cn p l 0 = 0 := rfl
theorem cn_le (p : Cpy → Bool) (l : List Cpy) (i : Nat) : 0 ≤ cn p l i ∧ cn p l i ≤ l.length := by
  have h1 := List.countP_le_length (p := p) (l := l.take i)
  have h2 := List.length_take_le i l
  have h3 := List.length_take_le' i l
  simp only [cn]; omega
theorem cn_succ (p : Cpy → Bool) (l : List Cpy) {i : Nat} (h : i < l.length) (hl : l.length ≤ 1000) : cn p l (i + 1) = bif p l[i] then w64 (cn p l i + 1) else cn p l i := by
  have hle := cn_le p l i
  have e : cn p l (i + 1) = cn p l i + bif p l[i] then 1 else 0 := by
    simp only [cn, List.take_succ_eq_append_getElem h, List.countP_append, List.countP_singleton]
    cases p l[i] <;> simp
  rw [e]
  cases p l[i]
  · simp
  · simp only [jR]; rw [w64_of (by omega) (by omega)]
def CountE (b : Book) (s : Svc) (i : Nat) : List C := [.i (cn (pLive s) b.cpys i), .i (cn (pReady s) b.cpys i), .i (cn (pOld s) b.cpys i), .i (cn (pFail s) b.cpys i), .i (cn (pEnd s) b.cpys i)]
theorem cn_all (p : Cpy → Bool) (l : List Cpy) : cn p l l.length = ((l.countP p : Nat) : Int) := by rw [cn, List.take_length]
theorem s_l19Count_eq (b : Book) (j : Nat) (hj : j < b.svcs.length) (hb : Bnd b) (hx : svcIx b.svcs b.svcs[j].name = (j : Int)) : s_l19Count (b.e ++ [.s b.svcs[j].name]) = some (CountE b b.svcs[j] b.cpys.length) := by
  have hc := hb.c
  have e0 := s_l18Service_eq b b.svcs[j].name hb.small.s
  rw [hx] at e0
  have L : ∃ o, lim (fun xs => s_l19Count.d4 (xs.getD 0 .nil) (xs.getD 1 .nil) (xs.getD 2 .nil) (xs.getD 3 .nil) (xs.getD 4 .nil) (xs.getD 5 .nil) (xs.getD 6 .nil) (xs.getD 7 .nil) (xs.getD 8 .nil) (xs.getD 9 .nil) (xs.getD 10 .nil) (xs.getD 11 .nil) (xs.getD 12 .nil) (xs.getD 13 .nil) (xs.getD 14 .nil) (xs.getD 15 .nil) (xs.getD 16 .nil)) (.s b.svcs[j].name :: .i (j : Nat) :: .i 0 :: (b.e ++ [.i 0, .i 0, .i 0, .i 0, .i 0, .i 0, .i 0, .i 0, .i 0, .i 0])) = some o ∧ o = .brk 0 ([.i 0, .i 0, .i 0, .i 0, .i 0] ++ CountE b b.svcs[j] b.cpys.length) := by
    refine lim_exs (fun i : Nat => .s b.svcs[j].name :: .i (j : Nat) :: .i (i : Nat) :: (b.e ++ [.i 0, .i 0, .i 0, .i 0, .i 0] ++ CountE b b.svcs[j] i)) (fun i => b.cpys.length - i) (fun i => i ≤ b.cpys.length) _ 0 (Nat.zero_le _) ?_
    intro i hi
    have w1 : w64 ((i : Int) + 1) = ((i + 1 : Nat) : Int) := w64_nat (n := i + 1) (by omega)
    have p3 : (j : Int) ≥ 0 := by omega
    by_cases hlt : i < b.cpys.length
    · left
      refine ⟨i + 1, ?_, hlt, by omega⟩
      have p1 : (i : Int) < (b.cpys.length : Int) := by omega
      have p2 : (j : Int) < (b.svcs.length : Int) := by omega
      have g1 : (b.cpys.map Cpy.e).getD i [] = b.cpys[i].e := getD_map_lt Cpy.e hlt []
      have g2 : (b.svcs.map Svc.e).getD j [] = b.svcs[j].e := getD_map_lt Svc.e hj []
      have st := fun p => cn_succ p b.cpys hlt (by omega)
      simp only [CountE, Book.e, Svc.e, Cpy.e, Brt.e, Act.e, Wld.e, Ev1.e, jA, jB, jC, jD, jE, jF, jG, jH, call1, call2, call3, call4, call5, call6, call7, call8, call13, call15, call16, call17, call19, call21, jI, jJ, jK, jL, jM, jN, jO, jP, jQ, jR, jS, jT, jU, jV, jW, jX, jY, nils, rows, jZ, ja, jb, jc, jd, st, pLive, pReady, pOld, pFail, pEnd, mine]
      simp only [s_l19Count.d4, Book.e, Svc.e, Cpy.e, Brt.e, Act.e, Wld.e, Ev1.e, jA, jB, jC, jD, jE, jF, jG, jH, call1, call2, call3, call4, call5, call6, call7, call8, call13, call15, call16, call17, call19, call21, jI, jJ, jK, jL, jM, jN, jO, jP, jQ, jR, jS, jT, jU, jV, jW, jX, jY, nils, rows, jZ, ja, jb, jc, jd, p1, p3, g1]
      cases (b.cpys[i].svc.toList == b.svcs[j].name.toList) <;> simp only [jA, jB, jC, jD, jE, jF, jG, jH, call1, call2, call3, call4, call5, call6, call7, call8, call13, call15, call16, call17, call19, call21, jI, jJ, jK, jL, jM, jN, jO, jP, jQ, jR, jS, jT, jU, jV, jW, jX, jY, nils, rows, jZ, ja, jb, jc, jd, s_l19Count.d3, w1, Bool.false_and, Bool.true_and]
      cases b.cpys[i].ending <;> simp only [jA, jB, jC, jD, jE, jF, jG, jH, call1, call2, call3, call4, call5, call6, call7, call8, call13, call15, call16, call17, call19, call21, jI, jJ, jK, jL, jM, jN, jO, jP, jQ, jR, jS, jT, jU, jV, jW, jX, jY, nils, rows, jZ, ja, jb, jc, jd, s_l19Count.d3, w1, Bool.false_and, Bool.true_and]
      cases (b.cpys[i].state == 3) <;> simp only [jA, jB, jC, jD, jE, jF, jG, jH, call1, call2, call3, call4, call5, call6, call7, call8, call13, call15, call16, call17, call19, call21, jI, jJ, jK, jL, jM, jN, jO, jP, jQ, jR, jS, jT, jU, jV, jW, jX, jY, nils, rows, jZ, ja, jb, jc, jd, s_l19Count.d2]
      all_goals cases (b.cpys[i].state == 4) <;> simp only [jA, jB, jC, jD, jE, jF, jG, jH, call1, call2, call3, call4, call5, call6, call7, call8, call13, call15, call16, call17, call19, call21, jI, jJ, jK, jL, jM, jN, jO, jP, jQ, jR, jS, jT, jU, jV, jW, jX, jY, nils, rows, jZ, ja, jb, jc, jd, s_l19Count.d1, g2, p2, Book.e, Svc.e, Cpy.e, Brt.e, Act.e, Wld.e, Ev1.e]
      all_goals cases (b.cpys[i].image != b.svcs[j].image) <;> simp only [jA, jB, jC, jD, jE, jF, jG, jH, call1, call2, call3, call4, call5, call6, call7, call8, call13, call15, call16, call17, call19, call21, jI, jJ, jK, jL, jM, jN, jO, jP, jQ, jR, jS, jT, jU, jV, jW, jX, jY, nils, rows, jZ, ja, jb, jc, jd, s_l19Count.d3, w1]
    · right
      have : i = b.cpys.length := by omega
      subst this
      have p1 : ¬ (b.cpys.length : Int) < (b.cpys.length : Int) := by omega
      refine ⟨_, ?_, ?_, rfl⟩
      · simp only [CountE, Book.e, Svc.e, Cpy.e, Brt.e, Act.e, Wld.e, Ev1.e, jA, jB, jC, jD, jE, jF, jG, jH, call1, call2, call3, call4, call5, call6, call7, call8, call13, call15, call16, call17, call19, call21, jI, jJ, jK, jL, jM, jN, jO, jP, jQ, jR, jS, jT, jU, jV, jW, jX, jY, nils, rows, jZ, ja, jb, jc, jd]
        simp only [s_l19Count.d4, jA, jB, jC, jD, jE, jF, jG, jH, call1, call2, call3, call4, call5, call6, call7, call8, call13, call15, call16, call17, call19, call21, jI, jJ, jK, jL, jM, jN, jO, jP, jQ, jR, jS, jT, jU, jV, jW, jX, jY, nils, rows, jZ, ja, jb, jc, jd, p1]
      · trivial
  obtain ⟨o, h1, rfl⟩ := L
  simp only [Book.e, Svc.e, Cpy.e, Brt.e, Act.e, Wld.e, Ev1.e, jA, jB, jC, jD, jE, jF, jG, jH, call1, call2, call3, call4, call5, call6, call7, call8, call13, call15, call16, call17, call19, call21, jI, jJ, jK, jL, jM, jN, jO, jP, jQ, jR, jS, jT, jU, jV, jW, jX, jY, nils, rows, jZ, ja, jb, jc, jd] at h1 e0
  simp only [s_l19Count, s_l19Count.d6, Book.e, Svc.e, Cpy.e, Brt.e, Act.e, Wld.e, Ev1.e, jA, jB, jC, jD, jE, jF, jG, jH, call1, call2, call3, call4, call5, call6, call7, call8, call13, call15, call16, call17, call19, call21, jI, jJ, jK, jL, jM, jN, jO, jP, jQ, jR, jS, jT, jU, jV, jW, jX, jY, nils, rows, jZ, ja, jb, jc, jd, e0]
  rw [h1]
  simp only [CountE, jA, jB, jC, jD, jE, jF, jG, jH, call1, call2, call3, call4, call5, call6, call7, call8, call13, call15, call16, call17, call19, call21, jI, jJ, jK, jL, jM, jN, jO, jP, jQ, jR, jS, jT, jU, jV, jW, jX, jY, nils, rows, jZ, ja, jb, jc, jd, s_l19Count.d5]
theorem i_count_eq (b : Book) (s : Svc) (hb : Bnd b) : i_StewBook_count [.p b.e, .p s.e] = some (CountE b s b.cpys.length) := by
  have hc := hb.c
  have L : ∃ o, lim (fun xs => i_StewBook_count.d2 (xs.getD 0 .nil) (xs.getD 1 .nil) (xs.getD 2 .nil) (xs.getD 3 .nil) (xs.getD 4 .nil) (xs.getD 5 .nil) (xs.getD 6 .nil) (xs.getD 7 .nil) (xs.getD 8 .nil) (xs.getD 9 .nil) (xs.getD 10 .nil) (xs.getD 11 .nil) (xs.getD 12 .nil) (xs.getD 13 .nil)) (.p s.e :: .l (b.cpys.map Cpy.e) :: .i (b.cpys.length : Nat) :: .i 0 :: [.i 0, .i 0, .i 0, .i 0, .i 0, .i 0, .i 0, .i 0, .i 0, .i 0]) = some o ∧ o = .brk 0 ([.i 0, .i 0, .i 0, .i 0, .i 0] ++ CountE b s b.cpys.length) := by
    refine lim_exs (fun i : Nat => .p s.e :: .l (b.cpys.map Cpy.e) :: .i (b.cpys.length : Nat) :: .i (i : Nat) :: ([.i 0, .i 0, .i 0, .i 0, .i 0] ++ CountE b s i)) (fun i => b.cpys.length - i) (fun i => i ≤ b.cpys.length) _ 0 (Nat.zero_le _) ?_
    intro i hi
    have w1 : w64 ((i : Int) + 1) = ((i + 1 : Nat) : Int) := w64_nat (n := i + 1) (by omega)
    by_cases hlt : i < b.cpys.length
    · left
      refine ⟨i + 1, ?_, hlt, by omega⟩
      have p1 : (i : Int) < (b.cpys.length : Int) := by omega
      have g1 : (b.cpys.map Cpy.e).getD i [] = b.cpys[i].e := getD_map_lt Cpy.e hlt []
      have st := fun p => cn_succ p b.cpys hlt (by omega)
      simp only [CountE, Book.e, Svc.e, Cpy.e, Brt.e, Act.e, Wld.e, Ev1.e, jA, jB, jC, jD, jE, jF, jG, jH, call1, call2, call3, call4, call5, call6, call7, call8, call13, call15, call16, call17, call19, call21, jI, jJ, jK, jL, jM, jN, jO, jP, jQ, jR, jS, jT, jU, jV, jW, jX, jY, nils, rows, jZ, ja, jb, jc, jd, st, pLive, pReady, pOld, pFail, pEnd, mine]
      simp only [i_StewBook_count.d2, Book.e, Svc.e, Cpy.e, Brt.e, Act.e, Wld.e, Ev1.e, jA, jB, jC, jD, jE, jF, jG, jH, call1, call2, call3, call4, call5, call6, call7, call8, call13, call15, call16, call17, call19, call21, jI, jJ, jK, jL, jM, jN, jO, jP, jQ, jR, jS, jT, jU, jV, jW, jX, jY, nils, rows, jZ, ja, jb, jc, jd, C.isP_p, C.P_p, p1, g1]
      cases (b.cpys[i].svc.toList == s.name.toList) <;> simp only [jA, jB, jC, jD, jE, jF, jG, jH, call1, call2, call3, call4, call5, call6, call7, call8, call13, call15, call16, call17, call19, call21, jI, jJ, jK, jL, jM, jN, jO, jP, jQ, jR, jS, jT, jU, jV, jW, jX, jY, nils, rows, jZ, ja, jb, jc, jd, w1, Bool.false_and, Bool.true_and]
      cases b.cpys[i].ending <;> simp only [jA, jB, jC, jD, jE, jF, jG, jH, call1, call2, call3, call4, call5, call6, call7, call8, call13, call15, call16, call17, call19, call21, jI, jJ, jK, jL, jM, jN, jO, jP, jQ, jR, jS, jT, jU, jV, jW, jX, jY, nils, rows, jZ, ja, jb, jc, jd, w1, Bool.false_and, Bool.true_and]
      cases (b.cpys[i].state == 3) <;> simp only [jA, jB, jC, jD, jE, jF, jG, jH, call1, call2, call3, call4, call5, call6, call7, call8, call13, call15, call16, call17, call19, call21, jI, jJ, jK, jL, jM, jN, jO, jP, jQ, jR, jS, jT, jU, jV, jW, jX, jY, nils, rows, jZ, ja, jb, jc, jd, i_StewBook_count.d1, C.isP_p, C.P_p]
      all_goals cases (b.cpys[i].state == 4) <;> cases (b.cpys[i].image != s.image) <;> simp only [jA, jB, jC, jD, jE, jF, jG, jH, call1, call2, call3, call4, call5, call6, call7, call8, call13, call15, call16, call17, call19, call21, jI, jJ, jK, jL, jM, jN, jO, jP, jQ, jR, jS, jT, jU, jV, jW, jX, jY, nils, rows, jZ, ja, jb, jc, jd, w1]
    · right
      have : i = b.cpys.length := by omega
      subst this
      have p1 : ¬ (b.cpys.length : Int) < (b.cpys.length : Int) := by omega
      refine ⟨_, ?_, ?_, rfl⟩
      · simp only [CountE, jA, jB, jC, jD, jE, jF, jG, jH, call1, call2, call3, call4, call5, call6, call7, call8, call13, call15, call16, call17, call19, call21, jI, jJ, jK, jL, jM, jN, jO, jP, jQ, jR, jS, jT, jU, jV, jW, jX, jY, nils, rows, jZ, ja, jb, jc, jd]
        simp only [i_StewBook_count.d2, jA, jB, jC, jD, jE, jF, jG, jH, call1, call2, call3, call4, call5, call6, call7, call8, call13, call15, call16, call17, call19, call21, jI, jJ, jK, jL, jM, jN, jO, jP, jQ, jR, jS, jT, jU, jV, jW, jX, jY, nils, rows, jZ, ja, jb, jc, jd, p1]
      · trivial
  obtain ⟨o, h1, rfl⟩ := L
  simp only [Book.e, Svc.e, Cpy.e, Brt.e, Act.e, Wld.e, Ev1.e, jA, jB, jC, jD, jE, jF, jG, jH, call1, call2, call3, call4, call5, call6, call7, call8, call13, call15, call16, call17, call19, call21, jI, jJ, jK, jL, jM, jN, jO, jP, jQ, jR, jS, jT, jU, jV, jW, jX, jY, nils, rows, jZ, ja, jb, jc, jd] at h1
  simp only [i_StewBook_count, i_StewBook_count.d4, Book.e, Svc.e, Cpy.e, Brt.e, Act.e, Wld.e, Ev1.e, jA, jB, jC, jD, jE, jF, jG, jH, call1, call2, call3, call4, call5, call6, call7, call8, call13, call15, call16, call17, call19, call21, jI, jJ, jK, jL, jM, jN, jO, jP, jQ, jR, jS, jT, jU, jV, jW, jX, jY, nils, rows, jZ, ja, jb, jc, jd, C.isP_p, C.P_p]
  rw [h1]
  simp only [CountE, jA, jB, jC, jD, jE, jF, jG, jH, call1, call2, call3, call4, call5, call6, call7, call8, call13, call15, call16, call17, call19, call21, jI, jJ, jK, jL, jM, jN, jO, jP, jQ, jR, jS, jT, jU, jV, jW, jX, jY, nils, rows, jZ, ja, jb, jc, jd, i_StewBook_count.d3]
end Go.Ev
namespace Go.Ev
def drn (b : Book) (c : Cpy) : Bool := match brtOf b c.berth with | some t => t.drain | none => false
theorem i_berth_v1_eq (b : Book) (nm : Str) (hb : Bnd b) : i_StewBook_berth_v1 [.p b.e, .s nm] = some [rowP Brt.e (brtOf b nm)] := by
  have hl := hb.t
  have h := lim_list (l := b.brts) (S := fun i (_ : Unit) => [.p b.e, .s nm, .i (b.brts.length : Nat), .i (i : Nat)])
    (body := (fun xs => i_StewBook_berth_v1.d1 (xs.getD 0 .nil) (xs.getD 1 .nil) (xs.getD 2 .nil) (xs.getD 3 .nil)))
    (fun _ _ => True) (fun i s _ => bif sEq s.name nm then .inr (.ret (.p s.e :: [])) else .inl ()) (fun _ => .brk 0 [])
    (fun i _ hi _ => by
      cases hs : sEq b.brts[i].name nm <;> simp only [sEq] at hs
      · exact ⟨by simp [Book.e, i_StewBook_berth_v1.d1, getD_map_lt Brt.e hi, Brt.e, hs, hi, w64_of (n := (i : Int) + 1) (by omega) (by omega)], trivial⟩
      · exact ⟨by simp [Book.e, i_StewBook_berth_v1.d1, getD_map_lt Brt.e hi, Brt.e, hs, hi], trivial⟩)
    (fun _ _ => ⟨by simp [Book.e, i_StewBook_berth_v1.d1], trivial⟩) _ 0 () rfl trivial
  simp only [Int.ofNat_zero, List.drop_zero] at h
  simp only [Book.e] at h
  simp only [i_StewBook_berth_v1, i_StewBook_berth_v1.d3, Book.e, jA, jB, jC, jD, jE, jF, jG, jH, call1, call2, call3, call4, call5, call6, call7, call8, call13, call15, call16, call17, call19, call21, jI, jJ, jK, jL, jM, jN, jO, jP, jQ, jR, jS, jT, jU, jV, jW, jX, jY, nils, rows, jZ, ja, jb, jc, jd, C.isP_p, C.P_p]
  erw [h]
  rw [loopL_findP _ _ _ _ _ (by rfl)]
  rfl
theorem i_drained_eq (b : Book) (c : Cpy) (hb : Bnd b) : i_StewBook_drained (.p b.e :: c.e) = some [.b (drn b c)] := by
  have e1 := i_berth_v1_eq b c.berth hb
  simp only [i_StewBook_drained, i_StewBook_drained.d1, Cpy.e, jA, jB, jC, jD, jE, jF, jG, jH, call1, call2, call3, call4, call5, call6, call7, call8, call13, call15, call16, call17, call19, call21, jI, jJ, jK, jL, jM, jN, jO, jP, jQ, jR, jS, jT, jU, jV, jW, jX, jY, nils, rows, jZ, ja, jb, jc, jd, e1, drn]
  cases brtOf b c.berth
  · simp only [rowP_none, C.isP_nil, jA, jB, jC, jD, jE, jF, jG, jH, call1, call2, call3, call4, call5, call6, call7, call8, call13, call15, call16, call17, call19, call21, jI, jJ, jK, jL, jM, jN, jO, jP, jQ, jR, jS, jT, jU, jV, jW, jX, jY, nils, rows, jZ, ja, jb, jc, jd]
  · simp only [rowP_some, C.isP_p, C.P_p, jA, jB, jC, jD, jE, jF, jG, jH, call1, call2, call3, call4, call5, call6, call7, call8, call13, call15, call16, call17, call19, call21, jI, jJ, jK, jL, jM, jN, jO, jP, jQ, jR, jS, jT, jU, jV, jW, jX, jY, nils, rows, jZ, ja, jb, jc, jd, Brt.e]
theorem brt_ix (b : Book) (c : Cpy) : (brtOf b c.berth = none ∧ brtIx b.brts c.berth = -1) ∨ ∃ i, ∃ h : i < b.brts.length, brtIx b.brts c.berth = (i : Int) ∧ brtOf b c.berth = some b.brts[i] := by
  rcases findIx_spec (fun t : Brt => sEq t.name c.berth) b.brts 0 with ⟨h1, h2⟩ | ⟨i, h, h1, h2, _⟩
  · exact .inl ⟨h1, h2⟩
  · exact .inr ⟨i, h, by rw [brtIx, h1]; omega, h2⟩
theorem s_l22Drains_eq (b : Book) (c : Cpy) (hb : Bnd b) : s_l22Drains (b.e ++ c.e) = some [.b (drn b c)] := by
  have e1 := s_l18Berth_eq b c.berth hb.small.t
  simp only [Book.e, jA, jB] at e1
  simp only [s_l22Drains, s_l22Drains.d1, Book.e, Cpy.e, jA, jB, jC, jD, jE, jF, jG, jH, call1, call2, call3, call4, call5, call6, call7, call8, call13, call15, call16, call17, call19, call21, jI, jJ, jK, jL, jM, jN, jO, jP, jQ, jR, jS, jT, jU, jV, jW, jX, jY, nils, rows, jZ, ja, jb, jc, jd, e1, drn]
  rcases brt_ix b c with ⟨h1, h2⟩ | ⟨i, h, h1, h2⟩
  · rw [h1, h2]; rfl
  · rw [h1, h2]
    have p1 : (i : Int) ≥ 0 := by omega
    have p2 : (i : Int) < (b.brts.length : Int) := by omega
    simp only [p1, p2, jA, jB, jC, jD, jE, jF, jG, jH, call1, call2, call3, call4, call5, call6, call7, call8, call13, call15, call16, call17, call19, call21, jI, jJ, jK, jL, jM, jN, jO, jP, jQ, jR, jS, jT, jU, jV, jW, jX, jY, nils, rows, jZ, ja, jb, jc, jd, getD_map_lt Brt.e h, Brt.e]
def LiveIx (cs : List Cpy) (fl : List Cpy) (ix : List Nat) : Prop := ix.map (fun i => cs[i]?) = fl.map some
theorem LiveIx.len {cs fl : List Cpy} {ix : List Nat} (h : LiveIx cs fl ix) : ix.length = fl.length := by
  have := congrArg List.length h
  simpa using this
theorem LiveIx.at {cs fl : List Cpy} {ix : List Nat} (h : LiveIx cs fl ix) {k : Nat} (hk : k < ix.length) : ∃ h1 : ix[k] < cs.length, ∃ h2 : k < fl.length, cs[ix[k]] = fl[k] := by
  have hl := h.len
  have h2 : k < fl.length := by omega
  have := congrArg (fun l => l[k]?) h
  simp only [List.getElem?_map, List.getElem?_eq_getElem hk, List.getElem?_eq_getElem h2, Option.map_some] at this
  have e := Option.some.inj this
  obtain ⟨h1, e1⟩ := List.getElem?_eq_some_iff.1 e
  exact ⟨h1, h2, e1⟩
theorem s_l22Live_eq (b : Book) (s : Svc) (hb : Bnd b) : ∃ ix : List Nat, s_l22Live (b.e ++ [.s s.name]) = some [.l (ix.map ixE)] ∧ LiveIx b.cpys (b.cpys.filter (pLive s)) ix := by
  have hc := hb.c
  have L : ∃ o, lim (fun xs => s_l22Live.d1 (xs.getD 0 .nil) (xs.getD 1 .nil) (xs.getD 2 .nil) (xs.getD 3 .nil) (xs.getD 4 .nil) (xs.getD 5 .nil) (xs.getD 6 .nil)) (.s s.name :: .i 0 :: (b.e ++ [.l []])) = some o ∧
      ∃ ix : List Nat, o = .brk 0 [.l (ix.map ixE)] ∧ LiveIx b.cpys (b.cpys.filter (pLive s)) ix := by
    refine lim_exs (fun a : List Nat × Nat => .s s.name :: .i (a.2 : Nat) :: (b.e ++ [.l (a.1.map ixE)])) (fun a => b.cpys.length - a.2) (fun a => a.2 ≤ b.cpys.length ∧ LiveIx b.cpys ((b.cpys.take a.2).filter (pLive s)) a.1) _ ([], 0) ⟨Nat.zero_le _, rfl⟩ ?_
    rintro ⟨ix, i⟩ ⟨hi, hx⟩
    simp only at hi hx
    have hl := hx.len
    have hl2 := List.length_filter_le (pLive s) (b.cpys.take i)
    have hl3 := List.length_take_le i b.cpys
    have w1 : w64 ((i : Int) + 1) = (i : Int) + 1 := w64_of (by omega) (by omega)
    by_cases hlt : i < b.cpys.length
    · left
      have p1 : ix.length + 1 ≤ 4294967296 := by omega
      have p2 : (i : Int) < (b.cpys.length : Int) := by omega
      have g1 : (b.cpys.map Cpy.e).getD i [] = b.cpys[i].e := getD_map_lt Cpy.e hlt []
      have tk : b.cpys.take (i + 1) = b.cpys.take i ++ [b.cpys[i]] := List.take_succ_eq_append_getElem hlt
      have no : pLive s b.cpys[i] = false → LiveIx b.cpys ((b.cpys.take (i + 1)).filter (pLive s)) ix := by
        intro h
        rw [tk, List.filter_append, List.filter_cons_of_neg (by simp [h]), List.filter_nil, List.append_nil]
        exact hx
      have yes : pLive s b.cpys[i] = true → LiveIx b.cpys ((b.cpys.take (i + 1)).filter (pLive s)) (ix ++ [i]) := by
        intro h
        rw [tk, List.filter_append, List.filter_cons_of_pos h, List.filter_nil]
        show (ix ++ [i]).map _ = _
        rw [List.map_append, List.map_append]
        have hx' : ix.map (fun i => b.cpys[i]?) = _ := hx
        rw [hx']
        simp [hlt]
      show ∃ x : List Nat × Nat, s_l22Live.d1 (.s s.name) (.i (i : Nat)) (.i b.now) (.l (b.svcs.map Svc.e)) (.l (b.cpys.map Cpy.e)) (.l (b.brts.map Brt.e)) (.l (ix.map ixE)) = _ ∧ _
      simp only [s_l22Live.d1, Book.e, Svc.e, Cpy.e, Brt.e, Act.e, Wld.e, Ev1.e, jA, jB, jC, jD, jE, jF, jG, jH, call1, call2, call3, call4, call5, call6, call7, call8, call13, call15, call16, call17, call19, call21, jI, jJ, jK, jL, jM, jN, jO, jP, jQ, jR, jS, jT, jU, jV, jW, jX, jY, nils, rows, jZ, ja, jb, jc, jd, p2, g1]
      simp only [pLive, mine] at no yes
      cases he : (b.cpys[i].svc.toList == s.name.toList) <;> simp only [jA, jB, jC, jD, jE, jF, jG, jH, call1, call2, call3, call4, call5, call6, call7, call8, call13, call15, call16, call17, call19, call21, jI, jJ, jK, jL, jM, jN, jO, jP, jQ, jR, jS, jT, jU, jV, jW, jX, jY, nils, rows, jZ, ja, jb, jc, jd]
      · rw [he] at no
        exact ⟨(ix, i + 1), by rw [w1]; rfl, ⟨hlt, no rfl⟩, by simp only; omega⟩
      · rw [he] at no yes
        cases hq : b.cpys[i].ending <;> rw [hq] at no yes <;> simp only [jA, jB, jC, jD, jE, jF, jG, jH, call1, call2, call3, call4, call5, call6, call7, call8, call13, call15, call16, call17, call19, call21, jI, jJ, jK, jL, jM, jN, jO, jP, jQ, jR, jS, jT, jU, jV, jW, jX, jY, nils, rows, jZ, ja, jb, jc, jd, p1]
        · exact ⟨(ix ++ [i], i + 1), by rw [w1]; simp only [List.map_append, List.map_cons, List.map_nil]; rfl, ⟨hlt, yes rfl⟩, by simp only; omega⟩
        · exact ⟨(ix, i + 1), by rw [w1]; rfl, ⟨hlt, no rfl⟩, by simp only; omega⟩
    · right
      have : i = b.cpys.length := by omega
      subst this
      rw [List.take_length] at hx
      exact ⟨.brk 0 [.l (ix.map ixE)], by simp [s_l22Live.d1, Book.e], trivial, ix, rfl, hx⟩
  obtain ⟨o, h1, ix, rfl, h2⟩ := L
  refine ⟨ix, ?_, h2⟩
  simp only [Book.e, jA, jB] at h1
  simp only [s_l22Live, s_l22Live.d3, Book.e, Svc.e, Cpy.e, Brt.e, Act.e, Wld.e, Ev1.e, jA, jB, jC, jD, jE, jF, jG, jH, call1, call2, call3, call4, call5, call6, call7, call8, call13, call15, call16, call17, call19, call21, jI, jJ, jK, jL, jM, jN, jO, jP, jQ, jR, jS, jT, jU, jV, jW, jX, jY, nils, rows, jZ, ja, jb, jc, jd]
  rw [h1]
  simp only [jA, jB, jC, jD, jE, jF, jG, jH, call1, call2, call3, call4, call5, call6, call7, call8, call13, call15, call16, call17, call19, call21, jI, jJ, jK, jL, jM, jN, jO, jP, jQ, jR, jS, jT, jU, jV, jW, jX, jY, nils, rows, jZ, ja, jb, jc, jd, s_l22Live.d2]
end Go.Ev
namespace Go.Ev
def sm (f : Svc → Int) : List Svc → Int
  | [] => 0
  | s :: r => f s + sm f r
theorem sm_append (f : Svc → Int) : ∀ (l m : List Svc), sm f (l ++ m) = sm f l + sm f m
  | [], m => by simp [sm]
  | s :: r, m => by simp only [jA, sm, sm_append f r m]; omega
theorem sm_take {f : Svc → Int} {l : List Svc} {i : Nat} (h : i < l.length) : sm f (l.take (i + 1)) = sm f (l.take i) + f l[i] := by
  rw [List.take_succ_eq_append_getElem h, sm_append]; simp [sm]
theorem sm_bound {f : Svc → Int} {k : Int} {l : List Svc} (hf : ∀ s, s ∈ l → 0 ≤ f s ∧ f s ≤ k) : 0 ≤ sm f l ∧ sm f l ≤ k * l.length := by
  induction l with
  | nil => simp [sm]
  | cons s r ih =>
    have h1 := hf s (List.mem_cons_self ..)
    have h2 := ih (fun t ht => hf t (List.mem_cons_of_mem _ ht))
    simp only [sm, List.length_cons]
    have : k * ((r.length + 1 : Nat) : Int) = k * r.length + k := by rw [Int.natCast_add, Int.mul_add]; simp
    omega
theorem sm_congr {f g : Svc → Int} : ∀ {l : List Svc}, (∀ s, s ∈ l → f s = g s) → sm f l = sm g l
  | [], _ => rfl
  | s :: r, h => by simp only [sm]; rw [h s (List.mem_cons_self ..), sm_congr (fun t ht => h t (List.mem_cons_of_mem _ ht))]
theorem sm_add (f g : Svc → Int) : ∀ (l : List Svc), sm (fun s => f s + g s) l = sm f l + sm g l
  | [] => rfl
  | s :: r => by simp only [sm, sm_add f g r]; omega
def cnt (b : Book) (p : Cpy → Bool) : Int := ((b.cpys.countP p : Nat) : Int)
def b2i (x : Bool) : Int := bif x then 1 else 0
def Uniq (l : List Svc) : Prop := l.Pairwise fun s t => (t.name.toList == s.name.toList) = false
theorem valid_uniq {b : Book} (h : validB b = true) : Uniq b.svcs := by
  refine List.pairwise_iff_getElem.2 fun i j hi hj hij => ?_
  cases hq : b.svcs[j].name.toList == b.svcs[i].name.toList with
  | false => rfl
  | true => have := names_ne h hj hi hq; omega
def byName (f : Svc → Cpy → Bool) (l : List Svc) (c : Cpy) : Bool := match l.find? fun s => sEq s.name c.svc with | some t => f t c | none => false
theorem sm_one (f : Svc → Cpy → Bool) (c : Cpy) : ∀ (l : List Svc), Uniq l → sm (fun s => b2i (mine s c && f s c)) l = b2i (byName f l c)
  | [], _ => rfl
  | s :: r, hu => by
    have ih := sm_one f c r (List.Pairwise.of_cons hu)
    simp only [sm, ih]
    cases hs : sEq s.name c.svc with
    | false =>
      have : mine s c = false := by
        cases hm : mine s c with
        | false => rfl
        | true => simp only [mine, beq_iff_eq] at hm; simp [sEq, hm] at hs
      rw [byName, byName, List.find?_cons_of_neg (p := fun s : Svc => sEq s.name c.svc) (by simp [hs]), this]
      simp [b2i]
    | true =>
      have hm : mine s c = true := by simp only [sEq, beq_iff_eq] at hs; simp [mine, hs]
      have hn : r.find? (fun s => sEq s.name c.svc) = none := by
        refine List.find?_eq_none.2 fun t ht => ?_
        have := List.rel_of_pairwise_cons hu ht
        simp only [sEq, beq_iff_eq] at hs
        simp only [sEq]
        rw [← hs, this]; simp
      rw [byName, byName, List.find?_cons_of_pos (p := fun s : Svc => sEq s.name c.svc) hs, hn, hm]
      simp [b2i]
theorem countP_b2i (p : Cpy → Bool) (c : Cpy) (r : List Cpy) : (((c :: r).countP p : Nat) : Int) = b2i (p c) + ((r.countP p : Nat) : Int) := by
  rw [List.countP_cons]
  cases p c <;> simp [b2i]
  omega
theorem sm_exch (f : Svc → Cpy → Bool) (l : List Svc) (hu : Uniq l) : ∀ (cs : List Cpy), sm (fun s => ((cs.countP fun c => mine s c && f s c : Nat) : Int)) l = ((cs.countP (byName f l) : Nat) : Int)
  | [] => by
    have : ∀ l : List Svc, sm (fun _ => (0 : Int)) l = 0 := by
      intro l; induction l with
      | nil => rfl
      | cons s r ih => simp [sm, ih]
    simpa using this l
  | c :: r => by
    rw [countP_b2i, ← sm_exch f l hu r, ← sm_one f c l hu, ← sm_add]
    exact sm_congr fun s _ => countP_b2i _ c r
def q3 (b : Book) (s : Svc) (c : Cpy) : Bool := pLive s c && (c.image != s.image || drn b c)
def q4 (b : Book) (s : Svc) (c : Cpy) : Bool := pLive s c && c.state != 3
def gap (b : Book) (s : Svc) : Int := ((cnt b (pLive s) - s.want).natAbs : Int)
def k0 (s : Svc) : Int := b2i s.gone
def k1 (b : Book) (s : Svc) : Int := cnt b (pEnd s) + bif s.gone then cnt b (pLive s) else 0
def k2 (b : Book) (s : Svc) : Int := bif s.gone then 0 else gap b s
def k3 (b : Book) (s : Svc) : Int := bif s.gone then 0 else cnt b (q3 b s)
def k4 (b : Book) (s : Svc) : Int := bif s.gone then 0 else cnt b (q4 b s)
def R5 (a0 a1 a2 a3 a4 : Int) : List (List C) := [[.i a0], [.i a1], [.i a2], [.i a3], [.i a4]]
def rankL (b : Book) (l : List Svc) : List (List C) := R5 (sm k0 l) (sm (k1 b) l) (sm (k2 b) l) (sm (k3 b) l) (sm (k4 b) l)
theorem cnt_le (b : Book) (hb : Bnd b) (p : Cpy → Bool) : 0 ≤ cnt b p ∧ cnt b p ≤ 200 := by
  have h1 := List.countP_le_length (p := p) (l := b.cpys)
  have h2 := hb.c
  simp only [cnt]; omega
structure RB (l : List (List C)) (a0 a1 a2 a3 a4 : Int) : Prop where
  e : l = R5 a0 a1 a2 a3 a4
  h0 : 0 ≤ a0 ∧ a0 ≤ 10000
  h1 : 0 ≤ a1 ∧ a1 ≤ 10000
  h2 : 0 ≤ a2 ∧ a2 ≤ 10000
  h3 : 0 ≤ a3 ∧ a3 ≤ 10000
  h4 : 0 ≤ a4 ∧ a4 ≤ 10000
theorem k_bounds (b : Book) (hb : Bnd b) (s : Svc) (hw : 0 ≤ s.want ∧ s.want ≤ 10) : (0 ≤ k0 s ∧ k0 s ≤ 400) ∧ (0 ≤ k1 b s ∧ k1 b s ≤ 400) ∧ (0 ≤ k2 b s ∧ k2 b s ≤ 400) ∧ (0 ≤ k3 b s ∧ k3 b s ≤ 400) ∧ (0 ≤ k4 b s ∧ k4 b s ≤ 400) := by
  have c1 := cnt_le b hb (pEnd s)
  have c2 := cnt_le b hb (pLive s)
  have c3 := cnt_le b hb (q3 b s)
  have c4 := cnt_le b hb (q4 b s)
  have g : 0 ≤ gap b s ∧ gap b s ≤ 400 := by simp only [gap]; omega
  simp only [k0, k1, k2, k3, k4, b2i]
  cases s.gone <;> simp only [jR, jS] <;> omega
theorem rank_bounds (b : Book) (hb : Bnd b) (hv : validB b = true) (i : Nat) :
    RB (rankL b (b.svcs.take i)) (sm k0 (b.svcs.take i)) (sm (k1 b) (b.svcs.take i)) (sm (k2 b) (b.svcs.take i)) (sm (k3 b) (b.svcs.take i)) (sm (k4 b) (b.svcs.take i)) := by
  have hk := fun s (hs : s ∈ b.svcs.take i) => k_bounds b hb s (svcOk_want (validB_svc hv s (List.mem_of_mem_take hs)))
  have hl := List.length_take_le' i b.svcs
  have h8 := hb.s
  have lim : ∀ f : Svc → Int, (∀ s, s ∈ b.svcs.take i → 0 ≤ f s ∧ f s ≤ 400) → 0 ≤ sm f (b.svcs.take i) ∧ sm f (b.svcs.take i) ≤ 10000 := by
    intro f hf
    have := sm_bound hf
    omega
  exact ⟨rfl, lim _ fun s hs => (hk s hs).1, lim _ fun s hs => (hk s hs).2.1, lim _ fun s hs => (hk s hs).2.2.1, lim _ fun s hs => (hk s hs).2.2.2.1, lim _ fun s hs => (hk s hs).2.2.2.2⟩
end Go.Ev
namespace Go.Ev
theorem r5_len (a0 a1 a2 a3 a4 : Int) : (R5 a0 a1 a2 a3 a4).length = 5 := rfl
theorem r5_g0 (a0 a1 a2 a3 a4 : Int) : (R5 a0 a1 a2 a3 a4).getD 0 [] = [.i a0] := rfl
theorem r5_g1 (a0 a1 a2 a3 a4 : Int) : (R5 a0 a1 a2 a3 a4).getD 1 [] = [.i a1] := rfl
theorem r5_g2 (a0 a1 a2 a3 a4 : Int) : (R5 a0 a1 a2 a3 a4).getD 2 [] = [.i a2] := rfl
theorem r5_g3 (a0 a1 a2 a3 a4 : Int) : (R5 a0 a1 a2 a3 a4).getD 3 [] = [.i a3] := rfl
theorem r5_g4 (a0 a1 a2 a3 a4 : Int) : (R5 a0 a1 a2 a3 a4).getD 4 [] = [.i a4] := rfl
theorem r5_s0 (a0 a1 a2 a3 a4 x y : Int) : (R5 a0 a1 a2 a3 a4).set 0 (setCs [.i x] 0 [.i y]) = R5 y a1 a2 a3 a4 := rfl
theorem r5_s1 (a0 a1 a2 a3 a4 x y : Int) : (R5 a0 a1 a2 a3 a4).set 1 (setCs [.i x] 0 [.i y]) = R5 a0 y a2 a3 a4 := rfl
theorem r5_s2 (a0 a1 a2 a3 a4 x y : Int) : (R5 a0 a1 a2 a3 a4).set 2 (setCs [.i x] 0 [.i y]) = R5 a0 a1 y a3 a4 := rfl
theorem r5_s3 (a0 a1 a2 a3 a4 x y : Int) : (R5 a0 a1 a2 a3 a4).set 3 (setCs [.i x] 0 [.i y]) = R5 a0 a1 a2 y a4 := rfl
theorem r5_s4 (a0 a1 a2 a3 a4 x y : Int) : (R5 a0 a1 a2 a3 a4).set 4 (setCs [.i x] 0 [.i y]) = R5 a0 a1 a2 a3 y := rfl
theorem lt05 : (0 : Int) < ((5 : Nat) : Int) := by omega
theorem lt15 : (1 : Int) < ((5 : Nat) : Int) := by omega
theorem lt25 : (2 : Int) < ((5 : Nat) : Int) := by omega
theorem lt35 : (3 : Int) < ((5 : Nat) : Int) := by omega
theorem lt45 : (4 : Int) < ((5 : Nat) : Int) := by omega
def m3 (b : Book) (s : Svc) (c : Cpy) : Bool := c.image != s.image || drn b c
def m4 (c : Cpy) : Bool := c.state != 3
theorem rank_in (b : Book) (s : Svc) (ix : List Nat) (j a0 a1 a2 a3 a4 : Int) (hb : Bnd b) (h3 : 0 ≤ a3 ∧ a3 ≤ 10000) (h4 : 0 ≤ a4 ∧ a4 ≤ 10000) (hx : LiveIx b.cpys (b.cpys.filter (pLive s)) ix) :
    ∃ o, lim (fun xs => s_StewRank.d1 (xs.getD 0 .nil) (xs.getD 1 .nil) (xs.getD 2 .nil) (xs.getD 3 .nil) (xs.getD 4 .nil) (xs.getD 5 .nil) (xs.getD 6 .nil) (xs.getD 7 .nil) (xs.getD 8 .nil) (xs.getD 9 .nil) (xs.getD 10 .nil) (xs.getD 11 .nil) (xs.getD 12 .nil) (xs.getD 13 .nil) (xs.getD 14 .nil) (xs.getD 15 .nil) (xs.getD 16 .nil) (xs.getD 17 .nil) (xs.getD 18 .nil) (xs.getD 19 .nil) (xs.getD 20 .nil)) (.i j :: .i 0 :: (b.e ++ [.l (R5 a0 a1 a2 a3 a4)] ++ s.e ++ [.l (ix.map ixE)])) = some o ∧ o = .brk 2 (.i j :: (b.e ++ [.l (R5 a0 a1 a2 (a3 + cnt b (q3 b s)) (a4 + cnt b (q4 b s)))])) := by
  have hc := hb.c
  have hl := hx.len
  have hf := List.length_filter_le (pLive s) b.cpys
  have z3 : cn (m3 b s) (b.cpys.filter (pLive s)) (b.cpys.filter (pLive s)).length = cnt b (q3 b s) := by
    rw [cn_all, List.countP_filter, cnt]
    congr 2; funext c; simp only [q3, m3]; exact Bool.and_comm _ _
  have z4 : cn m4 (b.cpys.filter (pLive s)) (b.cpys.filter (pLive s)).length = cnt b (q4 b s) := by
    rw [cn_all, List.countP_filter, cnt]
    congr 2; funext c; simp only [q4, m4]; exact Bool.and_comm _ _
  generalize hfl : b.cpys.filter (pLive s) = fl at hx hl hf z3 z4
  have e0 : R5 a0 a1 a2 a3 a4 = R5 a0 a1 a2 (a3 + cn (m3 b s) fl 0) (a4 + cn m4 fl 0) := by rw [cn_zero, cn_zero, Int.add_zero, Int.add_zero]
  rw [e0]
  refine lim_exs (fun i : Nat => .i j :: .i (i : Nat) :: (b.e ++ [.l (R5 a0 a1 a2 (a3 + cn (m3 b s) fl i) (a4 + cn m4 fl i))] ++ s.e ++ [.l (ix.map ixE)])) (fun i => ix.length - i) (fun i => i ≤ ix.length) _ 0 (Nat.zero_le _) ?_
  intro i hi
  have w1 : w64 ((i : Int) + 1) = ((i + 1 : Nat) : Int) := w64_nat (n := i + 1) (by omega)
  by_cases hlt : i < ix.length
  · left
    refine ⟨i + 1, ?_, hlt, by omega⟩
    obtain ⟨hk, h2, hek⟩ := hx.at hlt
    have e1 := s_l22Drains_eq b b.cpys[ix[i]] hb
    have st3 := cn_succ (m3 b s) fl h2 (by omega)
    have st4 := cn_succ m4 fl h2 (by omega)
    rw [← hek] at st3 st4
    generalize hkk : ix[i] = k at hk e1 st3 st4
    have g1 : (ix.map ixE).getD i [] = ixE k := by rw [getD_map_lt ixE hlt, hkk]
    have g2 : (b.cpys.map Cpy.e).getD k [] = b.cpys[k].e := getD_map_lt Cpy.e hk []
    have p1 : (i : Int) < (ix.length : Int) := by omega
    have p2 : (k : Int) < (b.cpys.length : Int) := by omega
    have l3 := cn_le (m3 b s) fl i
    have l4 := cn_le m4 fl i
    have v3 : w64 (a3 + cn (m3 b s) fl i + 1) = a3 + (cn (m3 b s) fl i + 1) := by rw [w64_of (by omega) (by omega)]; omega
    have v4 : w64 (a4 + cn m4 fl i + 1) = a4 + (cn m4 fl i + 1) := by rw [w64_of (by omega) (by omega)]; omega
    have u3 : w64 (cn (m3 b s) fl i + 1) = cn (m3 b s) fl i + 1 := w64_of (by omega) (by omega)
    have u4 : w64 (cn m4 fl i + 1) = cn m4 fl i + 1 := w64_of (by omega) (by omega)
    simp only [m3, m4] at st3 st4
    simp only [Book.e, Svc.e, Cpy.e, Brt.e, Act.e, Wld.e, Ev1.e, jA, jB, jC, jD, jE, jF, jG, jH, call1, call2, call3, call4, call5, call6, call7, call8, call13, call15, call16, call17, call19, call21, jI, jJ, jK, jL, jM, jN, jO, jP, jQ, jR, jS, jT, jU, jV, jW, jX, jY, nils, rows, jZ, ja, jb, jc, jd] at e1
    simp only [Book.e, Svc.e, Cpy.e, Brt.e, Act.e, Wld.e, Ev1.e, jA, jB, jC, jD, jE, jF, jG, jH, call1, call2, call3, call4, call5, call6, call7, call8, call13, call15, call16, call17, call19, call21, jI, jJ, jK, jL, jM, jN, jO, jP, jQ, jR, jS, jT, jU, jV, jW, jX, jY, nils, rows, jZ, ja, jb, jc, jd]
    simp only [s_StewRank.d1, jA, jB, jC, jD, jE, jF, jG, jH, call1, call2, call3, call4, call5, call6, call7, call8, call13, call15, call16, call17, call19, call21, jI, jJ, jK, jL, jM, jN, jO, jP, jQ, jR, jS, jT, jU, jV, jW, jX, jY, nils, rows, jZ, ja, jb, jc, jd, p1, g1, ixE, p2, g2, Book.e, Svc.e, Cpy.e, Brt.e, Act.e, Wld.e, Ev1.e, e1]
    generalize hA : cn (m3 b s) fl i = A at *
    generalize hA' : cn (m3 b s) fl (i + 1) = A' at *
    generalize hB : cn m4 fl i = B at *
    generalize hB' : cn m4 fl (i + 1) = B' at *
    cases h1 : (b.cpys[k].image != s.image) <;> rw [h1] at st3 <;> simp only [jA, jB, jC, jD, jE, jF, jG, jH, call1, call2, call3, call4, call5, call6, call7, call8, call13, call15, call16, call17, call19, call21, jI, jJ, jK, jL, jM, jN, jO, jP, jQ, jR, jS, jT, jU, jV, jW, jX, jY, nils, rows, jZ, ja, jb, jc, jd, Bool.true_or, Bool.false_or] at st3 ⊢
    · cases h2 : drn b b.cpys[k] <;> rw [h2] at st3 <;> simp only [jA, jB, jC, jD, jE, jF, jG, jH, call1, call2, call3, call4, call5, call6, call7, call8, call13, call15, call16, call17, call19, call21, jI, jJ, jK, jL, jM, jN, jO, jP, jQ, jR, jS, jT, jU, jV, jW, jX, jY, nils, rows, jZ, ja, jb, jc, jd, r5_len, lt35, lt45, r5_g3, r5_s3] at st3 ⊢
      · cases h5 : (b.cpys[k].state != 3) <;> rw [h5] at st4 <;> simp only [jA, jB, jC, jD, jE, jF, jG, jH, call1, call2, call3, call4, call5, call6, call7, call8, call13, call15, call16, call17, call19, call21, jI, jJ, jK, jL, jM, jN, jO, jP, jQ, jR, jS, jT, jU, jV, jW, jX, jY, nils, rows, jZ, ja, jb, jc, jd, r5_len, lt35, lt45, r5_g4, r5_s4, w1, v4, u4] at st4 ⊢ <;> rw [st3, st4]
      · cases h5 : (b.cpys[k].state != 3) <;> rw [h5] at st4 <;> simp only [jA, jB, jC, jD, jE, jF, jG, jH, call1, call2, call3, call4, call5, call6, call7, call8, call13, call15, call16, call17, call19, call21, jI, jJ, jK, jL, jM, jN, jO, jP, jQ, jR, jS, jT, jU, jV, jW, jX, jY, nils, rows, jZ, ja, jb, jc, jd, r5_len, lt35, lt45, r5_g4, r5_s4, w1, v3, v4, u4] at st4 ⊢ <;> rw [st3, st4, u3]
    · simp only [jA, jB, jC, jD, jE, jF, jG, jH, call1, call2, call3, call4, call5, call6, call7, call8, call13, call15, call16, call17, call19, call21, jI, jJ, jK, jL, jM, jN, jO, jP, jQ, jR, jS, jT, jU, jV, jW, jX, jY, nils, rows, jZ, ja, jb, jc, jd, r5_len, lt35, lt45, r5_g3, r5_s3]
      cases h5 : (b.cpys[k].state != 3) <;> rw [h5] at st4 <;> simp only [jA, jB, jC, jD, jE, jF, jG, jH, call1, call2, call3, call4, call5, call6, call7, call8, call13, call15, call16, call17, call19, call21, jI, jJ, jK, jL, jM, jN, jO, jP, jQ, jR, jS, jT, jU, jV, jW, jX, jY, nils, rows, jZ, ja, jb, jc, jd, r5_len, lt35, lt45, r5_g4, r5_s4, w1, v3, v4, u4] at st4 ⊢ <;> rw [st3, st4, u3]
  · right
    have hi' : i = fl.length := by omega
    have p1 : ¬ (i : Int) < (ix.length : Int) := by omega
    rw [← z3, ← z4, ← hi']
    refine ⟨_, ?_, ?_, rfl⟩
    · simp only [Book.e, Svc.e, Cpy.e, Brt.e, Act.e, Wld.e, Ev1.e, jA, jB, jC, jD, jE, jF, jG, jH, call1, call2, call3, call4, call5, call6, call7, call8, call13, call15, call16, call17, call19, call21, jI, jJ, jK, jL, jM, jN, jO, jP, jQ, jR, jS, jT, jU, jV, jW, jX, jY, nils, rows, jZ, ja, jb, jc, jd]
      simp only [s_StewRank.d1, jA, jB, jC, jD, jE, jF, jG, jH, call1, call2, call3, call4, call5, call6, call7, call8, call13, call15, call16, call17, call19, call21, jI, jJ, jK, jL, jM, jN, jO, jP, jQ, jR, jS, jT, jU, jV, jW, jX, jY, nils, rows, jZ, ja, jb, jc, jd, p1]
    · trivial
end Go.Ev
namespace Go.Ev
theorem s_StewRank_eq (b : Book) (hb : Bnd b) (hv : validB b = true) : s_StewRank b.e = some [.l (rankL b b.svcs)] := by
  have e0 := s_StewValid_eq b hb.small hb.w.toNames
  have hs8 := hb.s
  have L : ∃ o, lim (fun xs => s_StewRank.d5 (xs.getD 0 .nil) (xs.getD 1 .nil) (xs.getD 2 .nil) (xs.getD 3 .nil) (xs.getD 4 .nil) (xs.getD 5 .nil)) (.i 0 :: (b.e ++ [.l (rankL b (b.svcs.take 0))])) = some o ∧ o = .brk 0 [.l (rankL b b.svcs)] := by
    refine lim_exs (fun i : Nat => .i (i : Nat) :: (b.e ++ [.l (rankL b (b.svcs.take i))])) (fun i => b.svcs.length - i) (fun i => i ≤ b.svcs.length) _ 0 (Nat.zero_le _) ?_
    intro i hi
    have w1 : w64 ((i : Int) + 1) = ((i + 1 : Nat) : Int) := w64_nat (n := i + 1) (by omega)
    by_cases hlt : i < b.svcs.length
    · left
      refine ⟨i + 1, ?_, hlt, by omega⟩
      have rb := rank_bounds b hb hv i
      have hw := svcOk_want (validB_svc hv _ (List.getElem_mem hlt))
      have t0 := sm_take (f := k0) hlt
      have t1 := sm_take (f := k1 b) hlt
      have t2 := sm_take (f := k2 b) hlt
      have t3 := sm_take (f := k3 b) hlt
      have t4 := sm_take (f := k4 b) hlt
      have x0 := rb.h0
      have x1 := rb.h1
      have x2 := rb.h2
      have x3 := rb.h3
      have x4 := rb.h4
      have e1 := s_l19Count_eq b i hlt hb (svc_self hv hlt).2
      obtain ⟨ix, e2, hx⟩ := s_l22Live_eq b b.svcs[i] hb
      have g1 : (b.svcs.map Svc.e).getD i [] = b.svcs[i].e := getD_map_lt Svc.e hlt []
      have p1 : (i : Int) < (b.svcs.length : Int) := by omega
      have c1 : cn (pEnd b.svcs[i]) b.cpys b.cpys.length = cnt b (pEnd b.svcs[i]) := cn_all _ _
      have c2 : cn (pLive b.svcs[i]) b.cpys b.cpys.length = cnt b (pLive b.svcs[i]) := cn_all _ _
      have y1 := cnt_le b hb (pEnd b.svcs[i])
      have y2 := cnt_le b hb (pLive b.svcs[i])
      simp only [rankL]
      rw [t0, t1, t2, t3, t4]
      simp only [k0, k1, k2, k3, k4, gap]
      generalize sm k0 (b.svcs.take i) = A0 at *
      generalize sm (k1 b) (b.svcs.take i) = A1 at *
      generalize sm (k2 b) (b.svcs.take i) = A2 at *
      generalize sm (k3 b) (b.svcs.take i) = A3 at *
      generalize sm (k4 b) (b.svcs.take i) = A4 at *
      have rin := fun a2 => rank_in b b.svcs[i] ix (i : Nat) A0 (A1 + cnt b (pEnd b.svcs[i])) a2 A3 A4 hb (by omega) (by omega) hx
      simp only [CountE, Book.e, Svc.e, Cpy.e, Brt.e, Act.e, Wld.e, Ev1.e, jA, jB, jC, jD, jE, jF, jG, jH, call1, call2, call3, call4, call5, call6, call7, call8, call13, call15, call16, call17, call19, call21, jI, jJ, jK, jL, jM, jN, jO, jP, jQ, jR, jS, jT, jU, jV, jW, jX, jY, nils, rows, jZ, ja, jb, jc, jd, c1, c2] at e1 e2 rin
      simp only [Book.e, Svc.e, Cpy.e, Brt.e, Act.e, Wld.e, Ev1.e, jA, jB, jC, jD, jE, jF, jG, jH, call1, call2, call3, call4, call5, call6, call7, call8, call13, call15, call16, call17, call19, call21, jI, jJ, jK, jL, jM, jN, jO, jP, jQ, jR, jS, jT, jU, jV, jW, jX, jY, nils, rows, jZ, ja, jb, jc, jd]
      simp only [s_StewRank.d5, jA, jB, jC, jD, jE, jF, jG, jH, call1, call2, call3, call4, call5, call6, call7, call8, call13, call15, call16, call17, call19, call21, jI, jJ, jK, jL, jM, jN, jO, jP, jQ, jR, jS, jT, jU, jV, jW, jX, jY, nils, rows, jZ, ja, jb, jc, jd, p1, g1, Book.e, Svc.e, Cpy.e, Brt.e, Act.e, Wld.e, Ev1.e, e1]
      have n1 : w64 (A1 + cnt b (pEnd b.svcs[i])) = A1 + cnt b (pEnd b.svcs[i]) := w64_of (by omega) (by omega)
      simp only [r5_len, lt15, lt05, jA, jB, jC, jD, jE, jF, jG, jH, call1, call2, call3, call4, call5, call6, call7, call8, call13, call15, call16, call17, call19, call21, jI, jJ, jK, jL, jM, jN, jO, jP, jQ, jR, jS, jT, jU, jV, jW, jX, jY, nils, rows, jZ, ja, jb, jc, jd, r5_g1, r5_s1, n1]
      cases hg : b.svcs[i].gone <;> simp only [jA, jB, jC, jD, jE, jF, jG, jH, call1, call2, call3, call4, call5, call6, call7, call8, call13, call15, call16, call17, call19, call21, jI, jJ, jK, jL, jM, jN, jO, jP, jQ, jR, jS, jT, jU, jV, jW, jX, jY, nils, rows, jZ, ja, jb, jc, jd, b2i]
      · rw [hg] at rin
        have n2 : w64 (cnt b (pLive b.svcs[i]) - b.svcs[i].want) = cnt b (pLive b.svcs[i]) - b.svcs[i].want := w64_of (by omega) (by omega)
        simp only [n2]
        have done : ∀ d : Int, d = ((cnt b (pLive b.svcs[i]) - b.svcs[i].want).natAbs : Int) →
          (bindBlk 1 (s_StewRank.d3 (.i (i : Nat)) (.i d) (.i b.now) (.l (b.svcs.map Svc.e)) (.l (b.cpys.map Cpy.e)) (.l (b.brts.map Brt.e)) (.l (R5 A0 (A1 + cnt b (pEnd b.svcs[i])) A2 A3 A4)) (.s b.svcs[i].name) (.i b.svcs[i].ver) (.b false) (.i b.svcs[i].image) (.i b.svcs[i].want) (.i b.svcs[i].down) (.i b.svcs[i].over) (.i b.svcs[i].next) (.i b.svcs[i].per) (.i b.svcs[i].least) (.i b.svcs[i].most) (.i b.svcs[i].load) (.i b.svcs[i].cool)) (fun xs => s_StewRank.d4 (xs.getD 0 .nil) (xs.getD 1 .nil) (xs.getD 2 .nil) (xs.getD 3 .nil) (xs.getD 4 .nil) (xs.getD 5 .nil))) =
            some (.again [.i ((i + 1 : Nat) : Int), .i b.now, .l (b.svcs.map Svc.e), .l (b.cpys.map Cpy.e), .l (b.brts.map Brt.e), .l (R5 (A0 + 0) (A1 + (cnt b (pEnd b.svcs[i]) + 0)) (A2 + ((cnt b (pLive b.svcs[i]) - b.svcs[i].want).natAbs : Int)) (A3 + cnt b (q3 b b.svcs[i])) (A4 + cnt b (q4 b b.svcs[i])))]) := by
          intro d hd
          have n3 : w64 (A2 + d) = A2 + d := w64_of (by omega) (by omega)
          obtain ⟨o, f1, rfl⟩ := rin (A2 + d)
          simp only [s_StewRank.d3, jA, jB, jC, jD, jE, jF, jG, jH, call1, call2, call3, call4, call5, call6, call7, call8, call13, call15, call16, call17, call19, call21, jI, jJ, jK, jL, jM, jN, jO, jP, jQ, jR, jS, jT, jU, jV, jW, jX, jY, nils, rows, jZ, ja, jb, jc, jd, r5_len, lt25, r5_g2, r5_s2, n3, e2]
          rw [f1]
          simp only [jA, jB, jC, jD, jE, jF, jG, jH, call1, call2, call3, call4, call5, call6, call7, call8, call13, call15, call16, call17, call19, call21, jI, jJ, jK, jL, jM, jN, jO, jP, jQ, jR, jS, jT, jU, jV, jW, jX, jY, nils, rows, jZ, ja, jb, jc, jd, s_StewRank.d2, s_StewRank.d4, w1, Int.add_zero, hd]
        by_cases hd : cnt b (pLive b.svcs[i]) - b.svcs[i].want < 0
        · have n4 : w64 (0 - (cnt b (pLive b.svcs[i]) - b.svcs[i].want)) = 0 - (cnt b (pLive b.svcs[i]) - b.svcs[i].want) := w64_of (by omega) (by omega)
          simp only [hd, jA, jB, jC, jD, jE, jF, jG, jH, call1, call2, call3, call4, call5, call6, call7, call8, call13, call15, call16, call17, call19, call21, jI, jJ, jK, jL, jM, jN, jO, jP, jQ, jR, jS, jT, jU, jV, jW, jX, jY, nils, rows, jZ, ja, jb, jc, jd, n4]
          exact done _ (by omega)
        · simp only [hd, jA, jB, jC, jD, jE, jF, jG, jH, call1, call2, call3, call4, call5, call6, call7, call8, call13, call15, call16, call17, call19, call21, jI, jJ, jK, jL, jM, jN, jO, jP, jQ, jR, jS, jT, jU, jV, jW, jX, jY, nils, rows, jZ, ja, jb, jc, jd]
          exact done _ (by omega)
      · have n2 : w64 (A0 + 1) = A0 + 1 := w64_of (by omega) (by omega)
        have n3 : w64 (A1 + cnt b (pEnd b.svcs[i]) + cnt b (pLive b.svcs[i])) = A1 + (cnt b (pEnd b.svcs[i]) + cnt b (pLive b.svcs[i])) := by rw [w64_of (by omega) (by omega)]; omega
        simp only [jA, jB, jC, jD, jE, jF, jG, jH, call1, call2, call3, call4, call5, call6, call7, call8, call13, call15, call16, call17, call19, call21, jI, jJ, jK, jL, jM, jN, jO, jP, jQ, jR, jS, jT, jU, jV, jW, jX, jY, nils, rows, jZ, ja, jb, jc, jd, r5_len, lt05, lt15, r5_g0, r5_s0, r5_g1, r5_s1, n2, n3, s_StewRank.d4, w1, Int.add_zero]
    · right
      have : i = b.svcs.length := by omega
      subst this
      have p1 : ¬ (b.svcs.length : Int) < (b.svcs.length : Int) := by omega
      refine ⟨_, ?_, ?_, rfl⟩
      · simp only [Book.e, Svc.e, Cpy.e, Brt.e, Act.e, Wld.e, Ev1.e, jA, jB, jC, jD, jE, jF, jG, jH, call1, call2, call3, call4, call5, call6, call7, call8, call13, call15, call16, call17, call19, call21, jI, jJ, jK, jL, jM, jN, jO, jP, jQ, jR, jS, jT, jU, jV, jW, jX, jY, nils, rows, jZ, ja, jb, jc, jd, List.take_length]
        simp only [s_StewRank.d5, jA, jB, jC, jD, jE, jF, jG, jH, call1, call2, call3, call4, call5, call6, call7, call8, call13, call15, call16, call17, call19, call21, jI, jJ, jK, jL, jM, jN, jO, jP, jQ, jR, jS, jT, jU, jV, jW, jX, jY, nils, rows, jZ, ja, jb, jc, jd, p1]
      · trivial
  obtain ⟨o, e1, rfl⟩ := L
  simp only [Book.e, Svc.e, Cpy.e, Brt.e, Act.e, Wld.e, Ev1.e, jA, jB, jC, jD, jE, jF, jG, jH, call1, call2, call3, call4, call5, call6, call7, call8, call13, call15, call16, call17, call19, call21, jI, jJ, jK, jL, jM, jN, jO, jP, jQ, jR, jS, jT, jU, jV, jW, jX, jY, nils, rows, jZ, ja, jb, jc, jd] at e0 e1
  simp only [s_StewRank, s_StewRank.d7, Book.e, Svc.e, Cpy.e, Brt.e, Act.e, Wld.e, Ev1.e, jA, jB, jC, jD, jE, jF, jG, jH, call1, call2, call3, call4, call5, call6, call7, call8, call13, call15, call16, call17, call19, call21, jI, jJ, jK, jL, jM, jN, jO, jP, jQ, jR, jS, jT, jU, jV, jW, jX, jY, nils, rows, jZ, ja, jb, jc, jd, e0, hv]
  have ez : [[C.i 0], [C.i 0], [C.i 0], [C.i 0], [C.i 0]] = rankL b (b.svcs.take 0) := rfl
  rw [ez, e1]
  simp only [jA, jB, jC, jD, jE, jF, jG, jH, call1, call2, call3, call4, call5, call6, call7, call8, call13, call15, call16, call17, call19, call21, jI, jJ, jK, jL, jM, jN, jO, jP, jQ, jR, jS, jT, jU, jV, jW, jX, jY, nils, rows, jZ, ja, jb, jc, jd, s_StewRank.d6]
end Go.Ev
namespace Go.Ev
def f1 (s : Svc) (c : Cpy) : Bool := c.ending || s.gone
def f3 (b : Book) (s : Svc) (c : Cpy) : Bool := !(c.ending || s.gone) && m3 b s c
def f4 (s : Svc) (c : Cpy) : Bool := !(c.ending || s.gone) && m4 c
theorem countP_split (p q : Cpy → Bool) : ∀ l : List Cpy, ((l.countP p : Nat) : Int) = ((l.countP fun c => p c && q c : Nat) : Int) + ((l.countP fun c => p c && !q c : Nat) : Int)
  | [] => rfl
  | c :: r => by
    rw [countP_b2i, countP_b2i, countP_b2i, countP_split p q r]
    cases p c <;> cases q c <;> simp [b2i] <;> omega
theorem countP_none (l : List Cpy) : ((l.countP fun _ => false : Nat) : Int) = 0 := by
  induction l with
  | nil => rfl
  | cons c r ih => rw [countP_b2i, ih]; rfl
theorem x1_eq (b : Book) (hv : validB b = true) : cnt b (byName f1 b.svcs) = sm (k1 b) b.svcs := by
  rw [cnt, ← sm_exch f1 b.svcs (valid_uniq hv)]
  refine sm_congr fun s _ => ?_
  simp only [k1, f1, cnt]
  cases s.gone
  · simp only [Bool.or_false, jS, Int.add_zero]; rfl
  · simp only [Bool.or_true, Bool.and_true, jR]
    exact countP_split (mine s) (fun c => c.ending) b.cpys
theorem x3_eq (b : Book) (hv : validB b = true) : cnt b (byName (f3 b) b.svcs) = sm (k3 b) b.svcs := by
  rw [cnt, ← sm_exch (f3 b) b.svcs (valid_uniq hv)]
  refine sm_congr fun s _ => ?_
  simp only [k3, f3, cnt]
  cases s.gone
  · simp only [Bool.or_false, jS]
    congr 2; funext c; simp only [q3, m3, pLive, Bool.and_assoc]
  · simp only [Bool.or_true, jZ, Bool.false_and, Bool.and_false, jR]
    exact countP_none _
theorem x4_eq (b : Book) (hv : validB b = true) : cnt b (byName f4 b.svcs) = sm (k4 b) b.svcs := by
  rw [cnt, ← sm_exch f4 b.svcs (valid_uniq hv)]
  refine sm_congr fun s _ => ?_
  simp only [k4, f4, cnt]
  cases s.gone
  · simp only [Bool.or_false, jS]
    congr 2; funext c; simp only [q4, m4, pLive, Bool.and_assoc]
  · simp only [Bool.or_true, jZ, Bool.false_and, Bool.and_false, jR]
    exact countP_none _
theorem i_one_eq (v : Bool) : i_one [.b v] = some [.i (b2i v)] := by cases v <;> rfl
theorem i_StewRank_l1 (b : Book) (hb : Bnd b) (hv : validB b = true) : ∃ o, lim (fun xs => i_StewRank.d2 (xs.getD 0 .nil) (xs.getD 1 .nil) (xs.getD 2 .nil) (xs.getD 3 .nil) (xs.getD 4 .nil) (xs.getD 5 .nil) (xs.getD 6 .nil)) (.i (b.svcs.length : Nat) :: .i 0 :: (b.e ++ [.l (R5 0 0 0 0 0)])) = some o ∧ o = .brk 0 (b.e ++ [.l (R5 (sm k0 b.svcs) 0 (sm (k2 b) b.svcs) 0 0)]) := by
  have hs8 := hb.s
  refine lim_exs (fun i : Nat => .i (b.svcs.length : Nat) :: .i (i : Nat) :: (b.e ++ [.l (R5 (sm k0 (b.svcs.take i)) 0 (sm (k2 b) (b.svcs.take i)) 0 0)])) (fun i => b.svcs.length - i) (fun i => i ≤ b.svcs.length) _ 0 (Nat.zero_le _) ?_
  intro i hi
  have w1 : w64 ((i : Int) + 1) = ((i + 1 : Nat) : Int) := w64_nat (n := i + 1) (by omega)
  by_cases hlt : i < b.svcs.length
  · left
    refine ⟨i + 1, ?_, hlt, by omega⟩
    have rb := rank_bounds b hb hv i
    have hw := svcOk_want (validB_svc hv _ (List.getElem_mem hlt))
    have t0 := sm_take (f := k0) hlt
    have t2 := sm_take (f := k2 b) hlt
    have x0 := rb.h0
    have x2 := rb.h2
    have e1 := i_count_eq b b.svcs[i] hb
    have g1 : (b.svcs.map Svc.e).getD i [] = b.svcs[i].e := getD_map_lt Svc.e hlt []
    have p1 : (i : Int) < (b.svcs.length : Int) := by omega
    have c2 : cn (pLive b.svcs[i]) b.cpys b.cpys.length = cnt b (pLive b.svcs[i]) := cn_all _ _
    have y2 := cnt_le b hb (pLive b.svcs[i])
    show i_StewRank.d2 (.i (b.svcs.length : Nat)) (.i (i : Nat)) (.i b.now) (.l (b.svcs.map Svc.e)) (.l (b.cpys.map Cpy.e)) (.l (b.brts.map Brt.e)) (.l (R5 (sm k0 (b.svcs.take i)) 0 (sm (k2 b) (b.svcs.take i)) 0 0)) = some (.again (.i (b.svcs.length : Nat) :: .i ((i + 1 : Nat) : Int) :: (b.e ++ [.l (R5 (sm k0 (b.svcs.take (i + 1))) 0 (sm (k2 b) (b.svcs.take (i + 1))) 0 0)])))
    rw [t0, t2]
    simp only [k0, k2, gap]
    generalize sm k0 (b.svcs.take i) = A0 at *
    generalize sm (k2 b) (b.svcs.take i) = A2 at *
    simp only [CountE, Book.e, Svc.e, Cpy.e, Brt.e, Act.e, Wld.e, Ev1.e, jA, jB, jC, jD, jE, jF, jG, jH, call1, call2, call3, call4, call5, call6, call7, call8, call13, call15, call16, call17, call19, call21, jI, jJ, jK, jL, jM, jN, jO, jP, jQ, jR, jS, jT, jU, jV, jW, jX, jY, nils, rows, jZ, ja, jb, jc, jd, c2] at e1
    simp only [Book.e, Svc.e, Cpy.e, Brt.e, Act.e, Wld.e, Ev1.e, jA, jB, jC, jD, jE, jF, jG, jH, call1, call2, call3, call4, call5, call6, call7, call8, call13, call15, call16, call17, call19, call21, jI, jJ, jK, jL, jM, jN, jO, jP, jQ, jR, jS, jT, jU, jV, jW, jX, jY, nils, rows, jZ, ja, jb, jc, jd]
    simp only [i_StewRank.d2, jA, jB, jC, jD, jE, jF, jG, jH, call1, call2, call3, call4, call5, call6, call7, call8, call13, call15, call16, call17, call19, call21, jI, jJ, jK, jL, jM, jN, jO, jP, jQ, jR, jS, jT, jU, jV, jW, jX, jY, nils, rows, jZ, ja, jb, jc, jd, p1, g1, Book.e, Svc.e, Cpy.e, Brt.e, Act.e, Wld.e, Ev1.e, e1]
    cases hg : b.svcs[i].gone <;> rw [hg] at e1 <;> simp only [jA, jB, jC, jD, jE, jF, jG, jH, call1, call2, call3, call4, call5, call6, call7, call8, call13, call15, call16, call17, call19, call21, jI, jJ, jK, jL, jM, jN, jO, jP, jQ, jR, jS, jT, jU, jV, jW, jX, jY, nils, rows, jZ, ja, jb, jc, jd, b2i, e1, r5_len, lt25, lt05, r5_g2, r5_s2, r5_g0, r5_s0]
    · have n2 : w64 (cnt b (pLive b.svcs[i]) - b.svcs[i].want) = cnt b (pLive b.svcs[i]) - b.svcs[i].want := w64_of (by omega) (by omega)
      have n4 : w64 (b.svcs[i].want - cnt b (pLive b.svcs[i])) = b.svcs[i].want - cnt b (pLive b.svcs[i]) := w64_of (by omega) (by omega)
      have n5 : (if b.svcs[i].want - cnt b (pLive b.svcs[i]) > cnt b (pLive b.svcs[i]) - b.svcs[i].want then b.svcs[i].want - cnt b (pLive b.svcs[i]) else cnt b (pLive b.svcs[i]) - b.svcs[i].want) = ((cnt b (pLive b.svcs[i]) - b.svcs[i].want).natAbs : Int) := by
        split <;> omega
      have n6 : w64 (A2 + ((cnt b (pLive b.svcs[i]) - b.svcs[i].want).natAbs : Int)) = A2 + ((cnt b (pLive b.svcs[i]) - b.svcs[i].want).natAbs : Int) := w64_of (by omega) (by omega)
      simp only [n2, n4, n5, n6, i_StewRank.d1, jA, jB, jC, jD, jE, jF, jG, jH, call1, call2, call3, call4, call5, call6, call7, call8, call13, call15, call16, call17, call19, call21, jI, jJ, jK, jL, jM, jN, jO, jP, jQ, jR, jS, jT, jU, jV, jW, jX, jY, nils, rows, jZ, ja, jb, jc, jd, w1, Int.add_zero]
    · have n2 : w64 (A0 + 1) = A0 + 1 := w64_of (by omega) (by omega)
      simp only [n2, i_StewRank.d1, jA, jB, jC, jD, jE, jF, jG, jH, call1, call2, call3, call4, call5, call6, call7, call8, call13, call15, call16, call17, call19, call21, jI, jJ, jK, jL, jM, jN, jO, jP, jQ, jR, jS, jT, jU, jV, jW, jX, jY, nils, rows, jZ, ja, jb, jc, jd, w1, Int.add_zero]
  · right
    have : i = b.svcs.length := by omega
    subst this
    have p1 : ¬ (b.svcs.length : Int) < (b.svcs.length : Int) := by omega
    refine ⟨_, ?_, ?_, rfl⟩
    · simp only [Book.e, Svc.e, Cpy.e, Brt.e, Act.e, Wld.e, Ev1.e, jA, jB, jC, jD, jE, jF, jG, jH, call1, call2, call3, call4, call5, call6, call7, call8, call13, call15, call16, call17, call19, call21, jI, jJ, jK, jL, jM, jN, jO, jP, jQ, jR, jS, jT, jU, jV, jW, jX, jY, nils, rows, jZ, ja, jb, jc, jd, List.take_length]
      simp only [i_StewRank.d2, jA, jB, jC, jD, jE, jF, jG, jH, call1, call2, call3, call4, call5, call6, call7, call8, call13, call15, call16, call17, call19, call21, jI, jJ, jK, jL, jM, jN, jO, jP, jQ, jR, jS, jT, jU, jV, jW, jX, jY, nils, rows, jZ, ja, jb, jc, jd, p1]
    · trivial
theorem byName_some {f : Svc → Cpy → Bool} {b : Book} {c : Cpy} {t : Svc} (h : svcOf b c.svc = some t) : byName f b.svcs c = f t c := by
  have h' : b.svcs.find? (fun s => sEq s.name c.svc) = some t := h
  rw [byName, h']
theorem i_StewRank_l2 (b : Book) (hb : Bnd b) (hv : validB b = true) (A0 A2 : Int) : ∃ o, lim (fun xs => i_StewRank.d4 (xs.getD 0 .nil) (xs.getD 1 .nil) (xs.getD 2 .nil) (xs.getD 3 .nil) (xs.getD 4 .nil) (xs.getD 5 .nil) (xs.getD 6 .nil) (xs.getD 7 .nil)) (.l (b.cpys.map Cpy.e) :: .i (b.cpys.length : Nat) :: .i 0 :: (b.e ++ [.l (R5 A0 0 A2 0 0)])) = some o ∧ o = .brk 2 [.l (R5 A0 (cnt b (byName f1 b.svcs)) A2 (cnt b (byName (f3 b) b.svcs)) (cnt b (byName f4 b.svcs)))] := by
  have hc := hb.c
  have ho := validB_own hv
  refine lim_exs (fun i : Nat => .l (b.cpys.map Cpy.e) :: .i (b.cpys.length : Nat) :: .i (i : Nat) :: (b.e ++ [.l (R5 A0 (cn (byName f1 b.svcs) b.cpys i) A2 (cn (byName (f3 b) b.svcs) b.cpys i) (cn (byName f4 b.svcs) b.cpys i))])) (fun i => b.cpys.length - i) (fun i => i ≤ b.cpys.length) _ 0 (Nat.zero_le _) ?_
  intro i hi
  have w1 : w64 ((i : Int) + 1) = ((i + 1 : Nat) : Int) := w64_nat (n := i + 1) (by omega)
  by_cases hlt : i < b.cpys.length
  · left
    refine ⟨i + 1, ?_, hlt, by omega⟩
    obtain ⟨t, ht⟩ := Option.isSome_iff_exists.1 (ho _ (List.getElem_mem hlt))
    have s1 := cn_succ (byName f1 b.svcs) b.cpys hlt (by omega)
    have s3 := cn_succ (byName (f3 b) b.svcs) b.cpys hlt (by omega)
    have s4 := cn_succ (byName f4 b.svcs) b.cpys hlt (by omega)
    rw [byName_some ht] at s1 s3 s4
    have l3 := cn_le (byName (f3 b) b.svcs) b.cpys i
    have l4 := cn_le (byName f4 b.svcs) b.cpys i
    have e1 := i_service_eq b b.cpys[i].svc hb.small
    have e2 := i_drained_eq b b.cpys[i] hb
    have g1 : (b.cpys.map Cpy.e).getD i [] = b.cpys[i].e := getD_map_lt Cpy.e hlt []
    have p1 : (i : Int) < (b.cpys.length : Int) := by omega
    rw [ht] at e1
    simp only [f1, f3, f4, m3, m4] at s1 s3 s4
    simp only [rowP_some, Book.e, Svc.e, Cpy.e, Brt.e, Act.e, Wld.e, Ev1.e, jA, jB, jC, jD, jE, jF, jG, jH, call1, call2, call3, call4, call5, call6, call7, call8, call13, call15, call16, call17, call19, call21, jI, jJ, jK, jL, jM, jN, jO, jP, jQ, jR, jS, jT, jU, jV, jW, jX, jY, nils, rows, jZ, ja, jb, jc, jd] at e1 e2
    simp only [Book.e, Svc.e, Cpy.e, Brt.e, Act.e, Wld.e, Ev1.e, jA, jB, jC, jD, jE, jF, jG, jH, call1, call2, call3, call4, call5, call6, call7, call8, call13, call15, call16, call17, call19, call21, jI, jJ, jK, jL, jM, jN, jO, jP, jQ, jR, jS, jT, jU, jV, jW, jX, jY, nils, rows, jZ, ja, jb, jc, jd]
    simp only [i_StewRank.d4, jA, jB, jC, jD, jE, jF, jG, jH, call1, call2, call3, call4, call5, call6, call7, call8, call13, call15, call16, call17, call19, call21, jI, jJ, jK, jL, jM, jN, jO, jP, jQ, jR, jS, jT, jU, jV, jW, jX, jY, nils, rows, jZ, ja, jb, jc, jd, p1, g1, Book.e, Svc.e, Cpy.e, Brt.e, Act.e, Wld.e, Ev1.e, e1, C.isP_p, C.P_p]
    generalize cn (byName f1 b.svcs) b.cpys i = A at *
    generalize cn (byName f1 b.svcs) b.cpys (i + 1) = A' at *
    generalize cn (byName (f3 b) b.svcs) b.cpys i = B at *
    generalize cn (byName (f3 b) b.svcs) b.cpys (i + 1) = B' at *
    generalize cn (byName f4 b.svcs) b.cpys i = D at *
    generalize cn (byName f4 b.svcs) b.cpys (i + 1) = D' at *
    cases h1 : b.cpys[i].ending <;> rw [h1] at s1 s3 s4 e2 <;> simp only [jA, jB, jC, jD, jE, jF, jG, jH, call1, call2, call3, call4, call5, call6, call7, call8, call13, call15, call16, call17, call19, call21, jI, jJ, jK, jL, jM, jN, jO, jP, jQ, jR, jS, jT, jU, jV, jW, jX, jY, nils, rows, jZ, ja, jb, jc, jd, Bool.true_or, Bool.false_or, Bool.false_and, Bool.true_and] at s1 s3 s4 e2 ⊢
    · cases h2 : t.gone <;> rw [h2] at s1 s3 s4 <;> simp only [jA, jB, jC, jD, jE, jF, jG, jH, call1, call2, call3, call4, call5, call6, call7, call8, call13, call15, call16, call17, call19, call21, jI, jJ, jK, jL, jM, jN, jO, jP, jQ, jR, jS, jT, jU, jV, jW, jX, jY, nils, rows, jZ, ja, jb, jc, jd, Bool.true_or, Bool.false_or, Bool.false_and, Bool.true_and, r5_len, lt35, lt15] at s1 s3 s4 ⊢
      · cases h3 : (b.cpys[i].image != t.image) <;> rw [h3] at s3 <;> simp only [jA, jB, jC, jD, jE, jF, jG, jH, call1, call2, call3, call4, call5, call6, call7, call8, call13, call15, call16, call17, call19, call21, jI, jJ, jK, jL, jM, jN, jO, jP, jQ, jR, jS, jT, jU, jV, jW, jX, jY, nils, rows, jZ, ja, jb, jc, jd, Bool.true_or, Bool.false_or, e2, i_one_eq, r5_g3, r5_s3, r5_len, lt45, r5_g4, r5_s4] at s3 ⊢
        · cases h4 : drn b b.cpys[i] <;> rw [h4] at s3 <;> cases h5 : (b.cpys[i].state != 3) <;> rw [h5] at s4
          all_goals simp only [jA, jB, jC, jD, jE, jF, jG, jH, call1, call2, call3, call4, call5, call6, call7, call8, call13, call15, call16, call17, call19, call21, jI, jJ, jK, jL, jM, jN, jO, jP, jQ, jR, jS, jT, jU, jV, jW, jX, jY, nils, rows, jZ, ja, jb, jc, jd, b2i, Int.add_zero, i_StewRank.d3, w1] at s3 s4 ⊢
          all_goals rw [s1, s3, s4]
          all_goals try rw [show w64 B = B from w64_of (by omega) (by omega)]
          all_goals try rw [show w64 D = D from w64_of (by omega) (by omega)]
        · cases h5 : (b.cpys[i].state != 3) <;> rw [h5] at s4
          all_goals simp only [jA, jB, jC, jD, jE, jF, jG, jH, call1, call2, call3, call4, call5, call6, call7, call8, call13, call15, call16, call17, call19, call21, jI, jJ, jK, jL, jM, jN, jO, jP, jQ, jR, jS, jT, jU, jV, jW, jX, jY, nils, rows, jZ, ja, jb, jc, jd, b2i, Int.add_zero, i_StewRank.d3, w1] at s3 s4 ⊢
          all_goals rw [s1, s3, s4]
          all_goals try rw [show w64 D = D from w64_of (by omega) (by omega)]
      · simp only [r5_g1, r5_s1, i_StewRank.d3, jA, jB, jC, jD, jE, jF, jG, jH, call1, call2, call3, call4, call5, call6, call7, call8, call13, call15, call16, call17, call19, call21, jI, jJ, jK, jL, jM, jN, jO, jP, jQ, jR, jS, jT, jU, jV, jW, jX, jY, nils, rows, jZ, ja, jb, jc, jd, w1]
        rw [s1, s3, s4]
    · simp only [r5_len, lt15, jA, jB, jC, jD, jE, jF, jG, jH, call1, call2, call3, call4, call5, call6, call7, call8, call13, call15, call16, call17, call19, call21, jI, jJ, jK, jL, jM, jN, jO, jP, jQ, jR, jS, jT, jU, jV, jW, jX, jY, nils, rows, jZ, ja, jb, jc, jd, r5_g1, r5_s1, i_StewRank.d3, w1]
      rw [s1, s3, s4]
  · right
    have : i = b.cpys.length := by omega
    subst this
    have p1 : ¬ (b.cpys.length : Int) < (b.cpys.length : Int) := by omega
    refine ⟨_, ?_, ?_, rfl⟩
    · simp only [Book.e, Svc.e, Cpy.e, Brt.e, Act.e, Wld.e, Ev1.e, jA, jB, jC, jD, jE, jF, jG, jH, call1, call2, call3, call4, call5, call6, call7, call8, call13, call15, call16, call17, call19, call21, jI, jJ, jK, jL, jM, jN, jO, jP, jQ, jR, jS, jT, jU, jV, jW, jX, jY, nils, rows, jZ, ja, jb, jc, jd]
      simp only [i_StewRank.d4, jA, jB, jC, jD, jE, jF, jG, jH, call1, call2, call3, call4, call5, call6, call7, call8, call13, call15, call16, call17, call19, call21, jI, jJ, jK, jL, jM, jN, jO, jP, jQ, jR, jS, jT, jU, jV, jW, jX, jY, nils, rows, jZ, ja, jb, jc, jd, p1, cn_all, cnt]
    · trivial
theorem i_StewRank_eq (b : Book) (hb : Bnd b) (hv : validB b = true) : i_StewRank b.e = some [.l (rankL b b.svcs)] := by
  have e0 := i_StewValid_eq b hb.small hb.w.toNames
  obtain ⟨o, e1, rfl⟩ := i_StewRank_l1 b hb hv
  obtain ⟨o, e2, rfl⟩ := i_StewRank_l2 b hb hv (sm k0 b.svcs) (sm (k2 b) b.svcs)
  rw [x1_eq b hv, x3_eq b hv, x4_eq b hv] at e2
  simp only [Book.e, Svc.e, Cpy.e, Brt.e, Act.e, Wld.e, Ev1.e, jA, jB, jC, jD, jE, jF, jG, jH, call1, call2, call3, call4, call5, call6, call7, call8, call13, call15, call16, call17, call19, call21, jI, jJ, jK, jL, jM, jN, jO, jP, jQ, jR, jS, jT, jU, jV, jW, jX, jY, nils, rows, jZ, ja, jb, jc, jd] at e0 e1 e2
  simp only [i_StewRank, i_StewRank.d7, Book.e, Svc.e, Cpy.e, Brt.e, Act.e, Wld.e, Ev1.e, jA, jB, jC, jD, jE, jF, jG, jH, call1, call2, call3, call4, call5, call6, call7, call8, call13, call15, call16, call17, call19, call21, jI, jJ, jK, jL, jM, jN, jO, jP, jQ, jR, jS, jT, jU, jV, jW, jX, jY, nils, rows, jZ, ja, jb, jc, jd, e0, hv]
  have ez : List.replicate 5 [C.i 0] = R5 0 0 0 0 0 := rfl
  rw [ez, e1]
  simp only [jA, jB, jC, jD, jE, jF, jG, jH, call1, call2, call3, call4, call5, call6, call7, call8, call13, call15, call16, call17, call19, call21, jI, jJ, jK, jL, jM, jN, jO, jP, jQ, jR, jS, jT, jU, jV, jW, jX, jY, nils, rows, jZ, ja, jb, jc, jd, i_StewRank.d6]
  rw [e2]
  simp only [jA, jB, jC, jD, jE, jF, jG, jH, call1, call2, call3, call4, call5, call6, call7, call8, call13, call15, call16, call17, call19, call21, jI, jJ, jK, jL, jM, jN, jO, jP, jQ, jR, jS, jT, jU, jV, jW, jX, jY, nils, rows, jZ, ja, jb, jc, jd, i_StewRank.d5]
  rfl
end Go.Ev
namespace Go.Ev
theorem i_demand_eq (s : Svc) (h : s.per ≠ 0) : i_demand [.p s.e] = some [.i (desired s)] := by
  have h' : (s.per != 0) = true := by simp [h]
  simp only [i_demand, i_demand.d1, jA, jB, jC, jD, jE, jF, jG, jH, call1, call2, call3, call4, call5, call6, call7, call8, call13, call15, call16, call17, call19, call21, jI, jJ, jK, jL, jM, jN, jO, jP, jQ, jR, jS, jT, jU, jV, jW, jX, jY, nils, rows, jZ, ja, jb, jc, jd, C.isP_p, C.P_p, Svc.e, h', desired]
  have key : ∀ d lo hi : Int, (if hi < (if lo > d then lo else d) then hi else (if lo > d then lo else d)) = (bif decide (d < lo) then (bif decide (lo > hi) then hi else lo) else bif decide (d > hi) then hi else d) := by
    intro d lo hi
    by_cases h1 : lo > d
    · have h1' : d < lo := h1
      simp only [h1, h1', if_true, decide_true, jR]
      by_cases h2 : lo > hi
      · have h2' : hi < lo := h2
        simp only [h2, h2', if_true, decide_true, jR]
      · have h2' : ¬ hi < lo := h2
        simp only [h2, h2', if_false, decide_false, jS]
    · have h1' : ¬ d < lo := h1
      simp only [h1, h1', if_false, decide_false, jS]
      by_cases h2 : d > hi
      · have h2' : hi < d := h2
        simp only [h2, h2', if_true, decide_true, jR]
      · have h2' : ¬ hi < d := h2
        simp only [h2, h2', if_false, decide_false, jS]
  rw [key]
theorem all_zip {α : Type} (p : α → Bool) : ∀ (l : List α) (n : Nat), (l.zipIdx n).all (fun x => p x.1) = l.all p
  | [], _ => rfl
  | x :: r, n => by simp only [List.zipIdx_cons, List.all_cons, all_zip p r]
def rankZ (b : Book) : List Int := [sm k0 b.svcs, sm (k1 b) b.svcs, sm (k2 b) b.svcs, sm (k3 b) b.svcs, sm (k4 b) b.svcs]
theorem rankZ_eq (b : Book) : rankL b b.svcs = (rankZ b).map inE := rfl
def calm (s : Svc) : Bool := bif decide (s.per > 0) then s.want == desired s && s.cool == 0 else true
def doneB (b : Book) : Bool := validB b && ((rankZ b).all (fun n => n == 0) && b.svcs.all calm)
theorem i_done_l1 (b : Book) (zs : List Int) (hz : zs.length ≤ 100) (K : List C → R) : bindBlk 0 (lim (fun xs => i_StewDone.d1 (xs.getD 0 .nil) (xs.getD 1 .nil) (xs.getD 2 .nil) (xs.getD 3 .nil) (xs.getD 4 .nil) (xs.getD 5 .nil) (xs.getD 6 .nil)) (.i (zs.length : Nat) :: .i 0 :: (b.e ++ [.l (zs.map inE)]))) K = bif zs.all (fun n => n == 0) then K b.e else some (.ret [.b false]) := by
  have h := lim_list (l := zs) (S := fun i (_ : Unit) => .i (zs.length : Nat) :: .i (i : Nat) :: (b.e ++ [.l (zs.map inE)]))
    (body := (fun xs => i_StewDone.d1 (xs.getD 0 .nil) (xs.getD 1 .nil) (xs.getD 2 .nil) (xs.getD 3 .nil) (xs.getD 4 .nil) (xs.getD 5 .nil) (xs.getD 6 .nil)))
    (fun _ _ => True) (fun i s _ => bif s == 0 then .inl () else .inr (.ret [.b false])) (fun _ => .brk 0 b.e)
    (fun i _ hi _ => by
      have w1 : w64 ((i : Int) + 1) = ((i + 1 : Nat) : Int) := w64_nat (n := i + 1) (by omega)
      have p1 : (i : Int) < (zs.length : Int) := by omega
      have g1 : (zs.map inE).getD i [] = inE zs[i] := getD_map_lt inE hi []
      cases hs : zs[i] == 0
      · exact ⟨by simp only [Book.e, jA, jB, jC, jD, jE, jF, jG, jH, call1, call2, call3, call4, call5, call6, call7, call8, call13, call15, call16, call17, call19, call21, jI, jJ, jK, jL, jM, jN, jO, jP, jQ, jR, jS, jT, jU, jV, jW, jX, jY, nils, rows, jZ, ja, jb, jc, jd, i_StewDone.d1, p1, g1, inE, bne, hs], trivial⟩
      · exact ⟨by simp only [Book.e, jA, jB, jC, jD, jE, jF, jG, jH, call1, call2, call3, call4, call5, call6, call7, call8, call13, call15, call16, call17, call19, call21, jI, jJ, jK, jL, jM, jN, jO, jP, jQ, jR, jS, jT, jU, jV, jW, jX, jY, nils, rows, jZ, ja, jb, jc, jd, i_StewDone.d1, p1, g1, inE, bne, hs, w1], trivial⟩)
    (fun _ _ => ⟨by
      have p1 : ¬ (zs.length : Int) < (zs.length : Int) := by omega
      simp only [Book.e, jA, jB, jC, jD, jE, jF, jG, jH, call1, call2, call3, call4, call5, call6, call7, call8, call13, call15, call16, call17, call19, call21, jI, jJ, jK, jL, jM, jN, jO, jP, jQ, jR, jS, jT, jU, jV, jW, jX, jY, nils, rows, jZ, ja, jb, jc, jd, i_StewDone.d1, p1], trivial⟩) _ 0 () rfl trivial
  simp only [List.drop_zero] at h
  erw [h, loopL_all (fun _ n => n == 0)]
  rw [all_zip (fun n : Int => n == 0)]
theorem s_done_l1 (b : Book) (zs : List Int) (hz : zs.length ≤ 100) (K : List C → R) : bindBlk 0 (lim (fun xs => s_StewDone.d1 (xs.getD 0 .nil) (xs.getD 1 .nil) (xs.getD 2 .nil) (xs.getD 3 .nil) (xs.getD 4 .nil) (xs.getD 5 .nil)) (.i 0 :: (b.e ++ [.l (zs.map inE)]))) K = bif zs.all (fun n => n == 0) then K b.e else some (.ret [.b false]) := by
  have h := lim_list (l := zs) (S := fun i (_ : Unit) => .i (i : Nat) :: (b.e ++ [.l (zs.map inE)]))
    (body := (fun xs => s_StewDone.d1 (xs.getD 0 .nil) (xs.getD 1 .nil) (xs.getD 2 .nil) (xs.getD 3 .nil) (xs.getD 4 .nil) (xs.getD 5 .nil)))
    (fun _ _ => True) (fun i s _ => bif s == 0 then .inl () else .inr (.ret [.b false])) (fun _ => .brk 0 b.e)
    (fun i _ hi _ => by
      have w1 : w64 ((i : Int) + 1) = ((i + 1 : Nat) : Int) := w64_nat (n := i + 1) (by omega)
      have p1 : (i : Int) < (zs.length : Int) := by omega
      have g1 : (zs.map inE).getD i [] = inE zs[i] := getD_map_lt inE hi []
      cases hs : zs[i] == 0
      · exact ⟨by simp only [Book.e, jA, jB, jC, jD, jE, jF, jG, jH, call1, call2, call3, call4, call5, call6, call7, call8, call13, call15, call16, call17, call19, call21, jI, jJ, jK, jL, jM, jN, jO, jP, jQ, jR, jS, jT, jU, jV, jW, jX, jY, nils, rows, jZ, ja, jb, jc, jd, s_StewDone.d1, p1, g1, inE, bne, hs], trivial⟩
      · exact ⟨by simp only [Book.e, jA, jB, jC, jD, jE, jF, jG, jH, call1, call2, call3, call4, call5, call6, call7, call8, call13, call15, call16, call17, call19, call21, jI, jJ, jK, jL, jM, jN, jO, jP, jQ, jR, jS, jT, jU, jV, jW, jX, jY, nils, rows, jZ, ja, jb, jc, jd, s_StewDone.d1, p1, g1, inE, bne, hs, w1], trivial⟩)
    (fun _ _ => ⟨by
      have p1 : ¬ (zs.length : Int) < (zs.length : Int) := by omega
      simp only [Book.e, jA, jB, jC, jD, jE, jF, jG, jH, call1, call2, call3, call4, call5, call6, call7, call8, call13, call15, call16, call17, call19, call21, jI, jJ, jK, jL, jM, jN, jO, jP, jQ, jR, jS, jT, jU, jV, jW, jX, jY, nils, rows, jZ, ja, jb, jc, jd, s_StewDone.d1, p1], trivial⟩) _ 0 () rfl trivial
  simp only [List.drop_zero] at h
  erw [h, loopL_all (fun _ n => n == 0)]
  rw [all_zip (fun n : Int => n == 0)]
theorem i_done_l2 (b : Book) (hb : Bnd b) (K : List C → R) : bindBlk 2 (lim (fun xs => i_StewDone.d2 (xs.getD 0 .nil) (xs.getD 1 .nil) (xs.getD 2 .nil) (xs.getD 3 .nil) (xs.getD 4 .nil) (xs.getD 5 .nil)) (.i (b.svcs.length : Nat) :: .i 0 :: b.e)) K = bif b.svcs.all calm then K [] else some (.ret [.b false]) := by
  have hs8 := hb.s
  have h := lim_list (l := b.svcs) (S := fun i (_ : Unit) => .i (b.svcs.length : Nat) :: .i (i : Nat) :: b.e)
    (body := (fun xs => i_StewDone.d2 (xs.getD 0 .nil) (xs.getD 1 .nil) (xs.getD 2 .nil) (xs.getD 3 .nil) (xs.getD 4 .nil) (xs.getD 5 .nil)))
    (fun _ _ => True) (fun i s _ => bif calm s then .inl () else .inr (.ret [.b false])) (fun _ => .brk 2 [])
    (fun i _ hi _ => by
      have w1 : w64 ((i : Int) + 1) = ((i + 1 : Nat) : Int) := w64_nat (n := i + 1) (by omega)
      have p1 : (i : Int) < (b.svcs.length : Int) := by omega
      have g1 : (b.svcs.map Svc.e).getD i [] = b.svcs[i].e := getD_map_lt Svc.e hi []
      by_cases hp : b.svcs[i].per > 0
      · have e1 := i_demand_eq b.svcs[i] (by omega)
        simp only [Book.e, Svc.e, Cpy.e, Brt.e, Act.e, Wld.e, Ev1.e, jA, jB, jC, jD, jE, jF, jG, jH, call1, call2, call3, call4, call5, call6, call7, call8, call13, call15, call16, call17, call19, call21, jI, jJ, jK, jL, jM, jN, jO, jP, jQ, jR, jS, jT, jU, jV, jW, jX, jY, nils, rows, jZ, ja, jb, jc, jd] at e1
        cases hw : b.svcs[i].want == desired b.svcs[i] <;> cases hc : b.svcs[i].cool == 0
        all_goals simp only [calm, hp, hw, hc, decide_true, Bool.and_self, Bool.and_true, Bool.and_false, jR, jS]
        all_goals exact ⟨by simp only [Book.e, jA, jB, jC, jD, jE, jF, jG, jH, call1, call2, call3, call4, call5, call6, call7, call8, call13, call15, call16, call17, call19, call21, jI, jJ, jK, jL, jM, jN, jO, jP, jQ, jR, jS, jT, jU, jV, jW, jX, jY, nils, rows, jZ, ja, jb, jc, jd, i_StewDone.d2, p1, g1, hp, e1, bne, hw, hc, w1, Book.e, Svc.e, Cpy.e, Brt.e, Act.e, Wld.e, Ev1.e], trivial⟩
      · simp only [calm, hp, decide_false, jR, jS]
        exact ⟨by simp only [Book.e, jA, jB, jC, jD, jE, jF, jG, jH, call1, call2, call3, call4, call5, call6, call7, call8, call13, call15, call16, call17, call19, call21, jI, jJ, jK, jL, jM, jN, jO, jP, jQ, jR, jS, jT, jU, jV, jW, jX, jY, nils, rows, jZ, ja, jb, jc, jd, i_StewDone.d2, p1, g1, hp, w1, Book.e, Svc.e, Cpy.e, Brt.e, Act.e, Wld.e, Ev1.e], trivial⟩)
    (fun _ _ => ⟨by
      have p1 : ¬ (b.svcs.length : Int) < (b.svcs.length : Int) := by omega
      simp only [Book.e, jA, jB, jC, jD, jE, jF, jG, jH, call1, call2, call3, call4, call5, call6, call7, call8, call13, call15, call16, call17, call19, call21, jI, jJ, jK, jL, jM, jN, jO, jP, jQ, jR, jS, jT, jU, jV, jW, jX, jY, nils, rows, jZ, ja, jb, jc, jd, i_StewDone.d2, p1], trivial⟩) _ 0 () rfl trivial
  simp only [List.drop_zero] at h
  erw [h, loopL_all (fun _ s => calm s)]
  rw [all_zip calm]
theorem s_done_l2 (b : Book) (hb : Bnd b) (K : List C → R) : bindBlk 2 (lim (fun xs => s_StewDone.d2 (xs.getD 0 .nil) (xs.getD 1 .nil) (xs.getD 2 .nil) (xs.getD 3 .nil) (xs.getD 4 .nil)) (.i 0 :: b.e)) K = bif b.svcs.all calm then K [] else some (.ret [.b false]) := by
  have hs8 := hb.s
  have h := lim_list (l := b.svcs) (S := fun i (_ : Unit) => .i (i : Nat) :: b.e)
    (body := (fun xs => s_StewDone.d2 (xs.getD 0 .nil) (xs.getD 1 .nil) (xs.getD 2 .nil) (xs.getD 3 .nil) (xs.getD 4 .nil)))
    (fun _ _ => True) (fun i s _ => bif calm s then .inl () else .inr (.ret [.b false])) (fun _ => .brk 2 [])
    (fun i _ hi _ => by
      have w1 : w64 ((i : Int) + 1) = ((i + 1 : Nat) : Int) := w64_nat (n := i + 1) (by omega)
      have p1 : (i : Int) < (b.svcs.length : Int) := by omega
      have g1 : (b.svcs.map Svc.e).getD i [] = b.svcs[i].e := getD_map_lt Svc.e hi []
      by_cases hp : b.svcs[i].per > 0
      · have e1 := s_l22Desired_eq b.svcs[i] (by omega)
        simp only [Book.e, Svc.e, Cpy.e, Brt.e, Act.e, Wld.e, Ev1.e, jA, jB, jC, jD, jE, jF, jG, jH, call1, call2, call3, call4, call5, call6, call7, call8, call13, call15, call16, call17, call19, call21, jI, jJ, jK, jL, jM, jN, jO, jP, jQ, jR, jS, jT, jU, jV, jW, jX, jY, nils, rows, jZ, ja, jb, jc, jd] at e1
        cases hw : b.svcs[i].want == desired b.svcs[i] <;> cases hc : b.svcs[i].cool == 0
        all_goals simp only [calm, hp, hw, hc, decide_true, Bool.and_self, Bool.and_true, Bool.and_false, jR, jS]
        all_goals exact ⟨by simp only [Book.e, jA, jB, jC, jD, jE, jF, jG, jH, call1, call2, call3, call4, call5, call6, call7, call8, call13, call15, call16, call17, call19, call21, jI, jJ, jK, jL, jM, jN, jO, jP, jQ, jR, jS, jT, jU, jV, jW, jX, jY, nils, rows, jZ, ja, jb, jc, jd, s_StewDone.d2, p1, g1, hp, e1, bne, hw, hc, w1, Book.e, Svc.e, Cpy.e, Brt.e, Act.e, Wld.e, Ev1.e], trivial⟩
      · simp only [calm, hp, decide_false, jR, jS]
        exact ⟨by simp only [Book.e, jA, jB, jC, jD, jE, jF, jG, jH, call1, call2, call3, call4, call5, call6, call7, call8, call13, call15, call16, call17, call19, call21, jI, jJ, jK, jL, jM, jN, jO, jP, jQ, jR, jS, jT, jU, jV, jW, jX, jY, nils, rows, jZ, ja, jb, jc, jd, s_StewDone.d2, p1, g1, hp, w1, Book.e, Svc.e, Cpy.e, Brt.e, Act.e, Wld.e, Ev1.e], trivial⟩)
    (fun _ _ => ⟨by
      have p1 : ¬ (b.svcs.length : Int) < (b.svcs.length : Int) := by omega
      simp only [Book.e, jA, jB, jC, jD, jE, jF, jG, jH, call1, call2, call3, call4, call5, call6, call7, call8, call13, call15, call16, call17, call19, call21, jI, jJ, jK, jL, jM, jN, jO, jP, jQ, jR, jS, jT, jU, jV, jW, jX, jY, nils, rows, jZ, ja, jb, jc, jd, s_StewDone.d2, p1], trivial⟩) _ 0 () rfl trivial
  simp only [List.drop_zero] at h
  erw [h, loopL_all (fun _ s => calm s)]
  rw [all_zip calm]
theorem Big.small {b : Book} (h : Big b) : Small b := ⟨by have := h.s; omega, by have := h.c; omega, by have := h.t; omega⟩
theorem i_StewDone_eq (b : Book) (hb : Big b) : i_StewDone b.e = some [.b (doneB b)] := by
  have e0 := i_StewValid_eq b hb.small hb.w.toNames
  simp only [Book.e, Svc.e, Cpy.e, Brt.e, Act.e, Wld.e, Ev1.e, jA, jB, jC, jD, jE, jF, jG, jH, call1, call2, call3, call4, call5, call6, call7, call8, call13, call15, call16, call17, call19, call21, jI, jJ, jK, jL, jM, jN, jO, jP, jQ, jR, jS, jT, jU, jV, jW, jX, jY, nils, rows, jZ, ja, jb, jc, jd] at e0
  simp only [i_StewDone, i_StewDone.d5, Book.e, Svc.e, Cpy.e, Brt.e, Act.e, Wld.e, Ev1.e, jA, jB, jC, jD, jE, jF, jG, jH, call1, call2, call3, call4, call5, call6, call7, call8, call13, call15, call16, call17, call19, call21, jI, jJ, jK, jL, jM, jN, jO, jP, jQ, jR, jS, jT, jU, jV, jW, jX, jY, nils, rows, jZ, ja, jb, jc, jd, e0, doneB]
  cases hv : validB b <;> simp only [jA, jB, jC, jD, jE, jF, jG, jH, call1, call2, call3, call4, call5, call6, call7, call8, call13, call15, call16, call17, call19, call21, jI, jJ, jK, jL, jM, jN, jO, jP, jQ, jR, jS, jT, jU, jV, jW, jX, jY, nils, rows, jZ, ja, jb, jc, jd, Bool.false_and, Bool.true_and]
  have hbn := validB_bnd hv hb.w
  have e1 := i_StewRank_eq b hbn hv
  have l1 := i_done_l1 b (rankZ b) (by simp [rankZ])
  have l2 := i_done_l2 b hbn
  rw [rankZ_eq] at e1
  simp only [Book.e, Svc.e, Cpy.e, Brt.e, Act.e, Wld.e, Ev1.e, jA, jB, jC, jD, jE, jF, jG, jH, call1, call2, call3, call4, call5, call6, call7, call8, call13, call15, call16, call17, call19, call21, jI, jJ, jK, jL, jM, jN, jO, jP, jQ, jR, jS, jT, jU, jV, jW, jX, jY, nils, rows, jZ, ja, jb, jc, jd] at e1 l1 l2
  simp only [e1, jA, jB, jC, jD, jE, jF, jG, jH, call1, call2, call3, call4, call5, call6, call7, call8, call13, call15, call16, call17, call19, call21, jI, jJ, jK, jL, jM, jN, jO, jP, jQ, jR, jS, jT, jU, jV, jW, jX, jY, nils, rows, jZ, ja, jb, jc, jd, l1]
  cases (rankZ b).all (fun n => n == 0) <;> simp only [jA, jB, jC, jD, jE, jF, jG, jH, call1, call2, call3, call4, call5, call6, call7, call8, call13, call15, call16, call17, call19, call21, jI, jJ, jK, jL, jM, jN, jO, jP, jQ, jR, jS, jT, jU, jV, jW, jX, jY, nils, rows, jZ, ja, jb, jc, jd, Bool.false_and, Bool.true_and, i_StewDone.d4, l2]
  cases b.svcs.all calm <;> simp only [jA, jB, jC, jD, jE, jF, jG, jH, call1, call2, call3, call4, call5, call6, call7, call8, call13, call15, call16, call17, call19, call21, jI, jJ, jK, jL, jM, jN, jO, jP, jQ, jR, jS, jT, jU, jV, jW, jX, jY, nils, rows, jZ, ja, jb, jc, jd, i_StewDone.d3]
theorem s_StewDone_eq (b : Book) (hb : Big b) : s_StewDone b.e = some [.b (doneB b)] := by
  have e0 := s_StewValid_eq b hb.small hb.w.toNames
  simp only [Book.e, Svc.e, Cpy.e, Brt.e, Act.e, Wld.e, Ev1.e, jA, jB, jC, jD, jE, jF, jG, jH, call1, call2, call3, call4, call5, call6, call7, call8, call13, call15, call16, call17, call19, call21, jI, jJ, jK, jL, jM, jN, jO, jP, jQ, jR, jS, jT, jU, jV, jW, jX, jY, nils, rows, jZ, ja, jb, jc, jd] at e0
  simp only [s_StewDone, s_StewDone.d5, Book.e, Svc.e, Cpy.e, Brt.e, Act.e, Wld.e, Ev1.e, jA, jB, jC, jD, jE, jF, jG, jH, call1, call2, call3, call4, call5, call6, call7, call8, call13, call15, call16, call17, call19, call21, jI, jJ, jK, jL, jM, jN, jO, jP, jQ, jR, jS, jT, jU, jV, jW, jX, jY, nils, rows, jZ, ja, jb, jc, jd, e0, doneB]
  cases hv : validB b <;> simp only [jA, jB, jC, jD, jE, jF, jG, jH, call1, call2, call3, call4, call5, call6, call7, call8, call13, call15, call16, call17, call19, call21, jI, jJ, jK, jL, jM, jN, jO, jP, jQ, jR, jS, jT, jU, jV, jW, jX, jY, nils, rows, jZ, ja, jb, jc, jd, Bool.false_and, Bool.true_and]
  have hbn := validB_bnd hv hb.w
  have e1 := s_StewRank_eq b hbn hv
  have l1 := s_done_l1 b (rankZ b) (by simp [rankZ])
  have l2 := s_done_l2 b hbn
  rw [rankZ_eq] at e1
  simp only [Book.e, Svc.e, Cpy.e, Brt.e, Act.e, Wld.e, Ev1.e, jA, jB, jC, jD, jE, jF, jG, jH, call1, call2, call3, call4, call5, call6, call7, call8, call13, call15, call16, call17, call19, call21, jI, jJ, jK, jL, jM, jN, jO, jP, jQ, jR, jS, jT, jU, jV, jW, jX, jY, nils, rows, jZ, ja, jb, jc, jd] at e1 l1 l2
  simp only [e1, jA, jB, jC, jD, jE, jF, jG, jH, call1, call2, call3, call4, call5, call6, call7, call8, call13, call15, call16, call17, call19, call21, jI, jJ, jK, jL, jM, jN, jO, jP, jQ, jR, jS, jT, jU, jV, jW, jX, jY, nils, rows, jZ, ja, jb, jc, jd, l1]
  cases (rankZ b).all (fun n => n == 0) <;> simp only [jA, jB, jC, jD, jE, jF, jG, jH, call1, call2, call3, call4, call5, call6, call7, call8, call13, call15, call16, call17, call19, call21, jI, jJ, jK, jL, jM, jN, jO, jP, jQ, jR, jS, jT, jU, jV, jW, jX, jY, nils, rows, jZ, ja, jb, jc, jd, Bool.false_and, Bool.true_and, s_StewDone.d4, l2]
  cases b.svcs.all calm <;> simp only [jA, jB, jC, jD, jE, jF, jG, jH, call1, call2, call3, call4, call5, call6, call7, call8, call13, call15, call16, call17, call19, call21, jI, jJ, jK, jL, jM, jN, jO, jP, jQ, jR, jS, jT, jU, jV, jW, jX, jY, nils, rows, jZ, ja, jb, jc, jd, s_StewDone.d3]
theorem w_wsCodes_eq (zs : List Int) (hz : zs.length ≤ 100) : w_wsCodes [.l (zs.map inE), .l (zs.map inE)] = some [.b true] := by
  have L : ∃ o, lim (fun xs => w_wsCodes.d1 (xs.getD 0 .nil) (xs.getD 1 .nil) (xs.getD 2 .nil)) [.l (zs.map inE), .l (zs.map inE), .i 0] = some o ∧ o = .brk 0 [] := by
    refine lim_exs (fun i : Nat => [.l (zs.map inE), .l (zs.map inE), .i (i : Nat)]) (fun i => zs.length - i) (fun i => i ≤ zs.length) _ 0 (Nat.zero_le _) ?_
    intro i hi
    have w1 : w64 ((i : Int) + 1) = ((i + 1 : Nat) : Int) := w64_nat (n := i + 1) (by omega)
    simp only [jA, jB, jC, jD, jE, jF, jG, jH, call1, call2, call3, call4, call5, call6, call7, call8, call13, call15, call16, call17, call19, call21, jI, jJ, jK, jL, jM, jN, jO, jP, jQ, jR, jS, jT, jU, jV, jW, jX, jY, nils, rows, jZ, ja, jb, jc, jd]
    by_cases hlt : i < zs.length
    · left
      have p1 : (i : Int) < (zs.length : Int) := by omega
      have g1 : (zs.map inE).getD i [] = inE zs[i] := getD_map_lt inE hlt []
      have n1 : (zs[i] != zs[i]) = false := by simp
      exact ⟨i + 1, by simp only [w_wsCodes.d1, jA, jB, jC, jD, jE, jF, jG, jH, call1, call2, call3, call4, call5, call6, call7, call8, call13, call15, call16, call17, call19, call21, jI, jJ, jK, jL, jM, jN, jO, jP, jQ, jR, jS, jT, jU, jV, jW, jX, jY, nils, rows, jZ, ja, jb, jc, jd, p1, g1, inE, n1, w1], hlt, by omega⟩
    · right
      have p1 : ¬ (i : Int) < (zs.length : Int) := by omega
      exact ⟨.brk 0 [], by simp only [w_wsCodes.d1, jA, jB, jC, jD, jE, jF, jG, jH, call1, call2, call3, call4, call5, call6, call7, call8, call13, call15, call16, call17, call19, call21, jI, jJ, jK, jL, jM, jN, jO, jP, jQ, jR, jS, jT, jU, jV, jW, jX, jY, nils, rows, jZ, ja, jb, jc, jd, p1], trivial, rfl⟩
  obtain ⟨o, e1, rfl⟩ := L
  have n1 : ((zs.length : Int) != (zs.length : Int)) = false := by simp
  simp only [w_wsCodes, w_wsCodes.d3, jA, jB, jC, jD, jE, jF, jG, jH, call1, call2, call3, call4, call5, call6, call7, call8, call13, call15, call16, call17, call19, call21, jI, jJ, jK, jL, jM, jN, jO, jP, jQ, jR, jS, jT, jU, jV, jW, jX, jY, nils, rows, jZ, ja, jb, jc, jd, n1]
  rw [e1]
  rfl
end Go.Ev
namespace Go.Ev
def A7 (a : Act) : List C := [.s a.svc, .i a.seen, .i a.create, .i a.want, .i a.cool, .b a.scale, .b a.drop]
def cEn (c : Cpy) : Int × Int := (c.num, c.ver)
theorem i_ask3_eq (a : Act) (cs : List Cpy) (hc : cs.length ≤ 1000) : i_StewBook_ask_3 (.l (cs.map Cpy.e) :: (A7 a ++ [.l []])) = some (A7 a ++ [.b (decide ((cs.length : Int) > 0))] ++ A7 a ++ [.l ((cs.map cEn).map enE)]) := by
  have L : ∃ o, lim (fun xs => i_StewBook_ask_3.d1 (xs.getD 0 .nil) (xs.getD 1 .nil) (xs.getD 2 .nil) (xs.getD 3 .nil) (xs.getD 4 .nil) (xs.getD 5 .nil) (xs.getD 6 .nil) (xs.getD 7 .nil) (xs.getD 8 .nil) (xs.getD 9 .nil) (xs.getD 10 .nil) (xs.getD 11 .nil) (xs.getD 12 .nil) (xs.getD 13 .nil) (xs.getD 14 .nil) (xs.getD 15 .nil) (xs.getD 16 .nil) (xs.getD 17 .nil) (xs.getD 18 .nil) (xs.getD 19 .nil)) (.l (cs.map Cpy.e) :: .l (cs.map Cpy.e) :: .i (cs.length : Nat) :: .i 0 :: (A7 a ++ [.s (bs #[]), .i 0, .i 0, .i 0, .i 0, .b false, .b false, .l [], .l []])) = some o ∧ o = .brk 0 (.l (cs.map Cpy.e) :: (A7 a ++ [.s (bs #[]), .i 0, .i 0, .i 0, .i 0, .b false, .b false, .l ((cs.map cEn).map enE), .l []])) := by
    refine lim_exs (fun i : Nat => .l (cs.map Cpy.e) :: .l (cs.map Cpy.e) :: .i (cs.length : Nat) :: .i (i : Nat) :: (A7 a ++ [.s (bs #[]), .i 0, .i 0, .i 0, .i 0, .b false, .b false, .l (((cs.take i).map cEn).map enE), .l []])) (fun i => cs.length - i) (fun i => i ≤ cs.length) _ 0 (Nat.zero_le _) ?_
    intro i hi
    have w1 : w64 ((i : Int) + 1) = ((i + 1 : Nat) : Int) := w64_nat (n := i + 1) (by omega)
    by_cases hlt : i < cs.length
    · left
      refine ⟨i + 1, ?_, hlt, by omega⟩
      have p1 : (i : Int) < (cs.length : Int) := by omega
      have g1 : (cs.map Cpy.e).getD i [] = cs[i].e := getD_map_lt Cpy.e hlt []
      have p2 : min i cs.length + 1 ≤ 4294967296 := by omega
      simp only [A7, jA, jB, jC, jD, jE, jF, jG, jH, call1, call2, call3, call4, call5, call6, call7, call8, call13, call15, call16, call17, call19, call21, jI, jJ, jK, jL, jM, jN, jO, jP, jQ, jR, jS, jT, jU, jV, jW, jX, jY, nils, rows, jZ, ja, jb, jc, jd, List.take_succ_eq_append_getElem hlt, List.map_append, List.map_cons, List.map_nil]
      simp only [i_StewBook_ask_3.d1, jA, jB, jC, jD, jE, jF, jG, jH, call1, call2, call3, call4, call5, call6, call7, call8, call13, call15, call16, call17, call19, call21, jI, jJ, jK, jL, jM, jN, jO, jP, jQ, jR, jS, jT, jU, jV, jW, jX, jY, nils, rows, jZ, ja, jb, jc, jd, p1, g1, Cpy.e, List.length_take, p2, w1]
      rfl
    · right
      have : i = cs.length := by omega
      subst this
      have p1 : ¬ (cs.length : Int) < (cs.length : Int) := by omega
      refine ⟨_, ?_, ?_, rfl⟩
      · simp only [A7, jA, jB, jC, jD, jE, jF, jG, jH, call1, call2, call3, call4, call5, call6, call7, call8, call13, call15, call16, call17, call19, call21, jI, jJ, jK, jL, jM, jN, jO, jP, jQ, jR, jS, jT, jU, jV, jW, jX, jY, nils, rows, jZ, ja, jb, jc, jd, List.take_length]
        simp only [i_StewBook_ask_3.d1, jA, jB, jC, jD, jE, jF, jG, jH, call1, call2, call3, call4, call5, call6, call7, call8, call13, call15, call16, call17, call19, call21, jI, jJ, jK, jL, jM, jN, jO, jP, jQ, jR, jS, jT, jU, jV, jW, jX, jY, nils, rows, jZ, ja, jb, jc, jd, p1]
      · trivial
  obtain ⟨o, h1, rfl⟩ := L
  simp only [A7, jA, jB, jC, jD, jE, jF, jG, jH, call1, call2, call3, call4, call5, call6, call7, call8, call13, call15, call16, call17, call19, call21, jI, jJ, jK, jL, jM, jN, jO, jP, jQ, jR, jS, jT, jU, jV, jW, jX, jY, nils, rows, jZ, ja, jb, jc, jd] at h1
  simp only [i_StewBook_ask_3, i_StewBook_ask_3.d3, A7, jA, jB, jC, jD, jE, jF, jG, jH, call1, call2, call3, call4, call5, call6, call7, call8, call13, call15, call16, call17, call19, call21, jI, jJ, jK, jL, jM, jN, jO, jP, jQ, jR, jS, jT, jU, jV, jW, jX, jY, nils, rows, jZ, ja, jb, jc, jd]
  rw [h1]
  simp only [jA, jB, jC, jD, jE, jF, jG, jH, call1, call2, call3, call4, call5, call6, call7, call8, call13, call15, call16, call17, call19, call21, jI, jJ, jK, jL, jM, jN, jO, jP, jQ, jR, jS, jT, jU, jV, jW, jX, jY, nils, rows, jZ, ja, jb, jc, jd, i_StewBook_ask_3.d2]
theorem i_ask3v_eq (a : Act) (cs : List Cpy) (hc : cs.length ≤ 1000) : i_StewBook_ask_3_v1 (.l (cs.map Cpy.e) :: (A7 a ++ [.l []])) = some (A7 a ++ [.b (decide ((cs.length : Int) > 0)), .l (cs.map Cpy.e)] ++ A7 a ++ [.l ((cs.map cEn).map enE)]) := by
  have L : ∃ o, lim (fun xs => i_StewBook_ask_3_v1.d1 (xs.getD 0 .nil) (xs.getD 1 .nil) (xs.getD 2 .nil) (xs.getD 3 .nil) (xs.getD 4 .nil) (xs.getD 5 .nil) (xs.getD 6 .nil) (xs.getD 7 .nil) (xs.getD 8 .nil) (xs.getD 9 .nil) (xs.getD 10 .nil) (xs.getD 11 .nil) (xs.getD 12 .nil) (xs.getD 13 .nil) (xs.getD 14 .nil) (xs.getD 15 .nil) (xs.getD 16 .nil) (xs.getD 17 .nil) (xs.getD 18 .nil)) (.i (cs.length : Nat) :: .i 0 :: .l (cs.map Cpy.e) :: (A7 a ++ [.s (bs #[]), .i 0, .i 0, .i 0, .i 0, .b false, .b false, .l [], .l []])) = some o ∧ o = .brk 0 (.l (cs.map Cpy.e) :: (A7 a ++ [.s (bs #[]), .i 0, .i 0, .i 0, .i 0, .b false, .b false, .l ((cs.map cEn).map enE), .l []])) := by
    refine lim_exs (fun i : Nat => .i (cs.length : Nat) :: .i (i : Nat) :: .l (cs.map Cpy.e) :: (A7 a ++ [.s (bs #[]), .i 0, .i 0, .i 0, .i 0, .b false, .b false, .l (((cs.take i).map cEn).map enE), .l []])) (fun i => cs.length - i) (fun i => i ≤ cs.length) _ 0 (Nat.zero_le _) ?_
    intro i hi
    have w1 : w64 ((i : Int) + 1) = ((i + 1 : Nat) : Int) := w64_nat (n := i + 1) (by omega)
    by_cases hlt : i < cs.length
    · left
      refine ⟨i + 1, ?_, hlt, by omega⟩
      have p1 : (i : Int) < (cs.length : Int) := by omega
      have g1 : (cs.map Cpy.e).getD i [] = cs[i].e := getD_map_lt Cpy.e hlt []
      have p2 : min i cs.length + 1 ≤ 4294967296 := by omega
      simp only [A7, jA, jB, jC, jD, jE, jF, jG, jH, call1, call2, call3, call4, call5, call6, call7, call8, call13, call15, call16, call17, call19, call21, jI, jJ, jK, jL, jM, jN, jO, jP, jQ, jR, jS, jT, jU, jV, jW, jX, jY, nils, rows, jZ, ja, jb, jc, jd, List.take_succ_eq_append_getElem hlt, List.map_append, List.map_cons, List.map_nil]
      simp only [i_StewBook_ask_3_v1.d1, jA, jB, jC, jD, jE, jF, jG, jH, call1, call2, call3, call4, call5, call6, call7, call8, call13, call15, call16, call17, call19, call21, jI, jJ, jK, jL, jM, jN, jO, jP, jQ, jR, jS, jT, jU, jV, jW, jX, jY, nils, rows, jZ, ja, jb, jc, jd, p1, g1, Cpy.e, List.length_take, p2, w1]
      rfl
    · right
      have : i = cs.length := by omega
      subst this
      have p1 : ¬ (cs.length : Int) < (cs.length : Int) := by omega
      refine ⟨_, ?_, ?_, rfl⟩
      · simp only [A7, jA, jB, jC, jD, jE, jF, jG, jH, call1, call2, call3, call4, call5, call6, call7, call8, call13, call15, call16, call17, call19, call21, jI, jJ, jK, jL, jM, jN, jO, jP, jQ, jR, jS, jT, jU, jV, jW, jX, jY, nils, rows, jZ, ja, jb, jc, jd, List.take_length]
        simp only [i_StewBook_ask_3_v1.d1, jA, jB, jC, jD, jE, jF, jG, jH, call1, call2, call3, call4, call5, call6, call7, call8, call13, call15, call16, call17, call19, call21, jI, jJ, jK, jL, jM, jN, jO, jP, jQ, jR, jS, jT, jU, jV, jW, jX, jY, nils, rows, jZ, ja, jb, jc, jd, p1]
      · trivial
  obtain ⟨o, h1, rfl⟩ := L
  simp only [A7, jA, jB, jC, jD, jE, jF, jG, jH, call1, call2, call3, call4, call5, call6, call7, call8, call13, call15, call16, call17, call19, call21, jI, jJ, jK, jL, jM, jN, jO, jP, jQ, jR, jS, jT, jU, jV, jW, jX, jY, nils, rows, jZ, ja, jb, jc, jd] at h1
  simp only [i_StewBook_ask_3_v1, i_StewBook_ask_3_v1.d3, A7, jA, jB, jC, jD, jE, jF, jG, jH, call1, call2, call3, call4, call5, call6, call7, call8, call13, call15, call16, call17, call19, call21, jI, jJ, jK, jL, jM, jN, jO, jP, jQ, jR, jS, jT, jU, jV, jW, jX, jY, nils, rows, jZ, ja, jb, jc, jd]
  rw [h1]
  simp only [jA, jB, jC, jD, jE, jF, jG, jH, call1, call2, call3, call4, call5, call6, call7, call8, call13, call15, call16, call17, call19, call21, jI, jJ, jK, jL, jM, jN, jO, jP, jQ, jR, jS, jT, jU, jV, jW, jX, jY, nils, rows, jZ, ja, jb, jc, jd, i_StewBook_ask_3_v1.d2]
theorem i_copy_eq (b : Book) (nm : Str) (n : Int) (hb : Bnd b) : i_StewBook_copy (.s nm :: .i n :: b.e) = some (rowP Cpy.e (cpyOf b nm n) :: b.e) := by
  have hl := hb.c
  have h := lim_list (l := b.cpys) (S := fun i (_ : Unit) => .s nm :: .i n :: .i (b.cpys.length : Nat) :: .i (i : Nat) :: b.e)
    (body := (fun xs => i_StewBook_copy.d1 (xs.getD 0 .nil) (xs.getD 1 .nil) (xs.getD 2 .nil) (xs.getD 3 .nil) (xs.getD 4 .nil) (xs.getD 5 .nil) (xs.getD 6 .nil) (xs.getD 7 .nil)))
    (fun _ _ => True) (fun i c _ => bif (fun c : Cpy => sEq c.svc nm && c.num == n) c then .inr (.ret (.p c.e :: b.e)) else .inl ()) (fun _ => .brk 0 b.e)
    (fun i _ hi _ => by
      have w1 : w64 ((i : Int) + 1) = ((i + 1 : Nat) : Int) := w64_nat (n := i + 1) (by omega)
      have p1 : (i : Int) < (b.cpys.length : Int) := by omega
      have g1 : (b.cpys.map Cpy.e).getD i [] = b.cpys[i].e := getD_map_lt Cpy.e hi []
      cases hs : (b.cpys[i].svc.toList == nm.toList)
      · simp only [sEq, hs, Bool.false_and, jS]
        exact ⟨by simp only [Book.e, jA, jB, jC, jD, jE, jF, jG, jH, call1, call2, call3, call4, call5, call6, call7, call8, call13, call15, call16, call17, call19, call21, jI, jJ, jK, jL, jM, jN, jO, jP, jQ, jR, jS, jT, jU, jV, jW, jX, jY, nils, rows, jZ, ja, jb, jc, jd, i_StewBook_copy.d1, p1, g1, Cpy.e, hs, w1], trivial⟩
      · cases hn : (b.cpys[i].num == n)
        · simp only [sEq, hs, hn, Bool.true_and, jS]
          exact ⟨by simp only [Book.e, jA, jB, jC, jD, jE, jF, jG, jH, call1, call2, call3, call4, call5, call6, call7, call8, call13, call15, call16, call17, call19, call21, jI, jJ, jK, jL, jM, jN, jO, jP, jQ, jR, jS, jT, jU, jV, jW, jX, jY, nils, rows, jZ, ja, jb, jc, jd, i_StewBook_copy.d1, p1, g1, Cpy.e, hs, hn, w1], trivial⟩
        · simp only [sEq, hs, hn, Bool.true_and, jR]
          exact ⟨by simp only [Book.e, jA, jB, jC, jD, jE, jF, jG, jH, call1, call2, call3, call4, call5, call6, call7, call8, call13, call15, call16, call17, call19, call21, jI, jJ, jK, jL, jM, jN, jO, jP, jQ, jR, jS, jT, jU, jV, jW, jX, jY, nils, rows, jZ, ja, jb, jc, jd, i_StewBook_copy.d1, p1, g1, Cpy.e, hs, hn], trivial⟩)
    (fun _ _ => ⟨by
      have p1 : ¬ (b.cpys.length : Int) < (b.cpys.length : Int) := by omega
      simp only [Book.e, jA, jB, jC, jD, jE, jF, jG, jH, call1, call2, call3, call4, call5, call6, call7, call8, call13, call15, call16, call17, call19, call21, jI, jJ, jK, jL, jM, jN, jO, jP, jQ, jR, jS, jT, jU, jV, jW, jX, jY, nils, rows, jZ, ja, jb, jc, jd, i_StewBook_copy.d1, p1], trivial⟩) _ 0 () rfl trivial
  simp only [List.drop_zero] at h
  simp only [Book.e] at h
  simp only [i_StewBook_copy, i_StewBook_copy.d3, Book.e, jA, jB, jC, jD, jE, jF, jG, jH, call1, call2, call3, call4, call5, call6, call7, call8, call13, call15, call16, call17, call19, call21, jI, jJ, jK, jL, jM, jN, jO, jP, jQ, jR, jS, jT, jU, jV, jW, jX, jY, nils, rows, jZ, ja, jb, jc, jd]
  erw [h]
  rw [loopL_findP _ _ _ _ _ (by rfl)]
  rfl
theorem i_mayEnd_ex (b : Book) (s : Svc) (c : Option Cpy) (hb : Bnd b) : ∃ v : Bool, i_StewBook_mayEnd [.p b.e, .p s.e, rowP Cpy.e c] = some [.b v] := by
  have e1 := i_count_eq b s hb
  simp only [i_StewBook_mayEnd, i_StewBook_mayEnd.d1, jA, jB, jC, jD, jE, jF, jG, jH, call1, call2, call3, call4, call5, call6, call7, call8, call13, call15, call16, call17, call19, call21, jI, jJ, jK, jL, jM, jN, jO, jP, jQ, jR, jS, jT, jU, jV, jW, jX, jY, nils, rows, jZ, ja, jb, jc, jd]
  cases c with
  | none => exact ⟨false, by simp only [rowP_none, C.isP_nil, jA, jB, jC, jD, jE, jF, jG, jH, call1, call2, call3, call4, call5, call6, call7, call8, call13, call15, call16, call17, call19, call21, jI, jJ, jK, jL, jM, jN, jO, jP, jQ, jR, jS, jT, jU, jV, jW, jX, jY, nils, rows, jZ, ja, jb, jc, jd]⟩
  | some c =>
    simp only [rowP_some, C.isP_p, C.P_p, jA, jB, jC, jD, jE, jF, jG, jH, call1, call2, call3, call4, call5, call6, call7, call8, call13, call15, call16, call17, call19, call21, jI, jJ, jK, jL, jM, jN, jO, jP, jQ, jR, jS, jT, jU, jV, jW, jX, jY, nils, rows, jZ, ja, jb, jc, jd]
    simp only [CountE, Book.e, Svc.e, Cpy.e, Brt.e, Act.e, Wld.e, Ev1.e, jA, jB, jC, jD, jE, jF, jG, jH, call1, call2, call3, call4, call5, call6, call7, call8, call13, call15, call16, call17, call19, call21, jI, jJ, jK, jL, jM, jN, jO, jP, jQ, jR, jS, jT, jU, jV, jW, jX, jY, nils, rows, jZ, ja, jb, jc, jd] at e1
    simp only [Book.e, Svc.e, Cpy.e, Brt.e, Act.e, Wld.e, Ev1.e, jA, jB, jC, jD, jE, jF, jG, jH, call1, call2, call3, call4, call5, call6, call7, call8, call13, call15, call16, call17, call19, call21, jI, jJ, jK, jL, jM, jN, jO, jP, jQ, jR, jS, jT, jU, jV, jW, jX, jY, nils, rows, jZ, ja, jb, jc, jd, e1]
    repeat' (rw [Bool.cond_eq_ite]; split <;> try simp only [jA, jB, jC, jD, jE, jF, jG, jH, call1, call2, call3, call4, call5, call6, call7, call8, call13, call15, call16, call17, call19, call21, jI, jJ, jK, jL, jM, jN, jO, jP, jQ, jR, jS, jT, jU, jV, jW, jX, jY, nils, rows, jZ, ja, jb, jc, jd])
    all_goals exact ⟨_, rfl⟩
theorem i_ask2_ex (b : Book) (s : Svc) (c : Cpy) (hb : Bnd b) : ∃ v : Bool, i_StewBook_ask_2 (c.e ++ [.p s.e] ++ b.e) = some (.b v :: .p s.e :: b.e) := by
  have e1 := i_copy_eq b c.svc c.num hb
  obtain ⟨v, e2⟩ := i_mayEnd_ex b s (cpyOf b c.svc c.num) hb
  refine ⟨v, ?_⟩
  simp only [Book.e] at e1 e2
  simp only [i_StewBook_ask_2, i_StewBook_ask_2.d1, Cpy.e, Book.e, jA, jB, jC, jD, jE, jF, jG, jH, call1, call2, call3, call4, call5, call6, call7, call8, call13, call15, call16, call17, call19, call21, jI, jJ, jK, jL, jM, jN, jO, jP, jQ, jR, jS, jT, jU, jV, jW, jX, jY, nils, rows, jZ, ja, jb, jc, jd, e1, e2]
theorem i_ask7_ex (b : Book) (s : Svc) (c : Cpy) (hb : Bnd b) : ∃ v : Bool, i_StewBook_ask_7 (c.e ++ [.p s.e] ++ b.e) = some (.b v :: .p s.e :: b.e) := by
  obtain ⟨v, e1⟩ := i_ask2_ex b s c hb
  simp only [Book.e, Cpy.e, jA, jB, jC, jD, jE, jF, jG, jH, call1, call2, call3, call4, call5, call6, call7, call8, call13, call15, call16, call17, call19, call21, jI, jJ, jK, jL, jM, jN, jO, jP, jQ, jR, jS, jT, jU, jV, jW, jX, jY, nils, rows, jZ, ja, jb, jc, jd] at e1
  simp only [i_StewBook_ask_7, i_StewBook_ask_7.d1, Cpy.e, Book.e, jA, jB, jC, jD, jE, jF, jG, jH, call1, call2, call3, call4, call5, call6, call7, call8, call13, call15, call16, call17, call19, call21, jI, jJ, jK, jL, jM, jN, jO, jP, jQ, jR, jS, jT, jU, jV, jW, jX, jY, nils, rows, jZ, ja, jb, jc, jd, e1, C.isP_p]
  repeat' (rw [Bool.cond_eq_ite]; split <;> try simp only [jA, jB, jC, jD, jE, jF, jG, jH, call1, call2, call3, call4, call5, call6, call7, call8, call13, call15, call16, call17, call19, call21, jI, jJ, jK, jL, jM, jN, jO, jP, jQ, jR, jS, jT, jU, jV, jW, jX, jY, nils, rows, jZ, ja, jb, jc, jd])
  all_goals exact ⟨_, rfl⟩
theorem i_ask9_ex (b : Book) (s : Svc) (c : Cpy) (hb : Bnd b) : ∃ v : Bool, i_StewBook_ask_9 (c.e ++ b.e ++ [.p s.e]) = some (.b v :: (b.e ++ [.p s.e])) := by
  obtain ⟨v, e1⟩ := i_ask2_ex b s c hb
  have e2 := i_drained_eq b c hb
  simp only [Book.e, Cpy.e, jA, jB, jC, jD, jE, jF, jG, jH, call1, call2, call3, call4, call5, call6, call7, call8, call13, call15, call16, call17, call19, call21, jI, jJ, jK, jL, jM, jN, jO, jP, jQ, jR, jS, jT, jU, jV, jW, jX, jY, nils, rows, jZ, ja, jb, jc, jd] at e1 e2
  simp only [i_StewBook_ask_9, i_StewBook_ask_9.d1, Cpy.e, Book.e, jA, jB, jC, jD, jE, jF, jG, jH, call1, call2, call3, call4, call5, call6, call7, call8, call13, call15, call16, call17, call19, call21, jI, jJ, jK, jL, jM, jN, jO, jP, jQ, jR, jS, jT, jU, jV, jW, jX, jY, nils, rows, jZ, ja, jb, jc, jd, e1, e2]
  repeat' (rw [Bool.cond_eq_ite]; split <;> try simp only [jA, jB, jC, jD, jE, jF, jG, jH, call1, call2, call3, call4, call5, call6, call7, call8, call13, call15, call16, call17, call19, call21, jI, jJ, jK, jL, jM, jN, jO, jP, jQ, jR, jS, jT, jU, jV, jW, jX, jY, nils, rows, jZ, ja, jb, jc, jd])
  all_goals exact ⟨_, rfl⟩
end Go.Ev
namespace Go.Ev
theorem i_ask1_ex (b : Book) (s : Svc) (cs : List Cpy) (hb : Bnd b) (hc : cs.length ≤ 1000) : ∃ ds : List Cpy, i_StewBook_ask_1 (.p s.e :: .l (cs.map Cpy.e) :: b.e) = some (.l (ds.map Cpy.e) :: .p s.e :: .l (cs.map Cpy.e) :: b.e) ∧ ds.length ≤ cs.length := by
  have L : ∃ o, lim (fun xs => i_StewBook_ask_1.d1 (xs.getD 0 .nil) (xs.getD 1 .nil) (xs.getD 2 .nil) (xs.getD 3 .nil) (xs.getD 4 .nil) (xs.getD 5 .nil) (xs.getD 6 .nil) (xs.getD 7 .nil) (xs.getD 8 .nil)) (.i (cs.length : Nat) :: .i 0 :: .p s.e :: (b.e ++ [.l [], .l (cs.map Cpy.e)])) = some o ∧ ∃ ds : List Cpy, o = .brk 0 (.p s.e :: (b.e ++ [.l (ds.map Cpy.e), .l (cs.map Cpy.e)])) ∧ ds.length ≤ cs.length := by
    refine lim_exs (fun q : List Cpy × Nat => .i (cs.length : Nat) :: .i (q.2 : Nat) :: .p s.e :: (b.e ++ [.l (q.1.map Cpy.e), .l (cs.map Cpy.e)])) (fun q => cs.length - q.2) (fun q => q.2 ≤ cs.length ∧ q.1.length ≤ q.2) _ ([], 0) ⟨Nat.zero_le _, Nat.zero_le _⟩ ?_
    rintro ⟨ds, i⟩ ⟨hi, hd⟩
    simp only at hi hd
    have w1 : w64 ((i : Int) + 1) = ((i + 1 : Nat) : Int) := w64_nat (n := i + 1) (by omega)
    by_cases hlt : i < cs.length
    · left
      have p1 : (i : Int) < (cs.length : Int) := by omega
      have p2 : ds.length + 1 ≤ 4294967296 := by omega
      have g1 : (cs.map Cpy.e).getD i [] = cs[i].e := getD_map_lt Cpy.e hlt []
      obtain ⟨v, e1⟩ := i_ask7_ex b s cs[i] hb
      simp only [Book.e, Cpy.e, jA, jB, jC, jD, jE, jF, jG, jH, call1, call2, call3, call4, call5, call6, call7, call8, call13, call15, call16, call17, call19, call21, jI, jJ, jK, jL, jM, jN, jO, jP, jQ, jR, jS, jT, jU, jV, jW, jX, jY, nils, rows, jZ, ja, jb, jc, jd] at e1
      cases v
      · exact ⟨(ds, i + 1), by simp only [Book.e, jA, jB, jC, jD, jE, jF, jG, jH, call1, call2, call3, call4, call5, call6, call7, call8, call13, call15, call16, call17, call19, call21, jI, jJ, jK, jL, jM, jN, jO, jP, jQ, jR, jS, jT, jU, jV, jW, jX, jY, nils, rows, jZ, ja, jb, jc, jd]; simp only [i_StewBook_ask_1.d1, jA, jB, jC, jD, jE, jF, jG, jH, call1, call2, call3, call4, call5, call6, call7, call8, call13, call15, call16, call17, call19, call21, jI, jJ, jK, jL, jM, jN, jO, jP, jQ, jR, jS, jT, jU, jV, jW, jX, jY, nils, rows, jZ, ja, jb, jc, jd, p1, g1, Cpy.e, e1, w1], ⟨hlt, by simp only; omega⟩, by simp only; omega⟩
      · refine ⟨(ds ++ [cs[i]], i + 1), ?_, ⟨hlt, by simp; omega⟩, by simp only; omega⟩
        simp only [Book.e, jA, jB, jC, jD, jE, jF, jG, jH, call1, call2, call3, call4, call5, call6, call7, call8, call13, call15, call16, call17, call19, call21, jI, jJ, jK, jL, jM, jN, jO, jP, jQ, jR, jS, jT, jU, jV, jW, jX, jY, nils, rows, jZ, ja, jb, jc, jd, List.map_append, List.map_cons, List.map_nil]
        simp only [i_StewBook_ask_1.d1, jA, jB, jC, jD, jE, jF, jG, jH, call1, call2, call3, call4, call5, call6, call7, call8, call13, call15, call16, call17, call19, call21, jI, jJ, jK, jL, jM, jN, jO, jP, jQ, jR, jS, jT, jU, jV, jW, jX, jY, nils, rows, jZ, ja, jb, jc, jd, p1, g1, Cpy.e, e1, w1, p2]
    · right
      have p1 : ¬ (i : Int) < (cs.length : Int) := by omega
      refine ⟨_, ?_, ?_, ds, rfl, by omega⟩
      · simp only [Book.e, jA, jB, jC, jD, jE, jF, jG, jH, call1, call2, call3, call4, call5, call6, call7, call8, call13, call15, call16, call17, call19, call21, jI, jJ, jK, jL, jM, jN, jO, jP, jQ, jR, jS, jT, jU, jV, jW, jX, jY, nils, rows, jZ, ja, jb, jc, jd]
        simp only [i_StewBook_ask_1.d1, jA, jB, jC, jD, jE, jF, jG, jH, call1, call2, call3, call4, call5, call6, call7, call8, call13, call15, call16, call17, call19, call21, jI, jJ, jK, jL, jM, jN, jO, jP, jQ, jR, jS, jT, jU, jV, jW, jX, jY, nils, rows, jZ, ja, jb, jc, jd, p1]
      · trivial
  obtain ⟨o, h1, ds, rfl, h2⟩ := L
  refine ⟨ds, ?_, h2⟩
  simp only [Book.e, jA, jB, jC, jD, jE, jF, jG, jH, call1, call2, call3, call4, call5, call6, call7, call8, call13, call15, call16, call17, call19, call21, jI, jJ, jK, jL, jM, jN, jO, jP, jQ, jR, jS, jT, jU, jV, jW, jX, jY, nils, rows, jZ, ja, jb, jc, jd] at h1
  simp only [i_StewBook_ask_1, i_StewBook_ask_1.d3, Book.e, jA, jB, jC, jD, jE, jF, jG, jH, call1, call2, call3, call4, call5, call6, call7, call8, call13, call15, call16, call17, call19, call21, jI, jJ, jK, jL, jM, jN, jO, jP, jQ, jR, jS, jT, jU, jV, jW, jX, jY, nils, rows, jZ, ja, jb, jc, jd]
  rw [h1]
  simp only [jA, jB, jC, jD, jE, jF, jG, jH, call1, call2, call3, call4, call5, call6, call7, call8, call13, call15, call16, call17, call19, call21, jI, jJ, jK, jL, jM, jN, jO, jP, jQ, jR, jS, jT, jU, jV, jW, jX, jY, nils, rows, jZ, ja, jb, jc, jd, i_StewBook_ask_1.d2]
theorem i_ask1v2_ex (b : Book) (s : Svc) (cs : List Cpy) (hb : Bnd b) (hc : cs.length ≤ 1000) : ∃ ds : List Cpy, i_StewBook_ask_1_v2 (b.e ++ [.p s.e, .l (cs.map Cpy.e)]) = some (.l (ds.map Cpy.e) :: .l (cs.map Cpy.e) :: (b.e ++ [.p s.e])) ∧ ds.length ≤ cs.length := by
  have L : ∃ o, lim (fun xs => i_StewBook_ask_1_v2.d1 (xs.getD 0 .nil) (xs.getD 1 .nil) (xs.getD 2 .nil) (xs.getD 3 .nil) (xs.getD 4 .nil) (xs.getD 5 .nil) (xs.getD 6 .nil) (xs.getD 7 .nil) (xs.getD 8 .nil)) (.i (cs.length : Nat) :: .i 0 :: (b.e ++ [.p s.e, .l [], .l (cs.map Cpy.e)])) = some o ∧ ∃ ds : List Cpy, o = .brk 0 (b.e ++ [.p s.e, .l (ds.map Cpy.e), .l (cs.map Cpy.e)]) ∧ ds.length ≤ cs.length := by
    refine lim_exs (fun q : List Cpy × Nat => .i (cs.length : Nat) :: .i (q.2 : Nat) :: (b.e ++ [.p s.e, .l (q.1.map Cpy.e), .l (cs.map Cpy.e)])) (fun q => cs.length - q.2) (fun q => q.2 ≤ cs.length ∧ q.1.length ≤ q.2) _ ([], 0) ⟨Nat.zero_le _, Nat.zero_le _⟩ ?_
    rintro ⟨ds, i⟩ ⟨hi, hd⟩
    simp only at hi hd
    have w1 : w64 ((i : Int) + 1) = ((i + 1 : Nat) : Int) := w64_nat (n := i + 1) (by omega)
    by_cases hlt : i < cs.length
    · left
      have p1 : (i : Int) < (cs.length : Int) := by omega
      have p2 : ds.length + 1 ≤ 4294967296 := by omega
      have g1 : (cs.map Cpy.e).getD i [] = cs[i].e := getD_map_lt Cpy.e hlt []
      obtain ⟨v, e1⟩ := i_ask9_ex b s cs[i] hb
      simp only [Book.e, Cpy.e, jA, jB, jC, jD, jE, jF, jG, jH, call1, call2, call3, call4, call5, call6, call7, call8, call13, call15, call16, call17, call19, call21, jI, jJ, jK, jL, jM, jN, jO, jP, jQ, jR, jS, jT, jU, jV, jW, jX, jY, nils, rows, jZ, ja, jb, jc, jd] at e1
      cases v
      · exact ⟨(ds, i + 1), by simp only [Book.e, jA, jB, jC, jD, jE, jF, jG, jH, call1, call2, call3, call4, call5, call6, call7, call8, call13, call15, call16, call17, call19, call21, jI, jJ, jK, jL, jM, jN, jO, jP, jQ, jR, jS, jT, jU, jV, jW, jX, jY, nils, rows, jZ, ja, jb, jc, jd]; simp only [i_StewBook_ask_1_v2.d1, jA, jB, jC, jD, jE, jF, jG, jH, call1, call2, call3, call4, call5, call6, call7, call8, call13, call15, call16, call17, call19, call21, jI, jJ, jK, jL, jM, jN, jO, jP, jQ, jR, jS, jT, jU, jV, jW, jX, jY, nils, rows, jZ, ja, jb, jc, jd, p1, g1, Cpy.e, e1, w1], ⟨hlt, by simp only; omega⟩, by simp only; omega⟩
      · refine ⟨(ds ++ [cs[i]], i + 1), ?_, ⟨hlt, by simp; omega⟩, by simp only; omega⟩
        simp only [Book.e, jA, jB, jC, jD, jE, jF, jG, jH, call1, call2, call3, call4, call5, call6, call7, call8, call13, call15, call16, call17, call19, call21, jI, jJ, jK, jL, jM, jN, jO, jP, jQ, jR, jS, jT, jU, jV, jW, jX, jY, nils, rows, jZ, ja, jb, jc, jd, List.map_append, List.map_cons, List.map_nil]
        simp only [i_StewBook_ask_1_v2.d1, jA, jB, jC, jD, jE, jF, jG, jH, call1, call2, call3, call4, call5, call6, call7, call8, call13, call15, call16, call17, call19, call21, jI, jJ, jK, jL, jM, jN, jO, jP, jQ, jR, jS, jT, jU, jV, jW, jX, jY, nils, rows, jZ, ja, jb, jc, jd, p1, g1, Cpy.e, e1, w1, p2]
    · right
      have p1 : ¬ (i : Int) < (cs.length : Int) := by omega
      refine ⟨_, ?_, ?_, ds, rfl, by omega⟩
      · simp only [Book.e, jA, jB, jC, jD, jE, jF, jG, jH, call1, call2, call3, call4, call5, call6, call7, call8, call13, call15, call16, call17, call19, call21, jI, jJ, jK, jL, jM, jN, jO, jP, jQ, jR, jS, jT, jU, jV, jW, jX, jY, nils, rows, jZ, ja, jb, jc, jd]
        simp only [i_StewBook_ask_1_v2.d1, jA, jB, jC, jD, jE, jF, jG, jH, call1, call2, call3, call4, call5, call6, call7, call8, call13, call15, call16, call17, call19, call21, jI, jJ, jK, jL, jM, jN, jO, jP, jQ, jR, jS, jT, jU, jV, jW, jX, jY, nils, rows, jZ, ja, jb, jc, jd, p1]
      · trivial
  obtain ⟨o, h1, ds, rfl, h2⟩ := L
  refine ⟨ds, ?_, h2⟩
  simp only [Book.e, jA, jB, jC, jD, jE, jF, jG, jH, call1, call2, call3, call4, call5, call6, call7, call8, call13, call15, call16, call17, call19, call21, jI, jJ, jK, jL, jM, jN, jO, jP, jQ, jR, jS, jT, jU, jV, jW, jX, jY, nils, rows, jZ, ja, jb, jc, jd] at h1
  simp only [i_StewBook_ask_1_v2, i_StewBook_ask_1_v2.d3, Book.e, jA, jB, jC, jD, jE, jF, jG, jH, call1, call2, call3, call4, call5, call6, call7, call8, call13, call15, call16, call17, call19, call21, jI, jJ, jK, jL, jM, jN, jO, jP, jQ, jR, jS, jT, jU, jV, jW, jX, jY, nils, rows, jZ, ja, jb, jc, jd]
  rw [h1]
  simp only [jA, jB, jC, jD, jE, jF, jG, jH, call1, call2, call3, call4, call5, call6, call7, call8, call13, call15, call16, call17, call19, call21, jI, jJ, jK, jL, jM, jN, jO, jP, jQ, jR, jS, jT, jU, jV, jW, jX, jY, nils, rows, jZ, ja, jb, jc, jd, i_StewBook_ask_1_v2.d2]
theorem i_ask8_eq (c : Cpy) : i_StewBook_ask_8 c.e = some [.b (c.state == 4)] := rfl
theorem i_ask1v1_ex (cs : List Cpy) (hc : cs.length ≤ 1000) : ∃ ds : List Cpy, i_StewBook_ask_1_v1 [.l (cs.map Cpy.e)] = some [.l (ds.map Cpy.e), .l (cs.map Cpy.e)] ∧ ds.length ≤ cs.length ∧ ((∀ c, c ∈ cs → (c.state == 4) = false) → ds = []) := by
  have L : ∃ o, lim (fun xs => i_StewBook_ask_1_v1.d1 (xs.getD 0 .nil) (xs.getD 1 .nil) (xs.getD 2 .nil) (xs.getD 3 .nil)) [.i (cs.length : Nat), .i 0, .l [], .l (cs.map Cpy.e)] = some o ∧ ∃ ds : List Cpy, o = .brk 0 [.l (ds.map Cpy.e), .l (cs.map Cpy.e)] ∧ ds.length ≤ cs.length ∧ ((∀ c, c ∈ cs → (c.state == 4) = false) → ds = []) := by
    refine lim_exs (fun q : List Cpy × Nat => [.i (cs.length : Nat), .i (q.2 : Nat), .l (q.1.map Cpy.e), .l (cs.map Cpy.e)]) (fun q => cs.length - q.2) (fun q => q.2 ≤ cs.length ∧ q.1.length ≤ q.2 ∧ ((∀ c, c ∈ cs → (c.state == 4) = false) → q.1 = [])) _ ([], 0) ⟨Nat.zero_le _, Nat.zero_le _, fun _ => rfl⟩ ?_
    rintro ⟨ds, i⟩ ⟨hi, hd, hz⟩
    simp only at hi hd hz
    have w1 : w64 ((i : Int) + 1) = ((i + 1 : Nat) : Int) := w64_nat (n := i + 1) (by omega)
    by_cases hlt : i < cs.length
    · left
      have p1 : (i : Int) < (cs.length : Int) := by omega
      have p2 : ds.length + 1 ≤ 4294967296 := by omega
      have g1 : (cs.map Cpy.e).getD i [] = cs[i].e := getD_map_lt Cpy.e hlt []
      have e1 := i_ask8_eq cs[i]
      simp only [Cpy.e] at e1
      cases hv : cs[i].state == 4 <;> rw [hv] at e1
      · exact ⟨(ds, i + 1), by simp only [jA, jB, jC, jD, jE, jF, jG, jH, call1, call2, call3, call4, call5, call6, call7, call8, call13, call15, call16, call17, call19, call21, jI, jJ, jK, jL, jM, jN, jO, jP, jQ, jR, jS, jT, jU, jV, jW, jX, jY, nils, rows, jZ, ja, jb, jc, jd]; simp only [i_StewBook_ask_1_v1.d1, jA, jB, jC, jD, jE, jF, jG, jH, call1, call2, call3, call4, call5, call6, call7, call8, call13, call15, call16, call17, call19, call21, jI, jJ, jK, jL, jM, jN, jO, jP, jQ, jR, jS, jT, jU, jV, jW, jX, jY, nils, rows, jZ, ja, jb, jc, jd, p1, g1, Cpy.e, e1, w1], ⟨hlt, by simp only; omega, hz⟩, by simp only; omega⟩
      · refine ⟨(ds ++ [cs[i]], i + 1), ?_, ⟨hlt, by simp; omega, fun h => ?_⟩, by simp only; omega⟩
        · simp only [jA, jB, jC, jD, jE, jF, jG, jH, call1, call2, call3, call4, call5, call6, call7, call8, call13, call15, call16, call17, call19, call21, jI, jJ, jK, jL, jM, jN, jO, jP, jQ, jR, jS, jT, jU, jV, jW, jX, jY, nils, rows, jZ, ja, jb, jc, jd, List.map_append, List.map_cons, List.map_nil]
          simp only [i_StewBook_ask_1_v1.d1, jA, jB, jC, jD, jE, jF, jG, jH, call1, call2, call3, call4, call5, call6, call7, call8, call13, call15, call16, call17, call19, call21, jI, jJ, jK, jL, jM, jN, jO, jP, jQ, jR, jS, jT, jU, jV, jW, jX, jY, nils, rows, jZ, ja, jb, jc, jd, p1, g1, Cpy.e, e1, w1, p2]
        · have := h _ (List.getElem_mem hlt)
          rw [hv] at this; simp at this
    · right
      have p1 : ¬ (i : Int) < (cs.length : Int) := by omega
      refine ⟨_, ?_, ?_, ds, rfl, by omega, hz⟩
      · simp only [jA, jB, jC, jD, jE, jF, jG, jH, call1, call2, call3, call4, call5, call6, call7, call8, call13, call15, call16, call17, call19, call21, jI, jJ, jK, jL, jM, jN, jO, jP, jQ, jR, jS, jT, jU, jV, jW, jX, jY, nils, rows, jZ, ja, jb, jc, jd]
        simp only [i_StewBook_ask_1_v1.d1, jA, jB, jC, jD, jE, jF, jG, jH, call1, call2, call3, call4, call5, call6, call7, call8, call13, call15, call16, call17, call19, call21, jI, jJ, jK, jL, jM, jN, jO, jP, jQ, jR, jS, jT, jU, jV, jW, jX, jY, nils, rows, jZ, ja, jb, jc, jd, p1]
      · trivial
  obtain ⟨o, h1, ds, rfl, h2, h3⟩ := L
  refine ⟨ds, ?_, h2, h3⟩
  simp only [i_StewBook_ask_1_v1, i_StewBook_ask_1_v1.d3, jA, jB, jC, jD, jE, jF, jG, jH, call1, call2, call3, call4, call5, call6, call7, call8, call13, call15, call16, call17, call19, call21, jI, jJ, jK, jL, jM, jN, jO, jP, jQ, jR, jS, jT, jU, jV, jW, jX, jY, nils, rows, jZ, ja, jb, jc, jd]
  rw [h1]
  simp only [jA, jB, jC, jD, jE, jF, jG, jH, call1, call2, call3, call4, call5, call6, call7, call8, call13, call15, call16, call17, call19, call21, jI, jJ, jK, jL, jM, jN, jO, jP, jQ, jR, jS, jT, jU, jV, jW, jX, jY, nils, rows, jZ, ja, jb, jc, jd, i_StewBook_ask_1_v1.d2]
theorem i_first1_ex (b : Book) (s : Svc) (x y : Cpy) (hb : Bnd b) : ∃ n : Int, i_StewBook_first_1 (x.e ++ y.e ++ [.p [.p s.e], .p [.p b.e]]) = some [.i n] := by
  have e1 := i_drained_eq b x hb
  have e2 := i_drained_eq b y hb
  simp only [Cpy.e] at e1 e2
  have L : ∀ zs : List Int, zs.length ≤ 10 → ∃ o, lim (fun xs => i_StewBook_first_1.d1 (xs.getD 0 .nil) (xs.getD 1 .nil) (xs.getD 2 .nil) (xs.getD 3 .nil) (xs.getD 4 .nil) (xs.getD 5 .nil) (xs.getD 6 .nil) (xs.getD 7 .nil) (xs.getD 8 .nil) (xs.getD 9 .nil) (xs.getD 10 .nil) (xs.getD 11 .nil) (xs.getD 12 .nil) (xs.getD 13 .nil) (xs.getD 14 .nil) (xs.getD 15 .nil) (xs.getD 16 .nil)) (.i (zs.length : Nat) :: .i 0 :: (x.e ++ y.e ++ [.l (zs.map inE)])) = some o ∧ (o = .brk 0 (x.e ++ y.e) ∨ ∃ n : Int, o = .ret [.i n]) := by
    intro zs hz
    refine lim_exs (fun i : Nat => .i (zs.length : Nat) :: .i (i : Nat) :: (x.e ++ y.e ++ [.l (zs.map inE)])) (fun i => zs.length - i) (fun i => i ≤ zs.length) _ 0 (Nat.zero_le _) ?_
    intro i hi
    have w1 : w64 ((i : Int) + 1) = ((i + 1 : Nat) : Int) := w64_nat (n := i + 1) (by omega)
    simp only [Cpy.e, jA, jB, jC, jD, jE, jF, jG, jH, call1, call2, call3, call4, call5, call6, call7, call8, call13, call15, call16, call17, call19, call21, jI, jJ, jK, jL, jM, jN, jO, jP, jQ, jR, jS, jT, jU, jV, jW, jX, jY, nils, rows, jZ, ja, jb, jc, jd]
    by_cases hlt : i < zs.length
    · have p1 : (i : Int) < (zs.length : Int) := by omega
      have g1 : (zs.map inE).getD i [] = inE zs[i] := getD_map_lt inE hlt []
      simp only [i_StewBook_first_1.d1, jA, jB, jC, jD, jE, jF, jG, jH, call1, call2, call3, call4, call5, call6, call7, call8, call13, call15, call16, call17, call19, call21, jI, jJ, jK, jL, jM, jN, jO, jP, jQ, jR, jS, jT, jU, jV, jW, jX, jY, nils, rows, jZ, ja, jb, jc, jd, p1, g1, inE]
      cases zs[i] != 0 <;> simp only [jA, jB, jC, jD, jE, jF, jG, jH, call1, call2, call3, call4, call5, call6, call7, call8, call13, call15, call16, call17, call19, call21, jI, jJ, jK, jL, jM, jN, jO, jP, jQ, jR, jS, jT, jU, jV, jW, jX, jY, nils, rows, jZ, ja, jb, jc, jd]
      · left; exact ⟨i + 1, by rw [w1], hlt, by omega⟩
      · right; exact ⟨_, rfl, trivial, .inr ⟨_, rfl⟩⟩
    · right
      have p1 : ¬ (i : Int) < (zs.length : Int) := by omega
      refine ⟨_, ?_, ?_, .inl rfl⟩
      · simp only [i_StewBook_first_1.d1, jA, jB, jC, jD, jE, jF, jG, jH, call1, call2, call3, call4, call5, call6, call7, call8, call13, call15, call16, call17, call19, call21, jI, jJ, jK, jL, jM, jN, jO, jP, jQ, jR, jS, jT, jU, jV, jW, jX, jY, nils, rows, jZ, ja, jb, jc, jd, p1]
      · trivial
  have key : ∀ d1 d2 d3 : Int, ∃ n : Int, finR (bindBlk 0 (lim (fun xs => i_StewBook_first_1.d1 (xs.getD 0 .nil) (xs.getD 1 .nil) (xs.getD 2 .nil) (xs.getD 3 .nil) (xs.getD 4 .nil) (xs.getD 5 .nil) (xs.getD 6 .nil) (xs.getD 7 .nil) (xs.getD 8 .nil) (xs.getD 9 .nil) (xs.getD 10 .nil) (xs.getD 11 .nil) (xs.getD 12 .nil) (xs.getD 13 .nil) (xs.getD 14 .nil) (xs.getD 15 .nil) (xs.getD 16 .nil)) (.i (([[C.i d1], [C.i d2], [C.i d3]].length : Nat) : Int) :: .i 0 :: (x.e ++ y.e ++ [.l [[C.i d1], [C.i d2], [C.i d3]]]))) (fun xs => i_StewBook_first_1.d2 (xs.getD 0 .nil) (xs.getD 1 .nil) (xs.getD 2 .nil) (xs.getD 3 .nil) (xs.getD 4 .nil) (xs.getD 5 .nil) (xs.getD 6 .nil) (xs.getD 7 .nil) (xs.getD 8 .nil) (xs.getD 9 .nil) (xs.getD 10 .nil) (xs.getD 11 .nil) (xs.getD 12 .nil) (xs.getD 13 .nil))) = some [.i n] := by
    intro d1 d2 d3
    obtain ⟨o, h1, ho⟩ := L [d1, d2, d3] (by simp)
    have h2 : lim (fun xs => i_StewBook_first_1.d1 (xs.getD 0 .nil) (xs.getD 1 .nil) (xs.getD 2 .nil) (xs.getD 3 .nil) (xs.getD 4 .nil) (xs.getD 5 .nil) (xs.getD 6 .nil) (xs.getD 7 .nil) (xs.getD 8 .nil) (xs.getD 9 .nil) (xs.getD 10 .nil) (xs.getD 11 .nil) (xs.getD 12 .nil) (xs.getD 13 .nil) (xs.getD 14 .nil) (xs.getD 15 .nil) (xs.getD 16 .nil)) (.i (([[C.i d1], [C.i d2], [C.i d3]].length : Nat) : Int) :: .i 0 :: (x.e ++ y.e ++ [.l [[C.i d1], [C.i d2], [C.i d3]]])) = some o := h1
    rw [h2]
    rcases ho with rfl | ⟨n, rfl⟩
    · simp only [Cpy.e, jA, jB, jC, jD, jE, jF, jG, jH, call1, call2, call3, call4, call5, call6, call7, call8, call13, call15, call16, call17, call19, call21, jI, jJ, jK, jL, jM, jN, jO, jP, jQ, jR, jS, jT, jU, jV, jW, jX, jY, nils, rows, jZ, ja, jb, jc, jd, i_StewBook_first_1.d2]; exact ⟨_, rfl⟩
    · exact ⟨n, rfl⟩
  simp only [Cpy.e, jA, jB, jC, jD, jE, jF, jG, jH, call1, call2, call3, call4, call5, call6, call7, call8, call13, call15, call16, call17, call19, call21, jI, jJ, jK, jL, jM, jN, jO, jP, jQ, jR, jS, jT, jU, jV, jW, jX, jY, nils, rows, jZ, ja, jb, jc, jd] at key
  simp only [i_StewBook_first_1, i_StewBook_first_1.d3, Cpy.e, jA, jB, jC, jD, jE, jF, jG, jH, call1, call2, call3, call4, call5, call6, call7, call8, call13, call15, call16, call17, call19, call21, jI, jJ, jK, jL, jM, jN, jO, jP, jQ, jR, jS, jT, jU, jV, jW, jX, jY, nils, rows, jZ, ja, jb, jc, jd, C.isP_p, C.P_p, i_one_eq, e1, e2]
  exact key _ _ _
theorem i_minFunc_ex (b : Book) (s : Svc) (cs : List Cpy) (hb : Bnd b) (hc : cs.length ≤ 1000) (h0 : 0 < cs.length) : ∃ c : Cpy, slices_MinFunc [.l (cs.map Cpy.e), .p [.p s.e], .p [.p b.e]] = some c.e := by
  have L : ∃ o, lim (fun xs => slices_MinFunc.d1 (xs.getD 0 .nil) (xs.getD 1 .nil) (xs.getD 2 .nil) (xs.getD 3 .nil) (xs.getD 4 .nil) (xs.getD 5 .nil) (xs.getD 6 .nil) (xs.getD 7 .nil) (xs.getD 8 .nil) (xs.getD 9 .nil) (xs.getD 10 .nil) (xs.getD 11 .nil) (xs.getD 12 .nil) (xs.getD 13 .nil) (xs.getD 14 .nil) (xs.getD 15 .nil) (xs.getD 16 .nil) (xs.getD 17 .nil)) (.l (cs.map Cpy.e) :: .p [.p s.e] :: .p [.p b.e] :: .i 1 :: ([.s (bs #[]), .i 0, .i 0, .i 0, .i 0, .b false, .s (bs #[])] ++ cs[0].e)) = some o ∧ ∃ c : Cpy, o = .brk 0 ([.s (bs #[]), .i 0, .i 0, .i 0, .i 0, .b false, .s (bs #[])] ++ c.e) := by
    refine lim_exs (fun q : Cpy × Nat => .l (cs.map Cpy.e) :: .p [.p s.e] :: .p [.p b.e] :: .i (q.2 : Nat) :: ([.s (bs #[]), .i 0, .i 0, .i 0, .i 0, .b false, .s (bs #[])] ++ q.1.e)) (fun q => cs.length - q.2) (fun q => q.2 ≤ cs.length) _ (cs[0], 1) h0 ?_
    rintro ⟨c, i⟩ hi
    simp only at hi
    have w1 : w64 ((i : Int) + 1) = ((i + 1 : Nat) : Int) := w64_nat (n := i + 1) (by omega)
    by_cases hlt : i < cs.length
    · left
      have p1 : (i : Int) < (cs.length : Int) := by omega
      have g1 : (cs.map Cpy.e).getD i [] = cs[i].e := getD_map_lt Cpy.e hlt []
      obtain ⟨n, e1⟩ := i_first1_ex b s cs[i] c hb
      simp only [Cpy.e, jA, jB, jC, jD, jE, jF, jG, jH, call1, call2, call3, call4, call5, call6, call7, call8, call13, call15, call16, call17, call19, call21, jI, jJ, jK, jL, jM, jN, jO, jP, jQ, jR, jS, jT, jU, jV, jW, jX, jY, nils, rows, jZ, ja, jb, jc, jd] at e1
      by_cases hn : n < 0
      · exact ⟨(cs[i], i + 1), by simp only [Cpy.e, jA, jB, jC, jD, jE, jF, jG, jH, call1, call2, call3, call4, call5, call6, call7, call8, call13, call15, call16, call17, call19, call21, jI, jJ, jK, jL, jM, jN, jO, jP, jQ, jR, jS, jT, jU, jV, jW, jX, jY, nils, rows, jZ, ja, jb, jc, jd]; simp only [slices_MinFunc.d1, jA, jB, jC, jD, jE, jF, jG, jH, call1, call2, call3, call4, call5, call6, call7, call8, call13, call15, call16, call17, call19, call21, jI, jJ, jK, jL, jM, jN, jO, jP, jQ, jR, jS, jT, jU, jV, jW, jX, jY, nils, rows, jZ, ja, jb, jc, jd, p1, g1, Cpy.e, e1, w1, hn], hlt, by simp only; omega⟩
      · exact ⟨(c, i + 1), by simp only [Cpy.e, jA, jB, jC, jD, jE, jF, jG, jH, call1, call2, call3, call4, call5, call6, call7, call8, call13, call15, call16, call17, call19, call21, jI, jJ, jK, jL, jM, jN, jO, jP, jQ, jR, jS, jT, jU, jV, jW, jX, jY, nils, rows, jZ, ja, jb, jc, jd]; simp only [slices_MinFunc.d1, jA, jB, jC, jD, jE, jF, jG, jH, call1, call2, call3, call4, call5, call6, call7, call8, call13, call15, call16, call17, call19, call21, jI, jJ, jK, jL, jM, jN, jO, jP, jQ, jR, jS, jT, jU, jV, jW, jX, jY, nils, rows, jZ, ja, jb, jc, jd, p1, g1, Cpy.e, e1, w1, hn], hlt, by simp only; omega⟩
    · right
      have p1 : ¬ (i : Int) < (cs.length : Int) := by omega
      refine ⟨_, ?_, ?_, c, rfl⟩
      · simp only [Cpy.e, jA, jB, jC, jD, jE, jF, jG, jH, call1, call2, call3, call4, call5, call6, call7, call8, call13, call15, call16, call17, call19, call21, jI, jJ, jK, jL, jM, jN, jO, jP, jQ, jR, jS, jT, jU, jV, jW, jX, jY, nils, rows, jZ, ja, jb, jc, jd]
        simp only [slices_MinFunc.d1, jA, jB, jC, jD, jE, jF, jG, jH, call1, call2, call3, call4, call5, call6, call7, call8, call13, call15, call16, call17, call19, call21, jI, jJ, jK, jL, jM, jN, jO, jP, jQ, jR, jS, jT, jU, jV, jW, jX, jY, nils, rows, jZ, ja, jb, jc, jd, p1]
      · trivial
  obtain ⟨o, h1, c, rfl⟩ := L
  refine ⟨c, ?_⟩
  have p1 : ¬ (cs.length : Int) < 1 := by omega
  have p2 : (0 : Int) < (cs.length : Int) := by omega
  have g1 : (cs.map Cpy.e).getD 0 [] = cs[0].e := getD_map_lt Cpy.e h0 []
  simp only [Cpy.e, jA, jB, jC, jD, jE, jF, jG, jH, call1, call2, call3, call4, call5, call6, call7, call8, call13, call15, call16, call17, call19, call21, jI, jJ, jK, jL, jM, jN, jO, jP, jQ, jR, jS, jT, jU, jV, jW, jX, jY, nils, rows, jZ, ja, jb, jc, jd] at h1
  simp only [slices_MinFunc, slices_MinFunc.d3, jA, jB, jC, jD, jE, jF, jG, jH, call1, call2, call3, call4, call5, call6, call7, call8, call13, call15, call16, call17, call19, call21, jI, jJ, jK, jL, jM, jN, jO, jP, jQ, jR, jS, jT, jU, jV, jW, jX, jY, nils, rows, jZ, ja, jb, jc, jd, p1, p2, g1, Cpy.e]
  have e1 : w64 1 = 1 := w64_1
  rw [h1]
  simp only [jA, jB, jC, jD, jE, jF, jG, jH, call1, call2, call3, call4, call5, call6, call7, call8, call13, call15, call16, call17, call19, call21, jI, jJ, jK, jL, jM, jN, jO, jP, jQ, jR, jS, jT, jU, jV, jW, jX, jY, nils, rows, jZ, ja, jb, jc, jd, slices_MinFunc.d2]
theorem i_first_ex (b : Book) (s : Svc) (cs : List Cpy) (hb : Bnd b) (hc : cs.length ≤ 1000) (h0 : 0 < cs.length) : ∃ c : Cpy, i_StewBook_first [.p b.e, .p s.e, .l (cs.map Cpy.e)] = some c.e := by
  obtain ⟨c, e1⟩ := i_minFunc_ex b s cs hb hc h0
  refine ⟨c, ?_⟩
  simp only [Cpy.e] at e1 ⊢
  simp only [i_StewBook_first, i_StewBook_first.d1, jA, jB, jC, jD, jE, jF, jG, jH, call1, call2, call3, call4, call5, call6, call7, call8, call13, call15, call16, call17, call19, call21, jI, jJ, jK, jL, jM, jN, jO, jP, jQ, jR, jS, jT, jU, jV, jW, jX, jY, nils, rows, jZ, ja, jb, jc, jd]
  have e2 : slices_MinFunc [.l (cs.map fun c => [C.s c.svc, .i c.num, .i c.ver, .i c.image, .i c.state, .b c.ending, .s c.berth]), .p [.p s.e], .p [.p b.e]] = _ := e1
  simp only [call7, e1, jA, jB, jC, jD, jE, jF, jG, jH, call1, call2, call3, call4, call5, call6, call7, call8, call13, call15, call16, call17, call19, call21, jI, jJ, jK, jL, jM, jN, jO, jP, jQ, jR, jS, jT, jU, jV, jW, jX, jY, nils, rows, jZ, ja, jb, jc, jd]
theorem i_ask5_ex (b : Book) (s : Svc) (a : Act) (cs : List Cpy) (hb : Bnd b) (hc : cs.length ≤ 1000) : ∃ (v : Bool) (en : List (Int × Int)), i_StewBook_ask_5 (.l (cs.map Cpy.e) :: (A7 a ++ [.p s.e, .l []] ++ b.e)) = some (A7 a ++ [.b v] ++ A7 a ++ [.p s.e] ++ b.e ++ [.l (en.map enE)]) ∧ en.length ≤ 1 := by
  simp only [i_StewBook_ask_5, i_StewBook_ask_5.d1, A7, Book.e, jA, jB, jC, jD, jE, jF, jG, jH, call1, call2, call3, call4, call5, call6, call7, call8, call13, call15, call16, call17, call19, call21, jI, jJ, jK, jL, jM, jN, jO, jP, jQ, jR, jS, jT, jU, jV, jW, jX, jY, nils, rows, jZ, ja, jb, jc, jd]
  cases h0 : ((cs.length : Int) == 0)
  · have hp : 0 < cs.length := by
      rcases Nat.eq_zero_or_pos cs.length with q | q
      · rw [q] at h0; simp at h0
      · exact q
    obtain ⟨c, e1⟩ := i_first_ex b s cs hb hc hp
    have e2 := i_ask3v_eq a [c] (by simp)
    simp only [Book.e, Cpy.e, A7, jA, jB, jC, jD, jE, jF, jG, jH, call1, call2, call3, call4, call5, call6, call7, call8, call13, call15, call16, call17, call19, call21, jI, jJ, jK, jL, jM, jN, jO, jP, jQ, jR, jS, jT, jU, jV, jW, jX, jY, nils, rows, jZ, ja, jb, jc, jd, List.map_cons, List.map_nil] at e1 e2
    simp only [jA, jB, jC, jD, jE, jF, jG, jH, call1, call2, call3, call4, call5, call6, call7, call8, call13, call15, call16, call17, call19, call21, jI, jJ, jK, jL, jM, jN, jO, jP, jQ, jR, jS, jT, jU, jV, jW, jX, jY, nils, rows, jZ, ja, jb, jc, jd, e1, e2]
    exact ⟨_, [cEn c], rfl, by simp⟩
  · exact ⟨false, [], rfl, by simp⟩
end Go.Ev
namespace Go.Ev
def pOn (b : Book) (s : Svc) (c : Cpy) : Bool := pLive s c && drn b c
def L7 : List C := [.s (bs #[]), .i 0, .i 0, .i 0, .i 0, .b false, .b false]
def askS (k : Int) (b : Book) (s : Svc) (on : Int) (lv : List Cpy) (mid : List C) : List C := .i k :: .i on :: (mid ++ b.e ++ [.p s.e] ++ L7 ++ [.s s.name, .i s.ver, .i 0, .i 0, .i 0, .b false, .b false] ++ CountE b s b.cpys.length ++ [.l [], .l [], .l (lv.map Cpy.e)])
theorem ask_loop (k : Int) (b : Book) (s : Svc) (hb : Bnd b) : ∃ o, lim (fun xs => i_StewBook_ask.d2 (xs.getD 0 .nil) (xs.getD 1 .nil) (xs.getD 2 .nil) (xs.getD 3 .nil) (xs.getD 4 .nil) (xs.getD 5 .nil) (xs.getD 6 .nil) (xs.getD 7 .nil) (xs.getD 8 .nil) (xs.getD 9 .nil) (xs.getD 10 .nil) (xs.getD 11 .nil) (xs.getD 12 .nil) (xs.getD 13 .nil) (xs.getD 14 .nil) (xs.getD 15 .nil) (xs.getD 16 .nil) (xs.getD 17 .nil) (xs.getD 18 .nil) (xs.getD 19 .nil) (xs.getD 20 .nil) (xs.getD 21 .nil) (xs.getD 22 .nil) (xs.getD 23 .nil) (xs.getD 24 .nil) (xs.getD 25 .nil) (xs.getD 26 .nil) (xs.getD 27 .nil) (xs.getD 28 .nil) (xs.getD 29 .nil) (xs.getD 30 .nil) (xs.getD 31 .nil)) (askS k b s 0 [] [.l (b.cpys.map Cpy.e), .i (b.cpys.length : Nat), .i 0]) = some o ∧ o = .brk 0 (askS k b s (cnt b (pOn b s)) (b.cpys.filter (pLive s)) []) := by
  have hc := hb.c
  refine lim_exs (fun i : Nat => askS k b s (cn (pOn b s) b.cpys i) ((b.cpys.take i).filter (pLive s)) [.l (b.cpys.map Cpy.e), .i (b.cpys.length : Nat), .i (i : Nat)]) (fun i => b.cpys.length - i) (fun i => i ≤ b.cpys.length) _ 0 (Nat.zero_le _) ?_
  intro i hi
  have w1 : w64 ((i : Int) + 1) = ((i + 1 : Nat) : Int) := w64_nat (n := i + 1) (by omega)
  have hl2 := List.length_filter_le (pLive s) (b.cpys.take i)
  have hl3 := List.length_take_le i b.cpys
  by_cases hlt : i < b.cpys.length
  · left
    refine ⟨i + 1, ?_, hlt, by omega⟩
    have p1 : (i : Int) < (b.cpys.length : Int) := by omega
    have p2 : ((b.cpys.take i).filter (pLive s)).length + 1 ≤ 4294967296 := by omega
    have g1 : (b.cpys.map Cpy.e).getD i [] = b.cpys[i].e := getD_map_lt Cpy.e hlt []
    have st := cn_succ (pOn b s) b.cpys hlt (by omega)
    have lc := cn_le (pOn b s) b.cpys i
    have e1 := i_drained_eq b b.cpys[i] hb
    have tk : b.cpys.take (i + 1) = b.cpys.take i ++ [b.cpys[i]] := List.take_succ_eq_append_getElem hlt
    have no : pLive s b.cpys[i] = false → (b.cpys.take (i + 1)).filter (pLive s) = (b.cpys.take i).filter (pLive s) := by
      intro h
      rw [tk, List.filter_append, List.filter_cons_of_neg (by simp [h]), List.filter_nil, List.append_nil]
    have yes : pLive s b.cpys[i] = true → (b.cpys.take (i + 1)).filter (pLive s) = (b.cpys.take i).filter (pLive s) ++ [b.cpys[i]] := by
      intro h
      rw [tk, List.filter_append, List.filter_cons_of_pos h, List.filter_nil]
    have w0 : w64 (cn (pOn b s) b.cpys i) = cn (pOn b s) b.cpys i := w64_of (by omega) (by omega)
    generalize (b.cpys.take i).filter (pLive s) = lv at *
    generalize (b.cpys.take (i + 1)).filter (pLive s) = lv' at *
    generalize cn (pOn b s) b.cpys i = A at *
    generalize cn (pOn b s) b.cpys (i + 1) = A' at *
    simp only [pOn, pLive, mine] at st no yes
    simp only [Book.e, Cpy.e, jA, jB, jC, jD, jE, jF, jG, jH, call1, call2, call3, call4, call5, call6, call7, call8, call13, call15, call16, call17, call19, call21, jI, jJ, jK, jL, jM, jN, jO, jP, jQ, jR, jS, jT, jU, jV, jW, jX, jY, nils, rows, jZ, ja, jb, jc, jd] at e1
    simp only [askS, L7, CountE, Book.e, jA, jB, jC, jD, jE, jF, jG, jH, call1, call2, call3, call4, call5, call6, call7, call8, call13, call15, call16, call17, call19, call21, jI, jJ, jK, jL, jM, jN, jO, jP, jQ, jR, jS, jT, jU, jV, jW, jX, jY, nils, rows, jZ, ja, jb, jc, jd]
    simp only [i_StewBook_ask.d2, jA, jB, jC, jD, jE, jF, jG, jH, call1, call2, call3, call4, call5, call6, call7, call8, call13, call15, call16, call17, call19, call21, jI, jJ, jK, jL, jM, jN, jO, jP, jQ, jR, jS, jT, jU, jV, jW, jX, jY, nils, rows, jZ, ja, jb, jc, jd, p1, g1, C.isP_p, C.P_p, Svc.e, Cpy.e]
    cases h1 : (b.cpys[i].svc.toList == s.name.toList) <;> rw [h1] at st no yes <;> simp only [jA, jB, jC, jD, jE, jF, jG, jH, call1, call2, call3, call4, call5, call6, call7, call8, call13, call15, call16, call17, call19, call21, jI, jJ, jK, jL, jM, jN, jO, jP, jQ, jR, jS, jT, jU, jV, jW, jX, jY, nils, rows, jZ, ja, jb, jc, jd, Bool.true_and, Bool.false_and, i_StewBook_ask.d1, w1] at st no yes ⊢
    · rw [st, no trivial]
    · cases h2 : b.cpys[i].ending <;> rw [h2] at st no yes e1 <;> simp only [jA, jB, jC, jD, jE, jF, jG, jH, call1, call2, call3, call4, call5, call6, call7, call8, call13, call15, call16, call17, call19, call21, jI, jJ, jK, jL, jM, jN, jO, jP, jQ, jR, jS, jT, jU, jV, jW, jX, jY, nils, rows, jZ, ja, jb, jc, jd, Bool.true_and, Bool.false_and, e1, i_one_eq, p2] at st no yes ⊢
      · rw [st, yes trivial]
        cases h3 : drn b b.cpys[i] <;> simp only [b2i, jA, jB, jC, jD, jE, jF, jG, jH, call1, call2, call3, call4, call5, call6, call7, call8, call13, call15, call16, call17, call19, call21, jI, jJ, jK, jL, jM, jN, jO, jP, jQ, jR, jS, jT, jU, jV, jW, jX, jY, nils, rows, jZ, ja, jb, jc, jd, Int.add_zero, w0, List.map_append, List.map_cons, List.map_nil, Cpy.e, h2]
      · rw [st, no trivial]
  · right
    have : i = b.cpys.length := by omega
    subst this
    have p1 : ¬ (b.cpys.length : Int) < (b.cpys.length : Int) := by omega
    refine ⟨_, ?_, ?_, rfl⟩
    · rw [List.take_length, cn_all]
      simp only [askS, L7, CountE, Book.e, jA, jB, jC, jD, jE, jF, jG, jH, call1, call2, call3, call4, call5, call6, call7, call8, call13, call15, call16, call17, call19, call21, jI, jJ, jK, jL, jM, jN, jO, jP, jQ, jR, jS, jT, jU, jV, jW, jX, jY, nils, rows, jZ, ja, jb, jc, jd, cnt]
      simp only [i_StewBook_ask.d2, jA, jB, jC, jD, jE, jF, jG, jH, call1, call2, call3, call4, call5, call6, call7, call8, call13, call15, call16, call17, call19, call21, jI, jJ, jK, jL, jM, jN, jO, jP, jQ, jR, jS, jT, jU, jV, jW, jX, jY, nils, rows, jZ, ja, jb, jc, jd, p1]
    · trivial
end Go.Ev
