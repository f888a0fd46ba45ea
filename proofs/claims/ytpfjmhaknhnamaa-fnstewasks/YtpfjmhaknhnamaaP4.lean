/- Proved here: the law FnStewAsks of the given program answers true at every input, and leaves the input as it was; no condition. This text: lemmas on the way (an evaluator of the program's code, sound once for all; the functions it prints; plain proofs on these). -/
import Derived.Test.YtpfjmhaknhnamaaP3
set_option linter.all false
set_option autoImplicit false
set_option maxRecDepth 8000
namespace Go.Ev
theorem s_l22Some_ex (b : Book) (s : Svc) (which : Int) (hb : Bnd b) : ∃ ix : List Nat, s_l22Some (b.e ++ s.e ++ [.i which]) = some [.l (ix.map ixE)] ∧ ix.length ≤ 200 ∧ ∀ i, i ∈ ix → i < b.cpys.length := by
  have hc := hb.c
  obtain ⟨lv, e0, hlv, hlm⟩ := s_l22Live_ex b s.name hb
  have L : ∃ o, lim (ap21 s_l22Some.d2)
      (.i which :: .i 0 :: (b.e ++ s.e ++ [.l [], .l (lv.map ixE)])) = some o ∧ ∃ ix : List Nat, o = .brk 0 [.l (ix.map ixE)] ∧ ix.length ≤ lv.length ∧ ∀ i, i ∈ ix → i < b.cpys.length := by
    refine lim_exs (fun a : List Nat × Nat => .i which :: .i (a.2 : Nat) :: (b.e ++ s.e ++ [.l (a.1.map ixE), .l (lv.map ixE)])) (fun a => lv.length - a.2) (fun a => a.2 ≤ lv.length ∧ a.1.length ≤ a.2 ∧ ∀ i, i ∈ a.1 → i < b.cpys.length) _ ([], 0) ⟨Nat.zero_le _, Nat.zero_le _, by simp⟩ ?_
    rintro ⟨ix, i⟩ ⟨hi, hx, hm⟩
    simp only at hi hx hm
    have w1 : w64 ((i : Int) + 1) = (i : Int) + 1 := w64_of (by omega) (by omega)
    by_cases hlt : i < lv.length
    · left
      have hk := hlm _ (List.getElem_mem hlt)
      generalize hkk : lv[i] = k at hk
      have g1 : (lv.map ixE).getD i [] = ixE k := by rw [getD_map_lt ixE hlt, hkk]
      have g2 : (b.cpys.map Cpy.e).getD k [] = b.cpys[k].e := getD_map_lt Cpy.e hk []
      obtain ⟨v, e1⟩ := s_l22Drains_ex b b.cpys[k] hb
      simp only [Book.e, Cpy.e, jA, jB] at e1
      have p1 : (i : Int) < (lv.length : Int) := by omega
      have p2 : (k : Int) < (b.cpys.length : Int) := by omega
      have p3 : ix.length + 1 ≤ 4294967296 := by omega
      have step1 : ∀ u : Bool, ∃ jx : List Nat, s_l22Some.d1 (.i which) (.i (i : Nat)) (.b u) (.i b.now) (.l (b.svcs.map Svc.e)) (.l (b.cpys.map Cpy.e)) (.l (b.brts.map Brt.e)) (.s s.name) (.i s.ver) (.b s.gone) (.i s.image) (.i s.want) (.i s.down) (.i s.over) (.i s.next) (.i s.per) (.i s.least) (.i s.most) (.i s.load) (.i s.cool) (.l (ix.map ixE)) (.l (lv.map ixE))
          = some (.again (.i which :: .i ((i + 1 : Nat) : Int) :: (b.e ++ s.e ++ [.l (jx.map ixE), .l (lv.map ixE)]))) ∧ jx.length ≤ i + 1 ∧ ∀ i, i ∈ jx → i < b.cpys.length := by
        intro u
        cases u with
        | false => exact ⟨ix, by simp only [s_l22Some.d1, C.B_b, jS, C.I_i, w1, C.L_l]; rfl, by omega, hm⟩
        | true =>
          refine ⟨ix ++ [k], ?_, by simp; omega, fun j hj => ?_⟩
          · simp only [s_l22Some.d1, C.B_b, jR, C.I_i, w1, C.L_l, jY, g1, ixE, apL, jC, jW, rows, List.length_singleton, p1, p3, jX, decide_true, List.map_append, List.map_cons, List.map_nil]
            rfl
          · rcases List.mem_append.1 hj with h | h
            · exact hm j h
            · simp at h; subst h; exact hk
      have step : ∃ jx : List Nat, s_l22Some.d2 (.i which) (.i (i : Nat)) (.i b.now) (.l (b.svcs.map Svc.e)) (.l (b.cpys.map Cpy.e)) (.l (b.brts.map Brt.e)) (.s s.name) (.i s.ver) (.b s.gone) (.i s.image) (.i s.want) (.i s.down) (.i s.over) (.i s.next) (.i s.per) (.i s.least) (.i s.most) (.i s.load) (.i s.cool) (.l (ix.map ixE)) (.l (lv.map ixE))
          = some (.again (.i which :: .i ((i + 1 : Nat) : Int) :: (b.e ++ s.e ++ [.l (jx.map ixE), .l (lv.map ixE)]))) ∧ jx.length ≤ i + 1 ∧ ∀ i, i ∈ jx → i < b.cpys.length := by
        simp only [s_l22Some.d2, C.I_i, C.L_l, jY, g1, jW, p1, decide_true, jR, jX, ixE, apL, jC, jD, p2, g2, Cpy.e, e1, call1, jI, C.B_b]
        cases which == 2 <;> cases which == 6 <;> cases which == 3 <;> cases (b.cpys[k].image != s.image) <;> cases v
        all_goals simp only [jZ, ja, jR, jS, jJ, apL, jC, jD]
        all_goals exact step1 _
      obtain ⟨jx, h1, h2, h3⟩ := step
      exact ⟨(jx, i + 1), h1, ⟨Nat.succ_le_of_lt hlt, h2, h3⟩, by simp only; omega⟩
    · right
      have : i = lv.length := by omega
      subst this
      exact ⟨.brk 0 [.l (ix.map ixE)], by simp [s_l22Some.d2, Book.e, Svc.e], trivial, ix, rfl, hx, hm⟩
  obtain ⟨o, h1, ix, rfl, h2, h3⟩ := L
  refine ⟨ix, ?_, by omega, h3⟩
  simp only [Book.e, Svc.e, jA, jB] at h1 e0
  simp only [s_l22Some, s_l22Some.d4, Book.e, Svc.e, jA, jB, apL, jC, jD, e0, call1, jI, C.L_l, nils]
  erw [h1]
  rfl
theorem s_l22Ends_ex (b : Book) (ix : List Nat) (hb : Bnd b) (hl : ix.length ≤ 200) (hxm : ∀ i, i ∈ ix → i < b.cpys.length) : ∃ en : List (Int × Int), s_l22Ends (b.e ++ [.l (ix.map ixE)]) = some [.l (en.map enE)] ∧ en.length ≤ 200 := by
  have L : ∃ o, lim (ap7 s_l22Ends.d1)
      (.l (ix.map ixE) :: .i 0 :: (b.e ++ [.l []])) = some o ∧ ∃ en : List (Int × Int), o = .brk 0 [.l (en.map enE)] ∧ en.length ≤ ix.length := by
    refine lim_exs (fun a : List (Int × Int) × Nat => .l (ix.map ixE) :: .i (a.2 : Nat) :: (b.e ++ [.l (a.1.map enE)])) (fun a => ix.length - a.2) (fun a => a.2 ≤ ix.length ∧ a.1.length ≤ a.2) _ ([], 0) ⟨Nat.zero_le _, Nat.zero_le _⟩ ?_
    rintro ⟨en, i⟩ ⟨hi, hx⟩
    simp only at hi hx
    have w1 : w64 ((i : Int) + 1) = (i : Int) + 1 := w64_of (by omega) (by omega)
    by_cases hlt : i < ix.length
    · left
      have hk := hxm _ (List.getElem_mem hlt)
      generalize hkk : ix[i] = k at hk
      have g1 : (ix.map ixE).getD i [] = ixE k := by rw [getD_map_lt ixE hlt, hkk]
      have g2 : (b.cpys.map Cpy.e).getD k [] = b.cpys[k].e := getD_map_lt Cpy.e hk []
      have p1 : (i : Int) < (ix.length : Int) := by omega
      have p2 : (k : Int) < (b.cpys.length : Int) := by omega
      have p3 : en.length + 1 ≤ 4294967296 := by omega
      refine ⟨(en ++ [(b.cpys[k].num, b.cpys[k].ver)], i + 1), ?_, ⟨Nat.succ_le_of_lt hlt, by simpa using hx⟩, by simp only; omega⟩
      show s_l22Ends.d1 (.l (ix.map ixE)) (.i (i : Nat)) (.i b.now) (.l (b.svcs.map Svc.e)) (.l (b.cpys.map Cpy.e)) (.l (b.brts.map Brt.e)) (.l (en.map enE)) = _
      simp only [s_l22Ends.d1, C.I_i, C.L_l, jY, g1, jW, p1, decide_true, jR, jX, ixE, apL, jC, jD, p2, g2, Cpy.e, rows, List.length_singleton, p3, w1, List.map_append, List.map_cons, List.map_nil]
      rfl
    · right
      have : i = ix.length := by omega
      subst this
      exact ⟨.brk 0 [.l (en.map enE)], by simp [s_l22Ends.d1, Book.e], trivial, en, rfl, hx⟩
  obtain ⟨o, h1, en, rfl, h2⟩ := L
  refine ⟨en, ?_, by omega⟩
  simp only [Book.e, jA, jB] at h1
  simp only [s_l22Ends, s_l22Ends.d3, Book.e, jA, jB, apL, jC, jD, nils]
  erw [h1]
  rfl
theorem s_l19Count_ex (b : Book) (nm : Str) (hb : Bnd b) : ∃ n1 n2 n3 n4 n5 : Int, s_l19Count (b.e ++ [.s nm]) = some [.i n1, .i n2, .i n3, .i n4, .i n5] := by
  have hc := hb.c
  have e0 := s_l18Service_eq b nm hb.small.s
  have L : ∃ o, lim (ap17 s_l19Count.d4)
      (.s nm :: .i (svcIx b.svcs nm) :: .i 0 :: (b.e ++ [.i 0, .i 0, .i 0, .i 0, .i 0, .i 0, .i 0, .i 0, .i 0, .i 0])) = some o ∧ ∃ n1 n2 n3 n4 n5 : Int, o = .brk 0 [.i 0, .i 0, .i 0, .i 0, .i 0, .i n1, .i n2, .i n3, .i n4, .i n5] := by
    refine lim_exs (fun a : (Int × Int × Int × Int × Int) × Nat => .s nm :: .i (svcIx b.svcs nm) :: .i (a.2 : Nat) :: (b.e ++ [.i 0, .i 0, .i 0, .i 0, .i 0, .i a.1.1, .i a.1.2.1, .i a.1.2.2.1, .i a.1.2.2.2.1, .i a.1.2.2.2.2])) (fun a => b.cpys.length - a.2) (fun a => a.2 ≤ b.cpys.length) _ ((0, 0, 0, 0, 0), 0) (Nat.zero_le _) ?_
    rintro ⟨⟨n1, n2, n3, n4, n5⟩, i⟩ hi
    simp only at hi
    have w1 : w64 ((i : Int) + 1) = (i : Int) + 1 := w64_of (by omega) (by omega)
    have stop : ∀ z : Int, (¬ (i < b.cpys.length) ∨ ¬ z ≥ 0) → z = svcIx b.svcs nm → s_l19Count.d4 (.s nm) (.i z) (.i (i : Nat)) (.i b.now) (.l (b.svcs.map Svc.e)) (.l (b.cpys.map Cpy.e)) (.l (b.brts.map Brt.e)) (.i 0) (.i 0) (.i 0) (.i 0) (.i 0) (.i n1) (.i n2) (.i n3) (.i n4) (.i n5) = some (.brk 0 [.i 0, .i 0, .i 0, .i 0, .i 0, .i n1, .i n2, .i n3, .i n4, .i n5]) := by
      intro z hz _
      simp only [s_l19Count.d4, C.I_i, C.L_l, jW]
      rcases hz with h | h
      · have : ¬ (i : Int) < (b.cpys.length : Int) := by omega
        simp only [this, decide_false, jS]
      · simp only [h, decide_false, jS]
        cases decide ((i : Int) < (b.cpys.length : Int)) <;> rfl
    rcases ix_cases (fun s : Svc => sEq s.name nm) b.svcs with h | ⟨j, hj, h, _⟩
    · right
      exact ⟨_, stop _ (.inr (by simp [svcIx, h])) rfl, trivial, n1, n2, n3, n4, n5, rfl⟩
    · by_cases hlt : i < b.cpys.length
      · left
        have hz : svcIx b.svcs nm = (j : Int) := h
        have p1 : (i : Int) < (b.cpys.length : Int) := by omega
        have p2 : (j : Int) < (b.svcs.length : Int) := by omega
        have p3 : (j : Int) ≥ 0 := by omega
        have g1 : (b.cpys.map Cpy.e).getD i [] = b.cpys[i].e := getD_map_lt Cpy.e hlt []
        have g2 : (b.svcs.map Svc.e).getD j [] = b.svcs[j].e := getD_map_lt Svc.e hj []
        have step : ∃ m1 m2 m3 m4 m5 : Int, s_l19Count.d4 (.s nm) (.i (j : Nat)) (.i (i : Nat)) (.i b.now) (.l (b.svcs.map Svc.e)) (.l (b.cpys.map Cpy.e)) (.l (b.brts.map Brt.e)) (.i 0) (.i 0) (.i 0) (.i 0) (.i 0) (.i n1) (.i n2) (.i n3) (.i n4) (.i n5)
            = some (.again (.s nm :: .i (j : Nat) :: .i ((i + 1 : Nat) : Int) :: (b.e ++ [.i 0, .i 0, .i 0, .i 0, .i 0, .i m1, .i m2, .i m3, .i m4, .i m5]))) := by
          simp only [s_l19Count.d4, C.I_i, C.L_l, jY, jW, p1, p3, decide_true, jR, jX, g1, Cpy.e, apL, jC, jD, C.S_s, C.B_b]
          cases !(b.cpys[i].svc.toList == nm.toList) <;> simp only [jR, jS, bindBlk_self, apL, jC, jD, s_l19Count.d3, C.I_i, w1]
          · cases b.cpys[i].ending <;> simp only [jR, jS, bindBlk_self, apL, jC, jD, s_l19Count.d3, C.I_i, w1]
            · cases (b.cpys[i].state == 3) <;> simp only [jR, jS, jJ, apL, jC, jD, s_l19Count.d2, C.I_i, C.L_l]
              all_goals cases (b.cpys[i].state == 4) <;> simp only [jR, jS, jJ, apL, jC, jD, s_l19Count.d1, C.I_i, C.L_l, jY, g2, Svc.e, jW, p2, jX, decide_true]
              all_goals cases (b.cpys[i].image != b.svcs[j].image) <;> simp only [jR, jS, bindBlk_self, apL, jC, jD, s_l19Count.d3, C.I_i, w1]
              all_goals exact ⟨_, _, _, _, _, rfl⟩
            · exact ⟨_, _, _, _, _, rfl⟩
          · exact ⟨_, _, _, _, _, rfl⟩
        obtain ⟨m1, m2, m3, m4, m5, hs⟩ := step
        refine ⟨((m1, m2, m3, m4, m5), i + 1), ?_, Nat.succ_le_of_lt hlt, by simp only; omega⟩
        rw [hz]
        exact hs
      · right
        exact ⟨_, stop _ (.inl hlt) rfl, trivial, n1, n2, n3, n4, n5, rfl⟩
  obtain ⟨o, h1, n1, n2, n3, n4, n5, rfl⟩ := L
  refine ⟨n1, n2, n3, n4, n5, ?_⟩
  simp only [Book.e, jA, jB] at h1 e0
  simp only [s_l19Count, s_l19Count.d6, Book.e, jA, jB, apL, jC, jD, e0, call1, jI]
  erw [h1]
  rfl
end Go.Ev
namespace Go.Ev
theorem bif_pos {α : Type} {p : Prop} [Decidable p] (h : p) (x y : α) : (bif decide p then x else y) = x := by rw [decide_eq_true h]; rfl
theorem bif_neg {α : Type} {p : Prop} [Decidable p] (h : ¬p) (x y : α) : (bif decide p then x else y) = y := by rw [decide_eq_false h]; rfl
structure Act where
  svc : Str
  seen : Int
  create : Int
  want : Int
  cool : Int
  scale : Bool
  ends : List (Int × Int)
  drop : Bool
def Act.e (a : Act) : List C := [.s a.svc, .i a.seen, .i a.create, .i a.want, .i a.cool, .b a.scale, .l (a.ends.map enE), .b a.drop]
theorem s_l20MayEnd_ex (b : Book) (nm : Str) (n : Int) (hb : Bnd b) (hs : cpyIx b.cpys nm n = -1 ∨ (svcOf b nm).isSome) : ∃ v : Bool, s_l20MayEnd (b.e ++ [.s nm, .i n]) = some [.b v] ∧ (v = true → 0 ≤ cpyIx b.cpys nm n) := by
  have hc := hb.c
  have e0 := s_l18Copy_eq b nm n hb.small.c
  have e1 := s_l18Service_eq b nm hb.small.s
  obtain ⟨n1, n2, n3, n4, n5, e2⟩ := s_l19Count_ex b nm hb
  simp only [Book.e, Svc.e, Cpy.e, Brt.e, Act.e, Wld.e, Ev1.e, BB, nils, rows] at e0 e1 e2
  simp only [s_l20MayEnd, s_l20MayEnd.d1, Book.e, Svc.e, Cpy.e, Brt.e, Act.e, Wld.e, Ev1.e, BB, nils, rows, e0]
  rcases ix_cases (fun c : Cpy => sEq c.svc nm && c.num == n) b.cpys with h | ⟨i, hi, h, _⟩
  · have h' : cpyIx b.cpys nm n = -1 := h
    rw [h']
    exact ⟨false, rfl, by simp⟩
  · have h' : cpyIx b.cpys nm n = (i : Int) := h
    have hs' := hs.resolve_left (by omega)
    rcases findIx_spec (fun s : Svc => sEq s.name nm) b.svcs 0 with ⟨q1, q2⟩ | ⟨j, hj, q1, _, _⟩
    · rw [svcOf, q1] at hs'; simp at hs'
    · have q1' : svcIx b.svcs nm = (j : Int) := by rw [svcIx, q1]; omega
      rw [h']
      simp (disch := omega) only [bif_pos, bif_neg, BB, nils, rows, e1, e2, q1', getD_map_lt Cpy.e, getD_map_lt Svc.e, Book.e, Svc.e, Cpy.e, Brt.e, Act.e, Wld.e, Ev1.e]
      have p1 : decide ((i : Int) < 0) = false := by simp
      simp (disch := omega) only [p1, BB, nils, rows, bif_pos, bif_neg]
      repeat' (rw [Bool.cond_eq_ite]; split)
      all_goals exact ⟨_, rfl, fun _ => by first | trivial | omega⟩
def Own (b : Book) : Prop := ∀ c, c ∈ b.cpys → (svcOf b c.svc).isSome
theorem own_ix {b : Book} (h : Own b) (nm : Str) (n : Int) : cpyIx b.cpys nm n = -1 ∨ (svcOf b nm).isSome := by
  rcases ix_cases (fun c : Cpy => sEq c.svc nm && c.num == n) b.cpys with q | ⟨i, hi, q, hp⟩
  · exact .inl q
  · right
    have := h _ (List.getElem_mem hi)
    simp only [Bool.and_eq_true, sEq, beq_iff_eq] at hp
    simp only [svcOf, sEq] at this ⊢
    rw [hp.1] at this
    exact this
theorem chainOk_mem {α : Type} {ok : α → Bool} {lt : α → α → Bool} {l : List α} (h : chainOk ok lt l = true) : ∀ x, x ∈ l → ok x = true := by
  intro x hx
  obtain ⟨i, hi, rfl⟩ := List.getElem_of_mem hx
  simp only [chainOk, List.all_eq_true] at h
  have := h (l[i], i) (List.mem_zipIdx_iff_getElem?.2 (by simp [hi]))
  simp only [Bool.and_eq_true] at this
  exact this.1
theorem validB_own {b : Book} (h : validB b = true) : Own b := by
  intro c hc
  simp only [validB, Bool.and_eq_true] at h
  have := chainOk_mem h.2 c hc
  simp only [cpyOk] at this
  split at this
  · simp at this
  · rename_i s hs; rw [hs]; rfl
theorem s_l22May_ex (b : Book) (ix : List Nat) (hb : Bnd b) (ho : Own b) (hl : ix.length ≤ 200) (hxm : ∀ i, i ∈ ix → i < b.cpys.length) : ∃ jx : List Nat, s_l22May (b.e ++ [.l (ix.map ixE)]) = some [.l (jx.map ixE)] ∧ jx.length ≤ 200 ∧ ∀ i, i ∈ jx → i < b.cpys.length := by
  have L : ∃ o, lim (ap7 s_l22May.d1) (.l (ix.map ixE) :: .i 0 :: (b.e ++ [.l []])) = some o ∧ ∃ en : List Nat, o = .brk 0 [.l (en.map ixE)] ∧ en.length ≤ ix.length ∧ ∀ i, i ∈ en → i < b.cpys.length := by
    refine lim_exs (fun a : List Nat × Nat => .l (ix.map ixE) :: .i (a.2 : Nat) :: (b.e ++ [.l (a.1.map ixE)])) (fun a => ix.length - a.2) (fun a => a.2 ≤ ix.length ∧ a.1.length ≤ a.2 ∧ ∀ i, i ∈ a.1 → i < b.cpys.length) _ ([], 0) ⟨Nat.zero_le _, Nat.zero_le _, by simp⟩ ?_
    rintro ⟨en, i⟩ ⟨hi, hx, hm⟩
    simp only at hi hx hm
    have w1 : w64 ((i : Int) + 1) = (i : Int) + 1 := w64_of (by omega) (by omega)
    by_cases hlt : i < ix.length
    · left
      have hk := hxm _ (List.getElem_mem hlt)
      generalize hkk : ix[i] = k at hk
      have g1 : (ix.map ixE).getD i [] = ixE k := by rw [getD_map_lt ixE hlt, hkk]
      have g2 : (b.cpys.map Cpy.e).getD k [] = b.cpys[k].e := getD_map_lt Cpy.e hk []
      have p1 : (i : Int) < (ix.length : Int) := by omega
      have p2 : (k : Int) < (b.cpys.length : Int) := by omega
      have p3 : en.length + 1 ≤ 4294967296 := by omega
      obtain ⟨v, e1, _⟩ := s_l20MayEnd_ex b b.cpys[k].svc b.cpys[k].num hb (own_ix ho _ _)
      simp only [Book.e, Svc.e, Cpy.e, Brt.e, Act.e, Wld.e, Ev1.e, BB, nils, rows] at e1
      have step : ∃ jx : List Nat, s_l22May.d1 (.l (ix.map ixE)) (.i (i : Nat)) (.i b.now) (.l (b.svcs.map Svc.e)) (.l (b.cpys.map Cpy.e)) (.l (b.brts.map Brt.e)) (.l (en.map ixE)) = some (.again (.l (ix.map ixE) :: .i ((i + 1 : Nat) : Int) :: (b.e ++ [.l (jx.map ixE)]))) ∧ jx.length ≤ i + 1 ∧ ∀ i, i ∈ jx → i < b.cpys.length := by
        cases v with
        | false => exact ⟨en, by simp only [s_l22May.d1, Book.e, Svc.e, Cpy.e, Brt.e, Act.e, Wld.e, Ev1.e, BB, nils, rows, g1, g2, p1, p2, ixE, e1, w1]; rfl, by omega, hm⟩
        | true =>
          refine ⟨en ++ [k], by simp only [s_l22May.d1, Book.e, Svc.e, Cpy.e, Brt.e, Act.e, Wld.e, Ev1.e, BB, nils, rows, g1, g2, p1, p2, p3, ixE, e1, w1, List.map_append, List.map_cons, List.map_nil]; rfl, by simp; omega, fun j hj => ?_⟩
          rcases List.mem_append.1 hj with h | h
          · exact hm j h
          · simp at h; subst h; exact hk
      obtain ⟨jx, h1, h2, h3⟩ := step
      exact ⟨(jx, i + 1), h1, ⟨Nat.succ_le_of_lt hlt, h2, h3⟩, by simp only; omega⟩
    · right
      have : i = ix.length := by omega
      subst this
      exact ⟨.brk 0 [.l (en.map ixE)], by simp [s_l22May.d1, Book.e], trivial, en, rfl, hx, hm⟩
  obtain ⟨o, h1, en, rfl, h2, h3⟩ := L
  refine ⟨en, ?_, by omega, h3⟩
  simp only [Book.e, jA, jB] at h1
  simp only [s_l22May, s_l22May.d3, Book.e, Svc.e, Cpy.e, Brt.e, Act.e, Wld.e, Ev1.e, BB, nils, rows]
  erw [h1]
  rfl
end Go.Ev
namespace Go.Ev
structure ActW (a : Act) : Prop where
  s : a.svc.size < 4611686018427387904
  n : a.ends.length ≤ 200
theorem en_take (en : List (Int × Int)) : List.map enE en = List.map enE en := rfl
theorem s_l22Counter_ex (b : Book) (s : Svc) (a : Act) (hb : Bnd b) (ho : Own b) (ha : ActW a) (hw : 0 ≤ s.want) : ∃ a' : Act, s_l22Counter (b.e ++ s.e ++ a.e) = some a'.e ∧ ActW a' := by
  obtain ⟨lv, e0, hlv, hlm⟩ := s_l22Live_ex b s.name hb
  obtain ⟨x1, e1, _, _⟩ := s_l22Some_ex b s 2 hb
  obtain ⟨x2, e2, _, _⟩ := s_l22Some_ex b s 6 hb
  obtain ⟨en, e3, hen, hen1⟩ := s_l22First_ex b s lv hb (by have := hb.c; omega) hlm
  simp only [Book.e, Svc.e, Cpy.e, Brt.e, Act.e, Wld.e, Ev1.e, BB, nils, rows] at e0 e1 e2 e3
  simp only [s_l22Counter, s_l22Counter.d3, s_l22Some_v1_same, Book.e, Svc.e, Cpy.e, Brt.e, Act.e, Wld.e, Ev1.e, BB, nils, rows, e0, e1, e2]
  have fin : ∀ v : Bool, (v = true → lv ≠ []) → ∃ a' : Act, finR (s_l22Counter.d1 (.b v) (.i b.now) (.l (b.svcs.map Svc.e)) (.l (b.cpys.map Cpy.e)) (.l (b.brts.map Brt.e)) (.s s.name) (.i s.ver) (.b s.gone) (.i s.image) (.i s.want) (.i s.down) (.i s.over) (.i s.next) (.i s.per) (.i s.least) (.i s.most) (.i s.load) (.i s.cool) (.s a.svc) (.i a.seen) (.i a.create) (.i a.want) (.i a.cool) (.b a.scale) (.l (a.ends.map enE)) (.b a.drop) (.s (bs #[])) (.i 0) (.i 0) (.i 0) (.i 0) (.b false) (.b false) (.l (lv.map ixE)) (.l [])) = some a'.e ∧ ActW a' := by
    intro v hv
    cases v with
    | false => exact ⟨a, by simp only [s_l22Counter.d1, BB, nils, rows]; rfl, ha⟩
    | true =>
      have hn := hen1 (hv rfl)
      obtain ⟨p, rfl⟩ : ∃ p, en = [p] := List.length_eq_one_iff.1 hn
      obtain ⟨w, e4, _⟩ := s_l20MayEnd_ex b s.name p.1 hb (own_ix ho _ _)
      simp only [Book.e, Svc.e, Cpy.e, Brt.e, Act.e, Wld.e, Ev1.e, BB, nils, rows] at e4
      have q : (0 : Int) < ((1 : Nat) : Int) := by omega
      simp only [s_l22Counter.d1, BB, nils, rows, e3, List.map_cons, List.map_nil, q, enE, e4]
      cases w
      · exact ⟨a, rfl, ha⟩
      · exact ⟨{ a with ends := [p] }, rfl, ⟨ha.s, by simp⟩⟩
  by_cases h1 : (lv.length : Int) < s.want
  · simp only [h1, BB, nils, rows]
    exact ⟨{ a with create := w64 (s.want - lv.length) }, rfl, ⟨ha.s, ha.n⟩⟩
  · simp only [h1, BB, nils, rows]
    cases ((x1.length : Int) == 0) <;> simp only [BB, nils, rows, s_l22Counter.d2]
    all_goals by_cases h2 : (lv.length : Int) > s.want
    all_goals simp only [h2, BB, nils, rows]
    · refine fin _ ?_
      intro h; simp at h; intro h0; rw [h0] at h h2; simp at h h2; omega
    · exact fin false (by simp)
    · cases ((x2.length : Int) == 0) <;> simp only [BB, nils, rows]
      · refine fin _ ?_
        intro h; simp at h; intro h0; rw [h0] at h h2; simp at h h2; omega
      · refine fin _ ?_
        intro h h0; rw [h0] at h1 h2; simp at h1 h2; omega
    · exact fin false (by simp)
theorem s_l22Replace_ex (b : Book) (s : Svc) (a : Act) (ix : List Nat) (hb : Bnd b) (ho : Own b) (ha : ActW a) (hl : ix.length ≤ 200) (hxm : ∀ i, i ∈ ix → i < b.cpys.length) : ∃ a' : Act, s_l22Replace (b.e ++ s.e ++ a.e ++ [.l (ix.map ixE)]) = some a'.e ∧ ActW a' := by
  obtain ⟨lv, e0, hlv, hlm⟩ := s_l22Live_ex b s.name hb
  obtain ⟨jx, e1, hj, hjm⟩ := s_l22May_ex b ix hb ho hl hxm
  obtain ⟨en, e3, hen, hen1⟩ := s_l22First_ex b s jx hb hj hjm
  simp only [Book.e, Svc.e, Cpy.e, Brt.e, Act.e, Wld.e, Ev1.e, BB, nils, rows] at e0 e1 e3
  simp only [s_l22Replace, s_l22Replace.d1, Book.e, Svc.e, Cpy.e, Brt.e, Act.e, Wld.e, Ev1.e, BB, nils, rows, e0, e1, e3]
  cases ((ix.length : Int) == 0) <;> simp only [BB, nils, rows]
  · cases decide ((lv.length : Int) < s.want) <;> simp only [BB, nils, rows]
    · cases decide ((lv.length : Int) < w64 (s.want + s.over)) <;> simp only [BB, nils, rows]
      · exact ⟨{ a with ends := en }, rfl, ⟨ha.s, by simp only; omega⟩⟩
      · exact ⟨{ a with create := 1 }, rfl, ⟨ha.s, ha.n⟩⟩
    · exact ⟨a, rfl, ha⟩
  · exact ⟨a, rfl, ha⟩
def desired (s : Svc) : Int :=
  let d := w64 ((w64 (w64 (s.load + s.per) - 1)).tdiv s.per)
  bif decide (d < s.least) then bif decide (s.least > s.most) then s.most else s.least else bif decide (d > s.most) then s.most else d
theorem s_l22Desired_eq (s : Svc) (h : s.per ≠ 0) : s_l22Desired s.e = some [.i (desired s)] := by
  have h' : (s.per != 0) = true := by simp [h]
  simp only [s_l22Desired, s_l22Desired.d1, Book.e, Svc.e, Cpy.e, Brt.e, Act.e, Wld.e, Ev1.e, BB, nils, rows, h', desired]
  repeat' (rw [Bool.cond_eq_ite]; split)
  all_goals simp_all
theorem s_l22Scaler_ex (s : Svc) (a : Act) (ha : ActW a) (h : s.per ≠ 0) : ∃ a' : Act, s_l22Scaler (s.e ++ a.e) = some a'.e ∧ ActW a' := by
  have e0 := s_l22Desired_eq s h
  simp only [Book.e, Svc.e, Cpy.e, Brt.e, Act.e, Wld.e, Ev1.e, BB, nils, rows] at e0
  have key : ∃ (x y : Int) (z : Bool), s_l22Scaler (s.e ++ a.e) = some [.s a.svc, .i a.seen, .i a.create, .i x, .i y, .b z, .l (a.ends.map enE), .b a.drop] := by
    simp only [s_l22Scaler, s_l22Scaler.d2, Book.e, Svc.e, Cpy.e, Brt.e, Act.e, Wld.e, Ev1.e, BB, nils, rows, e0]
    repeat' (rw [Bool.cond_eq_ite]; split <;> try simp only [BB, nils, rows, s_l22Scaler.d1])
    all_goals exact ⟨_, _, _, rfl⟩
  obtain ⟨x, y, z, hk⟩ := key
  exact ⟨{ a with want := x, cool := y, scale := z }, hk, ⟨ha.s, ha.n⟩⟩
end Go.Ev
namespace Go.Ev
theorem s_l22Act_ex (k : Int) (b : Book) (s : Svc) (hb : Bnd b) (ho : Own b) (hs : s.name.size < 4611686018427387904) (hw : 0 ≤ s.want) : ∃ a' : Act, s_l22Act (.i k :: (b.e ++ s.e)) = some a'.e ∧ ActW a' := by
  obtain ⟨x1, e1, l1, m1⟩ := s_l22Some_ex b s k hb
  obtain ⟨n1, e2, l2⟩ := s_l22Ends_ex b x1 hb l1 m1
  obtain ⟨lv, e3, l3, m3⟩ := s_l22Live_ex b s.name hb
  obtain ⟨n2, e4, l4⟩ := s_l22Ends_ex b lv hb (by have := hb.c; omega) m3
  obtain ⟨c1, c2, c3, c4, c5, e5⟩ := s_l19Count_ex b s.name hb
  have h0 : ActW ⟨s.name, s.ver, 0, 0, 0, false, [], false⟩ := ⟨hs, Nat.zero_le _⟩
  obtain ⟨a1, e6, w1⟩ := s_l22Counter_ex b s ⟨s.name, s.ver, 0, 0, 0, false, [], false⟩ hb ho h0 hw
  obtain ⟨a2, e7, w2⟩ := s_l22Replace_ex b s ⟨s.name, s.ver, 0, 0, 0, false, [], false⟩ x1 hb ho h0 l1 m1
  obtain ⟨x2, e8, l8, m8⟩ := s_l22Some_ex b s 2 hb
  simp only [Book.e, Svc.e, Cpy.e, Brt.e, Act.e, Wld.e, Ev1.e, BB, nils, rows, List.map_nil] at e1 e2 e3 e4 e5 e6 e7 e8
  simp only [s_l22Act, s_l22Act.d1, s_l22Live_v1_same, s_l22Some_v1_same, Book.e, Svc.e, Cpy.e, Brt.e, Act.e, Wld.e, Ev1.e, BB, nils, rows, e1, e2, e3, e4, e5, e6, e7, e8]
  cases k == 3 <;> simp only [BB, nils, rows]
  · cases hg : s.gone <;> simp only [BB, nils, rows]
    · cases k == 1 <;> simp only [BB, nils, rows]
      · cases k == 2 <;> simp only [BB, nils, rows]
        · cases k == 6 <;> simp only [BB, nils, rows]
          · cases k == 4 <;> simp only [BB, nils, rows]
            · exact ⟨⟨s.name, s.ver, 0, 0, 0, false, [], false⟩, rfl, h0⟩
            · by_cases hp : s.per > 0
              · obtain ⟨a3, e9, w9⟩ := s_l22Scaler_ex s ⟨s.name, s.ver, 0, 0, 0, false, [], false⟩ h0 (by omega)
                simp only [Book.e, Svc.e, Cpy.e, Brt.e, Act.e, Wld.e, Ev1.e, BB, nils, rows, List.map_nil, hg] at e9
                simp only [hp, BB, nils, rows, e9]
                exact ⟨a3, rfl, w9⟩
              · simp only [hp, BB, nils, rows]
                exact ⟨⟨s.name, s.ver, 0, 0, 0, false, [], false⟩, rfl, h0⟩
          · cases ((x2.length : Int) == 0) <;> simp only [BB, nils, rows]
            · exact ⟨⟨s.name, s.ver, 0, 0, 0, false, [], false⟩, rfl, h0⟩
            · exact ⟨a2, rfl, w2⟩
        · exact ⟨a2, rfl, w2⟩
      · exact ⟨a1, rfl, w1⟩
    · cases k == 5 <;> simp only [BB, nils, rows]
      · exact ⟨⟨s.name, s.ver, 0, 0, 0, false, [], false⟩, rfl, h0⟩
      · exact ⟨⟨s.name, s.ver, 0, 0, 0, false, n2, _⟩, rfl, ⟨hs, l4⟩⟩
  · exact ⟨⟨s.name, s.ver, 0, 0, 0, false, n1, false⟩, rfl, ⟨hs, l2⟩⟩
theorem svcOk_want {s : Svc} {n : Int} (h : svcOk s n = true) : 0 ≤ s.want ∧ s.want ≤ 10 := by
  simp only [svcOk, Bool.and_eq_true, within, decide_eq_true_eq] at h
  exact ⟨h.1.1.1.1.2.1, h.1.1.1.1.2.2⟩
theorem validB_svc {b : Book} (h : validB b = true) : ∀ s, s ∈ b.svcs → svcOk s b.now = true := by
  simp only [validB, Bool.and_eq_true] at h
  exact chainOk_mem h.1.1.2
theorem s_StewAsk_ex (k : Int) (b : Book) (hb : Bnd b) : ∃ ac : List Act, s_StewAsk (.i k :: b.e) = some [.l (ac.map Act.e)] ∧ ac.length ≤ 8 ∧ ∀ a, a ∈ ac → ActW a := by
  have e1 := s_StewValid_eq b hb.small hb.w.toNames
  simp only [Book.e, Svc.e, Cpy.e, Brt.e, Act.e, Wld.e, Ev1.e, BB, nils, rows] at e1
  simp only [s_StewAsk, s_StewAsk.d4, Book.e, Svc.e, Cpy.e, Brt.e, Act.e, Wld.e, Ev1.e, BB, nils, rows, e1]
  cases hv : validB b
  · exact ⟨[], rfl, by simp, by simp⟩
  · have ho := validB_own hv
    have L : ∃ o, lim (ap7 s_StewAsk.d2) (.i k :: .i 0 :: (b.e ++ [.l []])) = some o ∧ ∃ ac : List Act, o = .brk 0 [.l (ac.map Act.e)] ∧ ac.length ≤ b.svcs.length ∧ ∀ a, a ∈ ac → ActW a := by
      refine lim_exs (fun a : List Act × Nat => .i k :: .i (a.2 : Nat) :: (b.e ++ [.l (a.1.map Act.e)])) (fun a => b.svcs.length - a.2) (fun a => a.2 ≤ b.svcs.length ∧ a.1.length ≤ a.2 ∧ ∀ x, x ∈ a.1 → ActW x) _ ([], 0) ⟨Nat.zero_le _, Nat.zero_le _, by simp⟩ ?_
      rintro ⟨ac, i⟩ ⟨hi, hx, hm⟩
      simp only at hi hx hm
      have hs8 := hb.s
      have w1 : w64 ((i : Int) + 1) = (i : Int) + 1 := w64_of (by omega) (by omega)
      by_cases hlt : i < b.svcs.length
      · left
        obtain ⟨a, e2, ha⟩ := s_l22Act_ex k b b.svcs[i] hb ho (hb.w.s _ (List.getElem_mem hlt)) (svcOk_want (validB_svc hv _ (List.getElem_mem hlt))).1
        simp only [Book.e, Svc.e, Cpy.e, Brt.e, Act.e, Wld.e, Ev1.e, BB, nils, rows] at e2
        have g1 : (b.svcs.map Svc.e).getD i [] = b.svcs[i].e := getD_map_lt Svc.e hlt []
        have p1 : (i : Int) < (b.svcs.length : Int) := by omega
        have p3 : ac.length + 1 ≤ 4294967296 := by omega
        have fin : ∀ v : Bool, ∃ jx : List Act, s_StewAsk.d1 (.i k) (.i (i : Nat)) (.b v) (.i b.now) (.l (b.svcs.map Svc.e)) (.l (b.cpys.map Cpy.e)) (.l (b.brts.map Brt.e)) (.l (ac.map Act.e)) (.s a.svc) (.i a.seen) (.i a.create) (.i a.want) (.i a.cool) (.b a.scale) (.l (a.ends.map enE)) (.b a.drop) = some (.again (.i k :: .i ((i + 1 : Nat) : Int) :: (b.e ++ [.l (jx.map Act.e)]))) ∧ jx.length ≤ i + 1 ∧ ∀ x, x ∈ jx → ActW x := by
          intro v
          cases v
          · exact ⟨ac, by simp only [s_StewAsk.d1, BB, nils, rows, w1]; rfl, by omega, hm⟩
          · refine ⟨ac ++ [a], by simp only [s_StewAsk.d1, BB, nils, rows, w1, p3, List.map_append, List.map_cons, List.map_nil]; rfl, by simp; omega, fun x hx => ?_⟩
            rcases List.mem_append.1 hx with h | h
            · exact hm x h
            · simp at h; subst h; exact ha
        have step : ∃ jx : List Act, s_StewAsk.d2 (.i k) (.i (i : Nat)) (.i b.now) (.l (b.svcs.map Svc.e)) (.l (b.cpys.map Cpy.e)) (.l (b.brts.map Brt.e)) (.l (ac.map Act.e)) = some (.again (.i k :: .i ((i + 1 : Nat) : Int) :: (b.e ++ [.l (jx.map Act.e)]))) ∧ jx.length ≤ i + 1 ∧ ∀ x, x ∈ jx → ActW x := by
          simp only [s_StewAsk.d2, Book.e, Svc.e, Cpy.e, Brt.e, Act.e, Wld.e, Ev1.e, BB, nils, rows, g1, p1, e2]
          repeat' (rw [Bool.cond_eq_ite]; split <;> try simp only [BB, nils, rows])
          all_goals exact fin _
        obtain ⟨jx, h1, h2, h3⟩ := step
        exact ⟨(jx, i + 1), h1, ⟨Nat.succ_le_of_lt hlt, h2, h3⟩, by simp only; omega⟩
      · right
        have : i = b.svcs.length := by omega
        subst this
        exact ⟨.brk 0 [.l (ac.map Act.e)], by simp [s_StewAsk.d2, Book.e], trivial, ac, rfl, hx, hm⟩
    obtain ⟨o, h1, ac, rfl, h2, h3⟩ := L
    refine ⟨ac, ?_, by have := hb.s; omega, h3⟩
    simp only [Book.e, jA, jB] at h1
    simp only [BB, nils, rows]
    erw [h1]
    rfl
theorem s_l21ActOk_ex (a : Act) (ha : ActW a) : ∃ v : Bool, s_l21ActOk a.e = some [.b v] ∧ (v = true → 0 ≤ a.create ∧ a.create ≤ 20) := by
  have hn := ha.n
  have L : ∃ o, lim (ap9 s_l21ActOk.d1) (.i 1 :: a.e) = some o ∧ (o = .brk 0 a.e ∨ o = .ret [.b false]) := by
    refine lim_exs (fun i : Nat => .i (i : Nat) :: a.e) (fun i => a.ends.length + 1 - i) (fun i => 1 ≤ i) _ 1 (by omega) ?_
    intro i h1i
    have w1 : i ≤ 200 → w64 ((i : Int) + 1) = (i : Int) + 1 := fun h => w64_of (by omega) (by omega)
    have w2 : i ≤ 200 → w64 ((i : Int) - 1) = ((i - 1 : Nat) : Int) := fun h => by rw [w64_of (by omega) (by omega)]; omega
    by_cases hlt : i < a.ends.length
    · have g1 : (a.ends.map enE).getD i [] = enE a.ends[i] := getD_map_lt enE hlt []
      have g2 : (a.ends.map enE).getD (i - 1) [] = enE a.ends[i - 1] := getD_map_lt enE (by omega) []
      have p1 : (i : Int) < (a.ends.length : Int) := by omega
      have p2 : ((i - 1 : Nat) : Int) < (a.ends.length : Int) := by omega
      show (∃ b, s_l21ActOk.d1 (.i (i : Nat)) (.s a.svc) (.i a.seen) (.i a.create) (.i a.want) (.i a.cool) (.b a.scale) (.l (a.ends.map enE)) (.b a.drop) = _ ∧ _) ∨ ∃ o, s_l21ActOk.d1 (.i (i : Nat)) (.s a.svc) (.i a.seen) (.i a.create) (.i a.want) (.i a.cool) (.b a.scale) (.l (a.ends.map enE)) (.b a.drop) = _ ∧ _
      simp only [s_l21ActOk.d1, BB, nils, rows, w1 (by omega), w2 (by omega), g1, g2, p1, p2, enE]
      cases decide (a.ends[i - 1].1 ≥ a.ends[i].1)
      · left; exact ⟨i + 1, rfl, by omega, by omega⟩
      · right; exact ⟨_, rfl, trivial, .inr rfl⟩
    · right
      have p1 : ¬ (i : Int) < (a.ends.length : Int) := by omega
      refine ⟨.brk 0 a.e, ?_, trivial, .inl rfl⟩
      show s_l21ActOk.d1 (.i (i : Nat)) (.s a.svc) (.i a.seen) (.i a.create) (.i a.want) (.i a.cool) (.b a.scale) (.l (a.ends.map enE)) (.b a.drop) = _
      simp only [s_l21ActOk.d1, BB, nils, rows, p1, Book.e, Svc.e, Cpy.e, Brt.e, Act.e, Wld.e, Ev1.e]
  obtain ⟨o, h1, ho⟩ := L
  simp only [Book.e, Svc.e, Cpy.e, Brt.e, Act.e, Wld.e, Ev1.e, BB, nils, rows] at h1
  have p1 : ¬ ((a.ends.length : Int) > 200) := by omega
  simp only [s_l21ActOk, s_l21ActOk.d4, Book.e, Svc.e, Cpy.e, Brt.e, Act.e, Wld.e, Ev1.e, BB, nils, rows, s_l18In_eq, p1]
  cases hwi : within a.create 0 20 <;> simp only [BB, nils, rows]
  · exact ⟨false, rfl, by simp⟩
  · have hc : 0 ≤ a.create ∧ a.create ≤ 20 := by simpa [within] using hwi
    erw [h1]
    have fin : ∃ v : Bool, finR (s_l21ActOk.d3 (.s a.svc) (.i a.seen) (.i a.create) (.i a.want) (.i a.cool) (.b a.scale) (.l (a.ends.map enE)) (.b a.drop)) = some [.b v] := by
      simp only [s_l21ActOk.d3, BB, nils, rows, s_l18In_eq]
      repeat' (rw [Bool.cond_eq_ite]; split <;> try simp only [BB, nils, rows, s_l21ActOk.d2])
      all_goals exact ⟨_, rfl⟩
    rcases ho with rfl | rfl
    · simp only [Book.e, Svc.e, Cpy.e, Brt.e, Act.e, Wld.e, Ev1.e, BB, nils, rows]
      obtain ⟨v, hv⟩ := fin
      exact ⟨v, hv, fun _ => hc⟩
    · exact ⟨false, rfl, by simp⟩
end Go.Ev
namespace Go.Ev
theorem Bnd.cp {b : Book} (hb : Bnd b) {cs : List Cpy} (h1 : cs.length ≤ 200) (h2 : ∀ c, c ∈ cs → Wc c) : Bnd { b with cpys := cs } := ⟨hb.s, h1, hb.t, ⟨⟨hb.w.s, hb.w.t⟩, h2⟩⟩
theorem apply1 (b : Book) (a : Act) (j : Int) (hb : Bnd b) (ha : ActW a) : ∃ o, lim (ap18 s_l21Apply.d1) (.i j :: .i 0 :: (b.e ++ a.e ++ [.i 0, .l [], .l [], .l []])) = some o ∧
    ((o = .brk 0 (.i j :: (b.e ++ a.e ++ [.i 0, .l [], .l [], .l []])) ∧ ∀ i (h : i < a.ends.length), 0 ≤ cpyIx b.cpys a.svc a.ends[i].1) ∨ o = .ret (b.r5 3)) := by
  refine lim_exs (fun i : Nat => .i j :: .i (i : Nat) :: (b.e ++ a.e ++ [.i 0, .l [], .l [], .l []])) (fun i => a.ends.length - i) (fun i => i ≤ a.ends.length ∧ ∀ k (h : k < a.ends.length), k < i → 0 ≤ cpyIx b.cpys a.svc a.ends[k].1) _ 0 ⟨Nat.zero_le _, fun k h h' => absurd h' (Nat.not_lt_zero _)⟩ ?_
  rintro i ⟨hi, hm⟩
  have hn := ha.n
  have w1 : w64 ((i : Int) + 1) = (i : Int) + 1 := w64_of (by omega) (by omega)
  show (∃ k, s_l21Apply.d1 (.i j) (.i (i : Nat)) (.i b.now) (.l (b.svcs.map Svc.e)) (.l (b.cpys.map Cpy.e)) (.l (b.brts.map Brt.e)) (.s a.svc) (.i a.seen) (.i a.create) (.i a.want) (.i a.cool) (.b a.scale) (.l (a.ends.map enE)) (.b a.drop) (.i 0) (.l []) (.l []) (.l []) = _ ∧ _) ∨ ∃ o, s_l21Apply.d1 (.i j) (.i (i : Nat)) (.i b.now) (.l (b.svcs.map Svc.e)) (.l (b.cpys.map Cpy.e)) (.l (b.brts.map Brt.e)) (.s a.svc) (.i a.seen) (.i a.create) (.i a.want) (.i a.cool) (.b a.scale) (.l (a.ends.map enE)) (.b a.drop) (.i 0) (.l []) (.l []) (.l []) = _ ∧ _
  by_cases hlt : i < a.ends.length
  · have g1 : (a.ends.map enE).getD i [] = enE a.ends[i] := getD_map_lt enE hlt []
    have p1 : (i : Int) < (a.ends.length : Int) := by omega
    have e1 := s_l18Copy_eq b a.svc a.ends[i].1 hb.small.c
    simp only [Book.e, Svc.e, Cpy.e, Brt.e, Act.e, Wld.e, Ev1.e, BB, nils, rows] at e1
    simp only [s_l21Apply.d1, BB, nils, rows, p1, g1, enE, e1, w1]
    by_cases hc : cpyIx b.cpys a.svc a.ends[i].1 < 0
    · right
      exact ⟨.ret (b.r5 3), by simp only [hc, BB, nils, rows]; rfl, trivial, .inr rfl⟩
    · left
      refine ⟨i + 1, by simp only [hc, BB, nils, rows]; rfl, ⟨hlt, fun k h h' => ?_⟩, by omega⟩
      by_cases hk : k < i
      · exact hm k h hk
      · have : k = i := by omega
        subst this; omega
  · right
    have p1 : ¬ (i : Int) < (a.ends.length : Int) := by omega
    refine ⟨.brk 0 (.i j :: (b.e ++ a.e ++ [.i 0, .l [], .l [], .l []])), ?_, trivial, .inl ⟨rfl, fun k h => hm k h (by omega)⟩⟩
    simp only [s_l21Apply.d1, Book.e, Svc.e, Cpy.e, Brt.e, Act.e, Wld.e, Ev1.e, BB, nils, rows, p1]
theorem ix_of {b : Book} {nm : Str} {n : Int} (h : 0 ≤ cpyIx b.cpys nm n) : ∃ i : Nat, cpyIx b.cpys nm n = (i : Int) ∧ i < b.cpys.length := by
  rcases ix_cases (fun c : Cpy => sEq c.svc nm && c.num == n) b.cpys with q | ⟨i, hi, q, hp⟩
  · have q' : cpyIx b.cpys nm n = -1 := q
    omega
  · exact ⟨i, q, hi⟩
theorem apply2 (b : Book) (a : Act) (j : Int) (hb : Bnd b) (ha : ActW a) (hx : ∀ i (h : i < a.ends.length), 0 ≤ cpyIx b.cpys a.svc a.ends[i].1) : ∃ o, lim (ap18 s_l21Apply.d2) (.i j :: .i 0 :: (b.e ++ a.e ++ [.i 0, .l [], .l [], .l []])) = some o ∧
    (o = .brk 2 (.i j :: (b.e ++ a.e ++ [.i 0, .l [], .l [], .l []])) ∨ o = .ret (b.r5 4)) := by
  refine lim_exs (fun i : Nat => .i j :: .i (i : Nat) :: (b.e ++ a.e ++ [.i 0, .l [], .l [], .l []])) (fun i => a.ends.length - i) (fun i => i ≤ a.ends.length) _ 0 (Nat.zero_le _) ?_
  intro i hi
  have hn := ha.n
  have w1 : w64 ((i : Int) + 1) = (i : Int) + 1 := w64_of (by omega) (by omega)
  show (∃ k, s_l21Apply.d2 (.i j) (.i (i : Nat)) (.i b.now) (.l (b.svcs.map Svc.e)) (.l (b.cpys.map Cpy.e)) (.l (b.brts.map Brt.e)) (.s a.svc) (.i a.seen) (.i a.create) (.i a.want) (.i a.cool) (.b a.scale) (.l (a.ends.map enE)) (.b a.drop) (.i 0) (.l []) (.l []) (.l []) = _ ∧ _) ∨ ∃ o, s_l21Apply.d2 (.i j) (.i (i : Nat)) (.i b.now) (.l (b.svcs.map Svc.e)) (.l (b.cpys.map Cpy.e)) (.l (b.brts.map Brt.e)) (.s a.svc) (.i a.seen) (.i a.create) (.i a.want) (.i a.cool) (.b a.scale) (.l (a.ends.map enE)) (.b a.drop) (.i 0) (.l []) (.l []) (.l []) = _ ∧ _
  by_cases hlt : i < a.ends.length
  · have g1 : (a.ends.map enE).getD i [] = enE a.ends[i] := getD_map_lt enE hlt []
    have p1 : (i : Int) < (a.ends.length : Int) := by omega
    have e1 := s_l18Copy_eq b a.svc a.ends[i].1 hb.small.c
    obtain ⟨k, hk, hk'⟩ := ix_of (hx i hlt)
    have p2 : (k : Int) < (b.cpys.length : Int) := by omega
    have g2 : (b.cpys.map Cpy.e).getD k [] = b.cpys[k].e := getD_map_lt Cpy.e hk' []
    simp only [Book.e, Svc.e, Cpy.e, Brt.e, Act.e, Wld.e, Ev1.e, BB, nils, rows, hk] at e1
    simp only [s_l21Apply.d2, Book.e, Svc.e, Cpy.e, Brt.e, Act.e, Wld.e, Ev1.e, BB, nils, rows, p1, g1, enE, e1, w1, p2, g2]
    cases (b.cpys[k].ver != a.ends[i].2)
    · left
      exact ⟨i + 1, rfl, hlt, by omega⟩
    · right
      exact ⟨.ret (b.r5 4), rfl, trivial, .inr rfl⟩
  · right
    have p1 : ¬ (i : Int) < (a.ends.length : Int) := by omega
    refine ⟨.brk 2 (.i j :: (b.e ++ a.e ++ [.i 0, .l [], .l [], .l []])), ?_, trivial, .inl rfl⟩
    simp only [s_l21Apply.d2, Book.e, Svc.e, Cpy.e, Brt.e, Act.e, Wld.e, Ev1.e, BB, nils, rows, p1]
theorem apply3 (b : Book) (a : Act) (j v : Int) (hb : Bnd b) (ha : ActW a) (hs : (svcOf b a.svc).isSome) : ∃ o, lim (ap23 s_l21Apply.d3) (.i j :: .i v :: .i 0 :: (b.e ++ a.e ++ [.i 0, .i b.now, .l [], .l [], .l [], .l (b.svcs.map Svc.e), .l (b.cpys.map Cpy.e), .l (b.brts.map Brt.e)])) = some o ∧
    ((∃ cs : List Cpy, o = .brk 4 (.i j :: .i v :: (b.e ++ a.e ++ [.i 0, .i b.now, .l [], .l [], .l [], .l (b.svcs.map Svc.e), .l (cs.map Cpy.e), .l (b.brts.map Brt.e)])) ∧ cs.length = b.cpys.length ∧ ∀ c, c ∈ cs → Wc c) ∨ o = .ret (b.r5 5)) := by
  refine lim_exs (fun q : List Cpy × Nat => .i j :: .i v :: .i (q.2 : Nat) :: (b.e ++ a.e ++ [.i 0, .i b.now, .l [], .l [], .l [], .l (b.svcs.map Svc.e), .l (q.1.map Cpy.e), .l (b.brts.map Brt.e)])) (fun q => a.ends.length - q.2) (fun q => q.2 ≤ a.ends.length ∧ q.1.length = b.cpys.length ∧ ∀ c, c ∈ q.1 → Wc c) _ (b.cpys, 0) ⟨Nat.zero_le _, rfl, hb.w.c⟩ ?_
  rintro ⟨cs, i⟩ ⟨hi, hcl, hcw⟩
  simp only at hi hcl hcw
  have hn := ha.n
  have w1 : w64 ((i : Int) + 1) = (i : Int) + 1 := w64_of (by omega) (by omega)
  show (∃ k, s_l21Apply.d3 (.i j) (.i v) (.i (i : Nat)) (.i b.now) (.l (b.svcs.map Svc.e)) (.l (b.cpys.map Cpy.e)) (.l (b.brts.map Brt.e)) (.s a.svc) (.i a.seen) (.i a.create) (.i a.want) (.i a.cool) (.b a.scale) (.l (a.ends.map enE)) (.b a.drop) (.i 0) (.i b.now) (.l []) (.l []) (.l []) (.l (b.svcs.map Svc.e)) (.l (cs.map Cpy.e)) (.l (b.brts.map Brt.e)) = _ ∧ _) ∨ ∃ o, s_l21Apply.d3 (.i j) (.i v) (.i (i : Nat)) (.i b.now) (.l (b.svcs.map Svc.e)) (.l (b.cpys.map Cpy.e)) (.l (b.brts.map Brt.e)) (.s a.svc) (.i a.seen) (.i a.create) (.i a.want) (.i a.cool) (.b a.scale) (.l (a.ends.map enE)) (.b a.drop) (.i 0) (.i b.now) (.l []) (.l []) (.l []) (.l (b.svcs.map Svc.e)) (.l (cs.map Cpy.e)) (.l (b.brts.map Brt.e)) = _ ∧ _
  by_cases hlt : i < a.ends.length
  · have g1 : (a.ends.map enE).getD i [] = enE a.ends[i] := getD_map_lt enE hlt []
    have p1 : (i : Int) < (a.ends.length : Int) := by omega
    have hb' : Bnd { b with cpys := cs } := hb.cp (by have := hb.c; omega) hcw
    obtain ⟨u, e1, hu⟩ := s_l20MayEnd_ex { b with cpys := cs } a.svc a.ends[i].1 hb' (.inr hs)
    have e2 := s_l18Copy_eq { b with cpys := cs } a.svc a.ends[i].1 hb'.small.c
    simp only [Book.e, Svc.e, Cpy.e, Brt.e, Act.e, Wld.e, Ev1.e, BB, nils, rows] at e1 e2
    simp only [s_l21Apply.d3, BB, nils, rows, p1, g1, enE, e1, e2, w1]
    cases u
    · right
      exact ⟨.ret (b.r5 5), rfl, trivial, .inr rfl⟩
    · left
      obtain ⟨k, hk, hk'⟩ := ix_of (b := { b with cpys := cs }) (hu rfl)
      simp only at hk hk'
      have p2 : (k : Int) < (cs.length : Int) := by omega
      have g2 : (cs.map Cpy.e).getD k [] = cs[k].e := getD_map_lt Cpy.e hk' []
      have g3 : ((cs.set k { cs[k] with ending := true }).map Cpy.e).getD k [] = ({ cs[k] with ending := true } : Cpy).e := by
        have : k < (cs.set k { cs[k] with ending := true }).length := by simpa using hk'
        rw [getD_map_lt Cpy.e this]; simp
      refine ⟨((cs.set k { cs[k] with ending := true }).set k { cs[k] with ending := true, ver := v }, i + 1), ?_, ⟨hlt, by simpa using hcl, fun c hc => ?_⟩, by simp only; omega⟩
      · simp only [hk, BB, nils, rows, p2, g2, setCs_ending, set_cpy, g3, setCs_ver, List.length_set]
        rfl
      · rcases List.mem_or_eq_of_mem_set hc with h | h
        · rcases List.mem_or_eq_of_mem_set h with h' | h'
          · exact hcw c h'
          · subst h'; exact hcw cs[k] (List.getElem_mem hk')
        · subst h; exact hcw cs[k] (List.getElem_mem hk')
  · right
    have p1 : ¬ (i : Int) < (a.ends.length : Int) := by omega
    refine ⟨.brk 4 (.i j :: .i v :: (b.e ++ a.e ++ [.i 0, .i b.now, .l [], .l [], .l [], .l (b.svcs.map Svc.e), .l (cs.map Cpy.e), .l (b.brts.map Brt.e)])), ?_, trivial, .inl ⟨cs, rfl, hcl, hcw⟩⟩
    simp only [s_l21Apply.d3, Book.e, Svc.e, Cpy.e, Brt.e, Act.e, Wld.e, Ev1.e, BB, nils, rows, p1]
end Go.Ev
namespace Go.Ev
def apT (a : Act) (now : Int) (s : Svc) (ss : List Svc) (cs : List Cpy) (ts : List Brt) : List C := a.e ++ [.i 0, .i now] ++ s.e ++ [.l [], .l [], .l [], .l (ss.map Svc.e), .l (cs.map Cpy.e), .l (ts.map Brt.e)]
def apU (a : Act) (now : Int) (s : Svc) (c : Cpy) (ss : List Svc) (cs : List Cpy) (ts : List Brt) : List C := a.e ++ [.i 0, .i now] ++ s.e ++ c.e ++ [.l [], .l [], .l [], .l (ss.map Svc.e), .l (cs.map Cpy.e), .l (ts.map Brt.e)]
theorem apply4 (a : Act) (j v n now : Int) (s : Svc) (c : Cpy) (ss : List Svc) (cs : List Cpy) (ts : List Brt) (hc : cs.length ≤ 200) : ∃ o, lim (ap40 s_l21Apply.d4) (.i j :: .i v :: .i n :: .i 0 :: apU a now s c ss cs ts) = some o ∧
    ∃ i : Nat, i ≤ cs.length ∧ o = .brk 8 (.i j :: .i v :: .i n :: .i (i : Nat) :: apU a now s c ss cs ts) := by
  refine lim_exs (fun i : Nat => .i j :: .i v :: .i n :: .i (i : Nat) :: apU a now s c ss cs ts) (fun i => cs.length - i) (fun i => i ≤ cs.length) _ 0 (Nat.zero_le _) ?_
  intro i hi
  have w1 : w64 ((i : Int) + 1) = (i : Int) + 1 := w64_of (by omega) (by omega)
  simp only [apU, Book.e, Svc.e, Cpy.e, Brt.e, Act.e, Wld.e, Ev1.e, BB, nils, rows]
  by_cases hlt : i < cs.length
  · have p1 : (i : Int) < (cs.length : Int) := by omega
    have g1 : (cs.map Cpy.e).getD i [] = cs[i].e := getD_map_lt Cpy.e hlt []
    have e1 := s_l18Ahead_eq cs[i] c
    simp only [Book.e, Svc.e, Cpy.e, Brt.e, Act.e, Wld.e, Ev1.e, BB, nils, rows] at e1 g1
    simp only [s_l21Apply.d4, BB, nils, rows, p1, g1, e1, w1]
    cases cLt cs[i] c
    · right; exact ⟨_, rfl, trivial, i, hi, rfl⟩
    · left; exact ⟨i + 1, rfl, hlt, by omega⟩
  · right
    have p1 : ¬ (i : Int) < (cs.length : Int) := by omega
    refine ⟨_, ?_, ?_, i, hi, rfl⟩
    · simp only [s_l21Apply.d4, BB, nils, rows, p1]
    · trivial
theorem apply6 (a : Act) (j v now : Int) (s : Svc) (ss : List Svc) (cs : List Cpy) (ts : List Brt) (ha : ActW a) (h0 : 0 ≤ a.create) (hc : (cs.length : Int) + a.create ≤ 200) (hw : ∀ c, c ∈ cs → Wc c) : ∃ o, lim (ap32 s_l21Apply.d6) (.i j :: .i v :: .i 0 :: apT a now s ss cs ts) = some o ∧
    ∃ (x : Int) (ds : List Cpy), o = .brk 6 (.i j :: .i v :: apT a now { s with next := x } ss ds ts) ∧ ds.length ≤ 200 ∧ ∀ c, c ∈ ds → Wc c := by
  refine lim_exs (fun q : Int × List Cpy × Nat => .i j :: .i v :: .i (q.2.2 : Nat) :: apT a now { s with next := q.1 } ss q.2.1 ts) (fun q => a.create.toNat - q.2.2) (fun q => (q.2.2 : Int) ≤ a.create ∧ q.2.1.length = cs.length + q.2.2 ∧ ∀ c, c ∈ q.2.1 → Wc c) _ (s.next, cs, 0) ⟨h0, rfl, hw⟩ ?_
  rintro ⟨x, ds, n⟩ ⟨hn, hl, hm⟩
  simp only at hn hl hm
  have w1 : w64 ((n : Int) + 1) = (n : Int) + 1 := w64_of (by omega) (by omega)
  by_cases hlt : (n : Int) < a.create
  · left
    obtain ⟨o, e1, i, hi, rfl⟩ := apply4 a j v n now { s with next := x } ⟨a.svc, x, v, s.image, 1, false, bs #[]⟩ ss ds ts (by omega)
    refine ⟨(w64 (x + 1), ds.take i ++ [⟨a.svc, x, v, s.image, 1, false, bs #[]⟩] ++ ds.drop i, n + 1), ?_, ⟨by simp only; omega, by simp; omega, fun c hc => ?_⟩, by simp only; omega⟩
    · simp only [apU, Book.e, Svc.e, Cpy.e, Brt.e, Act.e, Wld.e, Ev1.e, BB, nils, rows] at e1
      simp only [apT, Book.e, Svc.e, Cpy.e, Brt.e, Act.e, Wld.e, Ev1.e, BB, nils, rows, s_l21Apply.d6, hlt]
      rw [e1]
      have q1 : (i : Int) ≤ (ds.length : Int) := by omega
      have q2 : min i ds.length ≤ 4294967296 := by omega
      have q3 : min i ds.length + 1 ≤ 4294967296 := by omega
      have q4 : min i ds.length + 1 + (ds.length - i) ≤ 4294967296 := by omega
      have ta : (List.map Cpy.e ds).take ds.length = List.map Cpy.e ds := take_all _ _ (by simp)
      have tl : ∀ X : C, [X].length = 1 := fun _ => rfl
      simp only [BB, nils, rows, s_l21Apply.d5, q1, List.drop_zero, List.length_take, List.length_append, List.length_drop, Nat.min_self, q2, q3, q4, ta, w1, Int.le_refl, List.map_append, List.map_take, List.map_drop, List.map_cons, List.map_nil, Cpy.e]
      rfl
    · simp only [List.mem_append, List.mem_singleton] at hc
      rcases hc with (h | h) | h
      · exact hm c (List.mem_of_mem_take h)
      · subst h; exact ⟨ha.s, by simp only; rw [size_empty]; omega⟩
      · exact hm c (List.mem_of_mem_drop h)
  · right
    refine ⟨_, ?_, ?_, x, ds, rfl, by omega, hm⟩
    · simp only [apT, Book.e, Svc.e, Cpy.e, Brt.e, Act.e, Wld.e, Ev1.e, BB, nils, rows, s_l21Apply.d6, hlt]
    · trivial
theorem setS_all (s t : Svc) : setCs s.e 0 [.s t.name, .i t.ver, .b t.gone, .i t.image, .i t.want, .i t.down, .i t.over, .i t.next, .i t.per, .i t.least, .i t.most, .i t.load, .i t.cool] = t.e := rfl
theorem apply7 (a : Act) (j : Nat) (v now : Int) (s : Svc) (ss : List Svc) (cs : List Cpy) (ts : List Brt) (hs : ss.length ≤ 8) (hj : j < ss.length) (hn : s.name.size < 4611686018427387904) (hm : ∀ s, s ∈ ss → s.name.size < 4611686018427387904) :
    ∃ rs : List Svc, finR ((ap31 s_l21Apply.d7) (.i j :: .i v :: apT a now s ss cs ts)) = some [.i v, .l (rs.map Svc.e), .l (cs.map Cpy.e), .l (ts.map Brt.e), .i 0] ∧ rs.length ≤ 8 ∧ ∀ s, s ∈ rs → s.name.size < 4611686018427387904 := by
  have p1 : (j : Int) < (ss.length : Int) := by omega
  have p2 : (j : Int) ≤ (ss.length : Int) := by omega
  have w1 : w64 ((j : Int) + 1) = ((j + 1 : Nat) : Int) := by rw [w64_of (by omega) (by omega)]; omega
  have p3 : ((j + 1 : Nat) : Int) ≤ (ss.length : Int) := by omega
  have g1 : (ss.map Svc.e).getD j [] = ss[j].e := getD_map_lt Svc.e hj []
  have st := setS_all ss[j] { s with ver := v }
  have q2 : min j ss.length ≤ 4294967296 := by omega
  have q4 : min j ss.length + (ss.length - (j + 1)) ≤ 4294967296 := by omega
  have hset : ∀ x, x ∈ ss.set j { s with ver := v } → x.name.size < 4611686018427387904 := by
    intro x hx
    rcases List.mem_or_eq_of_mem_set hx with h | h
    · exact hm x h
    · subst h; exact hn
  simp only at st
  cases hd : a.drop
  · refine ⟨ss.set j { s with ver := v }, ?_, by simpa using hs, hset⟩
    simp only [apT, Act.e, Svc.e, BB, nils, rows, s_l21Apply.d7, p1, hd]
    simp only [Svc.e] at g1 st
    rw [g1, st, List.map_set]
    simp only [Svc.e]
  · have ta : (List.map Svc.e (ss.set j { s with ver := v })).take ss.length = List.map Svc.e (ss.set j { s with ver := v }) := take_all _ _ (by simp)
    refine ⟨(ss.set j { s with ver := v }).take j ++ (ss.set j { s with ver := v }).drop (j + 1), ?_, by simp; omega, fun x hx => ?_⟩
    · have g1' := g1
      simp only [Svc.e] at g1' st
      simp only [apT, Act.e, Svc.e, BB, nils, rows, s_l21Apply.d7, p1, hd, g1', st, List.length_set, p2, w1, p3, List.drop_zero, List.length_take, List.length_append, List.length_drop, Nat.min_self, q2, q4, Int.le_refl]
      have er : (List.map Svc.e ss).set j [C.s s.name, C.i v, C.b s.gone, C.i s.image, C.i s.want, C.i s.down, C.i s.over, C.i s.next, C.i s.per, C.i s.least, C.i s.most, C.i s.load, C.i s.cool] = List.map Svc.e (ss.set j { s with ver := v }) := by rw [List.map_set]; rfl
      simp only [er, ta, List.map_append, List.map_take, List.map_drop]
    · rcases List.mem_append.1 hx with h | h
      · exact hset x (List.mem_of_mem_take h)
      · exact hset x (List.mem_of_mem_drop h)
end Go.Ev
namespace Go.Ev
theorem Bnd.r5 {b : Book} (hb : Bnd b) (n : Int) : ∃ (b' : Book) (code : Int), some (b.r5 n) = some (b'.r5 code) ∧ Bnd b' := ⟨b, n, rfl, hb⟩
theorem apply8 (b : Book) (a : Act) (j : Nat) (v : Int) (s : Svc) (cs : List Cpy) (hb : Bnd b) (ha : ActW a) (h0 : 0 ≤ a.create ∧ a.create ≤ 20) (hc : cs.length = b.cpys.length) (hw : ∀ c, c ∈ cs → Wc c) (hj : j < b.svcs.length) (hn : s.name.size < 4611686018427387904) :
    ∃ (b' : Book) (code : Int), finR ((ap35 s_l21Apply.d8) (.i j :: .i v :: (b.e ++ apT a b.now s b.svcs cs b.brts))) = some (b'.r5 code) ∧ Bnd b' := by
  have hc2 := hb.c
  have w1 : w64 ((b.cpys.length : Int) + a.create) = (b.cpys.length : Int) + a.create := w64_of (by omega) (by omega)
  simp only [apT, Book.e, Svc.e, Cpy.e, Brt.e, Act.e, Wld.e, Ev1.e, BB, nils, rows, s_l21Apply.d8, w1]
  by_cases h1 : (b.cpys.length : Int) + a.create > 200
  · simp only [h1, BB, nils, rows]; exact hb.r5 7
  · simp only [h1, BB, nils, rows]
    cases decide (w64 (s.next + a.create) > 1000000) <;> simp only [BB, nils, rows]
    · cases decide (b.now ≥ 1000000) <;> simp only [BB, nils, rows]
      · obtain ⟨o, e1, x, ds, rfl, hd, hdw⟩ := apply6 a j v b.now s b.svcs cs b.brts ha h0.1 (by omega) hw
        simp only [apT, Book.e, Svc.e, Cpy.e, Brt.e, Act.e, Wld.e, Ev1.e, BB, nils, rows] at e1
        rw [e1]
        obtain ⟨rs, e2, hr, hrm⟩ := apply7 a j v b.now { s with next := x } b.svcs ds b.brts hb.s hj hn hb.w.s
        simp only [apT, Book.e, Svc.e, Cpy.e, Brt.e, Act.e, Wld.e, Ev1.e, BB, nils, rows] at e2
        simp only [BB, nils, rows, e2]
        exact ⟨⟨v, rs, ds, b.brts⟩, 0, rfl, ⟨hr, hd, hb.t, ⟨⟨hrm, hb.w.t⟩, hdw⟩⟩⟩
      · exact hb.r5 7
    · exact hb.r5 7
theorem apply10 (b : Book) (a : Act) (j : Nat) (v : Int) (s : Svc) (cs : List Cpy) (hb : Bnd b) (ha : ActW a) (h0 : 0 ≤ a.create ∧ a.create ≤ 20) (hc : cs.length = b.cpys.length) (hw : ∀ c, c ∈ cs → Wc c) (hj : j < b.svcs.length) (hn : s.name.size < 4611686018427387904) :
    ∃ (b' : Book) (code : Int), finR ((ap35 s_l21Apply.d10) (.i j :: .i v :: (b.e ++ apT a b.now s b.svcs cs b.brts))) = some (b'.r5 code) ∧ Bnd b' := by
  have hb' : Bnd { b with cpys := cs } := hb.cp (by have := hb.c; omega) hw
  obtain ⟨n1, n2, n3, n4, n5, e1⟩ := s_l19Count_ex { b with cpys := cs } a.svc hb'
  simp only [Book.e, Svc.e, Cpy.e, Brt.e, Act.e, Wld.e, Ev1.e, BB, nils, rows] at e1
  have e8 := apply8 b a j v s cs hb ha h0 hc hw hj hn
  simp only [apT, Book.e, Svc.e, Cpy.e, Brt.e, Act.e, Wld.e, Ev1.e, BB, nils, rows] at e8 ⊢
  simp only [s_l21Apply.d10, BB, nils, rows, e1]
  have e9 : ∃ (b' : Book) (code : Int), finR ((ap35 s_l21Apply.d9) (.i j :: .i v :: (b.e ++ apT a b.now s b.svcs cs b.brts))) = some (b'.r5 code) ∧ Bnd b' := by
    simp only [apT, Book.e, Svc.e, Cpy.e, Brt.e, Act.e, Wld.e, Ev1.e, BB, nils, rows, s_l21Apply.d9]
    cases hsc : a.scale <;> simp only [BB, nils, rows] <;> rw [hsc] at e8
    · exact e8
    · cases s.per == 0 <;> simp only [BB, nils, rows, s_l18In_eq]
      · cases within a.want s.least s.most <;> simp only [BB, nils, rows]
        · exact hb.r5 6
        · exact e8
      · exact hb.r5 6
  simp only [apT, Book.e, Svc.e, Cpy.e, Brt.e, Act.e, Wld.e, Ev1.e, BB, nils, rows] at e9
  rw [Bool.cond_eq_ite]
  split <;> try simp only [BB, nils, rows]
  · cases hgn : s.gone <;> simp only [BB, nils, rows] <;> rw [hgn] at e9
    · rw [Bool.cond_eq_ite]
      split <;> try simp only [BB, nils, rows]
      · exact hb.r5 6
      · exact e9
    · exact hb.r5 6
  · exact e9
theorem apply12 (b : Book) (a : Act) (j : Nat) (v : Int) (cs : List Cpy) (hb : Bnd b) (ha : ActW a) (h0 : 0 ≤ a.create ∧ a.create ≤ 20) (hc : cs.length = b.cpys.length) (hw : ∀ c, c ∈ cs → Wc c) (hj : j < b.svcs.length) :
    ∃ (b' : Book) (code : Int), finR ((ap22 s_l21Apply.d12) (.i j :: .i v :: (b.e ++ a.e ++ [.i 0, .i b.now, .l [], .l [], .l [], .l (b.svcs.map Svc.e), .l (cs.map Cpy.e), .l (b.brts.map Brt.e)]))) = some (b'.r5 code) ∧ Bnd b' := by
  obtain ⟨n1, n2, n3, n4, n5, e1⟩ := s_l19Count_ex b a.svc hb
  simp only [Book.e, Svc.e, Cpy.e, Brt.e, Act.e, Wld.e, Ev1.e, BB, nils, rows] at e1
  have g1 : (b.svcs.map Svc.e).getD j [] = b.svcs[j].e := getD_map_lt Svc.e hj []
  have p1 : (j : Int) < (b.svcs.length : Int) := by omega
  have hn := hb.w.s _ (List.getElem_mem hj)
  have e11 : ∃ (b' : Book) (code : Int), finR ((ap35 s_l21Apply.d11) (.i j :: .i v :: (b.e ++ apT a b.now b.svcs[j] b.svcs cs b.brts))) = some (b'.r5 code) ∧ Bnd b' := by
    have q1 := apply10 b a j v b.svcs[j] cs hb ha h0 hc hw hj hn
    have q2 := apply10 b a j v { b.svcs[j] with want := a.want, cool := a.cool } cs hb ha h0 hc hw hj hn
    simp only [apT, Book.e, Svc.e, Cpy.e, Brt.e, Act.e, Wld.e, Ev1.e, BB, nils, rows] at q1 q2
    simp only [apT, Book.e, Svc.e, Cpy.e, Brt.e, Act.e, Wld.e, Ev1.e, BB, nils, rows, s_l21Apply.d11]
    cases hsc : a.scale <;> simp only [BB, nils, rows] <;> rw [hsc] at q1 q2
    · exact q1
    · exact q2
  simp only [apT, Book.e, Svc.e, Cpy.e, Brt.e, Act.e, Wld.e, Ev1.e, BB, nils, rows] at e11
  simp only [Book.e, Svc.e, Cpy.e, Brt.e, Act.e, Wld.e, Ev1.e, BB, nils, rows, s_l21Apply.d12, p1, e1, g1]
  cases hd : a.drop <;> simp only [BB, nils, rows] <;> rw [hd] at e11
  · exact e11
  · cases hgn : b.svcs[j].gone <;> simp only [BB, nils, rows] <;> rw [hgn] at e11
    · exact hb.r5 6
    · cases decide (w64 (n1 + n5) > 0) <;> simp only [BB, nils, rows]
      · exact e11
      · exact hb.r5 6
theorem s_l21Apply_ex (b : Book) (a : Act) (hb : Bnd b) (ha : ActW a) : ∃ (b' : Book) (code : Int), s_l21Apply (b.e ++ a.e) = some (b'.r5 code) ∧ Bnd b' := by
  obtain ⟨u, e1, hu⟩ := s_l21ActOk_ex a ha
  have e2 := s_l18Service_eq b a.svc hb.small.s
  simp only [Book.e, Svc.e, Cpy.e, Brt.e, Act.e, Wld.e, Ev1.e, BB, nils, rows] at e1 e2
  simp only [s_l21Apply, s_l21Apply.d15, Book.e, Svc.e, Cpy.e, Brt.e, Act.e, Wld.e, Ev1.e, BB, nils, rows, e1, e2]
  cases u <;> simp only [BB, nils, rows]
  · exact hb.r5 2
  · have h0 := hu rfl
    rcases findIx_spec (fun s : Svc => sEq s.name a.svc) b.svcs 0 with ⟨q1, q2⟩ | ⟨j, hj, q1, q2, _⟩
    · have q : svcIx b.svcs a.svc = -1 := q2
      rw [q]
      exact hb.r5 3
    · have q : svcIx b.svcs a.svc = (j : Int) := by rw [svcIx, q1]; omega
      have hs : (svcOf b a.svc).isSome := by rw [svcOf, q2]; rfl
      have p0 : ¬ (j : Int) < 0 := by omega
      have p1 : (j : Int) < (b.svcs.length : Int) := by omega
      have g1 : (b.svcs.map Svc.e).getD j [] = b.svcs[j].e := getD_map_lt Svc.e hj []
      obtain ⟨o1, f1, h1⟩ := apply1 b a j hb ha
      simp only [Book.e, Svc.e, Cpy.e, Brt.e, Act.e, Wld.e, Ev1.e, BB, nils, rows] at f1
      simp only [q, p0, BB, nils, rows]
      rw [f1]
      rcases h1 with ⟨rfl, hx⟩ | rfl
      · simp only [Book.e, Svc.e, Cpy.e, Brt.e, Act.e, Wld.e, Ev1.e, BB, nils, rows, s_l21Apply.d14, p1, g1]
        cases (b.svcs[j].ver != a.seen) <;> simp only [BB, nils, rows]
        · obtain ⟨o2, f2, h2⟩ := apply2 b a j hb ha hx
          simp only [Book.e, Svc.e, Cpy.e, Brt.e, Act.e, Wld.e, Ev1.e, BB, nils, rows] at f2
          rw [f2]
          rcases h2 with rfl | rfl
          · have e3 := s_l18Book_eq b hb.fit.s hb.fit.c hb.fit.t
            obtain ⟨o3, f3, h3⟩ := apply3 b a j (w64 (b.now + 1)) hb ha hs
            simp only [Book.e, Svc.e, Cpy.e, Brt.e, Act.e, Wld.e, Ev1.e, BB, nils, rows] at f3 e3
            simp only [Book.e, Svc.e, Cpy.e, Brt.e, Act.e, Wld.e, Ev1.e, BB, nils, rows, s_l21Apply.d13, e3]
            rw [f3]
            rcases h3 with ⟨cs, rfl, hcl, hcw⟩ | rfl
            · have f4 := apply12 b a j (w64 (b.now + 1)) cs hb ha h0 hcl hcw hj
              simp only [Book.e, Svc.e, Cpy.e, Brt.e, Act.e, Wld.e, Ev1.e, BB, nils, rows] at f4
              simp only [Book.e, Svc.e, Cpy.e, Brt.e, Act.e, Wld.e, Ev1.e, BB, nils, rows]
              exact f4
            · exact hb.r5 5
          · exact hb.r5 4
        · exact hb.r5 4
      · exact hb.r5 3
theorem s_StewApply_ex (b : Book) (a : Act) (hb : Bnd b) (ha : ActW a) : ∃ (b' : Book) (code : Int), s_StewApply (b.e ++ a.e) = some (b'.r2 code) ∧ Bnd b' := by
  have e1 := s_StewValid_eq b hb.small hb.w.toNames
  obtain ⟨x, code, e2, hx⟩ := s_l21Apply_ex b a hb ha
  have e3 := s_l18Book_eq x hx.fit.s hx.fit.c hx.fit.t
  simp only [Book.e, Svc.e, Cpy.e, Brt.e, Act.e, Wld.e, Ev1.e, BB, nils, rows, Book.r5] at e1 e2 e3
  simp only [s_StewApply, s_StewApply.d1, Book.e, Svc.e, Cpy.e, Brt.e, Act.e, Wld.e, Ev1.e, BB, nils, rows, e1, e2, e3]
  cases validB b <;> simp only [BB, nils, rows]
  · exact ⟨Book.nil, 1, rfl, Bnd.nil⟩
  · exact ⟨x, code, rfl, hx⟩
end Go.Ev
namespace Go.Ev
def inE (n : Int) : List C := [.i n]
theorem s_l25Do_ex (w : Wld) (k age : Int) (v : Ev1) (hw : WOk w) (hv : Evw v) : ∃ (w' : Wld) (cs : List Int), s_l25Do (w.e ++ (.i k :: .i age :: v.e)) = some (w'.e ++ [.l (cs.map inE)]) ∧ WOk w' := by
  simp only [s_l25Do, s_l25Do.d3, Book.e, Svc.e, Cpy.e, Brt.e, Act.e, Wld.e, Ev1.e, BB, nils, rows, s_l18In_eq]
  cases within k 1 6 <;> simp only [BB, nils, rows]
  · obtain ⟨b, code, e1, hb⟩ := s_StewSea_ex w.book v hw.b.fit hw.b.w hv
    obtain ⟨w', e2, hw'⟩ := s_l25Next_ex w b hw hb
    simp only [Book.e, Svc.e, Cpy.e, Brt.e, Act.e, Wld.e, Ev1.e, BB, nils, rows, Book.r2] at e1 e2
    simp only [BB, nils, rows, e1, e2]
    exact ⟨w', [code], rfl, hw'⟩
  · obtain ⟨b, e1, hb⟩ := s_l25View_ex w age hw
    obtain ⟨ac, e2, hl, ha⟩ := s_StewAsk_ex k b hb
    simp only [Book.e, Svc.e, Cpy.e, Brt.e, Act.e, Wld.e, Ev1.e, BB, nils, rows] at e1 e2
    simp only [BB, nils, rows, e1, e2]
    have L : ∃ o, lim (ap13 s_l25Do.d1) (.i 0 :: (w.e ++ [.i 0, .l [], .l (ac.map Act.e), .l [], .l [], .l [], .l []])) = some o ∧ ∃ (w' : Wld) (cs : List Int), o = .brk 0 (w'.e ++ [.i 0, .l (cs.map inE), .l [], .l [], .l [], .l []]) ∧ WOk w' := by
      refine lim_exs (fun q : Wld × List Int × Nat => .i (q.2.2 : Nat) :: (q.1.e ++ [.i 0, .l (q.2.1.map inE), .l (ac.map Act.e), .l [], .l [], .l [], .l []])) (fun q => ac.length - q.2.2) (fun q => q.2.2 ≤ ac.length ∧ q.2.1.length = q.2.2 ∧ WOk q.1) _ (w, [], 0) ⟨Nat.zero_le _, rfl, hw⟩ ?_
      rintro ⟨u, cs, i⟩ ⟨hi, hc, hu⟩
      simp only at hi hc hu
      have w1 : w64 ((i : Int) + 1) = (i : Int) + 1 := w64_of (by omega) (by omega)
      by_cases hlt : i < ac.length
      · left
        have g1 : (ac.map Act.e).getD i [] = ac[i].e := getD_map_lt Act.e hlt []
        have p1 : (i : Int) < (ac.length : Int) := by omega
        have p2 : cs.length + 1 ≤ 4294967296 := by omega
        obtain ⟨b', code, e3, hb'⟩ := s_StewApply_ex u.book ac[i] hu.b (ha _ (List.getElem_mem hlt))
        obtain ⟨u', e4, hu'⟩ := s_l25Next_ex u b' hu hb'
        simp only [Book.e, Svc.e, Cpy.e, Brt.e, Act.e, Wld.e, Ev1.e, BB, nils, rows, Book.r2] at e3 e4
        refine ⟨(u', cs ++ [code], i + 1), ?_, ⟨hlt, by simp [hc], hu'⟩, by simp only; omega⟩
        simp only [s_l25Do.d1, Book.e, Svc.e, Cpy.e, Brt.e, Act.e, Wld.e, Ev1.e, BB, nils, rows, p1, g1, e3, e4, p2, w1, List.map_append, List.map_cons, List.map_nil]
        rfl
      · right
        have p1 : ¬ (i : Int) < (ac.length : Int) := by omega
        refine ⟨_, ?_, ?_, u, cs, rfl, hu⟩
        · simp only [s_l25Do.d1, Book.e, Svc.e, Cpy.e, Brt.e, Act.e, Wld.e, Ev1.e, BB, nils, rows, p1]
        · trivial
    obtain ⟨o, e3, w', cs, rfl, hw'⟩ := L
    simp only [Book.e, Svc.e, Cpy.e, Brt.e, Act.e, Wld.e, Ev1.e, BB, nils, rows] at e3
    rw [e3]
    exact ⟨w', cs, rfl, hw'⟩
theorem s_StewWorldOk_ex (w : Wld) (hw : WOk w) : ∃ v : Bool, s_StewWorldOk w.e = some [.b v] := by
  have e1 := s_StewValid_eq w.book hw.b.small hw.b.w.toNames
  have hl := hw.l
  simp only [Book.e, Svc.e, Cpy.e, Brt.e, Act.e, Wld.e, Ev1.e, BB, nils, rows] at e1
  have L : ∃ o, lim (ap6 s_StewWorldOk.d1) (.i 0 :: w.e) = some o ∧ (o = .brk 0 [] ∨ o = .ret [.b false]) := by
    refine lim_exs (fun i : Nat => .i (i : Nat) :: w.e) (fun i => w.past.length - i) (fun i => i ≤ w.past.length) _ 0 (Nat.zero_le _) ?_
    intro i hi
    have w1 : w64 ((i : Int) + 1) = (i : Int) + 1 := w64_of (by omega) (by omega)
    simp only [Book.e, Svc.e, Cpy.e, Brt.e, Act.e, Wld.e, Ev1.e, BB, nils, rows]
    by_cases hlt : i < w.past.length
    · have g1 : (w.past.map Book.e).getD i [] = w.past[i].e := getD_map_lt Book.e hlt []
      have p1 : (i : Int) < (w.past.length : Int) := by omega
      have hp := hw.p _ (List.getElem_mem hlt)
      have e2 := s_StewValid_eq w.past[i] hp.small hp.w.toNames
      simp only [Book.e, Svc.e, Cpy.e, Brt.e, Act.e, Wld.e, Ev1.e, BB, nils, rows] at e2 g1
      have er : List.map (fun b : Book => [C.i b.now, C.l (List.map Svc.e b.svcs), C.l (List.map Cpy.e b.cpys), C.l (List.map Brt.e b.brts)]) w.past = w.past.map Book.e := rfl
      simp only [s_StewWorldOk.d1, BB, nils, rows, p1, g1, e2]
      cases validB w.past[i] <;> simp only [BB, nils, rows]
      · right; exact ⟨_, rfl, trivial, .inr rfl⟩
      · rw [Bool.cond_eq_ite]; split
        · rw [Bool.cond_eq_ite]; split
          · rename_i hh
            have h0 : 0 < i := by simp at hh; omega
            have w2 : w64 ((i : Int) - 1) = ((i - 1 : Nat) : Int) := by rw [w64_of (by omega) (by omega)]; omega
            have p2 : ((i - 1 : Nat) : Int) < (w.past.length : Int) := by omega
            have g2 : (w.past.map Book.e).getD (i - 1) [] = w.past[i - 1].e := getD_map_lt Book.e (by omega) []
            simp only [Book.e, Svc.e, Cpy.e, Brt.e, Act.e, Wld.e, Ev1.e, BB, nils, rows] at g2
            simp only [BB, nils, rows, w2, p2, g2]
            cases decide (w.past[i - 1].now > w.past[i].now) <;> simp only [BB, nils, rows]
            · left; exact ⟨i + 1, by rw [w1]; rfl, hlt, by omega⟩
            · right; exact ⟨_, rfl, trivial, .inr rfl⟩
          · left; exact ⟨i + 1, by rw [w1]; rfl, hlt, by omega⟩
        · right; exact ⟨_, rfl, trivial, .inr rfl⟩
    · right
      have p1 : ¬ (i : Int) < (w.past.length : Int) := by omega
      refine ⟨.brk 0 [], ?_, trivial, .inl rfl⟩
      simp only [s_StewWorldOk.d1, BB, nils, rows, p1]
  obtain ⟨o, e2, ho⟩ := L
  simp only [Book.e, Svc.e, Cpy.e, Brt.e, Act.e, Wld.e, Ev1.e, BB, nils, rows] at e2
  have p1 : ¬ ((w.past.length : Int) > 8) := by omega
  simp only [s_StewWorldOk, s_StewWorldOk.d3, Book.e, Svc.e, Cpy.e, Brt.e, Act.e, Wld.e, Ev1.e, BB, nils, rows, e1, p1]
  cases validB w.book <;> simp only [BB, nils, rows]
  · exact ⟨_, rfl⟩
  · rw [e2]
    rcases ho with rfl | rfl
    · exact ⟨_, rfl⟩
    · exact ⟨_, rfl⟩
end Go.Ev
namespace Go.Ev
theorem s_l25Order_ex (os : List Int) (ho : os.length ≤ 100) : ∃ ks : List Int, s_l25Order [.l (os.map inE)] = some [.l (ks.map inE)] ∧ ks.length ≤ 1000 := by
  have L1 : ∀ (ks al : List Int) (i : Nat) (hk : ks.length ≤ 1000) (hi : i < al.length), ∃ (o : Out), lim (ap5 s_l25Order.d1) [.i (i : Nat), .b false, .i 0, .l (ks.map inE), .l (al.map inE)] = some o ∧ ∃ v : Bool, o = .brk 2 [.i (i : Nat), .b v, .l (ks.map inE), .l (al.map inE)] := by
    intro ks al i hk hi
    refine lim_exs (fun q : Bool × Nat => [.i (i : Nat), .b q.1, .i (q.2 : Nat), .l (ks.map inE), .l (al.map inE)]) (fun q => ks.length - q.2) (fun q => q.2 ≤ ks.length) _ (false, 0) (Nat.zero_le _) ?_
    rintro ⟨v, k⟩ hkk
    simp only at hkk
    have w1 : w64 ((k : Int) + 1) = (k : Int) + 1 := w64_of (by omega) (by omega)
    by_cases hlt : k < ks.length
    · left
      have p1 : (k : Int) < (ks.length : Int) := by omega
      have p2 : (i : Int) < (al.length : Int) := by omega
      have g1 : (ks.map inE).getD k [] = inE ks[k] := getD_map_lt inE hlt []
      have g2 : (al.map inE).getD i [] = inE al[i] := getD_map_lt inE hi []
      cases v
      · exact ⟨(ks[k] == al[i], k + 1), by simp only [s_l25Order.d1, BB, nils, rows, p1, p2, g1, g2, inE, w1]; rfl, hlt, by simp only; omega⟩
      · exact ⟨(true, k + 1), by simp only [s_l25Order.d1, BB, nils, rows, p1, p2, w1]; rfl, hlt, by simp only; omega⟩
    · right
      have p1 : ¬ (k : Int) < (ks.length : Int) := by omega
      refine ⟨_, ?_, ?_, v, rfl⟩
      · simp only [s_l25Order.d1, BB, nils, rows, p1]
      · trivial
  have hal : (os ++ [1, 2, 3, 4, 5, 6]).length ≤ 200 := by simp; omega
  generalize hq : os ++ [1, 2, 3, 4, 5, 6] = al at hal
  have L : ∃ o, lim (ap3 s_l25Order.d3) [.i 0, .l [], .l (al.map inE)] = some o ∧ ∃ ks : List Int, o = .brk 0 [.l (ks.map inE)] ∧ ks.length ≤ 1000 := by
    refine lim_exs (fun q : List Int × Nat => [.i (q.2 : Nat), .l (q.1.map inE), .l (al.map inE)]) (fun q => al.length - q.2) (fun q => q.2 ≤ al.length ∧ q.1.length ≤ q.2) _ ([], 0) ⟨Nat.zero_le _, Nat.zero_le _⟩ ?_
    rintro ⟨ks, i⟩ ⟨hi, hk⟩
    simp only at hi hk
    have w1 : w64 ((i : Int) + 1) = (i : Int) + 1 := w64_of (by omega) (by omega)
    by_cases hlt : i < al.length
    · left
      have p1 : (i : Int) < (al.length : Int) := by omega
      have p2 : ks.length + 1 ≤ 4294967296 := by omega
      have g2 : (al.map inE).getD i [] = inE al[i] := getD_map_lt inE hlt []
      obtain ⟨o, e1, v, rfl⟩ := L1 ks al i (by omega) hlt
      have step : ∃ ks' : List Int, s_l25Order.d3 (.i (i : Nat)) (.l (ks.map inE)) (.l (al.map inE)) = some (.again [.i ((i + 1 : Nat) : Int), .l (ks'.map inE), .l (al.map inE)]) ∧ ks'.length ≤ i + 1 := by
        simp only [s_l25Order.d3, BB, nils, rows, p1]
        rw [e1]
        simp only [BB, nils, rows, s_l25Order.d2]
        cases v <;> simp only [BB, nils, rows, p1, g2, inE, s_l18In_eq]
        · cases within al[i] 1 6 <;> simp only [BB, nils, rows, w1]
          · exact ⟨ks, rfl, by omega⟩
          · exact ⟨ks ++ [al[i]], by simp only [BB, nils, rows, p2, List.map_append, List.map_cons, List.map_nil, inE]; rfl, by simp; omega⟩
        · exact ⟨ks, by rw [w1]; rfl, by omega⟩
      obtain ⟨ks', h1, h2⟩ := step
      exact ⟨(ks', i + 1), h1, ⟨hlt, h2⟩, by simp only; omega⟩
    · right
      have p1 : ¬ (i : Int) < (al.length : Int) := by omega
      refine ⟨_, ?_, ?_, ks, rfl, by omega⟩
      · simp only [s_l25Order.d3, BB, nils, rows, p1]
      · trivial
  obtain ⟨o, e1, ks, rfl, hk⟩ := L
  refine ⟨ks, ?_, hk⟩
  have q1 : os.length ≤ 4294967296 := by omega
  have q2 : os.length + 6 ≤ 4294967296 := by omega
  have er : List.map inE os ++ [[C.i 1], [C.i 2], [C.i 3], [C.i 4], [C.i 5], [C.i 6]] = List.map inE al := by rw [← hq, List.map_append]; rfl
  have l6 : [[C.i 1], [C.i 2], [C.i 3], [C.i 4], [C.i 5], [C.i 6]].length = 6 := rfl
  simp only [s_l25Order, s_l25Order.d5, BB, nils, rows, q1, l6, q2, er]
  rw [e1]
  rfl
def Wld.c (w : Wld) : List C := [.i w.book.now, .l (w.past.map Book.e), .l (w.book.svcs.map Svc.e), .l (w.book.cpys.map Cpy.e), .l (w.book.brts.map Brt.e)]
theorem s_l25Copy_ex (w : Wld) (hw : WOk w) : s_l25Copy w.e = some w.c := by
  have hl := hw.l
  have L : ∃ o, lim (ap16 s_l25Copy.d1) (.i 0 :: (w.e ++ [.i 0, .i w.book.now, .l [], .l [], .l [], .l [], .l [], .l (w.book.svcs.map Svc.e), .l (w.book.cpys.map Cpy.e), .l (w.book.brts.map Brt.e)])) = some o ∧ o = .brk 0 [.i 0, .i w.book.now, .l [], .l [], .l [], .l [], .l (w.past.map Book.e), .l (w.book.svcs.map Svc.e), .l (w.book.cpys.map Cpy.e), .l (w.book.brts.map Brt.e)] := by
    refine lim_exs (fun i : Nat => .i (i : Nat) :: (w.e ++ [.i 0, .i w.book.now, .l [], .l [], .l [], .l [], .l ((w.past.take i).map Book.e), .l (w.book.svcs.map Svc.e), .l (w.book.cpys.map Cpy.e), .l (w.book.brts.map Brt.e)])) (fun i => w.past.length - i) (fun i => i ≤ w.past.length) _ 0 (Nat.zero_le _) ?_
    intro i hi
    have w1 : w64 ((i : Int) + 1) = (i : Int) + 1 := w64_of (by omega) (by omega)
    by_cases hlt : i < w.past.length
    · left
      refine ⟨i + 1, ?_, hlt, by omega⟩
      have hp := hw.p _ (List.getElem_mem hlt)
      have e2 := s_l18Book_v1_eq w.past[i] hp.fit.s hp.fit.c hp.fit.t
      have g1 : (w.past.map Book.e).getD i [] = w.past[i].e := getD_map_lt Book.e hlt []
      have p1 : (i : Int) < (w.past.length : Int) := by omega
      have p2 : min i w.past.length + 1 ≤ 4294967296 := by omega
      simp only [Book.e, Svc.e, Cpy.e, Brt.e, Act.e, Wld.e, Ev1.e, BB, nils, rows] at e2 g1
      have er : w.past.take (i + 1) = w.past.take i ++ [w.past[i]] := List.take_succ_eq_append_getElem hlt
      simp only [s_l25Copy.d1, Book.e, Svc.e, Cpy.e, Brt.e, Act.e, Wld.e, Ev1.e, BB, nils, rows, p1, g1, e2, w1, List.length_take, p2, er, List.map_append, List.map_cons, List.map_nil]
      rfl
    · right
      have : i = w.past.length := by omega
      subst this
      have p1 : ¬ (w.past.length : Int) < (w.past.length : Int) := by omega
      refine ⟨_, ?_, ?_, rfl⟩
      · simp only [s_l25Copy.d1, Book.e, Svc.e, Cpy.e, Brt.e, Act.e, Wld.e, Ev1.e, BB, nils, rows, p1, List.take_length]
      · trivial
  obtain ⟨o, e1, rfl⟩ := L
  have e2 := s_l18Book_eq w.book hw.b.fit.s hw.b.fit.c hw.b.fit.t
  simp only [Book.e, Svc.e, Cpy.e, Brt.e, Act.e, Wld.e, Ev1.e, BB, nils, rows] at e1 e2
  simp only [s_l25Copy, s_l25Copy.d3, Book.e, Svc.e, Cpy.e, Brt.e, Act.e, Wld.e, Ev1.e, BB, nils, rows, e2]
  rw [e1]
  rfl
def Ev1.tick : Ev1 := ⟨1, ⟨bs #[], 0, false, 0, 0, 0, 0, 0, 0, 0, 0, 0, 0⟩, bs #[], 0, false⟩
theorem Wld.nil_ok : WOk ⟨[], Book.nil⟩ := ⟨by simp, by simp, Bnd.nil⟩
end Go.Ev
namespace Go.Ev
theorem Ev1.tick_ok (k : Int) : Evw ⟨k, ⟨bs #[], 0, false, 0, 0, 0, 0, 0, 0, 0, 0, 0, 0⟩, bs #[], 0, false⟩ := ⟨by simp only; rw [size_empty]; omega, by simp only; rw [size_empty]; omega⟩
theorem s_StewCalm_ex (w : Wld) (n : Int) (os : List Int) (hw : WOk w) (ho : os.length ≤ 100) : ∃ w' : Wld, s_StewCalm (w.e ++ [.i n, .l (os.map inE)]) = some w'.c ∧ WOk w' := by
  obtain ⟨v, e1⟩ := s_StewWorldOk_ex w hw
  obtain ⟨ks, e2, hk⟩ := s_l25Order_ex os ho
  simp only [Book.e, Svc.e, Cpy.e, Brt.e, Act.e, Wld.e, Ev1.e, BB, nils, rows] at e1 e2
  simp only [s_StewCalm, s_StewCalm.d5, Book.e, Svc.e, Cpy.e, Brt.e, Act.e, Wld.e, Ev1.e, BB, nils, rows, e1, e2]
  cases v <;> simp only [BB, nils, rows]
  · exact ⟨⟨[], Book.nil⟩, rfl, Wld.nil_ok⟩
  · have L1 : ∀ (u : Wld) (r : Int), WOk u → ∃ o, lim (ap14 s_StewCalm.d1) (.i n :: .i r :: .i 0 :: .i 0 :: .l (ks.map inE) :: (u.e ++ [.l [], .l [], .l [], .l []])) = some o ∧ ∃ u' : Wld, o = .brk 2 (.i n :: .i r :: .i 0 :: .l (ks.map inE) :: (u'.e ++ [.l [], .l [], .l [], .l []])) ∧ WOk u' := by
      intro u r hu
      refine lim_exs (fun q : Wld × Nat => .i n :: .i r :: .i (q.2 : Nat) :: .i 0 :: .l (ks.map inE) :: (q.1.e ++ [.l [], .l [], .l [], .l []])) (fun q => ks.length - q.2) (fun q => q.2 ≤ ks.length ∧ WOk q.1) _ (u, 0) ⟨Nat.zero_le _, hu⟩ ?_
      rintro ⟨x, i⟩ ⟨hi, hx⟩
      simp only at hi hx
      have w1 : w64 ((i : Int) + 1) = (i : Int) + 1 := w64_of (by omega) (by omega)
      by_cases hlt : i < ks.length
      · left
        have p1 : (i : Int) < (ks.length : Int) := by omega
        have g2 : (ks.map inE).getD i [] = inE ks[i] := getD_map_lt inE hlt []
        obtain ⟨x', cs, e3, hx'⟩ := s_l25Do_ex x ks[i] 0 ⟨0, ⟨bs #[], 0, false, 0, 0, 0, 0, 0, 0, 0, 0, 0, 0⟩, bs #[], 0, false⟩ hx (Ev1.tick_ok 0)
        simp only [Book.e, Svc.e, Cpy.e, Brt.e, Act.e, Wld.e, Ev1.e, BB, nils, rows] at e3
        refine ⟨(x', i + 1), ?_, ⟨hlt, hx'⟩, by simp only; omega⟩
        simp only [s_StewCalm.d1, Book.e, Svc.e, Cpy.e, Brt.e, Act.e, Wld.e, Ev1.e, BB, nils, rows, p1, g2, inE, e3, w1]
        rfl
      · right
        have p1 : ¬ (i : Int) < (ks.length : Int) := by omega
        refine ⟨_, ?_, ?_, x, rfl, hx⟩
        · simp only [s_StewCalm.d1, Book.e, Svc.e, Cpy.e, Brt.e, Act.e, Wld.e, Ev1.e, BB, nils, rows, p1]
        · trivial
    have L2 : ∃ o, lim (ap13 s_StewCalm.d3) (.i n :: .i 0 :: .i 0 :: .l (ks.map inE) :: (w.e ++ [.l [], .l [], .l [], .l []])) = some o ∧ ∃ u' : Wld, o = .brk 0 (.i 0 :: (u'.e ++ [.l [], .l [], .l [], .l []])) ∧ WOk u' := by
      refine lim_exs (fun q : Wld × Nat => .i n :: .i (q.2 : Nat) :: .i 0 :: .l (ks.map inE) :: (q.1.e ++ [.l [], .l [], .l [], .l []])) (fun q => 1000 - q.2) (fun q => WOk q.1) _ (w, 0) hw ?_
      rintro ⟨x, i⟩ hx
      simp only at hx
      by_cases h1 : (i : Int) < n
      · by_cases h2 : (i : Int) < 1000
        · left
          have w1 : w64 ((i : Int) + 1) = (i : Int) + 1 := w64_of (by omega) (by omega)
          obtain ⟨x', cs, e3, hx'⟩ := s_l25Do_ex x 0 0 ⟨1, ⟨bs #[], 0, false, 0, 0, 0, 0, 0, 0, 0, 0, 0, 0⟩, bs #[], 0, false⟩ hx (Ev1.tick_ok 1)
          obtain ⟨o, e4, y, rfl, hy⟩ := L1 x' i hx'
          simp only [Book.e, Svc.e, Cpy.e, Brt.e, Act.e, Wld.e, Ev1.e, BB, nils, rows] at e3 e4
          refine ⟨(y, i + 1), ?_, hy, by simp only; omega⟩
          simp only [s_StewCalm.d3, Book.e, Svc.e, Cpy.e, Brt.e, Act.e, Wld.e, Ev1.e, BB, nils, rows, h1, h2, e3]
          rw [e4]
          simp only [BB, nils, rows, s_StewCalm.d2, w1]
          rfl
        · right
          refine ⟨_, ?_, ?_, x, rfl, hx⟩
          · simp only [s_StewCalm.d3, Book.e, Svc.e, Cpy.e, Brt.e, Act.e, Wld.e, Ev1.e, BB, nils, rows, h1, h2]
          · trivial
      · right
        refine ⟨_, ?_, ?_, x, rfl, hx⟩
        · simp only [s_StewCalm.d3, Book.e, Svc.e, Cpy.e, Brt.e, Act.e, Wld.e, Ev1.e, BB, nils, rows, h1]
        · trivial
    obtain ⟨o, e3, u, rfl, hu⟩ := L2
    have e4 := s_l25Copy_ex u hu
    simp only [Book.e, Svc.e, Cpy.e, Brt.e, Act.e, Wld.e, Ev1.e, BB, nils, rows, Wld.c] at e3 e4
    rw [e3]
    simp only [BB, nils, rows, s_StewCalm.d4, e4]
    exact ⟨u, rfl, hu⟩
structure Rd where
  b : List Int
  p : Nat
def Rd.e (r : Rd) : List C := [.l (r.b.map inE), .i (r.p : Nat)]
structure ROk (m : Nat) (r : Rd) : Prop where
  l : r.b.length ≤ 2000
  y : ∀ n, n ∈ r.b → 0 ≤ n ∧ n ≤ 255
  p : r.p ≤ m
theorem ROk.le {m n : Nat} {r : Rd} (h : ROk m r) (hm : m ≤ n) : ROk n r := ⟨h.l, h.y, Nat.le_trans h.p hm⟩
theorem xor_nonneg (x : Int) (h0 : 0 ≤ x) (h1 : x ≤ 4611686018427387904) : 0 ≤ w64 ((BitVec.ofInt (IntKind.bits .i64) x ^^^ BitVec.ofInt (IntKind.bits .i64) (x.tdiv 64)).toNat : Int) := by
  have hb : IntKind.bits .i64 = 64 := rfl
  rw [hb]
  obtain ⟨n, rfl⟩ := Int.eq_ofNat_of_zero_le h0
  have e1 : BitVec.ofInt 64 (n : Int) = BitVec.ofNat 64 n := BitVec.ofInt_natCast 64 n
  have e2 : ((n : Int)).tdiv 64 = ((n / 64 : Nat) : Int) := rfl
  have e3 : BitVec.ofInt 64 ((n / 64 : Nat) : Int) = BitVec.ofNat 64 (n / 64) := BitVec.ofInt_natCast 64 (n / 64)
  rw [e2]
  have hlt : (BitVec.ofInt 64 (n : Int) ^^^ BitVec.ofInt 64 ((n / 64 : Nat) : Int)).toNat < 2 ^ 63 := by
    rw [e1, e3, BitVec.toNat_xor]
    apply Nat.xor_lt_two_pow
    · rw [BitVec.toNat_ofNat]; omega
    · rw [BitVec.toNat_ofNat]; omega
  rw [w64_of (by omega) (by omega)]
  omega
end Go.Ev
namespace Go.Ev
theorem tmod_nat (a b : Nat) : ((a : Int)).tmod (b : Int) = ((a % b : Nat) : Int) := rfl
theorem tdiv_nat (a b : Nat) : ((a : Int)).tdiv (b : Int) = ((a / b : Nat) : Int) := rfl
theorem w64_nat {n : Nat} (h : n ≤ 9223372036854775807) : w64 (n : Int) = (n : Int) := w64_of (by omega) (by omega)
theorem byte_at {m : Nat} {r : Rd} (h : ROk m r) {i : Nat} (hi : i < r.b.length) : ∃ k : Nat, (r.b.map inE).getD i [] = [.i (k : Nat)] ∧ k ≤ 255 := by
  obtain ⟨h1, h2⟩ := h.y _ (List.getElem_mem hi)
  refine ⟨r.b[i].toNat, ?_, by omega⟩
  rw [getD_map_lt inE hi, inE]
  congr 2
  omega
theorem s_pick_ex (r : Rd) (n : Int) {m : Nat} (hr : ROk m r) (hm : m ≤ 1000000000000) (hn : n ≤ 1000000) : ∃ x : Int, s_l18Rd_pick (.i n :: r.e) = some (.i x :: (Rd.e ⟨r.b, r.p + 1⟩)) ∧ 0 ≤ x ∧ (1 ≤ n → x < n) := by
  have hp := hr.p
  have w1 : w64 ((r.p : Int) + 1) = ((r.p + 1 : Nat) : Int) := w64_nat (n := r.p + 1) (by omega)
  have w2 : w64 (((r.p + 1 : Nat) : Int) - 1) = (r.p : Int) := by rw [w64_of (by omega) (by omega)]; omega
  simp only [s_l18Rd_pick, s_l18Rd_pick.d1, Rd.e, BB, nils, rows, w1, w2]
  by_cases h1 : n < 1
  · simp only [h1, BB, nils, rows]
    exact ⟨0, rfl, by omega, fun h => by omega⟩
  · have hn0 : (n != 0) = true := by simp; omega
    obtain ⟨d, rfl⟩ := Int.eq_ofNat_of_zero_le (show 0 ≤ n by omega)
    simp only [h1, BB, nils, rows, hn0]
    by_cases hz : r.b.length = 0
    · have : ((r.b.length : Int) == 0) = true := by simp [hz]
      simp only [this, BB, nils, rows]
      exact ⟨0, rfl, by omega, fun h => by omega⟩
    · have z1 : ((r.b.length : Int) == 0) = false := by simp; intro h; exact hz (by rw [h]; rfl)
      have z2 : ((r.b.length : Int) != 0) = true := by simp only [bne, z1, ja]
      simp only [z1, z2, BB, nils, rows]
      by_cases hlt : (r.p : Int) < (r.b.length : Int)
      · obtain ⟨k, hk, hk2⟩ := byte_at hr (i := r.p) (by omega)
        simp only [hlt, hk, BB, nils, rows, w64_nat (n := k) (by omega), tmod_nat]
        exact ⟨_, rfl, by omega, fun _ => by have := Nat.mod_lt k (show d > 0 by omega); omega⟩
      · have l0 : r.b.length > 0 := by omega
        have m1 := Nat.mod_lt r.p l0
        have m2 := Nat.mod_lt (r.p * 7 + 3) l0
        have v1 : w64 ((r.p : Int) * 7) = ((r.p * 7 : Nat) : Int) := by rw [w64_of (by omega) (by omega)]; omega
        have v2 : w64 (((r.p * 7 : Nat) : Int) + 3) = ((r.p * 7 + 3 : Nat) : Int) := by rw [w64_of (by omega) (by omega)]; omega
        obtain ⟨k1, hk1, hk1'⟩ := byte_at hr (i := r.p % r.b.length) m1
        obtain ⟨k2, hk2, hk2'⟩ := byte_at hr (i := (r.p * 7 + 3) % r.b.length) m2
        have q1 : ((r.p % r.b.length : Nat) : Int) < (r.b.length : Int) := by omega
        have q2 : (((r.p * 7 + 3) % r.b.length : Nat) : Int) < (r.b.length : Int) := by omega
        have q3 : r.p / r.b.length ≤ r.p := Nat.div_le_self _ _
        simp only [hlt, BB, nils, rows, v1, v2, tmod_nat, tdiv_nat, q1, q2, hk1, hk2, w64_nat (n := k1) (by omega), w64_nat (n := k2) (by omega)]
        generalize hQ : r.p / r.b.length = Q at q3 ⊢
        have u1 : w64 ((k1 : Int) * 131) = ((k1 * 131 : Nat) : Int) := by rw [w64_of (by omega) (by omega)]; omega
        have u2 : w64 ((k2 : Int) * 1117) = ((k2 * 1117 : Nat) : Int) := by rw [w64_of (by omega) (by omega)]; omega
        have u3 : w64 ((r.p : Int) * 29) = ((r.p * 29 : Nat) : Int) := by rw [w64_of (by omega) (by omega)]; omega
        have u4 : w64 ((Q : Nat) : Int) = ((Q : Nat) : Int) := w64_nat (by omega)
        have u5 : w64 (((Q : Nat) : Int) * 53) = ((Q * 53 : Nat) : Int) := by rw [w64_of (by omega) (by omega)]; omega
        have u6 : w64 (((k1 * 131 : Nat) : Int) + ((k2 * 1117 : Nat) : Int)) = ((k1 * 131 + k2 * 1117 : Nat) : Int) := by rw [w64_of (by omega) (by omega)]; omega
        have u7 : w64 (((k1 * 131 + k2 * 1117 : Nat) : Int) + ((r.p * 29 : Nat) : Int)) = ((k1 * 131 + k2 * 1117 + r.p * 29 : Nat) : Int) := by rw [w64_of (by omega) (by omega)]; omega
        have u8 : w64 (((k1 * 131 + k2 * 1117 + r.p * 29 : Nat) : Int) + ((Q * 53 : Nat) : Int)) = ((k1 * 131 + k2 * 1117 + r.p * 29 + Q * 53 : Nat) : Int) := by rw [w64_of (by omega) (by omega)]; omega
        simp only [u1, u2, u3, u4, u5, u6, u7, u8]
        have hb : k1 * 131 + k2 * 1117 + r.p * 29 + Q * 53 ≤ 4611686018427387904 / 2 := by omega
        generalize hX : k1 * 131 + k2 * 1117 + r.p * 29 + Q * 53 = X at hb
        have vd : ((X : Int)).tdiv 64 = ((X / 64 : Nat) : Int) := rfl
        have vw : w64 (((X : Int)).tdiv 64) = ((X : Int)).tdiv 64 := by rw [vd]; exact w64_nat (by omega)
        have xn := xor_nonneg (X : Int) (by omega) (by omega)
        simp only [vw]
        obtain ⟨Y, hY⟩ := Int.eq_ofNat_of_zero_le xn
        rw [hY]
        simp only [tmod_nat]
        exact ⟨_, rfl, by omega, fun _ => by have := Nat.mod_lt Y (show d > 0 by omega); omega⟩
end Go.Ev
namespace Go.Ev
theorem pick_ex (r : Rd) (n : Int) {m : Nat} (hr : ROk m r) (hm : m ≤ 1000000000000) (hn : n ≤ 1000000) : ∃ (x : Int) (r' : Rd), s_l18Rd_pick [.i n, .l (r.b.map inE), .i (r.p : Nat)] = some [.i x, .l (r'.b.map inE), .i (r'.p : Nat)] ∧ 0 ≤ x ∧ (1 ≤ n → x < n) ∧ ROk (m + 1) r' := by
  obtain ⟨x, h1, h2, h3⟩ := s_pick_ex r n hr hm hn
  exact ⟨x, ⟨r.b, r.p + 1⟩, h1, h2, h3, ⟨hr.l, hr.y, Nat.succ_le_succ hr.p⟩⟩
theorem lit_s (l : List Str) (x : Int) (h0 : 0 ≤ x) (h1 : x < l.length) : ∃ t, t ∈ l ∧ ((l.map fun t => [C.s t]).getD x.toNat []).getD 0 .nil = .s t := by
  have h : x.toNat < l.length := by omega
  exact ⟨l[x.toNat], List.getElem_mem h, by rw [getD_map_lt (fun t => [C.s t]) h]; rfl⟩
theorem lit_i (l : List Int) (x : Int) (h0 : 0 ≤ x) (h1 : x < l.length) : ∃ t : Int, ((l.map inE).getD x.toNat []).getD 0 .nil = .i t := by
  have h : x.toNat < l.length := by omega
  exact ⟨l[x.toNat], by rw [getD_map_lt inE h]; rfl⟩
theorem small_bs {a : Array UInt8} (h : a.size ≤ 100) : (bs a).size < 4611686018427387904 := by
  have : (bs a).size = a.size := rfl
  omega
theorem s_l18DrawWish_ex (r : Rd) {m : Nat} (hr : ROk m r) (hm : m ≤ 999999999) : ∃ (s : Svc) (r' : Rd), s_l18DrawWish r.e = some (s.e ++ r'.e) ∧ s.name.size < 4611686018427387904 ∧ ROk (m + 20) r' := by
  obtain ⟨x1, r1, e1, a1, b1, h1⟩ := pick_ex r 3 hr (by omega) (by omega)
  obtain ⟨x2, r2, e2, a2, b2, h2⟩ := pick_ex r1 3 h1 (by omega) (by omega)
  obtain ⟨x3, r3, e3, a3, b3, h3⟩ := pick_ex r2 6 h2 (by omega) (by omega)
  obtain ⟨x4, r4, e4, a4, b4, h4⟩ := pick_ex r3 3 h3 (by omega) (by omega)
  obtain ⟨x5, r5, e5, a5, b5, h5⟩ := pick_ex r4 3 h4 (by omega) (by omega)
  obtain ⟨x6, r6, e6, a6, b6, h6⟩ := pick_ex r5 10 h5 (by omega) (by omega)
  obtain ⟨x7, r7, e7, a7, b7, h7⟩ := pick_ex r6 3 h6 (by omega) (by omega)
  obtain ⟨x8, r8, e8, a8, b8, h8⟩ := pick_ex r7 9 h7 (by omega) (by omega)
  obtain ⟨x9, r9, e9, a9, b9, h9⟩ := pick_ex r8 3 h8 (by omega) (by omega)
  obtain ⟨y1, t1, f1, c1, d1, k1⟩ := pick_ex r9 5 h9 (by omega) (by omega)
  obtain ⟨y2, t2, f2, c2, d2, k2⟩ := pick_ex t1 60 k1 (by omega) (by omega)
  obtain ⟨y3, t3, f3, c3, d3, k3⟩ := pick_ex t2 4 k2 (by omega) (by omega)
  obtain ⟨nm, hn1, hn2⟩ := lit_s [bs #[100, 98], bs #[119, 101, 98], bs #[120, 45, 49]] x1 a1 (b1 (by omega))
  have hsz : nm.size < 4611686018427387904 := by
    simp only [List.mem_cons, List.mem_nil_iff, or_false] at hn1
    rcases hn1 with rfl | rfl | rfl <;> exact small_bs (by decide)
  have p1 : x1 < ((3 : Nat) : Int) := b1 (by omega)
  have l3 : [[C.s (bs #[100, 98])], [C.s (bs #[119, 101, 98])], [C.s (bs #[120, 45, 49])]].length = 3 := rfl
  simp only [List.map_cons, List.map_nil] at hn2
  have key : ∃ (q1 q2 q3 q4 q5 q6 q7 q8 q9 q10 q11 : Int) (g : Bool) (r' : Rd), s_l18DrawWish r.e = some ([.s nm, .i q1, .b g, .i q2, .i q3, .i q4, .i q5, .i q6, .i q7, .i q8, .i q9, .i q10, .i q11] ++ r'.e) ∧ ROk (m + 20) r' := by
    simp only [s_l18DrawWish, s_l18DrawWish.d2, Rd.e, BB, nils, rows, e1, a1, p1, l3, e2, e3, e4, e5, e6, hn2]
    rw [Bool.cond_eq_ite]
    split
    all_goals simp only [BB, nils, rows, s_l18DrawWish.d1, e7]
    all_goals rw [Bool.cond_eq_ite]
    all_goals split
    all_goals simp only [BB, nils, rows, e8, e9, f1, f2, f3]
    any_goals (rw [Bool.cond_eq_ite]; split)
    all_goals try simp only [BB, nils, rows]
    any_goals exact ⟨_, _, _, _, _, _, _, _, _, _, _, _, t3, rfl, k3.le (by omega)⟩
    any_goals exact ⟨_, _, _, _, _, _, _, _, _, _, _, _, r7, rfl, h7.le (by omega)⟩
  obtain ⟨q1, q2, q3, q4, q5, q6, q7, q8, q9, q10, q11, g, r', h, hr'⟩ := key
  exact ⟨⟨nm, q1, g, q2, q3, q4, q5, q6, q7, q8, q9, q10, q11⟩, r', h, hsz, hr'⟩
end Go.Ev
namespace Go.Ev
def zE : List C := [.i 0, .s (bs #[]), .i 0, .b false, .i 0, .i 0, .i 0, .i 0, .i 0, .i 0, .i 0, .i 0, .i 0, .i 0, .s (bs #[]), .i 0, .b false]
theorem zEvw (k n : Int) (nm : Str) (f : Bool) (h : nm.size < 4611686018427387904) : Evw ⟨k, ⟨bs #[], 0, false, 0, 0, 0, 0, 0, 0, 0, 0, 0, 0⟩, nm, n, f⟩ := ⟨by simp only; rw [size_empty]; omega, h⟩
theorem ev_loop (r : Rd) (b : Book) {m : Nat} (hr : ROk m r) (hm : m ≤ 999999999) (hb : Bnd b) : ∃ o, lim (ap24 s_l23Event.d1) (.i 0 :: (r.e ++ b.e ++ zE)) = some o ∧
    ((∃ r' : Rd, o = .brk 1 (r'.e ++ b.e ++ zE) ∧ ROk (m + 8) r') ∨ ∃ (v : Ev1) (r' : Rd), o = .ret (v.e ++ r'.e) ∧ Evw v ∧ ROk (m + 8) r') := by
  have hs := hb.s
  refine lim_exs (fun q : Rd × Nat => .i (q.2 : Nat) :: (q.1.e ++ b.e ++ zE)) (fun q => b.svcs.length - q.2) (fun q => q.2 ≤ b.svcs.length ∧ ROk (m + q.2) q.1) _ (r, 0) ⟨Nat.zero_le _, hr⟩ ?_
  rintro ⟨x, i⟩ ⟨hi, hx⟩
  simp only at hi hx
  have w1 : w64 ((i : Int) + 1) = (i : Int) + 1 := w64_of (by omega) (by omega)
  by_cases hlt : i < b.svcs.length
  · have p1 : (i : Int) < (b.svcs.length : Int) := by omega
    have g1 : (b.svcs.map Svc.e).getD i [] = b.svcs[i].e := getD_map_lt Svc.e hlt []
    obtain ⟨y, x', e1, a1, b1, hx'⟩ := pick_ex x 2 hx (by omega) (by omega)
    simp only [zE, Rd.e, Book.e, Svc.e, Cpy.e, Brt.e, Act.e, Wld.e, Ev1.e, BB, nils, rows, s_l23Event.d1, p1, g1, e1]
    cases y == 0 <;> simp only [BB, nils, rows]
    · left
      exact ⟨(x', i + 1), by rw [w1]; rfl, ⟨hlt, hx'.le (by omega)⟩, by simp only; omega⟩
    · right
      exact ⟨_, rfl, trivial, .inr ⟨⟨2, { b.svcs[i] with image := w64 (b.svcs[i].image + 1) }, bs #[], 0, false⟩, x', rfl, ⟨hb.w.s b.svcs[i] (List.getElem_mem hlt), by simp only; rw [size_empty]; omega⟩, hx'.le (by omega)⟩⟩
  · right
    have p1 : ¬ (i : Int) < (b.svcs.length : Int) := by omega
    refine ⟨_, ?_, ?_, .inl ⟨x, rfl, hx.le (by omega)⟩⟩
    · simp only [zE, Rd.e, Book.e, Svc.e, Cpy.e, Brt.e, Act.e, Wld.e, Ev1.e, BB, nils, rows, s_l23Event.d1, p1]
    · trivial
theorem ev_fall (r : Rd) (b : Book) {m : Nat} (hr : ROk m r) (hm : m ≤ 999999999) (hb : Bnd b) : ∃ (v : Ev1) (r' : Rd), finR ((ap23 s_l23Event.d8) (r.e ++ b.e ++ zE)) = some (v.e ++ r'.e) ∧ Evw v ∧ ROk (m + 4) r' := by
  have hc := hb.c
  have F : ∀ (u : Bool) (x : Rd), ROk (m + 1) x → (u = true → 0 < b.cpys.length) → ∃ (v : Ev1) (r' : Rd), finR ((ap24 s_l23Event.d7) (.b u :: (x.e ++ b.e ++ zE))) = some (v.e ++ r'.e) ∧ Evw v ∧ ROk (m + 4) r' := by
    intro u x hx hu
    cases u
    · obtain ⟨y, x', e1, a1, b1, hx'⟩ := pick_ex x 6 hx (by omega) (by omega)
      simp only [zE, Rd.e, Book.e, Svc.e, Cpy.e, Brt.e, Act.e, Wld.e, Ev1.e, BB, nils, rows, s_l23Event.d7, e1]
      exact ⟨⟨3, ⟨bs #[], 0, false, 0, 0, 0, 0, 0, 0, 0, 0, 0, 0⟩, bs #[119, 101, 98], w64 (1 + y), false⟩, x', rfl, zEvw _ _ _ _ (small_bs (by decide)), hx'.le (by omega)⟩
    · have hpos := hu rfl
      obtain ⟨y, x', e1, a1, b1, hx'⟩ := pick_ex x (b.cpys.length : Int) hx (by omega) (by omega)
      obtain ⟨k, rfl⟩ := Int.eq_ofNat_of_zero_le a1
      have b2 := b1 (by omega)
      have hk : k < b.cpys.length := by omega
      have g1 : (b.cpys.map Cpy.e).getD k [] = b.cpys[k].e := getD_map_lt Cpy.e hk []
      simp only [zE, Rd.e, Book.e, Svc.e, Cpy.e, Brt.e, Act.e, Wld.e, Ev1.e, BB, nils, rows, s_l23Event.d7, e1, b2, g1]
      exact ⟨⟨3, ⟨bs #[], 0, false, 0, 0, 0, 0, 0, 0, 0, 0, 0, 0⟩, b.cpys[k].svc, b.cpys[k].num, false⟩, x', rfl, zEvw _ _ _ _ (hb.w.c _ (List.getElem_mem hk)).1, hx'.le (by omega)⟩
  obtain ⟨y, x, e1, a1, b1, hx⟩ := pick_ex r 8 hr (by omega) (by omega)
  by_cases h : (b.cpys.length : Int) > 0
  · have f := F (decide (y > 0)) x hx (fun _ => by omega)
    simp only [zE, Rd.e, Book.e, Svc.e, Cpy.e, Brt.e, Act.e, Wld.e, Ev1.e, BB, nils, rows] at f
    simp only [zE, Rd.e, Book.e, Svc.e, Cpy.e, Brt.e, Act.e, Wld.e, Ev1.e, BB, nils, rows, s_l23Event.d8, h, e1]
    exact f
  · have f := F false r (hr.le (by omega)) (by simp)
    simp only [zE, Rd.e, Book.e, Svc.e, Cpy.e, Brt.e, Act.e, Wld.e, Ev1.e, BB, nils, rows] at f
    simp only [zE, Rd.e, Book.e, Svc.e, Cpy.e, Brt.e, Act.e, Wld.e, Ev1.e, BB, nils, rows, s_l23Event.d8, h]
    exact f
end Go.Ev
namespace Go.Ev
def EvR (m : Nat) (o : Option (List C)) : Prop := ∃ (v : Ev1) (r' : Rd), o = some (v.e ++ r'.e) ∧ Evw v ∧ ROk m r'
theorem EvR.le {m n : Nat} {o : Option (List C)} (h : EvR m o) (hm : m ≤ n) : EvR n o := by
  obtain ⟨v, r, h1, h2, h3⟩ := h
  exact ⟨v, r, h1, h2, h3.le hm⟩
noncomputable def fallK : List C → R := (ap23 s_l23Event.d8)
theorem ev3 (t : Bool) (r : Rd) (b : Book) {m : Nat} (hr : ROk m r) (hm : m ≤ 999999999) (hb : Bnd b) : EvR (m + 10) (finR (bindNrm ((ap24 s_l23Event.d3) (.b t :: (r.e ++ b.e ++ zE))) fallK)) := by
  cases t
  · exact (ev_fall r b hr hm hb).imp fun v h => h.imp fun r' h => ⟨h.1, h.2.1, h.2.2.le (by omega)⟩
  · obtain ⟨x, r1, e1, a1, b1, h1⟩ := pick_ex r 3 hr (by omega) (by omega)
    obtain ⟨y, r2, e2, a2, b2, h2⟩ := pick_ex r1 60 h1 (by omega) (by omega)
    obtain ⟨nm, hn1, hn2⟩ := lit_s [bs #[100, 98], bs #[119, 101, 98], bs #[120, 45, 49]] x a1 (b1 (by omega))
    have hsz : nm.size < 4611686018427387904 := by
      simp only [List.mem_cons, List.mem_nil_iff, or_false] at hn1
      rcases hn1 with rfl | rfl | rfl <;> exact small_bs (by decide)
    have p1 : x < ((3 : Nat) : Int) := b1 (by omega)
    have l3 : [[C.s (bs #[100, 98])], [C.s (bs #[119, 101, 98])], [C.s (bs #[120, 45, 49])]].length = 3 := rfl
    simp only [List.map_cons, List.map_nil] at hn2
    simp only [zE, Rd.e, Book.e, Svc.e, Cpy.e, Brt.e, Act.e, Wld.e, Ev1.e, BB, nils, rows, s_l23Event.d3, e1, a1, p1, l3, e2, hn2]
    exact ⟨⟨6, ⟨bs #[], 0, false, 0, 0, 0, 0, 0, 0, 0, 0, 0, 0⟩, nm, y, false⟩, r2, rfl, zEvw _ _ _ _ hsz, h2.le (by omega)⟩
theorem ev4 (nm : Str) (k : Int) (t : Bool) (r : Rd) (b : Book) {m : Nat} (hr : ROk m r) (hm : m ≤ 999999999) (hb : Bnd b) (hn : nm.size < 4611686018427387904) : EvR (m + 10) (finR (bindNrm ((ap26 s_l23Event.d4) (.s nm :: .i k :: .b t :: (r.e ++ b.e ++ zE))) fallK)) := by
  have f3 := fun t => ev3 t r b hr hm hb
  simp only [zE, Rd.e, Book.e, Svc.e, Cpy.e, Brt.e, Act.e, Wld.e, Ev1.e, BB, nils, rows] at f3
  cases t
  · simp only [zE, Rd.e, Book.e, Svc.e, Cpy.e, Brt.e, Act.e, Wld.e, Ev1.e, BB, nils, rows, s_l23Event.d4]
    cases k == 14 <;> simp only [BB, nils, rows]
    · exact f3 _
    · exact f3 _
  · obtain ⟨x, r1, e1, a1, b1, h1⟩ := pick_ex r 3 hr (by omega) (by omega)
    simp only [zE, Rd.e, Book.e, Svc.e, Cpy.e, Brt.e, Act.e, Wld.e, Ev1.e, BB, nils, rows, s_l23Event.d4, e1]
    exact ⟨⟨5, ⟨bs #[], 0, false, 0, 0, 0, 0, 0, 0, 0, 0, 0, 0⟩, nm, 0, _⟩, r1, rfl, zEvw _ _ _ _ hn, h1.le (by omega)⟩
theorem ev5 (nm : Str) (k : Int) (t : Bool) (r : Rd) (b : Book) {m : Nat} (hr : ROk m r) (hm : m ≤ 99999999) (hb : Bnd b) (hn : nm.size < 4611686018427387904) : EvR (m + 30) (finR (bindNrm ((ap26 s_l23Event.d5) (.s nm :: .i k :: .b t :: (r.e ++ b.e ++ zE))) fallK)) := by
  cases t
  · simp only [zE, Rd.e, Book.e, Svc.e, Cpy.e, Brt.e, Act.e, Wld.e, Ev1.e, BB, nils, rows, s_l23Event.d5]
    cases k == 10 <;> simp only [BB, nils, rows]
    · cases k == 11 <;> simp only [BB, nils, rows]
      · have f4 := fun t => (ev4 nm k t r b hr (by omega) hb hn).le (show m + 10 ≤ m + 30 by omega)
        simp only [zE, Rd.e, Book.e, Svc.e, Cpy.e, Brt.e, Act.e, Wld.e, Ev1.e, BB, nils, rows] at f4
        cases hk : k == 12 <;> simp only [BB, nils, rows]
        · exact f4 _
        · exact f4 _
      · exact ⟨⟨4, ⟨bs #[], 0, false, 0, 0, 0, 0, 0, 0, 0, 0, 0, 0⟩, nm, 0, false⟩, r, rfl, zEvw _ _ _ _ hn, hr.le (by omega)⟩
    · obtain ⟨o, e1, h⟩ := ev_loop r b hr (by omega) hb
      simp only [zE, Rd.e, Book.e, Svc.e, Cpy.e, Brt.e, Act.e, Wld.e, Ev1.e, BB, nils, rows] at e1
      rw [e1]
      rcases h with ⟨r', rfl, hr'⟩ | ⟨v, r', rfl, hv, hr'⟩
      · have f := ev_fall r' b hr' (by omega) hb
        simp only [zE, Rd.e, Book.e, Svc.e, Cpy.e, Brt.e, Act.e, Wld.e, Ev1.e, BB, nils, rows] at f
        simp only [zE, Rd.e, Book.e, Svc.e, Cpy.e, Brt.e, Act.e, Wld.e, Ev1.e, BB, nils, rows, s_l23Event.d2, fallK]
        exact f.imp fun v h => h.imp fun r' h => ⟨h.1, h.2.1, h.2.2.le (by omega)⟩
      · exact ⟨v, r', rfl, hv, hr'.le (by omega)⟩
  · obtain ⟨s, r', e1, hs, hr'⟩ := s_l18DrawWish_ex r hr (by omega)
    simp only [Rd.e, Book.e, Svc.e, Cpy.e, Brt.e, Act.e, Wld.e, Ev1.e, BB, nils, rows] at e1
    simp only [zE, Rd.e, Book.e, Svc.e, Cpy.e, Brt.e, Act.e, Wld.e, Ev1.e, BB, nils, rows, s_l23Event.d5, e1]
    exact ⟨⟨2, s, bs #[], 0, false⟩, r', rfl, ⟨hs, by simp only; rw [size_empty]; omega⟩, hr'.le (by omega)⟩
theorem ev6 (nm : Str) (k : Int) (t : Bool) (r : Rd) (b : Book) {m : Nat} (hr : ROk m r) (hm : m ≤ 99999999) (hb : Bnd b) (hn : nm.size < 4611686018427387904) : EvR (m + 30) (finR (bindNrm ((ap26 s_l23Event.d6) (.s nm :: .i k :: .b t :: (r.e ++ b.e ++ zE))) fallK)) := by
  have f5 := fun t => ev5 nm k t r b hr hm hb hn
  simp only [zE, Rd.e, Book.e, Svc.e, Cpy.e, Brt.e, Act.e, Wld.e, Ev1.e, BB, nils, rows] at f5
  cases t
  · simp only [zE, Rd.e, Book.e, Svc.e, Cpy.e, Brt.e, Act.e, Wld.e, Ev1.e, BB, nils, rows, s_l23Event.d6]
    cases k == 7 <;> simp only [BB, nils, rows]
    · cases k == 8 <;> simp only [BB, nils, rows]
      · exact f5 _
      · exact f5 _
    · exact f5 _
  · exact ⟨⟨1, ⟨bs #[], 0, false, 0, 0, 0, 0, 0, 0, 0, 0, 0, 0⟩, bs #[], 0, false⟩, r, rfl, Ev1.tick_ok 1, hr.le (by omega)⟩
theorem s_l23Event_ex (r : Rd) (b : Book) {m : Nat} (hr : ROk m r) (hm : m ≤ 9999999) (hb : Bnd b) : EvR (m + 40) (s_l23Event (b.e ++ r.e)) := by
  obtain ⟨x, r1, e1, a1, b1, h1⟩ := pick_ex r 3 hr (by omega) (by omega)
  obtain ⟨y, r2, e2, a2, b2, h2⟩ := pick_ex r1 20 h1 (by omega) (by omega)
  obtain ⟨nm, hn1, hn2⟩ := lit_s [bs #[97], bs #[98], bs #[99]] x a1 (b1 (by omega))
  have hsz : nm.size < 4611686018427387904 := by
    simp only [List.mem_cons, List.mem_nil_iff, or_false] at hn1
    rcases hn1 with rfl | rfl | rfl <;> exact small_bs (by decide)
  have p1 : x < ((3 : Nat) : Int) := b1 (by omega)
  have l3 : [[C.s (bs #[97])], [C.s (bs #[98])], [C.s (bs #[99])]].length = 3 := rfl
  simp only [List.map_cons, List.map_nil] at hn2
  have f6 := fun t => (ev6 nm y t r2 b h2 (by omega) hb hsz).le (show m + 1 + 1 + 30 ≤ m + 40 by omega)
  simp only [zE, Rd.e, Book.e, Svc.e, Cpy.e, Brt.e, Act.e, Wld.e, Ev1.e, BB, nils, rows, fallK] at f6
  simp only [s_l23Event, s_l23Event.d9, zE, Rd.e, Book.e, Svc.e, Cpy.e, Brt.e, Act.e, Wld.e, Ev1.e, BB, nils, rows, e1, a1, p1, l3, e2, hn2]
  repeat' (rw [Bool.cond_eq_ite]; split <;> try simp only [BB, nils, rows])
  all_goals exact f6 _
theorem s_l25Move_ex (r : Rd) (b : Book) {m : Nat} (hr : ROk m r) (hm : m ≤ 999999) (hb : Bnd b) : ∃ (k age : Int) (v : Ev1) (r' : Rd), s_l25Move (b.e ++ r.e) = some (.i k :: .i age :: (v.e ++ r'.e)) ∧ Evw v ∧ ROk (m + 50) r' := by
  obtain ⟨x, r1, e1, a1, b1, h1⟩ := pick_ex r 5 hr (by omega) (by omega)
  obtain ⟨y, r2, e2, a2, b2, h2⟩ := pick_ex r1 6 h1 (by omega) (by omega)
  obtain ⟨z, r3, e3, a3, b3, h3⟩ := pick_ex r2 6 h2 (by omega) (by omega)
  obtain ⟨v, r4, e4, hv, h4⟩ := s_l23Event_ex r1 b h1 (by omega) hb
  obtain ⟨t, ht⟩ := lit_i [0, 0, 1, 2, 5, 9] z a3 (b3 (by omega))
  have p1 : z < ((6 : Nat) : Int) := b3 (by omega)
  have l3 : [[C.i 0], [C.i 0], [C.i 1], [C.i 2], [C.i 5], [C.i 9]].length = 6 := rfl
  simp only [List.map_cons, List.map_nil, inE] at ht
  simp only [Rd.e, Book.e, Svc.e, Cpy.e, Brt.e, Act.e, Wld.e, Ev1.e, BB, nils, rows] at e4
  simp only [s_l25Move, s_l25Move.d1, Rd.e, Book.e, Svc.e, Cpy.e, Brt.e, Act.e, Wld.e, Ev1.e, BB, nils, rows, e1, e2, e3, a3, p1, l3, e4, ht]
  rw [Bool.cond_eq_ite]
  split <;> try simp only [BB, nils, rows]
  · exact ⟨_, t, ⟨0, ⟨bs #[], 0, false, 0, 0, 0, 0, 0, 0, 0, 0, 0, 0⟩, bs #[], 0, false⟩, r3, rfl, Ev1.tick_ok 0, h3.le (by omega)⟩
  · exact ⟨0, 0, v, r4, rfl, hv, h4.le (by omega)⟩
end Go.Ev
namespace Go.Ev
def rwE (r : Rd) (w : Wld) : List C := r.e ++ [.i 0] ++ w.e ++ [.l [], .l [], .l [], .l []]
theorem rch1 (r : Rd) (w : Wld) (n : Nat) {m : Nat} (hr : ROk m r) (hm : m ≤ 99999) (hn : n ≤ 2) (hw : WOk w) : ∃ o, lim (ap13 s_l25Reached.d1) (.i (n : Nat) :: rwE r w) = some o ∧ ∃ (r' : Rd) (w' : Wld), o = .brk 0 (rwE r' w') ∧ ROk (m + 40) r' ∧ WOk w' := by
  refine lim_exs (fun q : Rd × Wld × Nat => .i (q.2.2 : Nat) :: rwE q.1 q.2.1) (fun q => q.2.2) (fun q => q.2.2 ≤ n ∧ ROk (m + 20 * (n - q.2.2)) q.1 ∧ WOk q.2.1) _ (r, w, n) ⟨Nat.le_refl _, hr.le (by omega), hw⟩ ?_
  rintro ⟨x, u, i⟩ ⟨hi, hx, hu⟩
  simp only at hi hx hu
  by_cases hlt : (i : Int) > 0
  · left
    have w1 : w64 ((i : Int) - 1) = ((i - 1 : Nat) : Int) := by rw [w64_of (by omega) (by omega)]; omega
    obtain ⟨s, x', e1, hs, hx'⟩ := s_l18DrawWish_ex x hx (by omega)
    obtain ⟨u', cs, e2, hu'⟩ := s_l25Do_ex u 0 0 ⟨2, s, bs #[], 0, false⟩ hu ⟨hs, by simp only; rw [size_empty]; omega⟩
    simp only [Rd.e, Book.e, Svc.e, Cpy.e, Brt.e, Act.e, Wld.e, Ev1.e, BB, nils, rows] at e1 e2
    refine ⟨(x', u', i - 1), ?_, ⟨by simp only; omega, hx'.le (by simp only; omega), hu'⟩, by simp only; omega⟩
    simp only [rwE, Rd.e, Book.e, Svc.e, Cpy.e, Brt.e, Act.e, Wld.e, Ev1.e, BB, nils, rows, s_l25Reached.d1, hlt, e1, e2, w1]
  · right
    refine ⟨_, ?_, ?_, x, u, rfl, hx.le (by omega), hu⟩
    · simp only [rwE, Rd.e, Book.e, Svc.e, Cpy.e, Brt.e, Act.e, Wld.e, Ev1.e, BB, nils, rows, s_l25Reached.d1, hlt]
    · trivial
theorem rch2 (r : Rd) (w : Wld) (n : Nat) {m : Nat} (hr : ROk m r) (hm : m ≤ 99999) (hn : n ≤ 60) (hw : WOk w) : ∃ o, lim (ap13 s_l25Reached.d2) (.i (n : Nat) :: rwE r w) = some o ∧ ∃ (r' : Rd) (w' : Wld), o = .brk 2 (rwE r' w') ∧ ROk (m + 3600) r' ∧ WOk w' := by
  refine lim_exs (fun q : Rd × Wld × Nat => .i (q.2.2 : Nat) :: rwE q.1 q.2.1) (fun q => q.2.2) (fun q => q.2.2 ≤ n ∧ ROk (m + 60 * (n - q.2.2)) q.1 ∧ WOk q.2.1) _ (r, w, n) ⟨Nat.le_refl _, hr.le (by omega), hw⟩ ?_
  rintro ⟨x, u, i⟩ ⟨hi, hx, hu⟩
  simp only at hi hx hu
  by_cases hlt : (i : Int) > 0
  · left
    have w1 : w64 ((i : Int) - 1) = ((i - 1 : Nat) : Int) := by rw [w64_of (by omega) (by omega)]; omega
    obtain ⟨k, age, v, x1, e1, hv, h1⟩ := s_l25Move_ex x u.book hx (by omega) hu.b
    obtain ⟨u', cs, e2, hu'⟩ := s_l25Do_ex u k age v hu hv
    obtain ⟨y, x2, e3, a3, b3, h2⟩ := pick_ex x1 8 h1 (by omega) (by omega)
    obtain ⟨y4, x3, e4, a4, b4, h3⟩ := pick_ex x2 7 h2 (by omega) (by omega)
    obtain ⟨y5, x4, e5, a5, b5, h4⟩ := pick_ex x3 6 h3 (by omega) (by omega)
    obtain ⟨y6, x5, e6, a6, b6, h5⟩ := pick_ex x4 6 h4 (by omega) (by omega)
    obtain ⟨u2, e7, hu2⟩ := s_StewCalm_ex u' y4 [w64 (1 + y5), w64 (1 + y6)] hu' (by simp)
    simp only [Rd.e, Book.e, Svc.e, Cpy.e, Brt.e, Act.e, Wld.e, Ev1.e, BB, nils, rows, List.map_cons, List.map_nil, inE, Wld.c] at e1 e2 e7
    have key : ∃ (x' : Rd) (u' : Wld), s_l25Reached.d2 (.i (i : Nat)) (.l (x.b.map inE)) (.i (x.p : Nat)) (.i 0) (.l (u.past.map Book.e)) (.i u.book.now) (.l (u.book.svcs.map Svc.e)) (.l (u.book.cpys.map Cpy.e)) (.l (u.book.brts.map Brt.e)) (.l []) (.l []) (.l []) (.l []) = some (.again (.i ((i - 1 : Nat) : Int) :: rwE x' u')) ∧ ROk (m + 60 * (n - (i - 1))) x' ∧ WOk u' := by
      have er : (fun b : Book => [C.i b.now, C.l (List.map Svc.e b.svcs), C.l (List.map Cpy.e b.cpys), C.l (List.map Brt.e b.brts)]) = Book.e := rfl
      simp only [s_l25Reached.d2, BB, nils, rows, hlt, e1, e2, e3]
      rw [Bool.cond_eq_ite]
      split <;> simp only [BB, nils, rows, e4, e5, e6, e7, w1]
      · exact ⟨x5, u2, rfl, h5.le (by omega), hu2⟩
      · exact ⟨x2, u', rfl, h2.le (by omega), hu'⟩
    obtain ⟨x', u3, hk, hx', hu3⟩ := key
    exact ⟨(x', u3, i - 1), hk, ⟨by simp only; omega, hx', hu3⟩, by simp only; omega⟩
  · right
    refine ⟨_, ?_, ?_, x, u, rfl, hx.le (by omega), hu⟩
    · simp only [rwE, Rd.e, Book.e, Svc.e, Cpy.e, Brt.e, Act.e, Wld.e, Ev1.e, BB, nils, rows, s_l25Reached.d2, hlt]
    · trivial
theorem s_l25Reached_ex (r : Rd) {m : Nat} (hr : ROk m r) (hm : m ≤ 999) : ∃ (w : Wld) (r' : Rd), s_l25Reached r.e = some (.i w.book.now :: (r'.e ++ [.l (w.past.map Book.e), .l (w.book.svcs.map Svc.e), .l (w.book.cpys.map Cpy.e), .l (w.book.brts.map Brt.e)])) ∧ WOk w ∧ ROk (m + 4000) r' := by
  obtain ⟨u1, c1, e1, hu1⟩ := s_l25Do_ex ⟨[], Book.nil⟩ 0 0 ⟨5, ⟨bs #[], 0, false, 0, 0, 0, 0, 0, 0, 0, 0, 0, 0⟩, bs #[97], 0, false⟩ Wld.nil_ok (zEvw _ _ _ _ (small_bs (by decide)))
  obtain ⟨y, r1, e2, a2, b2, h1⟩ := pick_ex r 3 hr (by omega) (by omega)
  obtain ⟨u2, c2, e3, hu2⟩ := s_l25Do_ex u1 0 0 ⟨5, ⟨bs #[], 0, false, 0, 0, 0, 0, 0, 0, 0, 0, 0, 0⟩, bs #[98], 0, false⟩ hu1 (zEvw _ _ _ _ (small_bs (by decide)))
  have T : ∀ u : Wld, WOk u → ∃ (w : Wld) (r' : Rd), finR ((ap12 s_l25Reached.d5) (rwE r1 u)) = some (.i w.book.now :: (r'.e ++ [.l (w.past.map Book.e), .l (w.book.svcs.map Svc.e), .l (w.book.cpys.map Cpy.e), .l (w.book.brts.map Brt.e)])) ∧ WOk w ∧ ROk (m + 4000) r' := by
    intro u hu
    obtain ⟨y, r2, e4, a4, b4, h2⟩ := pick_ex r1 2 h1 (by omega) (by omega)
    have w1 : w64 (1 + y) = ((y.toNat + 1 : Nat) : Int) := by have := b4 (by omega); rw [w64_of (by omega) (by omega)]; omega
    obtain ⟨o, e5, r3, u3, rfl, h3, hu3⟩ := rch1 r2 u (y.toNat + 1) h2 (by omega) (by have := b4 (by omega); omega) hu
    obtain ⟨z, r4, e6, a6, b6, h4⟩ := pick_ex r3 50 h3 (by omega) (by omega)
    obtain ⟨k, rfl⟩ := Int.eq_ofNat_of_zero_le a6
    obtain ⟨o, e7, r5, u5, rfl, h5, hu5⟩ := rch2 r4 u3 k h4 (by omega) (by have := b6 (by omega); omega) hu3
    have e8 := s_l25Copy_ex u5 hu5
    simp only [rwE, Rd.e, Book.e, Svc.e, Cpy.e, Brt.e, Act.e, Wld.e, Ev1.e, BB, nils, rows, Wld.c] at e5 e7 e8
    simp only [rwE, Rd.e, Book.e, Svc.e, Cpy.e, Brt.e, Act.e, Wld.e, Ev1.e, BB, nils, rows, s_l25Reached.d5, e4, w1]
    rw [e5]
    simp only [rwE, Rd.e, Book.e, Svc.e, Cpy.e, Brt.e, Act.e, Wld.e, Ev1.e, BB, nils, rows, s_l25Reached.d4, e6]
    rw [e7]
    simp only [rwE, Rd.e, Book.e, Svc.e, Cpy.e, Brt.e, Act.e, Wld.e, Ev1.e, BB, nils, rows, s_l25Reached.d3, e8]
    exact ⟨u5, r5, rfl, hu5, h5.le (by omega)⟩
  have t1 := T u1 hu1
  have t2 := T u2 hu2
  simp only [rwE, Rd.e, Book.e, Svc.e, Cpy.e, Brt.e, Act.e, Wld.e, Ev1.e, BB, nils, rows, List.map_nil, Book.nil] at e1 e3 t1 t2
  simp only [s_l25Reached, s_l25Reached.d6, Rd.e, Book.e, Svc.e, Cpy.e, Brt.e, Act.e, Wld.e, Ev1.e, BB, nils, rows, e1, e2]
  rw [Bool.cond_eq_ite]
  split <;> simp only [BB, nils, rows, e3]
  · exact t2
  · exact t1
end Go.Ev
namespace Go.Ev
structure Big (b : Book) : Prop where
  s : b.svcs.length ≤ 8
  c : b.cpys.length ≤ 201
  t : b.brts.length ≤ 7
  w : Wrd b
theorem Bnd.big {b : Book} (h : Bnd b) : Big b := ⟨h.s, by have := h.c; omega, by have := h.t; omega, h.w⟩
theorem Big.now {b : Book} (h : Bnd b) (n : Int) : Big { b with now := n } := ⟨h.s, by have := h.c; simp only; omega, by have := h.t; simp only; omega, ⟨⟨h.w.s, h.w.t⟩, h.w.c⟩⟩
theorem Big.svc {b : Book} (h : Bnd b) (i : Nat) (s : Svc) (hs : s.name.size < 4611686018427387904) : Big { b with svcs := b.svcs.set i s } := by
  refine ⟨by have := h.s; simpa using this, by have := h.c; simp only; omega, by have := h.t; simp only; omega, ⟨⟨fun x hx => ?_, h.w.t⟩, h.w.c⟩⟩
  rcases List.mem_or_eq_of_mem_set hx with q | q
  · exact h.w.s x q
  · subst q; exact hs
theorem Big.cpy {b : Book} (h : Bnd b) (i : Nat) (c : Cpy) (hs : Wc c) : Big { b with cpys := b.cpys.set i c } := by
  refine ⟨h.s, by have := h.c; simp; omega, by have := h.t; simp only; omega, ⟨⟨h.w.s, h.w.t⟩, fun x hx => ?_⟩⟩
  rcases List.mem_or_eq_of_mem_set hx with q | q
  · exact h.w.c x q
  · subst q; exact hs
theorem Big.cpa {b : Book} (h : Bnd b) (c : Cpy) (hs : Wc c) : Big { b with cpys := b.cpys ++ [c] } := by
  refine ⟨h.s, by have := h.c; simp; omega, by have := h.t; simp only; omega, ⟨⟨h.w.s, h.w.t⟩, fun x hx => ?_⟩⟩
  rcases List.mem_append.1 hx with q | q
  · exact h.w.c x q
  · simp at q; subst q; exact hs
theorem Big.bra {b : Book} (h : Bnd b) (t : Brt) (hs : t.name.size < 4611686018427387904) : Big { b with brts := b.brts ++ [t] } := by
  refine ⟨h.s, by have := h.c; simp only; omega, by have := h.t; simp; omega, ⟨⟨h.w.s, fun x hx => ?_⟩, h.w.c⟩⟩
  rcases List.mem_append.1 hx with q | q
  · exact h.w.t x q
  · simp at q; subst q; exact hs
def bR (b : Book) (r : Rd) : List C := .i b.now :: (r.e ++ [.l (b.svcs.map Svc.e), .l (b.cpys.map Cpy.e), .l (b.brts.map Brt.e)])
def Sp (m : Nat) (o : Option (List C)) : Prop := ∃ (b : Book) (r : Rd), o = some (bR b r) ∧ Big b ∧ ROk m r
theorem ss_name (c : Svc) (n : Str) : setCs c.e 0 [.s n] = ({ c with name := n } : Svc).e := rfl
theorem ss_ver (c : Svc) (n : Int) : setCs c.e 1 [.i n] = ({ c with ver := n } : Svc).e := rfl
theorem ss_image (c : Svc) (n : Int) : setCs c.e 3 [.i n] = ({ c with image := n } : Svc).e := rfl
theorem ss_want (c : Svc) (n : Int) : setCs c.e 4 [.i n] = ({ c with want := n } : Svc).e := rfl
theorem ss_down (c : Svc) (n : Int) : setCs c.e 5 [.i n] = ({ c with down := n } : Svc).e := rfl
theorem ss_over (c : Svc) (n : Int) : setCs c.e 6 [.i n] = ({ c with over := n } : Svc).e := rfl
theorem ss_next (c : Svc) (n : Int) : setCs c.e 7 [.i n] = ({ c with next := n } : Svc).e := rfl
theorem ss_per (c : Svc) (n : Int) : setCs c.e 8 [.i n] = ({ c with per := n } : Svc).e := rfl
theorem ss_least (c : Svc) (n : Int) : setCs c.e 9 [.i n] = ({ c with least := n } : Svc).e := rfl
theorem ss_load (c : Svc) (n : Int) : setCs c.e 11 [.i n] = ({ c with load := n } : Svc).e := rfl
theorem ss_cool (c : Svc) (n : Int) : setCs c.e 12 [.i n] = ({ c with cool := n } : Svc).e := rfl
theorem cc_svc (c : Cpy) (n : Str) : setCs c.e 0 [.s n] = ({ c with svc := n } : Cpy).e := rfl
theorem cc_num (c : Cpy) (n : Int) : setCs c.e 1 [.i n] = ({ c with num := n } : Cpy).e := rfl
theorem cc_ver (c : Cpy) (n : Int) : setCs c.e 2 [.i n] = ({ c with ver := n } : Cpy).e := rfl
theorem cc_image (c : Cpy) (n : Int) : setCs c.e 3 [.i n] = ({ c with image := n } : Cpy).e := rfl
theorem cc_state (c : Cpy) (n : Int) : setCs c.e 4 [.i n] = ({ c with state := n } : Cpy).e := rfl
theorem cc_ending (c : Cpy) (n : Bool) : setCs c.e 5 [.b n] = ({ c with ending := n } : Cpy).e := rfl
theorem cc_berth (c : Cpy) (n : Str) : setCs c.e 6 [.s n] = ({ c with berth := n } : Cpy).e := rfl
theorem s_l18Spoil_ex (r : Rd) (b : Book) {m : Nat} (hr : ROk m r) (hm : m ≤ 99999) (hb : Bnd b) : Sp (m + 10) (s_l18Spoil (b.e ++ r.e)) := by
  have e0 := s_l18Book_eq b hb.fit.s hb.fit.c hb.fit.t
  obtain ⟨x2, r2, e2, a2, b2, h2⟩ := pick_ex r (b.svcs.length : Int) hr (by omega) (by have := hb.s; omega)
  obtain ⟨x3, r3, e3, a3, b3, h3⟩ := pick_ex r2 (b.cpys.length : Int) h2 (by omega) (by have := hb.c; omega)
  obtain ⟨x4, r4, e4, a4, b4, h4⟩ := pick_ex r3 20 h3 (by omega) (by omega)
  simp only [Book.e, BB, nils, rows] at e0
  simp only [s_l18Spoil, s_l18Spoil.d1, Book.e, Rd.e, BB, nils, rows, e0, e2, e3, e4]
  have bad : Sp (m + 10) (some [.i (-1), .l (r3.b.map inE), .i (r3.p : Nat), .l [], .l [], .l []]) := ⟨⟨-1, [], [], []⟩, r3, rfl, ⟨by simp, by simp, by simp, ⟨⟨by simp, by simp⟩, by simp⟩⟩, h3.le (by omega)⟩
  cases hs0 : ((b.svcs.length : Int) == 0) <;> simp only [BB, nils, rows]
  · cases hc0 : ((b.cpys.length : Int) == 0) <;> simp only [BB, nils, rows]
    · have hs1 : 0 < b.svcs.length := by
        rcases Nat.eq_zero_or_pos b.svcs.length with q | q
        · rw [q] at hs0; simp at hs0
        · exact q
      have hc1 : 0 < b.cpys.length := by
        rcases Nat.eq_zero_or_pos b.cpys.length with q | q
        · rw [q] at hc0; simp at hc0
        · exact q
      obtain ⟨i, rfl⟩ := Int.eq_ofNat_of_zero_le a2
      obtain ⟨k, rfl⟩ := Int.eq_ofNat_of_zero_le a3
      have p2 := b2 (by omega)
      have p3 := b3 (by omega)
      have hi : i < b.svcs.length := by omega
      have hk : k < b.cpys.length := by omega
      have g2 : (b.svcs.map Svc.e).getD i [] = b.svcs[i].e := getD_map_lt Svc.e hi []
      have g3 : (b.cpys.map Cpy.e).getD k [] = b.cpys[k].e := getD_map_lt Cpy.e hk []
      have hsn : b.svcs[i].name.size < 4611686018427387904 := hb.w.s _ (List.getElem_mem hi)
      have hcn : Wc b.cpys[k] := hb.w.c _ (List.getElem_mem hk)
      by_cases hk0 : (x4 == 0) = true
      · simp only [hk0, BB, nils, rows]
        obtain ⟨y, r5, e5, a5, b5, h5⟩ := pick_ex r4 5 h4 (by omega) (by omega)
        have b6 : y < ((5 : Nat) : Int) := b5 (by omega)
        have l5 : [[C.i (-1)], [C.i 0], [C.i 1], [C.i 1000000], [C.i 1000001]].length = 5 := rfl
        obtain ⟨t, ht⟩ := lit_i [-1, 0, 1, 1000000, 1000001] y a5 b6
        simp only [List.map_cons, List.map_nil, inE] at ht
        simp only [e5, BB, nils, rows, a5, l5, b6, ht]
        exact ⟨{ b with now := t }, r5, rfl, Big.now hb t, h5.le (by omega)⟩
      simp only [hk0, BB, nils, rows]
      by_cases hk1 : (x4 == 1) = true
      · simp only [hk1, BB, nils, rows]
        obtain ⟨y, r5, e5, a5, b5, h5⟩ := pick_ex r4 3 h4 (by omega) (by omega)
        have b6 : y < ((3 : Nat) : Int) := b5 (by omega)
        have l5 : [[C.s (bs #[])], [C.s (bs #[88])], [C.s (bs #[122, 122])]].length = 3 := rfl
        obtain ⟨t, hn1, ht⟩ := lit_s [bs #[], bs #[88], bs #[122, 122]] y a5 b6
        have hsz : t.size < 4611686018427387904 := by
          simp only [List.mem_cons, List.mem_nil_iff, or_false] at hn1
          rcases hn1 with rfl | rfl | rfl <;> exact small_bs (by decide)
        simp only [List.map_cons, List.map_nil] at ht
        simp only [e5, BB, nils, rows, a5, l5, b6, ht, p2, g2, ss_name, set_svc]
        exact ⟨{ b with svcs := b.svcs.set i { b.svcs[i] with name := t } }, r5, rfl, Big.svc hb i _ hsz, h5.le (by omega)⟩
      simp only [hk1, BB, nils, rows]
      by_cases hk2 : (x4 == 2) = true
      · simp only [hk2, BB, nils, rows]
        obtain ⟨y, r5, e5, a5, b5, h5⟩ := pick_ex r4 3 h4 (by omega) (by omega)
        have b6 : y < ((3 : Nat) : Int) := b5 (by omega)
        have l5 : [[C.i 0], [C.i b.now], [C.i (w64 (b.now + 1))]].length = 3 := rfl
        obtain ⟨t, ht⟩ := lit_i [0, b.now, w64 (b.now + 1)] y a5 b6
        simp only [List.map_cons, List.map_nil, inE] at ht
        simp only [e5, BB, nils, rows, a5, l5, b6, ht, p2, g2, ss_ver, set_svc]
        exact ⟨{ b with svcs := b.svcs.set i { b.svcs[i] with ver := t } }, r5, rfl, Big.svc hb i _ hsn, h5.le (by omega)⟩
      simp only [hk2, BB, nils, rows]
      by_cases hk3 : (x4 == 3) = true
      · simp only [hk3, BB, nils, rows]
        obtain ⟨y, r5, e5, a5, b5, h5⟩ := pick_ex r4 3 h4 (by omega) (by omega)
        have b6 : y < ((3 : Nat) : Int) := b5 (by omega)
        have l5 : [[C.i 0], [C.i 1000000], [C.i 1000001]].length = 3 := rfl
        obtain ⟨t, ht⟩ := lit_i [0, 1000000, 1000001] y a5 b6
        simp only [List.map_cons, List.map_nil, inE] at ht
        simp only [e5, BB, nils, rows, a5, l5, b6, ht, p2, g2, ss_image, set_svc]
        exact ⟨{ b with svcs := b.svcs.set i { b.svcs[i] with image := t } }, r5, rfl, Big.svc hb i _ hsn, h5.le (by omega)⟩
      simp only [hk3, BB, nils, rows]
      by_cases hk4 : (x4 == 4) = true
      · simp only [hk4, BB, nils, rows]
        obtain ⟨y, r5, e5, a5, b5, h5⟩ := pick_ex r4 3 h4 (by omega) (by omega)
        have b6 : y < ((3 : Nat) : Int) := b5 (by omega)
        have l5 : [[C.i (-1)], [C.i 10], [C.i 11]].length = 3 := rfl
        obtain ⟨t, ht⟩ := lit_i [-1, 10, 11] y a5 b6
        simp only [List.map_cons, List.map_nil, inE] at ht
        simp only [e5, BB, nils, rows, a5, l5, b6, ht, p2, g2, ss_want, set_svc]
        exact ⟨{ b with svcs := b.svcs.set i { b.svcs[i] with want := t } }, r5, rfl, Big.svc hb i _ hsn, h5.le (by omega)⟩
      simp only [hk4, BB, nils, rows]
      by_cases hk5 : (x4 == 5) = true
      · simp only [hk5, BB, nils, rows]
        obtain ⟨y, r5, e5, a5, b5, h5⟩ := pick_ex r4 3 h4 (by omega) (by omega)
        have b6 : y < ((3 : Nat) : Int) := b5 (by omega)
        have l5 : [[C.i (-1)], [C.i 10], [C.i 11]].length = 3 := rfl
        obtain ⟨t, ht⟩ := lit_i [-1, 10, 11] y a5 b6
        simp only [List.map_cons, List.map_nil, inE] at ht
        simp only [e5, BB, nils, rows, a5, l5, b6, ht, p2, g2, ss_down, set_svc]
        exact ⟨{ b with svcs := b.svcs.set i { b.svcs[i] with down := t } }, r5, rfl, Big.svc hb i _ hsn, h5.le (by omega)⟩
      simp only [hk5, BB, nils, rows]
      by_cases hk6 : (x4 == 6) = true
      · simp only [hk6, BB, nils, rows]
        obtain ⟨y, r5, e5, a5, b5, h5⟩ := pick_ex r4 3 h4 (by omega) (by omega)
        have b6 : y < ((3 : Nat) : Int) := b5 (by omega)
        have l5 : [[C.i 0], [C.i 1], [C.i 11]].length = 3 := rfl
        obtain ⟨t, ht⟩ := lit_i [0, 1, 11] y a5 b6
        simp only [List.map_cons, List.map_nil, inE] at ht
        have g4 : ((b.svcs.set i { b.svcs[i] with down := 0 }).map Svc.e).getD i [] = ({ b.svcs[i] with down := 0 } : Svc).e := by
          have : i < (b.svcs.set i { b.svcs[i] with down := 0 }).length := by simpa using hi
          rw [getD_map_lt Svc.e this]; simp
        simp only [e5, BB, nils, rows, a5, l5, b6, ht, p2, g2, ss_down, set_svc, g4, List.length_set, ss_over]
        refine ⟨{ b with svcs := b.svcs.set i { b.svcs[i] with down := 0, over := t } }, r5, ?_, Big.svc hb i _ hsn, h5.le (by omega)⟩
        rw [List.set_set]; rfl
      simp only [hk6, BB, nils, rows]
      by_cases hk7 : (x4 == 7) = true
      · simp only [hk7, BB, nils, rows]
        obtain ⟨y, r5, e5, a5, b5, h5⟩ := pick_ex r4 4 h4 (by omega) (by omega)
        have b6 : y < ((4 : Nat) : Int) := b5 (by omega)
        have l5 : [[C.i 0], [C.i 1], [C.i 1000000], [C.i 1000001]].length = 4 := rfl
        obtain ⟨t, ht⟩ := lit_i [0, 1, 1000000, 1000001] y a5 b6
        simp only [List.map_cons, List.map_nil, inE] at ht
        simp only [e5, BB, nils, rows, a5, l5, b6, ht, p2, g2, ss_next, set_svc]
        exact ⟨{ b with svcs := b.svcs.set i { b.svcs[i] with next := t } }, r5, rfl, Big.svc hb i _ hsn, h5.le (by omega)⟩
      simp only [hk7, BB, nils, rows]
      by_cases hk8 : (x4 == 8) = true
      · simp only [hk8, BB, nils, rows]
        obtain ⟨y, r5, e5, a5, b5, h5⟩ := pick_ex r4 4 h4 (by omega) (by omega)
        have b6 : y < ((4 : Nat) : Int) := b5 (by omega)
        have l5 : [[C.i (-1)], [C.i 0], [C.i 5], [C.i 1000001]].length = 4 := rfl
        obtain ⟨t, ht⟩ := lit_i [-1, 0, 5, 1000001] y a5 b6
        simp only [List.map_cons, List.map_nil, inE] at ht
        simp only [e5, BB, nils, rows, a5, l5, b6, ht, p2, g2, ss_per, set_svc]
        exact ⟨{ b with svcs := b.svcs.set i { b.svcs[i] with per := t } }, r5, rfl, Big.svc hb i _ hsn, h5.le (by omega)⟩
      simp only [hk8, BB, nils, rows]
      by_cases hk9 : (x4 == 9) = true
      · simp only [hk9, BB, nils, rows]
        obtain ⟨y, r5, e5, a5, b5, h5⟩ := pick_ex r4 3 h4 (by omega) (by omega)
        have b6 : y < ((3 : Nat) : Int) := b5 (by omega)
        have l5 : [[C.i (-1)], [C.i 1], [C.i 11]].length = 3 := rfl
        obtain ⟨t, ht⟩ := lit_i [-1, 1, 11] y a5 b6
        simp only [List.map_cons, List.map_nil, inE] at ht
        simp only [e5, BB, nils, rows, a5, l5, b6, ht, p2, g2, ss_least, set_svc]
        exact ⟨{ b with svcs := b.svcs.set i { b.svcs[i] with least := t } }, r5, rfl, Big.svc hb i _ hsn, h5.le (by omega)⟩
      simp only [hk9, BB, nils, rows]
      by_cases hk10 : (x4 == 10) = true
      · simp only [hk10, BB, nils, rows]
        obtain ⟨y, r5, e5, a5, b5, h5⟩ := pick_ex r4 4 h4 (by omega) (by omega)
        have b6 : y < ((4 : Nat) : Int) := b5 (by omega)
        have l5 : [[C.i (-1)], [C.i 1], [C.i 3], [C.i 4]].length = 4 := rfl
        obtain ⟨t, ht⟩ := lit_i [-1, 1, 3, 4] y a5 b6
        simp only [List.map_cons, List.map_nil, inE] at ht
        simp only [e5, BB, nils, rows, a5, l5, b6, ht, p2, g2, ss_cool, set_svc]
        exact ⟨{ b with svcs := b.svcs.set i { b.svcs[i] with cool := t } }, r5, rfl, Big.svc hb i _ hsn, h5.le (by omega)⟩
      simp only [hk10, BB, nils, rows]
      by_cases hk11 : (x4 == 11) = true
      · simp only [hk11, BB, nils, rows]
        obtain ⟨y, r5, e5, a5, b5, h5⟩ := pick_ex r4 3 h4 (by omega) (by omega)
        have b6 : y < ((3 : Nat) : Int) := b5 (by omega)
        have l5 : [[C.i (-1)], [C.i 1], [C.i 1000001]].length = 3 := rfl
        obtain ⟨t, ht⟩ := lit_i [-1, 1, 1000001] y a5 b6
        simp only [List.map_cons, List.map_nil, inE] at ht
        simp only [e5, BB, nils, rows, a5, l5, b6, ht, p2, g2, ss_load, set_svc]
        exact ⟨{ b with svcs := b.svcs.set i { b.svcs[i] with load := t } }, r5, rfl, Big.svc hb i _ hsn, h5.le (by omega)⟩
      simp only [hk11, BB, nils, rows]
      by_cases hk12 : (x4 == 12) = true
      · simp only [hk12, BB, nils, rows]
        obtain ⟨y, r5, e5, a5, b5, h5⟩ := pick_ex r4 2 h4 (by omega) (by omega)
        have b6 : y < ((2 : Nat) : Int) := b5 (by omega)
        have l5 : [[C.s (bs #[110, 111, 110, 101])], [C.s (bs #[])]].length = 2 := rfl
        obtain ⟨t, hn1, ht⟩ := lit_s [bs #[110, 111, 110, 101], bs #[]] y a5 b6
        have hsz : t.size < 4611686018427387904 := by
          simp only [List.mem_cons, List.mem_nil_iff, or_false] at hn1
          rcases hn1 with rfl | rfl <;> exact small_bs (by decide)
        simp only [List.map_cons, List.map_nil] at ht
        simp only [e5, BB, nils, rows, a5, l5, b6, ht, p3, g3, cc_svc, set_cpy]
        exact ⟨{ b with cpys := b.cpys.set k { b.cpys[k] with svc := t } }, r5, rfl, Big.cpy hb k _ ⟨hsz, hcn.2⟩, h5.le (by omega)⟩
      simp only [hk12, BB, nils, rows]
      by_cases hk13 : (x4 == 13) = true
      · simp only [hk13, BB, nils, rows]
        obtain ⟨y, r5, e5, a5, b5, h5⟩ := pick_ex r4 2 h4 (by omega) (by omega)
        have b6 : y < ((2 : Nat) : Int) := b5 (by omega)
        have l5 : [[C.i 0], [C.i 999]].length = 2 := rfl
        obtain ⟨t, ht⟩ := lit_i [0, 999] y a5 b6
        simp only [List.map_cons, List.map_nil, inE] at ht
        simp only [e5, BB, nils, rows, a5, l5, b6, ht, p3, g3, cc_num, set_cpy]
        exact ⟨{ b with cpys := b.cpys.set k { b.cpys[k] with num := t } }, r5, rfl, Big.cpy hb k _ hcn, h5.le (by omega)⟩
      simp only [hk13, BB, nils, rows]
      by_cases hk14 : (x4 == 14) = true
      · simp only [hk14, BB, nils, rows]
        obtain ⟨y, r5, e5, a5, b5, h5⟩ := pick_ex r4 4 h4 (by omega) (by omega)
        have b6 : y < ((4 : Nat) : Int) := b5 (by omega)
        have l5 : [[C.i 0], [C.i 1], [C.i 3], [C.i 5]].length = 4 := rfl
        obtain ⟨t, ht⟩ := lit_i [0, 1, 3, 5] y a5 b6
        simp only [List.map_cons, List.map_nil, inE] at ht
        simp only [e5, BB, nils, rows, a5, l5, b6, ht, p3, g3, cc_state, set_cpy]
        exact ⟨{ b with cpys := b.cpys.set k { b.cpys[k] with state := t } }, r5, rfl, Big.cpy hb k _ hcn, h5.le (by omega)⟩
      simp only [hk14, BB, nils, rows]
      by_cases hk15 : (x4 == 15) = true
      · simp only [hk15, BB, nils, rows]
        obtain ⟨y, r5, e5, a5, b5, h5⟩ := pick_ex r4 3 h4 (by omega) (by omega)
        have b6 : y < ((3 : Nat) : Int) := b5 (by omega)
        have l5 : [[C.s (bs #[])], [C.s (bs #[97])], [C.s (bs #[110, 111, 110, 101])]].length = 3 := rfl
        obtain ⟨t, hn1, ht⟩ := lit_s [bs #[], bs #[97], bs #[110, 111, 110, 101]] y a5 b6
        have hsz : t.size < 4611686018427387904 := by
          simp only [List.mem_cons, List.mem_nil_iff, or_false] at hn1
          rcases hn1 with rfl | rfl | rfl <;> exact small_bs (by decide)
        simp only [List.map_cons, List.map_nil] at ht
        simp only [e5, BB, nils, rows, a5, l5, b6, ht, p3, g3, cc_berth, set_cpy]
        exact ⟨{ b with cpys := b.cpys.set k { b.cpys[k] with berth := t } }, r5, rfl, Big.cpy hb k _ ⟨hcn.1, hsz⟩, h5.le (by omega)⟩
      simp only [hk15, BB, nils, rows]
      by_cases hk16 : (x4 == 16) = true
      · simp only [hk16, BB, nils, rows]
        have q : b.cpys.length + 1 ≤ 4294967296 := by have := hb.c; omega
        simp only [Cpy.e] at g3
        simp only [BB, nils, rows, p3, g3, q]
        refine ⟨{ b with cpys := b.cpys ++ [b.cpys[k]] }, r4, ?_, Big.cpa hb _ hcn, h4.le (by omega)⟩
        simp only [bR, List.map_append, List.map_cons, List.map_nil]; rfl
      simp only [hk16, BB, nils, rows]
      by_cases hk17 : (x4 == 17) = true
      · simp only [hk17, BB, nils, rows]
        obtain ⟨y, r5, e5, a5, b5, h5⟩ := pick_ex r4 3 h4 (by omega) (by omega)
        have b6 : y < ((3 : Nat) : Int) := b5 (by omega)
        have l5 : [[C.s (bs #[])], [C.s (bs #[122])], [C.s (bs #[97])]].length = 3 := rfl
        obtain ⟨t, hn1, ht⟩ := lit_s [bs #[], bs #[122], bs #[97]] y a5 b6
        have hsz : t.size < 4611686018427387904 := by
          simp only [List.mem_cons, List.mem_nil_iff, or_false] at hn1
          rcases hn1 with rfl | rfl | rfl <;> exact small_bs (by decide)
        simp only [List.map_cons, List.map_nil] at ht
        have q : b.brts.length + 1 ≤ 4294967296 := by have := hb.t; omega
        simp only [e5, BB, nils, rows, a5, l5, b6, ht, q]
        refine ⟨{ b with brts := b.brts ++ [⟨t, false⟩] }, r5, ?_, Big.bra hb _ hsz, h5.le (by omega)⟩
        simp only [bR, List.map_append, List.map_cons, List.map_nil]; rfl
      simp only [hk17, BB, nils, rows]
      by_cases hk18 : (x4 == 18) = true
      · simp only [hk18, BB, nils, rows]
        obtain ⟨y, r5, e5, a5, b5, h5⟩ := pick_ex r4 2 h4 (by omega) (by omega)
        have b6 : y < ((2 : Nat) : Int) := b5 (by omega)
        have l5 : [[C.i 0], [C.i (w64 (b.now + 1))]].length = 2 := rfl
        obtain ⟨t, ht⟩ := lit_i [0, w64 (b.now + 1)] y a5 b6
        simp only [List.map_cons, List.map_nil, inE] at ht
        simp only [e5, BB, nils, rows, a5, l5, b6, ht, p3, g3, cc_ver, set_cpy]
        exact ⟨{ b with cpys := b.cpys.set k { b.cpys[k] with ver := t } }, r5, rfl, Big.cpy hb k _ hcn, h5.le (by omega)⟩
      simp only [hk18, BB, nils, rows]
      have g5 : b.cpys[k].e.getD 5 .nil = .b b.cpys[k].ending := rfl
      simp only [BB, nils, rows, p3, g3, g5, cc_ending, set_cpy]
      exact ⟨{ b with cpys := b.cpys.set k { b.cpys[k] with ending := !b.cpys[k].ending } }, r4, rfl, Big.cpy hb k _ hcn, h4.le (by omega)⟩
    · exact bad
  · exact bad
end Go.Ev
namespace Go.Ev
theorem bytesLess_trans : ∀ (a b c : List UInt8), Op.bytesLess a b = true → Op.bytesLess b c = true → Op.bytesLess a c = true
  | _, _, [], _, h2 => by cases ‹List UInt8› <;> simp [Op.bytesLess] at h2
  | _, [], _ :: _, h1, _ => by simp [Op.bytesLess] at h1
  | [], _ :: _, _ :: _, _, _ => by simp [Op.bytesLess]
  | x :: a, y :: b, z :: c, h1, h2 => by
    simp only [Op.bytesLess, Bool.or_eq_true, Bool.and_eq_true, decide_eq_true_eq, beq_iff_eq] at h1 h2 ⊢
    have lt (p q : UInt8) : p < q ↔ p.toNat < q.toNat := Iff.rfl
    simp only [lt] at h1 h2 ⊢
    rcases h1 with h1 | ⟨rfl, h1⟩
    · rcases h2 with h2 | ⟨rfl, h2⟩
      · left; omega
      · left; exact h1
    · rcases h2 with h2 | ⟨rfl, h2⟩
      · left; exact h2
      · right; exact ⟨rfl, bytesLess_trans a b c h1 h2⟩
theorem chain_lt {α : Type} {ok : α → Bool} {lt : α → α → Bool} {l : List α} (h : chainOk ok lt l = true) (ht : ∀ a b c, lt a b = true → lt b c = true → lt a c = true) :
    ∀ (d i : Nat) (hj : i + d + 1 < l.length), lt (l[i]'(by omega)) l[i + d + 1] = true
  | 0, i, hj => by
    simp only [chainOk, List.all_eq_true] at h
    have := h (l[i + 1], i + 1) (List.mem_zipIdx_iff_getElem?.2 (by simp [hj]))
    have hi : i < l.length := by omega
    simp only [prevOk, Nat.add_sub_cancel, List.getElem?_eq_getElem hi, Bool.and_eq_true, Bool.or_eq_true, beq_iff_eq] at this
    rcases this.2 with q | q
    · omega
    · exact q
  | d + 1, i, hj => by
    have h1 := chain_lt h ht d i (by omega)
    have h2 := chain_lt h ht 0 (i + d + 1) (by omega)
    exact ht _ _ _ h1 h2
theorem sEq_iff (a b : Str) : sEq a b = true ↔ a.toList = b.toList := by simp [sEq]
theorem names_ne {b : Book} (h : validB b = true) {i j : Nat} (hi : i < b.svcs.length) (hj : j < b.svcs.length) (he : sEq b.svcs[i].name b.svcs[j].name = true) : i = j := by
  simp only [validB, Bool.and_eq_true] at h
  have hc := h.1.1.2
  have ht : ∀ s t u : Svc, sLt s.name t.name = true → sLt t.name u.name = true → sLt s.name u.name = true := fun s t u => bytesLess_trans _ _ _
  rcases Nat.lt_trichotomy i j with q | q | q
  · obtain ⟨d, rfl⟩ : ∃ d, j = i + d + 1 := ⟨j - i - 1, by omega⟩
    have := chain_lt hc ht d i hj
    rw [sEq_iff] at he
    simp only [sLt, he] at this
    rw [bytesLess_irrefl] at this; simp at this
  · exact q
  · obtain ⟨d, rfl⟩ : ∃ d, i = j + d + 1 := ⟨i - j - 1, by omega⟩
    have := chain_lt hc ht d j hi
    rw [sEq_iff] at he
    simp only [sLt, he] at this
    rw [bytesLess_irrefl] at this; simp at this
theorem svc_self {b : Book} (h : validB b = true) {j : Nat} (hj : j < b.svcs.length) : svcOf b b.svcs[j].name = some b.svcs[j] ∧ svcIx b.svcs b.svcs[j].name = (j : Int) := by
  rcases findIx_spec (fun s : Svc => sEq s.name b.svcs[j].name) b.svcs 0 with ⟨q, _⟩ | ⟨i, hi, h1, h2, h3⟩
  · have := List.find?_eq_none.1 q b.svcs[j] (List.getElem_mem hj)
    simp [sEq] at this
  · have e := names_ne h hi hj h3
    subst e
    exact ⟨h2, by rw [svcIx, h1]; omega⟩
end Go.Ev
namespace Go.Ev
def mine (s : Svc) (c : Cpy) : Bool := c.svc.toList == s.name.toList
def pLive (s : Svc) (c : Cpy) : Bool := mine s c && !c.ending
def pReady (s : Svc) (c : Cpy) : Bool := mine s c && (!c.ending && c.state == 3)
def pOld (s : Svc) (c : Cpy) : Bool := mine s c && (!c.ending && c.image != s.image)
def pFail (s : Svc) (c : Cpy) : Bool := mine s c && (!c.ending && c.state == 4)
def pEnd (s : Svc) (c : Cpy) : Bool := mine s c && c.ending
def cn (p : Cpy → Bool) (l : List Cpy) (i : Nat) : Int := (((l.take i).countP p : Nat) : Int)
theorem cn_zero (p : Cpy → Bool) (l : List Cpy) : cn p l 0 = 0 := rfl
theorem cn_le (p : Cpy → Bool) (l : List Cpy) (i : Nat) : 0 ≤ cn p l i ∧ cn p l i ≤ l.length := by
  have h1 := List.countP_le_length (p := p) (l := l.take i)
  have h2 := List.length_take_le i l
  have h3 := List.length_take_le' i l
  simp only [cn]; omega
theorem cn_succ (p : Cpy → Bool) (l : List Cpy) {i : Nat} (h : i < l.length) (hl : l.length ≤ 1000) : cn p l (i + 1) = bif p l[i] then w64 (cn p l i + 1) else cn p l i := by
  have hle := cn_le p l i
  have e : cn p l (i + 1) = cn p l i + bif p l[i] then 1 else 0 := by
    simp only [cn, List.take_succ_eq_append_getElem h, List.countP_append, List.countP_singleton]
    cases p l[i] <;> simp
  rw [e]
  cases p l[i]
  · simp
  · simp only [jR]; rw [w64_of (by omega) (by omega)]
def CountE (b : Book) (s : Svc) (i : Nat) : List C := [.i (cn (pLive s) b.cpys i), .i (cn (pReady s) b.cpys i), .i (cn (pOld s) b.cpys i), .i (cn (pFail s) b.cpys i), .i (cn (pEnd s) b.cpys i)]
theorem cn_all (p : Cpy → Bool) (l : List Cpy) : cn p l l.length = ((l.countP p : Nat) : Int) := by rw [cn, List.take_length]
theorem s_l19Count_eq (b : Book) (j : Nat) (hj : j < b.svcs.length) (hb : Bnd b) (hx : svcIx b.svcs b.svcs[j].name = (j : Int)) : s_l19Count (b.e ++ [.s b.svcs[j].name]) = some (CountE b b.svcs[j] b.cpys.length) := by
  have hc := hb.c
  have e0 := s_l18Service_eq b b.svcs[j].name hb.small.s
  rw [hx] at e0
  have L : ∃ o, lim (ap17 s_l19Count.d4) (.s b.svcs[j].name :: .i (j : Nat) :: .i 0 :: (b.e ++ [.i 0, .i 0, .i 0, .i 0, .i 0, .i 0, .i 0, .i 0, .i 0, .i 0])) = some o ∧ o = .brk 0 ([.i 0, .i 0, .i 0, .i 0, .i 0] ++ CountE b b.svcs[j] b.cpys.length) := by
    refine lim_exs (fun i : Nat => .s b.svcs[j].name :: .i (j : Nat) :: .i (i : Nat) :: (b.e ++ [.i 0, .i 0, .i 0, .i 0, .i 0] ++ CountE b b.svcs[j] i)) (fun i => b.cpys.length - i) (fun i => i ≤ b.cpys.length) _ 0 (Nat.zero_le _) ?_
    intro i hi
    have w1 : w64 ((i : Int) + 1) = ((i + 1 : Nat) : Int) := w64_nat (n := i + 1) (by omega)
    have p3 : (j : Int) ≥ 0 := by omega
    by_cases hlt : i < b.cpys.length
    · left
      refine ⟨i + 1, ?_, hlt, by omega⟩
      have p1 : (i : Int) < (b.cpys.length : Int) := by omega
      have p2 : (j : Int) < (b.svcs.length : Int) := by omega
      have g1 : (b.cpys.map Cpy.e).getD i [] = b.cpys[i].e := getD_map_lt Cpy.e hlt []
      have g2 : (b.svcs.map Svc.e).getD j [] = b.svcs[j].e := getD_map_lt Svc.e hj []
      have st := fun p => cn_succ p b.cpys hlt (by omega)
      simp only [CountE, Book.e, Svc.e, Cpy.e, Brt.e, Act.e, Wld.e, Ev1.e, BB, nils, rows, st, pLive, pReady, pOld, pFail, pEnd, mine]
      simp only [s_l19Count.d4, Book.e, Svc.e, Cpy.e, Brt.e, Act.e, Wld.e, Ev1.e, BB, nils, rows, p1, p3, g1]
      cases (b.cpys[i].svc.toList == b.svcs[j].name.toList) <;> simp only [BB, nils, rows, s_l19Count.d3, w1, Bool.false_and, Bool.true_and]
      cases b.cpys[i].ending <;> simp only [BB, nils, rows, s_l19Count.d3, w1, Bool.false_and, Bool.true_and]
      cases (b.cpys[i].state == 3) <;> simp only [BB, nils, rows, s_l19Count.d2]
      all_goals cases (b.cpys[i].state == 4) <;> simp only [BB, nils, rows, s_l19Count.d1, g2, p2, Book.e, Svc.e, Cpy.e, Brt.e, Act.e, Wld.e, Ev1.e]
      all_goals cases (b.cpys[i].image != b.svcs[j].image) <;> simp only [BB, nils, rows, s_l19Count.d3, w1]
    · right
      have : i = b.cpys.length := by omega
      subst this
      have p1 : ¬ (b.cpys.length : Int) < (b.cpys.length : Int) := by omega
      refine ⟨_, ?_, ?_, rfl⟩
      · simp only [CountE, Book.e, Svc.e, Cpy.e, Brt.e, Act.e, Wld.e, Ev1.e, BB, nils, rows]
        simp only [s_l19Count.d4, BB, nils, rows, p1]
      · trivial
  obtain ⟨o, h1, rfl⟩ := L
  simp only [Book.e, Svc.e, Cpy.e, Brt.e, Act.e, Wld.e, Ev1.e, BB, nils, rows] at h1 e0
  simp only [s_l19Count, s_l19Count.d6, Book.e, Svc.e, Cpy.e, Brt.e, Act.e, Wld.e, Ev1.e, BB, nils, rows, e0]
  rw [h1]
  simp only [CountE, BB, nils, rows, s_l19Count.d5]
theorem i_count_eq (b : Book) (s : Svc) (hb : Bnd b) : i_StewBook_count [.p b.e, .p s.e] = some (CountE b s b.cpys.length) := by
  have hc := hb.c
  have L : ∃ o, lim (ap14 i_StewBook_count.d2) (.p s.e :: .l (b.cpys.map Cpy.e) :: .i (b.cpys.length : Nat) :: .i 0 :: [.i 0, .i 0, .i 0, .i 0, .i 0, .i 0, .i 0, .i 0, .i 0, .i 0]) = some o ∧ o = .brk 0 ([.i 0, .i 0, .i 0, .i 0, .i 0] ++ CountE b s b.cpys.length) := by
    refine lim_exs (fun i : Nat => .p s.e :: .l (b.cpys.map Cpy.e) :: .i (b.cpys.length : Nat) :: .i (i : Nat) :: ([.i 0, .i 0, .i 0, .i 0, .i 0] ++ CountE b s i)) (fun i => b.cpys.length - i) (fun i => i ≤ b.cpys.length) _ 0 (Nat.zero_le _) ?_
    intro i hi
    have w1 : w64 ((i : Int) + 1) = ((i + 1 : Nat) : Int) := w64_nat (n := i + 1) (by omega)
    by_cases hlt : i < b.cpys.length
    · left
      refine ⟨i + 1, ?_, hlt, by omega⟩
      have p1 : (i : Int) < (b.cpys.length : Int) := by omega
      have g1 : (b.cpys.map Cpy.e).getD i [] = b.cpys[i].e := getD_map_lt Cpy.e hlt []
      have st := fun p => cn_succ p b.cpys hlt (by omega)
      simp only [CountE, Book.e, Svc.e, Cpy.e, Brt.e, Act.e, Wld.e, Ev1.e, BB, nils, rows, st, pLive, pReady, pOld, pFail, pEnd, mine]
      simp only [i_StewBook_count.d2, Book.e, Svc.e, Cpy.e, Brt.e, Act.e, Wld.e, Ev1.e, BB, nils, rows, C.isP_p, C.P_p, p1, g1]
      cases (b.cpys[i].svc.toList == s.name.toList) <;> simp only [BB, nils, rows, w1, Bool.false_and, Bool.true_and]
      cases b.cpys[i].ending <;> simp only [BB, nils, rows, w1, Bool.false_and, Bool.true_and]
      cases (b.cpys[i].state == 3) <;> simp only [BB, nils, rows, i_StewBook_count.d1, C.isP_p, C.P_p]
      all_goals cases (b.cpys[i].state == 4) <;> cases (b.cpys[i].image != s.image) <;> simp only [BB, nils, rows, w1]
    · right
      have : i = b.cpys.length := by omega
      subst this
      have p1 : ¬ (b.cpys.length : Int) < (b.cpys.length : Int) := by omega
      refine ⟨_, ?_, ?_, rfl⟩
      · simp only [CountE, BB, nils, rows]
        simp only [i_StewBook_count.d2, BB, nils, rows, p1]
      · trivial
  obtain ⟨o, h1, rfl⟩ := L
  simp only [Book.e, Svc.e, Cpy.e, Brt.e, Act.e, Wld.e, Ev1.e, BB, nils, rows] at h1
  simp only [i_StewBook_count, i_StewBook_count.d4, Book.e, Svc.e, Cpy.e, Brt.e, Act.e, Wld.e, Ev1.e, BB, nils, rows, C.isP_p, C.P_p]
  rw [h1]
  simp only [CountE, BB, nils, rows, i_StewBook_count.d3]
end Go.Ev
namespace Go.Ev
def drn (b : Book) (c : Cpy) : Bool := match brtOf b c.berth with | some t => t.drain | none => false
theorem i_berth_v1_eq (b : Book) (nm : Str) (hb : Bnd b) : i_StewBook_berth_v1 [.p b.e, .s nm] = some [rowP Brt.e (brtOf b nm)] := by
  have hl := hb.t
  have h := lim_list (l := b.brts) (S := fun i (_ : Unit) => [.p b.e, .s nm, .i (b.brts.length : Nat), .i (i : Nat)])
    (body := (ap4 i_StewBook_berth_v1.d1))
    (fun _ _ => True) (fun i s _ => bif sEq s.name nm then .inr (.ret (.p s.e :: [])) else .inl ()) (fun _ => .brk 0 [])
    (fun i _ hi _ => by
      cases hs : sEq b.brts[i].name nm <;> simp only [sEq] at hs
      · exact ⟨by simp [Book.e, i_StewBook_berth_v1.d1, getD_map_lt Brt.e hi, Brt.e, hs, hi, w64_of (n := (i : Int) + 1) (by omega) (by omega)], trivial⟩
      · exact ⟨by simp [Book.e, i_StewBook_berth_v1.d1, getD_map_lt Brt.e hi, Brt.e, hs, hi], trivial⟩)
    (fun _ _ => ⟨by simp [Book.e, i_StewBook_berth_v1.d1], trivial⟩) _ 0 () rfl trivial
  simp only [Int.ofNat_zero, List.drop_zero] at h
  simp only [Book.e] at h
  simp only [i_StewBook_berth_v1, i_StewBook_berth_v1.d3, Book.e, BB, nils, rows, C.isP_p, C.P_p]
  erw [h]
  rw [loopL_findP _ _ _ _ _ (by rfl)]
  rfl
theorem i_drained_eq (b : Book) (c : Cpy) (hb : Bnd b) : i_StewBook_drained (.p b.e :: c.e) = some [.b (drn b c)] := by
  have e1 := i_berth_v1_eq b c.berth hb
  simp only [i_StewBook_drained, i_StewBook_drained.d1, Cpy.e, BB, nils, rows, e1, drn]
  cases brtOf b c.berth
  · simp only [rowP_none, C.isP_nil, BB, nils, rows]
  · simp only [rowP_some, C.isP_p, C.P_p, BB, nils, rows, Brt.e]
theorem brt_ix (b : Book) (c : Cpy) : (brtOf b c.berth = none ∧ brtIx b.brts c.berth = -1) ∨ ∃ i, ∃ h : i < b.brts.length, brtIx b.brts c.berth = (i : Int) ∧ brtOf b c.berth = some b.brts[i] := by
  rcases findIx_spec (fun t : Brt => sEq t.name c.berth) b.brts 0 with ⟨h1, h2⟩ | ⟨i, h, h1, h2, _⟩
  · exact .inl ⟨h1, h2⟩
  · exact .inr ⟨i, h, by rw [brtIx, h1]; omega, h2⟩
theorem s_l22Drains_eq (b : Book) (c : Cpy) (hb : Bnd b) : s_l22Drains (b.e ++ c.e) = some [.b (drn b c)] := by
  have e1 := s_l18Berth_eq b c.berth hb.small.t
  simp only [Book.e, jA, jB] at e1
  simp only [s_l22Drains, s_l22Drains.d1, Book.e, Cpy.e, BB, nils, rows, e1, drn]
  rcases brt_ix b c with ⟨h1, h2⟩ | ⟨i, h, h1, h2⟩
  · rw [h1, h2]; rfl
  · rw [h1, h2]
    have p1 : (i : Int) ≥ 0 := by omega
    have p2 : (i : Int) < (b.brts.length : Int) := by omega
    simp only [p1, p2, BB, nils, rows, getD_map_lt Brt.e h, Brt.e]
def LiveIx (cs : List Cpy) (fl : List Cpy) (ix : List Nat) : Prop := ix.map (fun i => cs[i]?) = fl.map some
theorem LiveIx.len {cs fl : List Cpy} {ix : List Nat} (h : LiveIx cs fl ix) : ix.length = fl.length := by
  have := congrArg List.length h
  simpa using this
theorem LiveIx.at {cs fl : List Cpy} {ix : List Nat} (h : LiveIx cs fl ix) {k : Nat} (hk : k < ix.length) : ∃ h1 : ix[k] < cs.length, ∃ h2 : k < fl.length, cs[ix[k]] = fl[k] := by
  have hl := h.len
  have h2 : k < fl.length := by omega
  have := congrArg (fun l => l[k]?) h
  simp only [List.getElem?_map, List.getElem?_eq_getElem hk, List.getElem?_eq_getElem h2, Option.map_some] at this
  have e := Option.some.inj this
  obtain ⟨h1, e1⟩ := List.getElem?_eq_some_iff.1 e
  exact ⟨h1, h2, e1⟩
theorem s_l22Live_eq (b : Book) (s : Svc) (hb : Bnd b) : ∃ ix : List Nat, s_l22Live (b.e ++ [.s s.name]) = some [.l (ix.map ixE)] ∧ LiveIx b.cpys (b.cpys.filter (pLive s)) ix := by
  have hc := hb.c
  have L : ∃ o, lim (ap7 s_l22Live.d1) (.s s.name :: .i 0 :: (b.e ++ [.l []])) = some o ∧
      ∃ ix : List Nat, o = .brk 0 [.l (ix.map ixE)] ∧ LiveIx b.cpys (b.cpys.filter (pLive s)) ix := by
    refine lim_exs (fun a : List Nat × Nat => .s s.name :: .i (a.2 : Nat) :: (b.e ++ [.l (a.1.map ixE)])) (fun a => b.cpys.length - a.2) (fun a => a.2 ≤ b.cpys.length ∧ LiveIx b.cpys ((b.cpys.take a.2).filter (pLive s)) a.1) _ ([], 0) ⟨Nat.zero_le _, rfl⟩ ?_
    rintro ⟨ix, i⟩ ⟨hi, hx⟩
    simp only at hi hx
    have hl := hx.len
    have hl2 := List.length_filter_le (pLive s) (b.cpys.take i)
    have hl3 := List.length_take_le i b.cpys
    have w1 : w64 ((i : Int) + 1) = (i : Int) + 1 := w64_of (by omega) (by omega)
    by_cases hlt : i < b.cpys.length
    · left
      have p1 : ix.length + 1 ≤ 4294967296 := by omega
      have p2 : (i : Int) < (b.cpys.length : Int) := by omega
      have g1 : (b.cpys.map Cpy.e).getD i [] = b.cpys[i].e := getD_map_lt Cpy.e hlt []
      have tk : b.cpys.take (i + 1) = b.cpys.take i ++ [b.cpys[i]] := List.take_succ_eq_append_getElem hlt
      have no : pLive s b.cpys[i] = false → LiveIx b.cpys ((b.cpys.take (i + 1)).filter (pLive s)) ix := by
        intro h
        rw [tk, List.filter_append, List.filter_cons_of_neg (by simp [h]), List.filter_nil, List.append_nil]
        exact hx
      have yes : pLive s b.cpys[i] = true → LiveIx b.cpys ((b.cpys.take (i + 1)).filter (pLive s)) (ix ++ [i]) := by
        intro h
        rw [tk, List.filter_append, List.filter_cons_of_pos h, List.filter_nil]
        show (ix ++ [i]).map _ = _
        rw [List.map_append, List.map_append]
        have hx' : ix.map (fun i => b.cpys[i]?) = _ := hx
        rw [hx']
        simp [hlt]
      show ∃ x : List Nat × Nat, s_l22Live.d1 (.s s.name) (.i (i : Nat)) (.i b.now) (.l (b.svcs.map Svc.e)) (.l (b.cpys.map Cpy.e)) (.l (b.brts.map Brt.e)) (.l (ix.map ixE)) = _ ∧ _
      simp only [s_l22Live.d1, Book.e, Svc.e, Cpy.e, Brt.e, Act.e, Wld.e, Ev1.e, BB, nils, rows, p2, g1]
      simp only [pLive, mine] at no yes
      cases he : (b.cpys[i].svc.toList == s.name.toList) <;> simp only [BB, nils, rows]
      · rw [he] at no
        exact ⟨(ix, i + 1), by rw [w1]; rfl, ⟨hlt, no rfl⟩, by simp only; omega⟩
      · rw [he] at no yes
        cases hq : b.cpys[i].ending <;> rw [hq] at no yes <;> simp only [BB, nils, rows, p1]
        · exact ⟨(ix ++ [i], i + 1), by rw [w1]; simp only [List.map_append, List.map_cons, List.map_nil]; rfl, ⟨hlt, yes rfl⟩, by simp only; omega⟩
        · exact ⟨(ix, i + 1), by rw [w1]; rfl, ⟨hlt, no rfl⟩, by simp only; omega⟩
    · right
      have : i = b.cpys.length := by omega
      subst this
      rw [List.take_length] at hx
      exact ⟨.brk 0 [.l (ix.map ixE)], by simp [s_l22Live.d1, Book.e], trivial, ix, rfl, hx⟩
  obtain ⟨o, h1, ix, rfl, h2⟩ := L
  refine ⟨ix, ?_, h2⟩
  simp only [Book.e, jA, jB] at h1
  simp only [s_l22Live, s_l22Live.d3, Book.e, Svc.e, Cpy.e, Brt.e, Act.e, Wld.e, Ev1.e, BB, nils, rows]
  rw [h1]
  simp only [BB, nils, rows, s_l22Live.d2]
end Go.Ev
namespace Go.Ev
def sm (f : Svc → Int) : List Svc → Int
  | [] => 0
  | s :: r => f s + sm f r
theorem sm_append (f : Svc → Int) : ∀ (l m : List Svc), sm f (l ++ m) = sm f l + sm f m
  | [], m => by simp [sm]
  | s :: r, m => by simp only [jA, sm, sm_append f r m]; omega
theorem sm_take {f : Svc → Int} {l : List Svc} {i : Nat} (h : i < l.length) : sm f (l.take (i + 1)) = sm f (l.take i) + f l[i] := by
  rw [List.take_succ_eq_append_getElem h, sm_append]; simp [sm]
theorem sm_bound {f : Svc → Int} {k : Int} {l : List Svc} (hf : ∀ s, s ∈ l → 0 ≤ f s ∧ f s ≤ k) : 0 ≤ sm f l ∧ sm f l ≤ k * l.length := by
  induction l with
  | nil => simp [sm]
  | cons s r ih =>
    have h1 := hf s (List.mem_cons_self ..)
    have h2 := ih (fun t ht => hf t (List.mem_cons_of_mem _ ht))
    simp only [sm, List.length_cons]
    have : k * ((r.length + 1 : Nat) : Int) = k * r.length + k := by rw [Int.natCast_add, Int.mul_add]; simp
    omega
theorem sm_congr {f g : Svc → Int} : ∀ {l : List Svc}, (∀ s, s ∈ l → f s = g s) → sm f l = sm g l
  | [], _ => rfl
  | s :: r, h => by simp only [sm]; rw [h s (List.mem_cons_self ..), sm_congr (fun t ht => h t (List.mem_cons_of_mem _ ht))]
theorem sm_add (f g : Svc → Int) : ∀ (l : List Svc), sm (fun s => f s + g s) l = sm f l + sm g l
  | [] => rfl
  | s :: r => by simp only [sm, sm_add f g r]; omega
def cnt (b : Book) (p : Cpy → Bool) : Int := ((b.cpys.countP p : Nat) : Int)
def b2i (x : Bool) : Int := bif x then 1 else 0
def Uniq (l : List Svc) : Prop := l.Pairwise fun s t => (t.name.toList == s.name.toList) = false
theorem valid_uniq {b : Book} (h : validB b = true) : Uniq b.svcs := by
  refine List.pairwise_iff_getElem.2 fun i j hi hj hij => ?_
  cases hq : b.svcs[j].name.toList == b.svcs[i].name.toList with
  | false => rfl
  | true => have := names_ne h hj hi hq; omega
def byName (f : Svc → Cpy → Bool) (l : List Svc) (c : Cpy) : Bool := match l.find? fun s => sEq s.name c.svc with | some t => f t c | none => false
theorem sm_one (f : Svc → Cpy → Bool) (c : Cpy) : ∀ (l : List Svc), Uniq l → sm (fun s => b2i (mine s c && f s c)) l = b2i (byName f l c)
  | [], _ => rfl
  | s :: r, hu => by
    have ih := sm_one f c r (List.Pairwise.of_cons hu)
    simp only [sm, ih]
    cases hs : sEq s.name c.svc with
    | false =>
      have : mine s c = false := by
        cases hm : mine s c with
        | false => rfl
        | true => simp only [mine, beq_iff_eq] at hm; simp [sEq, hm] at hs
      rw [byName, byName, List.find?_cons_of_neg (p := fun s : Svc => sEq s.name c.svc) (by simp [hs]), this]
      simp [b2i]
    | true =>
      have hm : mine s c = true := by simp only [sEq, beq_iff_eq] at hs; simp [mine, hs]
      have hn : r.find? (fun s => sEq s.name c.svc) = none := by
        refine List.find?_eq_none.2 fun t ht => ?_
        have := List.rel_of_pairwise_cons hu ht
        simp only [sEq, beq_iff_eq] at hs
        simp only [sEq]
        rw [← hs, this]; simp
      rw [byName, byName, List.find?_cons_of_pos (p := fun s : Svc => sEq s.name c.svc) hs, hn, hm]
      simp [b2i]
theorem countP_b2i (p : Cpy → Bool) (c : Cpy) (r : List Cpy) : (((c :: r).countP p : Nat) : Int) = b2i (p c) + ((r.countP p : Nat) : Int) := by
  rw [List.countP_cons]
  cases p c <;> simp [b2i]
  omega
theorem sm_exch (f : Svc → Cpy → Bool) (l : List Svc) (hu : Uniq l) : ∀ (cs : List Cpy), sm (fun s => ((cs.countP fun c => mine s c && f s c : Nat) : Int)) l = ((cs.countP (byName f l) : Nat) : Int)
  | [] => by
    have : ∀ l : List Svc, sm (fun _ => (0 : Int)) l = 0 := by
      intro l; induction l with
      | nil => rfl
      | cons s r ih => simp [sm, ih]
    simpa using this l
  | c :: r => by
    rw [countP_b2i, ← sm_exch f l hu r, ← sm_one f c l hu, ← sm_add]
    exact sm_congr fun s _ => countP_b2i _ c r
def q3 (b : Book) (s : Svc) (c : Cpy) : Bool := pLive s c && (c.image != s.image || drn b c)
def q4 (b : Book) (s : Svc) (c : Cpy) : Bool := pLive s c && c.state != 3
def gap (b : Book) (s : Svc) : Int := ((cnt b (pLive s) - s.want).natAbs : Int)
def k0 (s : Svc) : Int := b2i s.gone
def k1 (b : Book) (s : Svc) : Int := cnt b (pEnd s) + bif s.gone then cnt b (pLive s) else 0
def k2 (b : Book) (s : Svc) : Int := bif s.gone then 0 else gap b s
def k3 (b : Book) (s : Svc) : Int := bif s.gone then 0 else cnt b (q3 b s)
def k4 (b : Book) (s : Svc) : Int := bif s.gone then 0 else cnt b (q4 b s)
def R5 (a0 a1 a2 a3 a4 : Int) : List (List C) := [[.i a0], [.i a1], [.i a2], [.i a3], [.i a4]]
def rankL (b : Book) (l : List Svc) : List (List C) := R5 (sm k0 l) (sm (k1 b) l) (sm (k2 b) l) (sm (k3 b) l) (sm (k4 b) l)
theorem cnt_le (b : Book) (hb : Bnd b) (p : Cpy → Bool) : 0 ≤ cnt b p ∧ cnt b p ≤ 200 := by
  have h1 := List.countP_le_length (p := p) (l := b.cpys)
  have h2 := hb.c
  simp only [cnt]; omega
structure RB (l : List (List C)) (a0 a1 a2 a3 a4 : Int) : Prop where
  e : l = R5 a0 a1 a2 a3 a4
  h0 : 0 ≤ a0 ∧ a0 ≤ 10000
  h1 : 0 ≤ a1 ∧ a1 ≤ 10000
  h2 : 0 ≤ a2 ∧ a2 ≤ 10000
  h3 : 0 ≤ a3 ∧ a3 ≤ 10000
  h4 : 0 ≤ a4 ∧ a4 ≤ 10000
theorem k_bounds (b : Book) (hb : Bnd b) (s : Svc) (hw : 0 ≤ s.want ∧ s.want ≤ 10) : (0 ≤ k0 s ∧ k0 s ≤ 400) ∧ (0 ≤ k1 b s ∧ k1 b s ≤ 400) ∧ (0 ≤ k2 b s ∧ k2 b s ≤ 400) ∧ (0 ≤ k3 b s ∧ k3 b s ≤ 400) ∧ (0 ≤ k4 b s ∧ k4 b s ≤ 400) := by
  have c1 := cnt_le b hb (pEnd s)
  have c2 := cnt_le b hb (pLive s)
  have c3 := cnt_le b hb (q3 b s)
  have c4 := cnt_le b hb (q4 b s)
  have g : 0 ≤ gap b s ∧ gap b s ≤ 400 := by simp only [gap]; omega
  simp only [k0, k1, k2, k3, k4, b2i]
  cases s.gone <;> simp only [jR, jS] <;> omega
theorem rank_bounds (b : Book) (hb : Bnd b) (hv : validB b = true) (i : Nat) :
    RB (rankL b (b.svcs.take i)) (sm k0 (b.svcs.take i)) (sm (k1 b) (b.svcs.take i)) (sm (k2 b) (b.svcs.take i)) (sm (k3 b) (b.svcs.take i)) (sm (k4 b) (b.svcs.take i)) := by
  have hk := fun s (hs : s ∈ b.svcs.take i) => k_bounds b hb s (svcOk_want (validB_svc hv s (List.mem_of_mem_take hs)))
  have hl := List.length_take_le' i b.svcs
  have h8 := hb.s
  have lim : ∀ f : Svc → Int, (∀ s, s ∈ b.svcs.take i → 0 ≤ f s ∧ f s ≤ 400) → 0 ≤ sm f (b.svcs.take i) ∧ sm f (b.svcs.take i) ≤ 10000 := by
    intro f hf
    have := sm_bound hf
    omega
  exact ⟨rfl, lim _ fun s hs => (hk s hs).1, lim _ fun s hs => (hk s hs).2.1, lim _ fun s hs => (hk s hs).2.2.1, lim _ fun s hs => (hk s hs).2.2.2.1, lim _ fun s hs => (hk s hs).2.2.2.2⟩
end Go.Ev
namespace Go.Ev
theorem i_one_eq (v : Bool) : i_one [.b v] = some [.i (b2i v)] := by cases v <;> rfl
theorem i_demand_eq (s : Svc) (h : s.per ≠ 0) : i_demand [.p s.e] = some [.i (desired s)] := by
  have h' : (s.per != 0) = true := by simp [h]
  simp only [i_demand, i_demand.d1, BB, nils, rows, C.isP_p, C.P_p, Svc.e, h', desired]
  have key : ∀ d lo hi : Int, (if hi < (if lo > d then lo else d) then hi else (if lo > d then lo else d)) = (bif decide (d < lo) then (bif decide (lo > hi) then hi else lo) else bif decide (d > hi) then hi else d) := by
    intro d lo hi
    by_cases h1 : lo > d
    · have h1' : d < lo := h1
      simp only [h1, h1', if_true, decide_true, jR]
      by_cases h2 : lo > hi
      · have h2' : hi < lo := h2
        simp only [h2, h2', if_true, decide_true, jR]
      · have h2' : ¬ hi < lo := h2
        simp only [h2, h2', if_false, decide_false, jS]
    · have h1' : ¬ d < lo := h1
      simp only [h1, h1', if_false, decide_false, jS]
      by_cases h2 : d > hi
      · have h2' : hi < d := h2
        simp only [h2, h2', if_true, decide_true, jR]
      · have h2' : ¬ hi < d := h2
        simp only [h2, h2', if_false, decide_false, jS]
  rw [key]
theorem toList_loop (a : ByteArray) : ∀ (n i : Nat) (r : List UInt8), n + i = a.size → ByteArray.toList.loop a i r = r.reverse ++ a.data.toList.drop i
  | 0, i, r, h => by
    rw [ByteArray.toList.loop]
    have hs : a.size = a.data.toList.length := (Array.length_toList).symm
    have : ¬ i < a.size := by omega
    rw [if_neg this, List.drop_of_length_le (by omega), List.append_nil]
  | n + 1, i, r, h => by
    rw [ByteArray.toList.loop]
    have hi : i < a.size := by omega
    rw [if_pos hi, toList_loop a n (i + 1) _ (by omega)]
    have hd : i < a.data.toList.length := by rw [Array.length_toList]; exact hi
    rw [List.drop_eq_getElem_cons hd, List.reverse_cons, List.append_assoc]
    congr 2
    show a.get! i :: _ = _ :: _
    congr 1
    show a.data[i]! = _
    rw [getElem!_pos a.data i hi]
    simp
theorem toList_data (a : ByteArray) : a.toList = a.data.toList := by
  rw [ByteArray.toList, toList_loop a a.size 0 [] rfl]; simp
theorem toList_inj {a b : ByteArray} (h : a.toList = b.toList) : a = b := by
  rw [toList_data, toList_data] at h
  cases a; cases b
  congr
  exact Array.toList_inj.1 h
end Go.Ev
namespace Go.Ev
def A7 (a : Act) : List C := [.s a.svc, .i a.seen, .i a.create, .i a.want, .i a.cool, .b a.scale, .b a.drop]
def cEn (c : Cpy) : Int × Int := (c.num, c.ver)
theorem i_ask3_eq (a : Act) (cs : List Cpy) (hc : cs.length ≤ 1000) : i_StewBook_ask_3 (.l (cs.map Cpy.e) :: (A7 a ++ [.l []])) = some (A7 a ++ [.b (decide ((cs.length : Int) > 0))] ++ A7 a ++ [.l ((cs.map cEn).map enE)]) := by
  have L : ∃ o, lim (ap20 i_StewBook_ask_3.d1) (.l (cs.map Cpy.e) :: .l (cs.map Cpy.e) :: .i (cs.length : Nat) :: .i 0 :: (A7 a ++ [.s (bs #[]), .i 0, .i 0, .i 0, .i 0, .b false, .b false, .l [], .l []])) = some o ∧ o = .brk 0 (.l (cs.map Cpy.e) :: (A7 a ++ [.s (bs #[]), .i 0, .i 0, .i 0, .i 0, .b false, .b false, .l ((cs.map cEn).map enE), .l []])) := by
    refine lim_exs (fun i : Nat => .l (cs.map Cpy.e) :: .l (cs.map Cpy.e) :: .i (cs.length : Nat) :: .i (i : Nat) :: (A7 a ++ [.s (bs #[]), .i 0, .i 0, .i 0, .i 0, .b false, .b false, .l (((cs.take i).map cEn).map enE), .l []])) (fun i => cs.length - i) (fun i => i ≤ cs.length) _ 0 (Nat.zero_le _) ?_
    intro i hi
    have w1 : w64 ((i : Int) + 1) = ((i + 1 : Nat) : Int) := w64_nat (n := i + 1) (by omega)
    by_cases hlt : i < cs.length
    · left
      refine ⟨i + 1, ?_, hlt, by omega⟩
      have p1 : (i : Int) < (cs.length : Int) := by omega
      have g1 : (cs.map Cpy.e).getD i [] = cs[i].e := getD_map_lt Cpy.e hlt []
      have p2 : min i cs.length + 1 ≤ 4294967296 := by omega
      simp only [A7, BB, nils, rows, List.take_succ_eq_append_getElem hlt, List.map_append, List.map_cons, List.map_nil]
      simp only [i_StewBook_ask_3.d1, BB, nils, rows, p1, g1, Cpy.e, List.length_take, p2, w1]
      rfl
    · right
      have : i = cs.length := by omega
      subst this
      have p1 : ¬ (cs.length : Int) < (cs.length : Int) := by omega
      refine ⟨_, ?_, ?_, rfl⟩
      · simp only [A7, BB, nils, rows, List.take_length]
        simp only [i_StewBook_ask_3.d1, BB, nils, rows, p1]
      · trivial
  obtain ⟨o, h1, rfl⟩ := L
  simp only [A7, BB, nils, rows] at h1
  simp only [i_StewBook_ask_3, i_StewBook_ask_3.d3, A7, BB, nils, rows]
  rw [h1]
  simp only [BB, nils, rows, i_StewBook_ask_3.d2]
theorem i_ask3v_eq (a : Act) (cs : List Cpy) (hc : cs.length ≤ 1000) : i_StewBook_ask_3_v1 (.l (cs.map Cpy.e) :: (A7 a ++ [.l []])) = some (A7 a ++ [.b (decide ((cs.length : Int) > 0)), .l (cs.map Cpy.e)] ++ A7 a ++ [.l ((cs.map cEn).map enE)]) := by
  have L : ∃ o, lim (ap19 i_StewBook_ask_3_v1.d1) (.i (cs.length : Nat) :: .i 0 :: .l (cs.map Cpy.e) :: (A7 a ++ [.s (bs #[]), .i 0, .i 0, .i 0, .i 0, .b false, .b false, .l [], .l []])) = some o ∧ o = .brk 0 (.l (cs.map Cpy.e) :: (A7 a ++ [.s (bs #[]), .i 0, .i 0, .i 0, .i 0, .b false, .b false, .l ((cs.map cEn).map enE), .l []])) := by
    refine lim_exs (fun i : Nat => .i (cs.length : Nat) :: .i (i : Nat) :: .l (cs.map Cpy.e) :: (A7 a ++ [.s (bs #[]), .i 0, .i 0, .i 0, .i 0, .b false, .b false, .l (((cs.take i).map cEn).map enE), .l []])) (fun i => cs.length - i) (fun i => i ≤ cs.length) _ 0 (Nat.zero_le _) ?_
    intro i hi
    have w1 : w64 ((i : Int) + 1) = ((i + 1 : Nat) : Int) := w64_nat (n := i + 1) (by omega)
    by_cases hlt : i < cs.length
    · left
      refine ⟨i + 1, ?_, hlt, by omega⟩
      have p1 : (i : Int) < (cs.length : Int) := by omega
      have g1 : (cs.map Cpy.e).getD i [] = cs[i].e := getD_map_lt Cpy.e hlt []
      have p2 : min i cs.length + 1 ≤ 4294967296 := by omega
      simp only [A7, BB, nils, rows, List.take_succ_eq_append_getElem hlt, List.map_append, List.map_cons, List.map_nil]
      simp only [i_StewBook_ask_3_v1.d1, BB, nils, rows, p1, g1, Cpy.e, List.length_take, p2, w1]
      rfl
    · right
      have : i = cs.length := by omega
      subst this
      have p1 : ¬ (cs.length : Int) < (cs.length : Int) := by omega
      refine ⟨_, ?_, ?_, rfl⟩
      · simp only [A7, BB, nils, rows, List.take_length]
        simp only [i_StewBook_ask_3_v1.d1, BB, nils, rows, p1]
      · trivial
  obtain ⟨o, h1, rfl⟩ := L
  simp only [A7, BB, nils, rows] at h1
  simp only [i_StewBook_ask_3_v1, i_StewBook_ask_3_v1.d3, A7, BB, nils, rows]
  rw [h1]
  simp only [BB, nils, rows, i_StewBook_ask_3_v1.d2]
theorem i_copy_eq (b : Book) (nm : Str) (n : Int) (hb : Bnd b) : i_StewBook_copy (.s nm :: .i n :: b.e) = some (rowP Cpy.e (cpyOf b nm n) :: b.e) := by
  have hl := hb.c
  have h := lim_list (l := b.cpys) (S := fun i (_ : Unit) => .s nm :: .i n :: .i (b.cpys.length : Nat) :: .i (i : Nat) :: b.e)
    (body := (ap8 i_StewBook_copy.d1))
    (fun _ _ => True) (fun i c _ => bif (fun c : Cpy => sEq c.svc nm && c.num == n) c then .inr (.ret (.p c.e :: b.e)) else .inl ()) (fun _ => .brk 0 b.e)
    (fun i _ hi _ => by
      have w1 : w64 ((i : Int) + 1) = ((i + 1 : Nat) : Int) := w64_nat (n := i + 1) (by omega)
      have p1 : (i : Int) < (b.cpys.length : Int) := by omega
      have g1 : (b.cpys.map Cpy.e).getD i [] = b.cpys[i].e := getD_map_lt Cpy.e hi []
      cases hs : (b.cpys[i].svc.toList == nm.toList)
      · simp only [sEq, hs, Bool.false_and, jS]
        exact ⟨by simp only [Book.e, BB, nils, rows, i_StewBook_copy.d1, p1, g1, Cpy.e, hs, w1], trivial⟩
      · cases hn : (b.cpys[i].num == n)
        · simp only [sEq, hs, hn, Bool.true_and, jS]
          exact ⟨by simp only [Book.e, BB, nils, rows, i_StewBook_copy.d1, p1, g1, Cpy.e, hs, hn, w1], trivial⟩
        · simp only [sEq, hs, hn, Bool.true_and, jR]
          exact ⟨by simp only [Book.e, BB, nils, rows, i_StewBook_copy.d1, p1, g1, Cpy.e, hs, hn], trivial⟩)
    (fun _ _ => ⟨by
      have p1 : ¬ (b.cpys.length : Int) < (b.cpys.length : Int) := by omega
      simp only [Book.e, BB, nils, rows, i_StewBook_copy.d1, p1], trivial⟩) _ 0 () rfl trivial
  simp only [List.drop_zero] at h
  simp only [Book.e] at h
  simp only [i_StewBook_copy, i_StewBook_copy.d3, Book.e, BB, nils, rows]
  erw [h]
  rw [loopL_findP _ _ _ _ _ (by rfl)]
  rfl
theorem i_mayEnd_ex (b : Book) (s : Svc) (c : Option Cpy) (hb : Bnd b) : ∃ v : Bool, i_StewBook_mayEnd [.p b.e, .p s.e, rowP Cpy.e c] = some [.b v] := by
  have e1 := i_count_eq b s hb
  simp only [i_StewBook_mayEnd, i_StewBook_mayEnd.d1, BB, nils, rows]
  cases c with
  | none => exact ⟨false, by simp only [rowP_none, C.isP_nil, BB, nils, rows]⟩
  | some c =>
    simp only [rowP_some, C.isP_p, C.P_p, BB, nils, rows]
    simp only [CountE, Book.e, Svc.e, Cpy.e, Brt.e, Act.e, Wld.e, Ev1.e, BB, nils, rows] at e1
    simp only [Book.e, Svc.e, Cpy.e, Brt.e, Act.e, Wld.e, Ev1.e, BB, nils, rows, e1]
    repeat' (rw [Bool.cond_eq_ite]; split <;> try simp only [BB, nils, rows])
    all_goals exact ⟨_, rfl⟩
theorem i_ask2_ex (b : Book) (s : Svc) (c : Cpy) (hb : Bnd b) : ∃ v : Bool, i_StewBook_ask_2 (c.e ++ [.p s.e] ++ b.e) = some (.b v :: .p s.e :: b.e) := by
  have e1 := i_copy_eq b c.svc c.num hb
  obtain ⟨v, e2⟩ := i_mayEnd_ex b s (cpyOf b c.svc c.num) hb
  refine ⟨v, ?_⟩
  simp only [Book.e] at e1 e2
  simp only [i_StewBook_ask_2, i_StewBook_ask_2.d1, Cpy.e, Book.e, BB, nils, rows, e1, e2]
theorem i_ask7_ex (b : Book) (s : Svc) (c : Cpy) (hb : Bnd b) : ∃ v : Bool, i_StewBook_ask_7 (c.e ++ [.p s.e] ++ b.e) = some (.b v :: .p s.e :: b.e) := by
  obtain ⟨v, e1⟩ := i_ask2_ex b s c hb
  simp only [Book.e, Cpy.e, BB, nils, rows] at e1
  simp only [i_StewBook_ask_7, i_StewBook_ask_7.d1, Cpy.e, Book.e, BB, nils, rows, e1, C.isP_p]
  repeat' (rw [Bool.cond_eq_ite]; split <;> try simp only [BB, nils, rows])
  all_goals exact ⟨_, rfl⟩
theorem i_ask9_ex (b : Book) (s : Svc) (c : Cpy) (hb : Bnd b) : ∃ v : Bool, i_StewBook_ask_9 (c.e ++ b.e ++ [.p s.e]) = some (.b v :: (b.e ++ [.p s.e])) := by
  obtain ⟨v, e1⟩ := i_ask2_ex b s c hb
  have e2 := i_drained_eq b c hb
  simp only [Book.e, Cpy.e, BB, nils, rows] at e1 e2
  simp only [i_StewBook_ask_9, i_StewBook_ask_9.d1, Cpy.e, Book.e, BB, nils, rows, e1, e2]
  repeat' (rw [Bool.cond_eq_ite]; split <;> try simp only [BB, nils, rows])
  all_goals exact ⟨_, rfl⟩
end Go.Ev
namespace Go.Ev
theorem i_ask1_ex (b : Book) (s : Svc) (cs : List Cpy) (hb : Bnd b) (hc : cs.length ≤ 1000) : ∃ ds : List Cpy, i_StewBook_ask_1 (.p s.e :: .l (cs.map Cpy.e) :: b.e) = some (.l (ds.map Cpy.e) :: .p s.e :: .l (cs.map Cpy.e) :: b.e) ∧ ds.length ≤ cs.length := by
  have L : ∃ o, lim (ap9 i_StewBook_ask_1.d1) (.i (cs.length : Nat) :: .i 0 :: .p s.e :: (b.e ++ [.l [], .l (cs.map Cpy.e)])) = some o ∧ ∃ ds : List Cpy, o = .brk 0 (.p s.e :: (b.e ++ [.l (ds.map Cpy.e), .l (cs.map Cpy.e)])) ∧ ds.length ≤ cs.length := by
    refine lim_exs (fun q : List Cpy × Nat => .i (cs.length : Nat) :: .i (q.2 : Nat) :: .p s.e :: (b.e ++ [.l (q.1.map Cpy.e), .l (cs.map Cpy.e)])) (fun q => cs.length - q.2) (fun q => q.2 ≤ cs.length ∧ q.1.length ≤ q.2) _ ([], 0) ⟨Nat.zero_le _, Nat.zero_le _⟩ ?_
    rintro ⟨ds, i⟩ ⟨hi, hd⟩
    simp only at hi hd
    have w1 : w64 ((i : Int) + 1) = ((i + 1 : Nat) : Int) := w64_nat (n := i + 1) (by omega)
    by_cases hlt : i < cs.length
    · left
      have p1 : (i : Int) < (cs.length : Int) := by omega
      have p2 : ds.length + 1 ≤ 4294967296 := by omega
      have g1 : (cs.map Cpy.e).getD i [] = cs[i].e := getD_map_lt Cpy.e hlt []
      obtain ⟨v, e1⟩ := i_ask7_ex b s cs[i] hb
      simp only [Book.e, Cpy.e, BB, nils, rows] at e1
      cases v
      · exact ⟨(ds, i + 1), by simp only [Book.e, BB, nils, rows]; simp only [i_StewBook_ask_1.d1, BB, nils, rows, p1, g1, Cpy.e, e1, w1], ⟨hlt, by simp only; omega⟩, by simp only; omega⟩
      · refine ⟨(ds ++ [cs[i]], i + 1), ?_, ⟨hlt, by simp; omega⟩, by simp only; omega⟩
        simp only [Book.e, BB, nils, rows, List.map_append, List.map_cons, List.map_nil]
        simp only [i_StewBook_ask_1.d1, BB, nils, rows, p1, g1, Cpy.e, e1, w1, p2]
    · right
      have p1 : ¬ (i : Int) < (cs.length : Int) := by omega
      refine ⟨_, ?_, ?_, ds, rfl, by omega⟩
      · simp only [Book.e, BB, nils, rows]
        simp only [i_StewBook_ask_1.d1, BB, nils, rows, p1]
      · trivial
  obtain ⟨o, h1, ds, rfl, h2⟩ := L
  refine ⟨ds, ?_, h2⟩
  simp only [Book.e, BB, nils, rows] at h1
  simp only [i_StewBook_ask_1, i_StewBook_ask_1.d3, Book.e, BB, nils, rows]
  rw [h1]
  simp only [BB, nils, rows, i_StewBook_ask_1.d2]
theorem i_ask1v2_ex (b : Book) (s : Svc) (cs : List Cpy) (hb : Bnd b) (hc : cs.length ≤ 1000) : ∃ ds : List Cpy, i_StewBook_ask_1_v2 (b.e ++ [.p s.e, .l (cs.map Cpy.e)]) = some (.l (ds.map Cpy.e) :: .l (cs.map Cpy.e) :: (b.e ++ [.p s.e])) ∧ ds.length ≤ cs.length := by
  have L : ∃ o, lim (ap9 i_StewBook_ask_1_v2.d1) (.i (cs.length : Nat) :: .i 0 :: (b.e ++ [.p s.e, .l [], .l (cs.map Cpy.e)])) = some o ∧ ∃ ds : List Cpy, o = .brk 0 (b.e ++ [.p s.e, .l (ds.map Cpy.e), .l (cs.map Cpy.e)]) ∧ ds.length ≤ cs.length := by
    refine lim_exs (fun q : List Cpy × Nat => .i (cs.length : Nat) :: .i (q.2 : Nat) :: (b.e ++ [.p s.e, .l (q.1.map Cpy.e), .l (cs.map Cpy.e)])) (fun q => cs.length - q.2) (fun q => q.2 ≤ cs.length ∧ q.1.length ≤ q.2) _ ([], 0) ⟨Nat.zero_le _, Nat.zero_le _⟩ ?_
    rintro ⟨ds, i⟩ ⟨hi, hd⟩
    simp only at hi hd
    have w1 : w64 ((i : Int) + 1) = ((i + 1 : Nat) : Int) := w64_nat (n := i + 1) (by omega)
    by_cases hlt : i < cs.length
    · left
      have p1 : (i : Int) < (cs.length : Int) := by omega
      have p2 : ds.length + 1 ≤ 4294967296 := by omega
      have g1 : (cs.map Cpy.e).getD i [] = cs[i].e := getD_map_lt Cpy.e hlt []
      obtain ⟨v, e1⟩ := i_ask9_ex b s cs[i] hb
      simp only [Book.e, Cpy.e, BB, nils, rows] at e1
      cases v
      · exact ⟨(ds, i + 1), by simp only [Book.e, BB, nils, rows]; simp only [i_StewBook_ask_1_v2.d1, BB, nils, rows, p1, g1, Cpy.e, e1, w1], ⟨hlt, by simp only; omega⟩, by simp only; omega⟩
      · refine ⟨(ds ++ [cs[i]], i + 1), ?_, ⟨hlt, by simp; omega⟩, by simp only; omega⟩
        simp only [Book.e, BB, nils, rows, List.map_append, List.map_cons, List.map_nil]
        simp only [i_StewBook_ask_1_v2.d1, BB, nils, rows, p1, g1, Cpy.e, e1, w1, p2]
    · right
      have p1 : ¬ (i : Int) < (cs.length : Int) := by omega
      refine ⟨_, ?_, ?_, ds, rfl, by omega⟩
      · simp only [Book.e, BB, nils, rows]
        simp only [i_StewBook_ask_1_v2.d1, BB, nils, rows, p1]
      · trivial
  obtain ⟨o, h1, ds, rfl, h2⟩ := L
  refine ⟨ds, ?_, h2⟩
  simp only [Book.e, BB, nils, rows] at h1
  simp only [i_StewBook_ask_1_v2, i_StewBook_ask_1_v2.d3, Book.e, BB, nils, rows]
  rw [h1]
  simp only [BB, nils, rows, i_StewBook_ask_1_v2.d2]
theorem i_ask8_eq (c : Cpy) : i_StewBook_ask_8 c.e = some [.b (c.state == 4)] := rfl
theorem i_ask1v1_ex (cs : List Cpy) (hc : cs.length ≤ 1000) : ∃ ds : List Cpy, i_StewBook_ask_1_v1 [.l (cs.map Cpy.e)] = some [.l (ds.map Cpy.e), .l (cs.map Cpy.e)] ∧ ds.length ≤ cs.length ∧ ((∀ c, c ∈ cs → (c.state == 4) = false) → ds = []) := by
  have L : ∃ o, lim (ap4 i_StewBook_ask_1_v1.d1) [.i (cs.length : Nat), .i 0, .l [], .l (cs.map Cpy.e)] = some o ∧ ∃ ds : List Cpy, o = .brk 0 [.l (ds.map Cpy.e), .l (cs.map Cpy.e)] ∧ ds.length ≤ cs.length ∧ ((∀ c, c ∈ cs → (c.state == 4) = false) → ds = []) := by
    refine lim_exs (fun q : List Cpy × Nat => [.i (cs.length : Nat), .i (q.2 : Nat), .l (q.1.map Cpy.e), .l (cs.map Cpy.e)]) (fun q => cs.length - q.2) (fun q => q.2 ≤ cs.length ∧ q.1.length ≤ q.2 ∧ ((∀ c, c ∈ cs → (c.state == 4) = false) → q.1 = [])) _ ([], 0) ⟨Nat.zero_le _, Nat.zero_le _, fun _ => rfl⟩ ?_
    rintro ⟨ds, i⟩ ⟨hi, hd, hz⟩
    simp only at hi hd hz
    have w1 : w64 ((i : Int) + 1) = ((i + 1 : Nat) : Int) := w64_nat (n := i + 1) (by omega)
    by_cases hlt : i < cs.length
    · left
      have p1 : (i : Int) < (cs.length : Int) := by omega
      have p2 : ds.length + 1 ≤ 4294967296 := by omega
      have g1 : (cs.map Cpy.e).getD i [] = cs[i].e := getD_map_lt Cpy.e hlt []
      have e1 := i_ask8_eq cs[i]
      simp only [Cpy.e] at e1
      cases hv : cs[i].state == 4 <;> rw [hv] at e1
      · exact ⟨(ds, i + 1), by simp only [BB, nils, rows]; simp only [i_StewBook_ask_1_v1.d1, BB, nils, rows, p1, g1, Cpy.e, e1, w1], ⟨hlt, by simp only; omega, hz⟩, by simp only; omega⟩
      · refine ⟨(ds ++ [cs[i]], i + 1), ?_, ⟨hlt, by simp; omega, fun h => ?_⟩, by simp only; omega⟩
        · simp only [BB, nils, rows, List.map_append, List.map_cons, List.map_nil]
          simp only [i_StewBook_ask_1_v1.d1, BB, nils, rows, p1, g1, Cpy.e, e1, w1, p2]
        · have := h _ (List.getElem_mem hlt)
          rw [hv] at this; simp at this
    · right
      have p1 : ¬ (i : Int) < (cs.length : Int) := by omega
      refine ⟨_, ?_, ?_, ds, rfl, by omega, hz⟩
      · simp only [BB, nils, rows]
        simp only [i_StewBook_ask_1_v1.d1, BB, nils, rows, p1]
      · trivial
  obtain ⟨o, h1, ds, rfl, h2, h3⟩ := L
  refine ⟨ds, ?_, h2, h3⟩
  simp only [i_StewBook_ask_1_v1, i_StewBook_ask_1_v1.d3, BB, nils, rows]
  rw [h1]
  simp only [BB, nils, rows, i_StewBook_ask_1_v1.d2]
theorem i_first1_ex (b : Book) (s : Svc) (x y : Cpy) (hb : Bnd b) : ∃ n : Int, i_StewBook_first_1 (x.e ++ y.e ++ [.p [.p s.e], .p [.p b.e]]) = some [.i n] := by
  have e1 := i_drained_eq b x hb
  have e2 := i_drained_eq b y hb
  simp only [Cpy.e] at e1 e2
  have L : ∀ zs : List Int, zs.length ≤ 10 → ∃ o, lim (ap17 i_StewBook_first_1.d1) (.i (zs.length : Nat) :: .i 0 :: (x.e ++ y.e ++ [.l (zs.map inE)])) = some o ∧ (o = .brk 0 (x.e ++ y.e) ∨ ∃ n : Int, o = .ret [.i n]) := by
    intro zs hz
    refine lim_exs (fun i : Nat => .i (zs.length : Nat) :: .i (i : Nat) :: (x.e ++ y.e ++ [.l (zs.map inE)])) (fun i => zs.length - i) (fun i => i ≤ zs.length) _ 0 (Nat.zero_le _) ?_
    intro i hi
    have w1 : w64 ((i : Int) + 1) = ((i + 1 : Nat) : Int) := w64_nat (n := i + 1) (by omega)
    simp only [Cpy.e, BB, nils, rows]
    by_cases hlt : i < zs.length
    · have p1 : (i : Int) < (zs.length : Int) := by omega
      have g1 : (zs.map inE).getD i [] = inE zs[i] := getD_map_lt inE hlt []
      simp only [i_StewBook_first_1.d1, BB, nils, rows, p1, g1, inE]
      cases zs[i] != 0 <;> simp only [BB, nils, rows]
      · left; exact ⟨i + 1, by rw [w1], hlt, by omega⟩
      · right; exact ⟨_, rfl, trivial, .inr ⟨_, rfl⟩⟩
    · right
      have p1 : ¬ (i : Int) < (zs.length : Int) := by omega
      refine ⟨_, ?_, ?_, .inl rfl⟩
      · simp only [i_StewBook_first_1.d1, BB, nils, rows, p1]
      · trivial
  have key : ∀ d1 d2 d3 : Int, ∃ n : Int, finR (bindBlk 0 (lim (ap17 i_StewBook_first_1.d1) (.i (([[C.i d1], [C.i d2], [C.i d3]].length : Nat) : Int) :: .i 0 :: (x.e ++ y.e ++ [.l [[C.i d1], [C.i d2], [C.i d3]]]))) (ap14 i_StewBook_first_1.d2)) = some [.i n] := by
    intro d1 d2 d3
    obtain ⟨o, h1, ho⟩ := L [d1, d2, d3] (by simp)
    have h2 : lim (ap17 i_StewBook_first_1.d1) (.i (([[C.i d1], [C.i d2], [C.i d3]].length : Nat) : Int) :: .i 0 :: (x.e ++ y.e ++ [.l [[C.i d1], [C.i d2], [C.i d3]]])) = some o := h1
    rw [h2]
    rcases ho with rfl | ⟨n, rfl⟩
    · simp only [Cpy.e, BB, nils, rows, i_StewBook_first_1.d2]; exact ⟨_, rfl⟩
    · exact ⟨n, rfl⟩
  simp only [Cpy.e, BB, nils, rows] at key
  simp only [i_StewBook_first_1, i_StewBook_first_1.d3, Cpy.e, BB, nils, rows, C.isP_p, C.P_p, i_one_eq, e1, e2]
  exact key _ _ _
theorem i_minFunc_ex (b : Book) (s : Svc) (cs : List Cpy) (hb : Bnd b) (hc : cs.length ≤ 1000) (h0 : 0 < cs.length) : ∃ c : Cpy, slices_MinFunc [.l (cs.map Cpy.e), .p [.p s.e], .p [.p b.e]] = some c.e := by
  have L : ∃ o, lim (ap18 slices_MinFunc.d1) (.l (cs.map Cpy.e) :: .p [.p s.e] :: .p [.p b.e] :: .i 1 :: ([.s (bs #[]), .i 0, .i 0, .i 0, .i 0, .b false, .s (bs #[])] ++ cs[0].e)) = some o ∧ ∃ c : Cpy, o = .brk 0 ([.s (bs #[]), .i 0, .i 0, .i 0, .i 0, .b false, .s (bs #[])] ++ c.e) := by
    refine lim_exs (fun q : Cpy × Nat => .l (cs.map Cpy.e) :: .p [.p s.e] :: .p [.p b.e] :: .i (q.2 : Nat) :: ([.s (bs #[]), .i 0, .i 0, .i 0, .i 0, .b false, .s (bs #[])] ++ q.1.e)) (fun q => cs.length - q.2) (fun q => q.2 ≤ cs.length) _ (cs[0], 1) h0 ?_
    rintro ⟨c, i⟩ hi
    simp only at hi
    have w1 : w64 ((i : Int) + 1) = ((i + 1 : Nat) : Int) := w64_nat (n := i + 1) (by omega)
    by_cases hlt : i < cs.length
    · left
      have p1 : (i : Int) < (cs.length : Int) := by omega
      have g1 : (cs.map Cpy.e).getD i [] = cs[i].e := getD_map_lt Cpy.e hlt []
      obtain ⟨n, e1⟩ := i_first1_ex b s cs[i] c hb
      simp only [Cpy.e, BB, nils, rows] at e1
      by_cases hn : n < 0
      · exact ⟨(cs[i], i + 1), by simp only [Cpy.e, BB, nils, rows]; simp only [slices_MinFunc.d1, BB, nils, rows, p1, g1, Cpy.e, e1, w1, hn], hlt, by simp only; omega⟩
      · exact ⟨(c, i + 1), by simp only [Cpy.e, BB, nils, rows]; simp only [slices_MinFunc.d1, BB, nils, rows, p1, g1, Cpy.e, e1, w1, hn], hlt, by simp only; omega⟩
    · right
      have p1 : ¬ (i : Int) < (cs.length : Int) := by omega
      refine ⟨_, ?_, ?_, c, rfl⟩
      · simp only [Cpy.e, BB, nils, rows]
        simp only [slices_MinFunc.d1, BB, nils, rows, p1]
      · trivial
  obtain ⟨o, h1, c, rfl⟩ := L
  refine ⟨c, ?_⟩
  have p1 : ¬ (cs.length : Int) < 1 := by omega
  have p2 : (0 : Int) < (cs.length : Int) := by omega
  have g1 : (cs.map Cpy.e).getD 0 [] = cs[0].e := getD_map_lt Cpy.e h0 []
  simp only [Cpy.e, BB, nils, rows] at h1
  simp only [slices_MinFunc, slices_MinFunc.d3, BB, nils, rows, p1, p2, g1, Cpy.e]
  have e1 : w64 1 = 1 := w64_1
  rw [h1]
  simp only [BB, nils, rows, slices_MinFunc.d2]
theorem i_first_ex (b : Book) (s : Svc) (cs : List Cpy) (hb : Bnd b) (hc : cs.length ≤ 1000) (h0 : 0 < cs.length) : ∃ c : Cpy, i_StewBook_first [.p b.e, .p s.e, .l (cs.map Cpy.e)] = some c.e := by
  obtain ⟨c, e1⟩ := i_minFunc_ex b s cs hb hc h0
  refine ⟨c, ?_⟩
  simp only [Cpy.e] at e1 ⊢
  simp only [i_StewBook_first, i_StewBook_first.d1, BB, nils, rows]
  have e2 : slices_MinFunc [.l (cs.map fun c => [C.s c.svc, .i c.num, .i c.ver, .i c.image, .i c.state, .b c.ending, .s c.berth]), .p [.p s.e], .p [.p b.e]] = _ := e1
  simp only [call7, e1, BB, nils, rows]
theorem i_ask5_ex (b : Book) (s : Svc) (a : Act) (cs : List Cpy) (hb : Bnd b) (hc : cs.length ≤ 1000) : ∃ (v : Bool) (en : List (Int × Int)), i_StewBook_ask_5 (.l (cs.map Cpy.e) :: (A7 a ++ [.p s.e, .l []] ++ b.e)) = some (A7 a ++ [.b v] ++ A7 a ++ [.p s.e] ++ b.e ++ [.l (en.map enE)]) ∧ en.length ≤ 1 := by
  simp only [i_StewBook_ask_5, i_StewBook_ask_5.d1, A7, Book.e, BB, nils, rows]
  cases h0 : ((cs.length : Int) == 0)
  · have hp : 0 < cs.length := by
      rcases Nat.eq_zero_or_pos cs.length with q | q
      · rw [q] at h0; simp at h0
      · exact q
    obtain ⟨c, e1⟩ := i_first_ex b s cs hb hc hp
    have e2 := i_ask3v_eq a [c] (by simp)
    simp only [Book.e, Cpy.e, A7, BB, nils, rows, List.map_cons, List.map_nil] at e1 e2
    simp only [BB, nils, rows, e1, e2]
    exact ⟨_, [cEn c], rfl, by simp⟩
  · exact ⟨false, [], rfl, by simp⟩
end Go.Ev
namespace Go.Ev
def pOn (b : Book) (s : Svc) (c : Cpy) : Bool := pLive s c && drn b c
def L7 : List C := [.s (bs #[]), .i 0, .i 0, .i 0, .i 0, .b false, .b false]
def askS (k : Int) (b : Book) (s : Svc) (on : Int) (lv : List Cpy) (mid : List C) : List C := .i k :: .i on :: (mid ++ b.e ++ [.p s.e] ++ L7 ++ [.s s.name, .i s.ver, .i 0, .i 0, .i 0, .b false, .b false] ++ CountE b s b.cpys.length ++ [.l [], .l [], .l (lv.map Cpy.e)])
theorem ask_loop (k : Int) (b : Book) (s : Svc) (hb : Bnd b) : ∃ o, lim (ap32 i_StewBook_ask.d2) (askS k b s 0 [] [.l (b.cpys.map Cpy.e), .i (b.cpys.length : Nat), .i 0]) = some o ∧ o = .brk 0 (askS k b s (cnt b (pOn b s)) (b.cpys.filter (pLive s)) []) := by
  have hc := hb.c
  refine lim_exs (fun i : Nat => askS k b s (cn (pOn b s) b.cpys i) ((b.cpys.take i).filter (pLive s)) [.l (b.cpys.map Cpy.e), .i (b.cpys.length : Nat), .i (i : Nat)]) (fun i => b.cpys.length - i) (fun i => i ≤ b.cpys.length) _ 0 (Nat.zero_le _) ?_
  intro i hi
  have w1 : w64 ((i : Int) + 1) = ((i + 1 : Nat) : Int) := w64_nat (n := i + 1) (by omega)
  have hl2 := List.length_filter_le (pLive s) (b.cpys.take i)
  have hl3 := List.length_take_le i b.cpys
  by_cases hlt : i < b.cpys.length
  · left
    refine ⟨i + 1, ?_, hlt, by omega⟩
    have p1 : (i : Int) < (b.cpys.length : Int) := by omega
    have p2 : ((b.cpys.take i).filter (pLive s)).length + 1 ≤ 4294967296 := by omega
    have g1 : (b.cpys.map Cpy.e).getD i [] = b.cpys[i].e := getD_map_lt Cpy.e hlt []
    have st := cn_succ (pOn b s) b.cpys hlt (by omega)
    have lc := cn_le (pOn b s) b.cpys i
    have e1 := i_drained_eq b b.cpys[i] hb
    have tk : b.cpys.take (i + 1) = b.cpys.take i ++ [b.cpys[i]] := List.take_succ_eq_append_getElem hlt
    have no : pLive s b.cpys[i] = false → (b.cpys.take (i + 1)).filter (pLive s) = (b.cpys.take i).filter (pLive s) := by
      intro h
      rw [tk, List.filter_append, List.filter_cons_of_neg (by simp [h]), List.filter_nil, List.append_nil]
    have yes : pLive s b.cpys[i] = true → (b.cpys.take (i + 1)).filter (pLive s) = (b.cpys.take i).filter (pLive s) ++ [b.cpys[i]] := by
      intro h
      rw [tk, List.filter_append, List.filter_cons_of_pos h, List.filter_nil]
    have w0 : w64 (cn (pOn b s) b.cpys i) = cn (pOn b s) b.cpys i := w64_of (by omega) (by omega)
    generalize (b.cpys.take i).filter (pLive s) = lv at *
    generalize (b.cpys.take (i + 1)).filter (pLive s) = lv' at *
    generalize cn (pOn b s) b.cpys i = A at *
    generalize cn (pOn b s) b.cpys (i + 1) = A' at *
    simp only [pOn, pLive, mine] at st no yes
    simp only [Book.e, Cpy.e, BB, nils, rows] at e1
    simp only [askS, L7, CountE, Book.e, BB, nils, rows]
    simp only [i_StewBook_ask.d2, BB, nils, rows, p1, g1, C.isP_p, C.P_p, Svc.e, Cpy.e]
    cases h1 : (b.cpys[i].svc.toList == s.name.toList) <;> rw [h1] at st no yes <;> simp only [BB, nils, rows, Bool.true_and, Bool.false_and, i_StewBook_ask.d1, w1] at st no yes ⊢
    · rw [st, no trivial]
    · cases h2 : b.cpys[i].ending <;> rw [h2] at st no yes e1 <;> simp only [BB, nils, rows, Bool.true_and, Bool.false_and, e1, i_one_eq, p2] at st no yes ⊢
      · rw [st, yes trivial]
        cases h3 : drn b b.cpys[i] <;> simp only [b2i, BB, nils, rows, Int.add_zero, w0, List.map_append, List.map_cons, List.map_nil, Cpy.e, h2]
      · rw [st, no trivial]
  · right
    have : i = b.cpys.length := by omega
    subst this
    have p1 : ¬ (b.cpys.length : Int) < (b.cpys.length : Int) := by omega
    refine ⟨_, ?_, ?_, rfl⟩
    · rw [List.take_length, cn_all]
      simp only [askS, L7, CountE, Book.e, BB, nils, rows, cnt]
      simp only [i_StewBook_ask.d2, BB, nils, rows, p1]
    · trivial
end Go.Ev
namespace Go.Ev
def liveL (b : Book) (s : Svc) : List Cpy := b.cpys.filter (pLive s)
def sel (b : Book) (s : Svc) (k : Int) (c : Cpy) : Bool := (k == 2 && c.image != s.image) || ((k == 6 && drn b c) || (k == 3 && c.state == 4))
def readyN (b : Book) (s : Svc) : Int := cnt b (pReady s)
def mayC (b : Book) (s : Svc) (c : Cpy) : Bool := !c.ending && (c.state != 3 || (s.gone || decide (readyN b s - 1 ≥ s.want - s.down)))
def mayB (b : Book) (s : Svc) (n : Int) : Bool := match cpyOf b s.name n with | none => false | some c => mayC b s c
def sooner (b : Book) (s : Svc) (x y : Cpy) : Bool :=
  bif (x.state != 3) != (y.state != 3) then x.state != 3 else bif (x.image != s.image) != (y.image != s.image) then x.image != s.image else bif drn b x != drn b y then drn b x else decide (x.num > y.num)
def bestC (lt : Cpy → Cpy → Bool) : Cpy → List Cpy → Cpy
  | m, [] => m
  | m, c :: r => bestC lt (bif lt c m then c else m) r
def firstO (b : Book) (s : Svc) : List Cpy → List Cpy
  | [] => []
  | c :: r => [bestC (sooner b s) c r]
theorem LiveIx.no {cs fl : List Cpy} {p : Cpy → Bool} {ix : List Nat} {i : Nat} (h : LiveIx cs ((fl.take i).filter p) ix) (hi : i < fl.length) (hp : p fl[i] = false) : LiveIx cs ((fl.take (i + 1)).filter p) ix := by
  rw [List.take_succ_eq_append_getElem hi, List.filter_append, List.filter_cons_of_neg (by simp [hp]), List.filter_nil, List.append_nil]
  exact h
theorem LiveIx.yes {cs fl : List Cpy} {p : Cpy → Bool} {ix : List Nat} {i k : Nat} (h : LiveIx cs ((fl.take i).filter p) ix) (hi : i < fl.length) (hp : p fl[i] = true) (hk : cs[k]? = some fl[i]) : LiveIx cs ((fl.take (i + 1)).filter p) (ix ++ [k]) := by
  rw [List.take_succ_eq_append_getElem hi, List.filter_append, List.filter_cons_of_pos hp, List.filter_nil]
  show (ix ++ [k]).map _ = _
  rw [List.map_append, List.map_append]
  have hx' : ix.map (fun i => cs[i]?) = _ := h
  rw [hx']
  simp [hk]
theorem LiveIx.full {cs fl : List Cpy} {p : Cpy → Bool} {ix : List Nat} (h : LiveIx cs ((fl.take fl.length).filter p) ix) : LiveIx cs (fl.filter p) ix := by rw [List.take_length] at h; exact h
theorem s_l22Some_eq (b : Book) (s : Svc) (which : Int) (hb : Bnd b) : ∃ ix : List Nat, s_l22Some (b.e ++ s.e ++ [.i which]) = some [.l (ix.map ixE)] ∧ LiveIx b.cpys ((liveL b s).filter (sel b s which)) ix := by
  have hc := hb.c
  obtain ⟨lv, e0, hlv⟩ := s_l22Live_eq b s hb
  have hfl := List.length_filter_le (pLive s) b.cpys
  have hl0 := hlv.len
  change LiveIx b.cpys (liveL b s) lv at hlv
  change lv.length = (liveL b s).length at hl0
  change (liveL b s).length ≤ _ at hfl
  generalize liveL b s = fl at *
  have L : ∃ o, lim (ap21 s_l22Some.d2)
      (.i which :: .i 0 :: (b.e ++ s.e ++ [.l [], .l (lv.map ixE)])) = some o ∧ ∃ ix : List Nat, o = .brk 0 [.l (ix.map ixE)] ∧ LiveIx b.cpys (fl.filter (sel b s which)) ix := by
    refine lim_exs (fun a : List Nat × Nat => .i which :: .i (a.2 : Nat) :: (b.e ++ s.e ++ [.l (a.1.map ixE), .l (lv.map ixE)])) (fun a => lv.length - a.2) (fun a => a.2 ≤ lv.length ∧ LiveIx b.cpys ((fl.take a.2).filter (sel b s which)) a.1) _ ([], 0) ⟨Nat.zero_le _, rfl⟩ ?_
    rintro ⟨ix, i⟩ ⟨hi, hx⟩
    simp only at hi hx
    have hxl := hx.len
    have hxl2 := List.length_filter_le (sel b s which) (fl.take i)
    have hxl3 := List.length_take_le i fl
    have w1 : w64 ((i : Int) + 1) = (i : Int) + 1 := w64_of (by omega) (by omega)
    by_cases hlt : i < lv.length
    · left
      obtain ⟨hk, hif, hek⟩ := hlv.at hlt
      generalize hkk : lv[i] = k at hk hek
      have g1 : (lv.map ixE).getD i [] = ixE k := by rw [getD_map_lt ixE hlt, hkk]
      have g2 : (b.cpys.map Cpy.e).getD k [] = b.cpys[k].e := getD_map_lt Cpy.e hk []
      have e1 := s_l22Drains_eq b b.cpys[k] hb
      have hk' : b.cpys[k]? = some fl[i] := by rw [← hek]; exact List.getElem?_eq_getElem hk
      simp only [Book.e, Svc.e, Cpy.e, Brt.e, Act.e, Wld.e, Ev1.e, BB, nils, rows] at e1
      have p1 : (i : Int) < (lv.length : Int) := by omega
      have p2 : (k : Int) < (b.cpys.length : Int) := by omega
      have p3 : ix.length + 1 ≤ 4294967296 := by omega
      have step1 : ∀ u : Bool, u = sel b s which fl[i] → ∃ jx : List Nat, s_l22Some.d1 (.i which) (.i (i : Nat)) (.b u) (.i b.now) (.l (b.svcs.map Svc.e)) (.l (b.cpys.map Cpy.e)) (.l (b.brts.map Brt.e)) (.s s.name) (.i s.ver) (.b s.gone) (.i s.image) (.i s.want) (.i s.down) (.i s.over) (.i s.next) (.i s.per) (.i s.least) (.i s.most) (.i s.load) (.i s.cool) (.l (ix.map ixE)) (.l (lv.map ixE))
          = some (.again (.i which :: .i ((i + 1 : Nat) : Int) :: (b.e ++ s.e ++ [.l (jx.map ixE), .l (lv.map ixE)]))) ∧ LiveIx b.cpys ((fl.take (i + 1)).filter (sel b s which)) jx := by
        intro u hu
        cases u with
        | false => exact ⟨ix, by simp only [s_l22Some.d1, C.B_b, jS, C.I_i, w1, C.L_l]; rfl, hx.no hif hu.symm⟩
        | true =>
          refine ⟨ix ++ [k], ?_, hx.yes hif hu.symm hk'⟩
          simp only [s_l22Some.d1, C.B_b, jR, C.I_i, w1, C.L_l, jY, g1, ixE, apL, jC, jW, rows, List.length_singleton, p1, p3, jX, decide_true, List.map_append, List.map_cons, List.map_nil]
          rfl
      have step : ∃ jx : List Nat, s_l22Some.d2 (.i which) (.i (i : Nat)) (.i b.now) (.l (b.svcs.map Svc.e)) (.l (b.cpys.map Cpy.e)) (.l (b.brts.map Brt.e)) (.s s.name) (.i s.ver) (.b s.gone) (.i s.image) (.i s.want) (.i s.down) (.i s.over) (.i s.next) (.i s.per) (.i s.least) (.i s.most) (.i s.load) (.i s.cool) (.l (ix.map ixE)) (.l (lv.map ixE))
          = some (.again (.i which :: .i ((i + 1 : Nat) : Int) :: (b.e ++ s.e ++ [.l (jx.map ixE), .l (lv.map ixE)]))) ∧ LiveIx b.cpys ((fl.take (i + 1)).filter (sel b s which)) jx := by
        simp only [s_l22Some.d2, C.I_i, C.L_l, jY, g1, jW, p1, decide_true, jR, jX, ixE, apL, jC, jD, p2, g2, Cpy.e, e1, call1, jI, C.B_b]
        have su : sel b s which fl[i] = ((which == 2 && b.cpys[k].image != s.image) || ((which == 6 && drn b b.cpys[k]) || (which == 3 && b.cpys[k].state == 4))) := by rw [← hek]; rfl
        rw [su] at step1
        cases h2 : which == 2 <;> cases h6 : which == 6 <;> cases h3 : which == 3 <;> cases hm : (b.cpys[k].image != s.image) <;> cases hd : drn b b.cpys[k] <;> cases hs : (b.cpys[k].state == 4)
        all_goals simp only [jZ, ja, jR, jS, jJ, apL, jC, jD, e1]
        all_goals exact step1 _ (by rw [h2, h6, h3, hm, hd, hs]; rfl)
      obtain ⟨jx, h1, h2⟩ := step
      exact ⟨(jx, i + 1), h1, ⟨Nat.succ_le_of_lt hlt, h2⟩, by simp only; omega⟩
    · right
      have hil : i = fl.length := by omega
      have p1 : ¬ (i : Int) < (lv.length : Int) := by omega
      subst hil
      refine ⟨.brk 0 [.l (ix.map ixE)], ?_, trivial, ix, rfl, hx.full⟩
      simp only [Book.e, Svc.e, Cpy.e, Brt.e, Act.e, Wld.e, Ev1.e, BB, nils, rows]
      simp only [s_l22Some.d2, BB, nils, rows, p1]
  obtain ⟨o, h1, ix, rfl, h2⟩ := L
  refine ⟨ix, ?_, h2⟩
  simp only [Book.e, Svc.e, jA, jB] at h1 e0
  simp only [s_l22Some, s_l22Some.d4, Book.e, Svc.e, jA, jB, apL, jC, jD, e0, call1, jI, C.L_l, nils]
  erw [h1]
  rfl
theorem s_l22Ends_eq (b : Book) (fl : List Cpy) (ix : List Nat) (hb : Bnd b) (hl : fl.length ≤ 1000) (hx : LiveIx b.cpys fl ix) : s_l22Ends (b.e ++ [.l (ix.map ixE)]) = some [.l ((fl.map cEn).map enE)] := by
  have hl0 := hx.len
  have L : ∃ o, lim (ap7 s_l22Ends.d1) (.l (ix.map ixE) :: .i 0 :: (b.e ++ [.l []])) = some o ∧ o = .brk 0 [.l ((fl.map cEn).map enE)] := by
    refine lim_exs (fun i : Nat => .l (ix.map ixE) :: .i (i : Nat) :: (b.e ++ [.l (((fl.take i).map cEn).map enE)])) (fun i => ix.length - i) (fun i => i ≤ ix.length) _ 0 (Nat.zero_le _) ?_
    intro i hi
    have w1 : w64 ((i : Int) + 1) = ((i + 1 : Nat) : Int) := w64_nat (n := i + 1) (by omega)
    by_cases hlt : i < ix.length
    · left
      refine ⟨i + 1, ?_, hlt, by omega⟩
      obtain ⟨hk, hif, hek⟩ := hx.at hlt
      have hfl : fl[i] = b.cpys[ix[i]] := hek.symm
      generalize hkk : ix[i] = k at hk hfl
      have g1 : (ix.map ixE).getD i [] = ixE k := by rw [getD_map_lt ixE hlt, hkk]
      have g2 : (b.cpys.map Cpy.e).getD k [] = b.cpys[k].e := getD_map_lt Cpy.e hk []
      have p1 : (i : Int) < (ix.length : Int) := by omega
      have p2 : (k : Int) < (b.cpys.length : Int) := by omega
      have p3 : min i fl.length + 1 ≤ 4294967296 := by omega
      simp only [Book.e, Svc.e, Cpy.e, Brt.e, Act.e, Wld.e, Ev1.e, BB, nils, rows, List.take_succ_eq_append_getElem hif, List.map_append, List.map_cons, List.map_nil, hfl]
      simp only [s_l22Ends.d1, BB, nils, rows, g1, p1, ixE, p2, g2, Cpy.e, List.length_take, p3, w1]
      rfl
    · right
      have hil : i = fl.length := by omega
      have p1 : ¬ (i : Int) < (ix.length : Int) := by omega
      subst hil
      refine ⟨_, ?_, ?_, rfl⟩
      · simp only [Book.e, Svc.e, Cpy.e, Brt.e, Act.e, Wld.e, Ev1.e, BB, nils, rows, List.take_length]
        simp only [s_l22Ends.d1, BB, nils, rows, p1]
      · trivial
  obtain ⟨o, h1, rfl⟩ := L
  simp only [Book.e, Svc.e, Cpy.e, Brt.e, Act.e, Wld.e, Ev1.e, BB, nils, rows] at h1
  simp only [s_l22Ends, s_l22Ends.d3, Book.e, Svc.e, Cpy.e, Brt.e, Act.e, Wld.e, Ev1.e, BB, nils, rows]
  rw [h1]
  simp only [BB, nils, rows, s_l22Ends.d2]
theorem s_l22Sooner_eq (b : Book) (s : Svc) (x y : Cpy) (hb : Bnd b) : s_l22Sooner (b.e ++ x.e ++ y.e ++ [.i s.image]) = some [.b (sooner b s x y)] := by
  have e1 := s_l22Drains_eq b x hb
  have e2 := s_l22Drains_eq b y hb
  simp only [Book.e, Svc.e, Cpy.e, Brt.e, Act.e, Wld.e, Ev1.e, BB, nils, rows] at e1 e2
  simp only [s_l22Sooner, s_l22Sooner.d1, Book.e, Svc.e, Cpy.e, Brt.e, Act.e, Wld.e, Ev1.e, BB, nils, rows, e1, e2, sooner, bne]
  cases (x.state == 3) <;> cases (y.state == 3) <;> cases (x.image == s.image) <;> cases (y.image == s.image) <;> cases drn b x <;> cases drn b y <;> rfl
theorem s_l22First_eq (b : Book) (s : Svc) (fl : List Cpy) (ix : List Nat) (hb : Bnd b) (hl : fl.length ≤ 1000) (hx : LiveIx b.cpys fl ix) : s_l22First (b.e ++ s.e ++ [.l (ix.map ixE)]) = some [.l (((firstO b s fl).map cEn).map enE)] := by
  have hl0 := hx.len
  cases fl with
  | nil =>
    have : ix = [] := List.length_eq_zero_iff.1 hl0
    subst this
    simp [s_l22First, s_l22First.d3, Book.e, Svc.e, firstO]
  | cons c0 r =>
    have hpos : 0 < ix.length := by rw [hl0]; simp
    have hr : ix.length = r.length + 1 := by rw [hl0]; simp
    have L : ∃ o, lim (ap26 s_l22First.d1)
        (.l (ix.map ixE) :: .i 1 :: (b.e ++ s.e ++ c0.e)) = some o ∧ o = .brk 0 (bestC (sooner b s) c0 r).e := by
      refine lim_exs (fun q : Cpy × Nat => .l (ix.map ixE) :: .i (q.2 : Nat) :: (b.e ++ s.e ++ q.1.e)) (fun q => ix.length - q.2) (fun q => 1 ≤ q.2 ∧ q.2 ≤ ix.length ∧ bestC (sooner b s) q.1 (r.drop (q.2 - 1)) = bestC (sooner b s) c0 r) _ (c0, 1) ⟨Nat.le_refl _, hpos, by simp⟩ ?_
      rintro ⟨best, i⟩ ⟨h1, hi, hbst⟩
      simp only at h1 hi hbst
      have w1 : w64 ((i : Int) + 1) = (i : Int) + 1 := w64_of (by omega) (by omega)
      by_cases hlt : i < ix.length
      · left
        obtain ⟨hk, hif, hek⟩ := hx.at hlt
        have hfi : b.cpys[ix[i]] = r[i - 1]'(by omega) := by
          rw [hek, List.getElem_cons, dif_neg (by omega)]
        generalize hkk : ix[i] = k at hk hfi
        have g1 : (ix.map ixE).getD i [] = ixE k := by rw [getD_map_lt ixE hlt, hkk]
        have g2 : (b.cpys.map Cpy.e).getD k [] = b.cpys[k].e := getD_map_lt Cpy.e hk []
        have e1 := s_l22Sooner_eq b s b.cpys[k] best hb
        simp only [Book.e, Cpy.e, jA, jB] at e1
        have p1 : (i : Int) < (ix.length : Int) := by omega
        have p2 : (k : Int) < (b.cpys.length : Int) := by omega
        have hnext : bestC (sooner b s) (bif sooner b s b.cpys[k] best then b.cpys[k] else best) (r.drop i) = bestC (sooner b s) c0 r := by
          rw [← hbst, List.drop_eq_getElem_cons (show i - 1 < r.length by omega), bestC, ← hfi]
          have : i - 1 + 1 = i := by omega
          rw [this]
        refine ⟨(bif sooner b s b.cpys[k] best then b.cpys[k] else best, i + 1), ?_, ⟨by simp only; omega, hlt, hnext⟩, by simp only; omega⟩
        simp only [Book.e, Svc.e, Cpy.e, Brt.e, Act.e, Wld.e, Ev1.e, BB, nils, rows]
        simp only [s_l22First.d1, BB, nils, rows, g1, p1, ixE, p2, g2, Cpy.e, e1, w1]
        cases sooner b s b.cpys[k] best <;> rfl
      · right
        have hil : i = r.length + 1 := by omega
        subst hil
        have p1 : ¬ ((r.length + 1 : Nat) : Int) < (ix.length : Int) := by omega
        simp only [Nat.add_sub_cancel, List.drop_length, bestC] at hbst
        refine ⟨.brk 0 best.e, ?_, trivial, by rw [hbst]⟩
        simp only [Book.e, Svc.e, Cpy.e, Brt.e, Act.e, Wld.e, Ev1.e, BB, nils, rows]
        simp only [s_l22First.d1, BB, nils, rows, p1]
    obtain ⟨o, h1, rfl⟩ := L
    obtain ⟨hk, hif, hek⟩ := hx.at hpos
    have he0 : b.cpys[ix[0]] = c0 := hek
    generalize hkk : ix[0] = k at hk he0
    have g1 : (ix.map ixE).getD 0 [] = ixE k := by rw [getD_map_lt ixE hpos, hkk]
    have g2 : (b.cpys.map Cpy.e).getD k [] = c0.e := by rw [getD_map_lt Cpy.e hk, he0]
    have p2 : (k : Int) < (b.cpys.length : Int) := by omega
    have p3 : (0 : Int) < (ix.length : Int) := by omega
    have p4 : ((ix.length : Int) == 0) = false := by simp; intro h; rw [h] at hpos; simp at hpos
    simp only [Book.e, Svc.e, Cpy.e, Brt.e, Act.e, Wld.e, Ev1.e, BB, nils, rows] at h1
    simp only [s_l22First, s_l22First.d3, Book.e, Svc.e, Cpy.e, Brt.e, Act.e, Wld.e, Ev1.e, BB, nils, rows, p3, p4, g1, ixE, p2, g2, Cpy.e]
    rw [h1]
    simp only [BB, nils, rows, s_l22First.d2, firstO]
    rfl
end Go.Ev
namespace Go.Ev
theorem mine_name {s : Svc} {c : Cpy} (h : mine s c = true) : c.svc = s.name := by
  simp only [mine, beq_iff_eq] at h
  exact toList_inj h
theorem s_l20MayEnd_eq (b : Book) (j : Nat) (hj : j < b.svcs.length) (n : Int) (hb : Bnd b) (hv : validB b = true) : s_l20MayEnd (b.e ++ [.s b.svcs[j].name, .i n]) = some [.b (mayB b b.svcs[j] n)] := by
  have hc := hb.c
  have hw := svcOk_want (validB_svc hv _ (List.getElem_mem hj))
  have hd : 0 ≤ b.svcs[j].down ∧ b.svcs[j].down ≤ 10 := by
    have h := validB_svc hv _ (List.getElem_mem hj)
    simp only [svcOk, Bool.and_eq_true, within, decide_eq_true_eq] at h
    exact h.1.1.1.2
  have e0 := s_l18Copy_eq b b.svcs[j].name n hb.small.c
  have hx := (svc_self hv hj).2
  have e1 := s_l18Service_eq b b.svcs[j].name hb.small.s
  rw [hx] at e1
  have e2 := s_l19Count_eq b j hj hb hx
  have cr : cn (pReady b.svcs[j]) b.cpys b.cpys.length = readyN b b.svcs[j] := cn_all _ _
  have hr := cnt_le b hb (pReady b.svcs[j])
  have g2 : (b.svcs.map Svc.e).getD j [] = b.svcs[j].e := getD_map_lt Svc.e hj []
  have p2 : (j : Int) < (b.svcs.length : Int) := by omega
  simp only [CountE, Book.e, Svc.e, Cpy.e, Brt.e, Act.e, Wld.e, Ev1.e, BB, nils, rows, cr] at e0 e1 e2
  simp only [s_l20MayEnd, s_l20MayEnd.d1, Book.e, Svc.e, Cpy.e, Brt.e, Act.e, Wld.e, Ev1.e, BB, nils, rows, e0, mayB]
  rcases findIx_spec (fun c : Cpy => sEq c.svc b.svcs[j].name && c.num == n) b.cpys 0 with ⟨h1, h2⟩ | ⟨i, hi, h1, h2, _⟩
  · have h3 : cpyIx b.cpys b.svcs[j].name n = -1 := h2
    have h4 : cpyOf b b.svcs[j].name n = none := h1
    rw [h3, h4]; rfl
  · have h3 : cpyIx b.cpys b.svcs[j].name n = (i : Int) := by rw [cpyIx, h1]; omega
    have h4 : cpyOf b b.svcs[j].name n = some b.cpys[i] := h2
    have g1 : (b.cpys.map Cpy.e).getD i [] = b.cpys[i].e := getD_map_lt Cpy.e hi []
    have p1 : (i : Int) < (b.cpys.length : Int) := by omega
    have p0 : ¬ (i : Int) < 0 := by omega
    have w1 : w64 (readyN b b.svcs[j] - 1) = readyN b b.svcs[j] - 1 := w64_of (by simp only [readyN]; omega) (by simp only [readyN]; omega)
    have w2 : w64 (b.svcs[j].want - b.svcs[j].down) = b.svcs[j].want - b.svcs[j].down := w64_of (by omega) (by omega)
    rw [h3, h4]
    simp only [BB, nils, rows, p0, p1, p2, g1, g2, Cpy.e, Svc.e, e1, e2, w1, w2, mayC]
    cases b.cpys[i].ending <;> simp only [BB, nils, rows, Bool.false_and, Bool.true_and]
    cases b.cpys[i].state != 3 <;> simp only [BB, nils, rows, Bool.false_or, Bool.true_or]
    cases b.svcs[j].gone <;> simp only [BB, nils, rows, Bool.false_or, Bool.true_or]
theorem s_l22May_eq (b : Book) (j : Nat) (hj : j < b.svcs.length) (fl : List Cpy) (ix : List Nat) (hb : Bnd b) (hv : validB b = true) (hl : fl.length ≤ 1000) (hx : LiveIx b.cpys fl ix) (hm : ∀ c, c ∈ fl → mine b.svcs[j] c = true) :
    ∃ jx : List Nat, s_l22May (b.e ++ [.l (ix.map ixE)]) = some [.l (jx.map ixE)] ∧ LiveIx b.cpys (fl.filter fun c => mayB b b.svcs[j] c.num) jx := by
  have hl0 := hx.len
  have L : ∃ o, lim (ap7 s_l22May.d1) (.l (ix.map ixE) :: .i 0 :: (b.e ++ [.l []])) = some o ∧ ∃ en : List Nat, o = .brk 0 [.l (en.map ixE)] ∧ LiveIx b.cpys (fl.filter fun c => mayB b b.svcs[j] c.num) en := by
    refine lim_exs (fun a : List Nat × Nat => .l (ix.map ixE) :: .i (a.2 : Nat) :: (b.e ++ [.l (a.1.map ixE)])) (fun a => ix.length - a.2) (fun a => a.2 ≤ ix.length ∧ LiveIx b.cpys ((fl.take a.2).filter fun c => mayB b b.svcs[j] c.num) a.1) _ ([], 0) ⟨Nat.zero_le _, rfl⟩ ?_
    rintro ⟨en, i⟩ ⟨hi, hy⟩
    simp only at hi hy
    have hyl := hy.len
    have hyl2 := List.length_filter_le (fun c : Cpy => mayB b b.svcs[j] c.num) (fl.take i)
    have hyl3 := List.length_take_le i fl
    have w1 : w64 ((i : Int) + 1) = (i : Int) + 1 := w64_of (by omega) (by omega)
    by_cases hlt : i < ix.length
    · left
      obtain ⟨hk, hif, hek⟩ := hx.at hlt
      generalize hkk : ix[i] = k at hk hek
      have g1 : (ix.map ixE).getD i [] = ixE k := by rw [getD_map_lt ixE hlt, hkk]
      have g2 : (b.cpys.map Cpy.e).getD k [] = b.cpys[k].e := getD_map_lt Cpy.e hk []
      have hk' : b.cpys[k]? = some fl[i] := by rw [← hek]; exact List.getElem?_eq_getElem hk
      have p1 : (i : Int) < (ix.length : Int) := by omega
      have p2 : (k : Int) < (b.cpys.length : Int) := by omega
      have p3 : en.length + 1 ≤ 4294967296 := by omega
      have hnm : b.cpys[k].svc = b.svcs[j].name := by rw [hek]; exact mine_name (hm _ (List.getElem_mem hif))
      have e1 := s_l20MayEnd_eq b j hj b.cpys[k].num hb hv
      rw [← hnm] at e1
      have hmb : mayB b b.svcs[j] b.cpys[k].num = mayB b b.svcs[j] fl[i].num := by rw [hek]
      rw [hmb] at e1
      simp only [Book.e, Svc.e, Cpy.e, Brt.e, Act.e, Wld.e, Ev1.e, BB, nils, rows] at e1
      cases hu : mayB b b.svcs[j] fl[i].num <;> rw [hu] at e1
      · refine ⟨(en, i + 1), ?_, ⟨Nat.succ_le_of_lt hlt, hy.no hif hu⟩, by simp only; omega⟩
        simp only [Book.e, Svc.e, Cpy.e, Brt.e, Act.e, Wld.e, Ev1.e, BB, nils, rows]
        simp only [s_l22May.d1, BB, nils, rows, g1, g2, p1, p2, ixE, Cpy.e, e1, w1]
        rfl
      · refine ⟨(en ++ [k], i + 1), ?_, ⟨Nat.succ_le_of_lt hlt, hy.yes hif hu hk'⟩, by simp only; omega⟩
        simp only [Book.e, Svc.e, Cpy.e, Brt.e, Act.e, Wld.e, Ev1.e, BB, nils, rows, List.map_append, List.map_cons, List.map_nil]
        simp only [s_l22May.d1, BB, nils, rows, g1, g2, p1, p2, p3, ixE, Cpy.e, e1, w1]
        rfl
    · right
      have hil : i = fl.length := by omega
      have p1 : ¬ (i : Int) < (ix.length : Int) := by omega
      subst hil
      refine ⟨_, ?_, ?_, en, rfl, hy.full⟩
      · simp only [Book.e, Svc.e, Cpy.e, Brt.e, Act.e, Wld.e, Ev1.e, BB, nils, rows]
        simp only [s_l22May.d1, BB, nils, rows, p1]
      · trivial
  obtain ⟨o, h1, en, rfl, h2⟩ := L
  refine ⟨en, ?_, h2⟩
  simp only [Book.e, Svc.e, Cpy.e, Brt.e, Act.e, Wld.e, Ev1.e, BB, nils, rows] at h1
  simp only [s_l22May, s_l22May.d3, Book.e, Svc.e, Cpy.e, Brt.e, Act.e, Wld.e, Ev1.e, BB, nils, rows]
  rw [h1]
  simp only [BB, nils, rows, s_l22May.d2]
def a0 (s : Svc) : Act := ⟨s.name, s.ver, 0, 0, 0, false, [], false⟩
def nL (b : Book) (s : Svc) : Int := cnt b (pLive s)
def mayL (b : Book) (s : Svc) (l : List Cpy) : List Cpy := l.filter fun c => mayB b s c.num
def selL (b : Book) (s : Svc) (k : Int) : List Cpy := (liveL b s).filter (sel b s k)
def replS (b : Book) (s : Svc) (l : List Cpy) : Act :=
  bif l.length == 0 then a0 s else bif decide (nL b s < s.want) then a0 s else bif decide (nL b s < s.want + s.over) then { a0 s with create := 1 } else { a0 s with ends := (firstO b s (mayL b s l)).map cEn }
def cntS (b : Book) (s : Svc) : Act :=
  bif decide (nL b s < s.want) then { a0 s with create := s.want - nL b s } else
  bif decide (nL b s > s.want) && (((selL b s 2).length == 0 && (selL b s 6).length == 0) || decide (nL b s > s.want + s.over)) then
    (match firstO b s (liveL b s) with | c :: _ => bif mayB b s c.num then { a0 s with ends := [cEn c] } else a0 s | [] => a0 s) else a0 s
def scaS (s : Svc) : Act :=
  bif decide (s.want < s.least) then { a0 s with scale := true, want := s.least } else bif decide (s.want > s.most) then { a0 s with scale := true, want := s.most } else
  bif decide (desired s > s.want) then { a0 s with scale := true, want := desired s } else bif decide (desired s < s.want) then (bif decide (s.cool ≥ 3) then { a0 s with scale := true, want := s.want - 1 } else { a0 s with scale := true, want := s.want, cool := s.cool + 1 }) else
  bif s.cool == 0 then a0 s else { a0 s with scale := true, want := s.want }
def specA (k : Int) (b : Book) (s : Svc) : Act :=
  bif k == 3 then { a0 s with ends := (selL b s 3).map cEn } else
  bif s.gone then (bif k == 5 then { a0 s with ends := (liveL b s).map cEn, drop := nL b s + cnt b (pEnd s) == 0 } else a0 s) else
  bif k == 1 then cntS b s else bif k == 2 then replS b s (selL b s 2) else bif k == 6 then (bif (selL b s 2).length == 0 then replS b s (selL b s 6) else a0 s) else
  bif k == 4 then (bif decide (s.per > 0) then scaS s else a0 s) else a0 s
theorem a0_e (s : Svc) : (a0 s).e = [.s s.name, .i s.ver, .i 0, .i 0, .i 0, .b false, .l [], .b false] := rfl
theorem s_l22Replace_eq (b : Book) (j : Nat) (hj : j < b.svcs.length) (l : List Cpy) (ix : List Nat) (hb : Bnd b) (hv : validB b = true) (hx : LiveIx b.cpys l ix) (hl : l.length ≤ 1000) (hm : ∀ c, c ∈ l → mine b.svcs[j] c = true) :
    s_l22Replace (b.e ++ b.svcs[j].e ++ (a0 b.svcs[j]).e ++ [.l (ix.map ixE)]) = some (replS b b.svcs[j] l).e := by
  have hw := svcOk_want (validB_svc hv _ (List.getElem_mem hj))
  have ho : 0 ≤ b.svcs[j].over ∧ b.svcs[j].over ≤ 10 := by
    have h := validB_svc hv _ (List.getElem_mem hj)
    simp only [svcOk, Bool.and_eq_true, within, decide_eq_true_eq] at h
    exact h.1.1.2
  obtain ⟨lv, e0, hlv⟩ := s_l22Live_eq b b.svcs[j] hb
  have hll := hlv.len
  have hnl : (lv.length : Int) = nL b b.svcs[j] := by rw [hll, nL, cnt, List.countP_eq_length_filter]
  obtain ⟨jx, e1, hjx⟩ := s_l22May_eq b j hj l ix hb hv hl hx hm
  have hfl := List.length_filter_le (fun c : Cpy => mayB b b.svcs[j] c.num) l
  have e2 := s_l22First_eq b b.svcs[j] _ jx hb (by omega) hjx
  have w1 : w64 (b.svcs[j].want + b.svcs[j].over) = b.svcs[j].want + b.svcs[j].over := w64_of (by omega) (by omega)
  have hz : ((ix.length : Int) == 0) = (l.length == 0) := by
    rw [hx.len]
    cases l with
    | nil => rfl
    | cons c r => simp; omega
  simp only [Book.e, Svc.e, Cpy.e, Brt.e, Act.e, Wld.e, Ev1.e, BB, nils, rows] at e0 e1 e2
  simp only [s_l22Replace, s_l22Replace.d1, a0_e, Book.e, Svc.e, Cpy.e, Brt.e, Act.e, Wld.e, Ev1.e, BB, nils, rows, e0, e1, e2, hnl, w1, hz, replS]
  cases l.length == 0 <;> simp only [BB, nils, rows, a0]
  repeat' (rw [Bool.cond_eq_ite]; split <;> try simp only [BB, nils, rows])
  all_goals simp_all [mayL]
end Go.Ev
namespace Go.Ev
theorem svcOk_over' {s : Svc} {n : Int} (h : svcOk s n = true) : 0 ≤ s.over ∧ s.over ≤ 10 := by
  simp only [svcOk, Bool.and_eq_true, within, decide_eq_true_eq] at h
  exact h.1.1.2
theorem live_mine {b : Book} {s : Svc} {c : Cpy} (h : c ∈ liveL b s) : mine s c = true ∧ c.ending = false ∧ c ∈ b.cpys := by
  obtain ⟨h1, h2⟩ := List.mem_filter.1 h
  simp only [pLive, Bool.and_eq_true, Bool.not_eq_true'] at h2
  exact ⟨h2.1, h2.2, h1⟩
theorem liveL_len (b : Book) (s : Svc) : ((liveL b s).length : Int) = nL b s := by rw [nL, cnt, List.countP_eq_length_filter]; rfl
theorem sel_len (b : Book) (s : Svc) (k : Int) : (selL b s k).length ≤ b.cpys.length :=
  Nat.le_trans (List.length_filter_le _ _) (List.length_filter_le _ _)
theorem len_zero (n : Nat) : ((n : Int) == 0) = (n == 0) := by
  cases n with
  | zero => rfl
  | succ n =>
    have h1 : (((n + 1 : Nat) : Int) == 0) = false := by simp; omega
    rw [h1]; rfl
theorem s_l22Counter_eq (b : Book) (j : Nat) (hj : j < b.svcs.length) (hb : Bnd b) (hv : validB b = true) : s_l22Counter (b.e ++ b.svcs[j].e ++ (a0 b.svcs[j]).e) = some (cntS b b.svcs[j]).e := by
  have hok := validB_svc hv _ (List.getElem_mem hj)
  have hw := svcOk_want hok
  have ho := svcOk_over' hok
  have hc := hb.c
  obtain ⟨lv, e0, hlv⟩ := s_l22Live_eq b b.svcs[j] hb
  change LiveIx b.cpys (liveL b b.svcs[j]) lv at hlv
  have hnl : (lv.length : Int) = nL b b.svcs[j] := by rw [hlv.len]; exact liveL_len _ _
  obtain ⟨x1, e1, hx1⟩ := s_l22Some_eq b b.svcs[j] 2 hb
  obtain ⟨x2, e2, hx2⟩ := s_l22Some_eq b b.svcs[j] 6 hb
  have hfl : (liveL b b.svcs[j]).length ≤ b.cpys.length := List.length_filter_le _ _
  have e3 := s_l22First_eq b b.svcs[j] (liveL b b.svcs[j]) lv hb (by omega) hlv
  have h1 : ((x1.length : Int) == 0) = ((selL b b.svcs[j] 2).length == 0) := by rw [hx1.len]; exact len_zero _
  have h2 : ((x2.length : Int) == 0) = ((selL b b.svcs[j] 6).length == 0) := by rw [hx2.len]; exact len_zero _
  have wo : w64 (b.svcs[j].want + b.svcs[j].over) = b.svcs[j].want + b.svcs[j].over := w64_of (by omega) (by omega)
  have nb : 0 ≤ nL b b.svcs[j] ∧ nL b b.svcs[j] ≤ 200 := cnt_le b hb _
  have wd : w64 (b.svcs[j].want - nL b b.svcs[j]) = b.svcs[j].want - nL b b.svcs[j] := w64_of (by omega) (by omega)
  have ll := liveL_len b b.svcs[j]
  simp only [Book.e, Svc.e, Cpy.e, Brt.e, Act.e, Wld.e, Ev1.e, BB, nils, rows] at e0 e1 e2 e3
  simp only [s_l22Counter, s_l22Counter.d3, s_l22Some_v1_same, a0_e, Book.e, Svc.e, Cpy.e, Brt.e, Act.e, Wld.e, Ev1.e, BB, nils, rows, e0, e1, e2, hnl, h1, h2, wd, cntS]
  by_cases q1 : nL b b.svcs[j] < b.svcs[j].want
  · simp only [q1, BB, nils, rows, a0]
  · simp only [q1, BB, nils, rows]
    have fin : ∀ u : Bool, (u = true → 0 < (liveL b b.svcs[j]).length) → finR (s_l22Counter.d1 (.b u) (.i b.now) (.l (b.svcs.map Svc.e)) (.l (b.cpys.map Cpy.e)) (.l (b.brts.map Brt.e)) (.s b.svcs[j].name) (.i b.svcs[j].ver) (.b b.svcs[j].gone) (.i b.svcs[j].image) (.i b.svcs[j].want) (.i b.svcs[j].down) (.i b.svcs[j].over) (.i b.svcs[j].next) (.i b.svcs[j].per) (.i b.svcs[j].least) (.i b.svcs[j].most) (.i b.svcs[j].load) (.i b.svcs[j].cool) (.s b.svcs[j].name) (.i b.svcs[j].ver) (.i 0) (.i 0) (.i 0) (.b false) (.l []) (.b false) (.s (bs #[])) (.i 0) (.i 0) (.i 0) (.i 0) (.b false) (.b false) (.l (lv.map ixE)) (.l [])) =
        some (bif u then (match firstO b b.svcs[j] (liveL b b.svcs[j]) with | c :: _ => bif mayB b b.svcs[j] c.num then { a0 b.svcs[j] with ends := [cEn c] } else a0 b.svcs[j] | [] => a0 b.svcs[j]) else a0 b.svcs[j] : Act).e := by
      intro u hu
      cases u with
      | false => simp only [s_l22Counter.d1, BB, nils, rows]; rfl
      | true =>
        have hp := hu rfl
        generalize liveL b b.svcs[j] = fl at *
        cases fl with
        | nil => simp at hp
        | cons c r =>
          simp only [firstO, List.map_cons, List.map_nil, cEn, enE] at e3
          have e4 := s_l20MayEnd_eq b j hj (bestC (sooner b b.svcs[j]) c r).num hb hv
          have q : (0 : Int) < ((1 : Nat) : Int) := by omega
          simp only [Book.e, Svc.e, Cpy.e, Brt.e, Act.e, Wld.e, Ev1.e, BB, nils, rows] at e4
          simp only [s_l22Counter.d1, BB, nils, rows, e3, q, e4, firstO]
          cases mayB b b.svcs[j] (bestC (sooner b b.svcs[j]) c r).num <;> simp only [BB, nils, rows] <;> rfl
    by_cases q2 : nL b b.svcs[j] > b.svcs[j].want
    · have hpos : 0 < (liveL b b.svcs[j]).length := by omega
      have f := fun u => fin u (fun _ => hpos)
      simp only [q2, BB, nils, rows, Bool.true_and]
      cases (selL b b.svcs[j] 2).length == 0 <;> simp only [BB, nils, rows, Bool.true_and, Bool.false_and, Bool.false_or, s_l22Counter.d2, hnl, q2, wo]
      · exact f _
      · cases (selL b b.svcs[j] 6).length == 0 <;> simp only [BB, nils, rows, Bool.true_or, Bool.false_or]
        · exact f _
        · exact f _
    · have f := fin false (by simp)
      simp only [q2, BB, nils, rows, Bool.false_and]
      cases (selL b b.svcs[j] 2).length == 0 <;> simp only [BB, nils, rows, s_l22Counter.d2, hnl, q2]
      · exact f
      · cases (selL b b.svcs[j] 6).length == 0 <;> try simp only [BB, nils, rows, s_l22Counter.d2, hnl, q2]
        · exact f
        · exact f
theorem svcOk_cool {s : Svc} {n : Int} (h : svcOk s n = true) : 0 ≤ s.cool ∧ s.cool ≤ 3 := by
  simp only [svcOk, Bool.and_eq_true] at h
  have := h.2
  by_cases hp : s.per = 0
  · have hp' : (s.per == 0) = true := by simp [hp]
    simp only [hp', jR, Bool.and_eq_true, beq_iff_eq] at this
    omega
  · have hp' : (s.per == 0) = false := by simp [hp]
    simp only [hp', jS, Bool.and_eq_true, within, decide_eq_true_eq] at this
    exact this.2.2.2.2
theorem s_l22Scaler_eq (s : Svc) (hp : s.per ≠ 0) (hw : 0 ≤ s.want ∧ s.want ≤ 10) (hc : 0 ≤ s.cool ∧ s.cool ≤ 3) : s_l22Scaler (s.e ++ (a0 s).e) = some (scaS s).e := by
  have e0 := s_l22Desired_eq s hp
  have w1 : w64 (s.want - 1) = s.want - 1 := w64_of (by omega) (by omega)
  have w2 : w64 (s.cool + 1) = s.cool + 1 := w64_of (by omega) (by omega)
  simp only [Book.e, Svc.e, Cpy.e, Brt.e, Act.e, Wld.e, Ev1.e, BB, nils, rows] at e0
  simp only [s_l22Scaler, s_l22Scaler.d2, a0_e, Book.e, Svc.e, Cpy.e, Brt.e, Act.e, Wld.e, Ev1.e, BB, nils, rows, e0, scaS]
  by_cases q1 : s.want < s.least
  · simp only [q1, BB, nils, rows]
  simp only [q1, BB, nils, rows]
  by_cases q2 : s.want > s.most
  · simp only [q2, BB, nils, rows]
  simp only [q2, BB, nils, rows]
  by_cases q3 : desired s > s.want
  · simp only [q3, BB, nils, rows]
  simp only [q3, BB, nils, rows]
  by_cases q : desired s < s.want
  · simp only [q, BB, nils, rows, s_l22Scaler.d1, w1, w2]
    by_cases q5 : s.cool ≥ 3
    · simp only [q5, BB, nils, rows]
    · simp only [q5, BB, nils, rows]
  · simp only [q, BB, nils, rows, s_l22Scaler.d1]
    cases s.cool == 0 <;> simp only [BB, nils, rows] <;> rfl
theorem s_l22Act_eq (k : Int) (b : Book) (j : Nat) (hj : j < b.svcs.length) (hb : Bnd b) (hv : validB b = true) : s_l22Act (.i k :: (b.e ++ b.svcs[j].e)) = some (specA k b b.svcs[j]).e := by
  have hok := validB_svc hv _ (List.getElem_mem hj)
  have hw := svcOk_want hok
  have hc := hb.c
  have hfl : (liveL b b.svcs[j]).length ≤ b.cpys.length := List.length_filter_le _ _
  have hsl := fun k => sel_len b b.svcs[j] k
  obtain ⟨xk, ek, hxk⟩ := s_l22Some_eq b b.svcs[j] k hb
  have hxkl := hsl k
  have f1 := s_l22Ends_eq b _ xk hb (by have := hsl k; simp only [selL] at this; omega) hxk
  obtain ⟨lv, e3, hlv⟩ := s_l22Live_eq b b.svcs[j] hb
  have f2 := s_l22Ends_eq b _ lv hb (by simp only [liveL] at hfl; omega) hlv
  have e5 := s_l19Count_eq b j hj hb (svc_self hv hj).2
  have f3 := s_l22Counter_eq b j hj hb hv
  have hmine : ∀ c, c ∈ (liveL b b.svcs[j]).filter (sel b b.svcs[j] k) → mine b.svcs[j] c = true := fun c hc => (live_mine (List.mem_filter.1 hc).1).1
  have f4 := s_l22Replace_eq b j hj _ xk hb hv hxk (by have := hsl k; simp only [selL] at this; omega) hmine
  obtain ⟨x2, e8, hx2⟩ := s_l22Some_eq b b.svcs[j] 2 hb
  have h2 : ((x2.length : Int) == 0) = ((selL b b.svcs[j] 2).length == 0) := by rw [hx2.len]; exact len_zero _
  have c1 : cn (pLive b.svcs[j]) b.cpys b.cpys.length = nL b b.svcs[j] := cn_all _ _
  have c2 : cn (pEnd b.svcs[j]) b.cpys b.cpys.length = cnt b (pEnd b.svcs[j]) := cn_all _ _
  have n1 : 0 ≤ nL b b.svcs[j] ∧ nL b b.svcs[j] ≤ 200 := cnt_le b hb _
  have n2 := cnt_le b hb (pEnd b.svcs[j])
  have ws : w64 (nL b b.svcs[j] + cnt b (pEnd b.svcs[j])) = nL b b.svcs[j] + cnt b (pEnd b.svcs[j]) := w64_of (by omega) (by omega)
  have f5 : b.svcs[j].per ≠ 0 → s_l22Scaler (b.svcs[j].e ++ (a0 b.svcs[j]).e) = some (scaS b.svcs[j]).e := fun hp => s_l22Scaler_eq _ hp hw (svcOk_cool hok)
  simp only [a0, CountE, Book.e, Svc.e, Cpy.e, Brt.e, Act.e, Wld.e, Ev1.e, BB, nils, rows, c1, c2, List.map_nil] at ek f1 e3 f2 e5 f3 f4 e8 f5
  simp only [s_l22Act, s_l22Act.d1, s_l22Live_v1_same, s_l22Some_v1_same, Book.e, Svc.e, Cpy.e, Brt.e, Act.e, Wld.e, Ev1.e, BB, nils, rows, ek, f1, e3, f2, e5, f3, f4, e8, h2, ws, specA]
  cases k3 : k == 3 <;> simp only [BB, nils, rows]
  rotate_left
  · have : k = 3 := by simpa using k3
    subst this; rfl
  cases hg : b.svcs[j].gone <;> rw [hg] at f3 f4 f5 <;> simp only [BB, nils, rows]
  rotate_left
  · cases k == 5 <;> simp only [BB, nils, rows] <;> rfl
  cases k == 1 <;> simp only [BB, nils, rows]
  cases k2 : k == 2 <;> simp only [BB, nils, rows]
  rotate_left
  · have : k = 2 := by simpa using k2
    subst this; rfl
  cases k6 : k == 6 <;> simp only [BB, nils, rows]
  rotate_left
  · have : k = 6 := by simpa using k6
    subst this
    cases (selL b b.svcs[j] 2).length == 0 <;> simp only [BB, nils, rows] <;> rfl
  cases k == 4 <;> simp only [BB, nils, rows]
  · rfl
  · by_cases hp : b.svcs[j].per > 0
    · have f6 := f5 (by omega)
      simp only [hp, BB, nils, rows, f6]
    · simp only [hp, BB, nils, rows]; rfl
def wanted (a : Act) : Bool := decide (a.create > 0) || (a.scale || (decide ((a.ends.length : Int) > 0) || a.drop))
def asksB (k : Int) (b : Book) : List Act := bif validB b then (b.svcs.map (specA k b)).filter wanted else []
theorem s_StewAsk_eq (k : Int) (b : Book) (hb : Big b) : s_StewAsk (.i k :: b.e) = some [.l ((asksB k b).map Act.e)] := by
  have hsm : Small b := ⟨by have := hb.s; omega, by have := hb.c; omega, by have := hb.t; omega⟩
  have e1 := s_StewValid_eq b hsm hb.w.toNames
  simp only [Book.e, Svc.e, Cpy.e, Brt.e, Act.e, Wld.e, Ev1.e, BB, nils, rows] at e1
  simp only [s_StewAsk, s_StewAsk.d4, Book.e, Svc.e, Cpy.e, Brt.e, Act.e, Wld.e, Ev1.e, BB, nils, rows, e1, asksB]
  cases hv : validB b <;> simp only [BB, nils, rows]
  · rfl
  · have hbn := validB_bnd hv hb.w
    have hs8 := hbn.s
    have L : ∃ o, lim (ap7 s_StewAsk.d2) (.i k :: .i 0 :: (b.e ++ [.l []])) = some o ∧ o = .brk 0 [.l (((b.svcs.map (specA k b)).filter wanted).map Act.e)] := by
      refine lim_exs (fun i : Nat => .i k :: .i (i : Nat) :: (b.e ++ [.l ((((b.svcs.take i).map (specA k b)).filter wanted).map Act.e)])) (fun i => b.svcs.length - i) (fun i => i ≤ b.svcs.length) _ 0 (Nat.zero_le _) ?_
      intro i hi
      have w1 : w64 ((i : Int) + 1) = ((i + 1 : Nat) : Int) := w64_nat (n := i + 1) (by omega)
      by_cases hlt : i < b.svcs.length
      · left
        refine ⟨i + 1, ?_, hlt, by omega⟩
        have e2 := s_l22Act_eq k b i hlt hbn hv
        have g1 : (b.svcs.map Svc.e).getD i [] = b.svcs[i].e := getD_map_lt Svc.e hlt []
        have p1 : (i : Int) < (b.svcs.length : Int) := by omega
        have tk : ((b.svcs.take (i + 1)).map (specA k b)).filter wanted = ((b.svcs.take i).map (specA k b)).filter wanted ++ [specA k b b.svcs[i]].filter wanted := by
          rw [List.take_succ_eq_append_getElem hlt, List.map_append, List.filter_append]; rfl
        have hfl : (((b.svcs.take i).map (specA k b)).filter wanted).length + 1 ≤ 4294967296 := by
          have h1 := List.length_filter_le wanted ((b.svcs.take i).map (specA k b))
          rw [jW] at h1
          have h2 := List.length_take_le i b.svcs
          omega
        simp only [tk]
        generalize ((b.svcs.take i).map (specA k b)).filter wanted = ac at *
        generalize specA k b b.svcs[i] = a at *
        simp only [Book.e, Svc.e, Cpy.e, Brt.e, Act.e, Wld.e, Ev1.e, BB, nils, rows] at e2
        have fin : ∀ v : Bool, v = wanted a → s_StewAsk.d1 (.i k) (.i (i : Nat)) (.b v) (.i b.now) (.l (b.svcs.map Svc.e)) (.l (b.cpys.map Cpy.e)) (.l (b.brts.map Brt.e)) (.l (ac.map Act.e)) (.s a.svc) (.i a.seen) (.i a.create) (.i a.want) (.i a.cool) (.b a.scale) (.l (a.ends.map enE)) (.b a.drop) = some (.again (.i k :: .i ((i + 1 : Nat) : Int) :: (b.e ++ [.l ((ac ++ [a].filter wanted).map Act.e)]))) := by
          intro v hvv
          cases v
          · rw [List.filter_cons_of_neg (by simp [← hvv])]
            simp only [s_StewAsk.d1, BB, nils, rows, w1, List.filter_nil, List.append_nil]; rfl
          · rw [List.filter_cons_of_pos hvv.symm]
            simp only [s_StewAsk.d1, BB, nils, rows, w1, hfl, List.filter_nil, List.map_append, List.map_cons, List.map_nil]; rfl
        simp only [Book.e, Svc.e, Cpy.e, Brt.e, Act.e, Wld.e, Ev1.e, BB, nils, rows]
        simp only [s_StewAsk.d2, BB, nils, rows, g1, p1, Book.e, Svc.e, Cpy.e, Brt.e, Act.e, Wld.e, Ev1.e, e2]
        by_cases h1 : a.create > 0
        · simp only [h1, BB, nils, rows]
          exact fin true (by simp [wanted, h1])
        · simp only [h1, BB, nils, rows]
          cases h2 : a.scale <;> simp only [BB, nils, rows]
          · by_cases h3 : (a.ends.length : Int) > 0
            · simp only [h3, BB, nils, rows]
              have f := fin true (by simp only [wanted, h1, h2, h3, decide_true, decide_false, Bool.false_or, Bool.true_or])
              rw [h2] at f
              exact f
            · simp only [h3, BB, nils, rows]
              have f := fin a.drop (by simp only [wanted, h1, h2, h3, decide_false, Bool.false_or])
              rw [h2] at f
              exact f
          · have f := fin true (by simp only [wanted, h1, h2, decide_false, Bool.false_or, Bool.true_or])
            rw [h2] at f
            exact f
      · right
        have : i = b.svcs.length := by omega
        subst this
        have p1 : ¬ (b.svcs.length : Int) < (b.svcs.length : Int) := by omega
        refine ⟨_, ?_, ?_, rfl⟩
        · simp only [Book.e, Svc.e, Cpy.e, Brt.e, Act.e, Wld.e, Ev1.e, BB, nils, rows, List.take_length]
          simp only [s_StewAsk.d2, BB, nils, rows, p1]
        · trivial
    obtain ⟨o, h1, rfl⟩ := L
    simp only [Book.e, Svc.e, Cpy.e, Brt.e, Act.e, Wld.e, Ev1.e, BB, nils, rows] at h1
    rw [h1]
    simp only [BB, nils, rows, s_StewAsk.d3]
end Go.Ev
namespace Go.Ev
structure SvB (s : Svc) : Prop where
  w : 0 ≤ s.want ∧ s.want ≤ 10
  d : 0 ≤ s.down ∧ s.down ≤ 10
  o : 0 ≤ s.over ∧ s.over ≤ 10
theorem svb {s : Svc} {n : Int} (h : svcOk s n = true) : SvB s := by
  simp only [svcOk, Bool.and_eq_true, within, decide_eq_true_eq] at h
  exact ⟨h.1.1.1.1.2, h.1.1.1.2, h.1.1.2⟩
theorem i_mayEnd_eq (b : Book) (s : Svc) (c : Option Cpy) (hb : Bnd b) (hs : SvB s) : i_StewBook_mayEnd [.p b.e, .p s.e, rowP Cpy.e c] = some [.b (match c with | none => false | some c => mayC b s c)] := by
  have e1 := i_count_eq b s hb
  have cr : cn (pReady s) b.cpys b.cpys.length = readyN b s := cn_all _ _
  have hr : 0 ≤ readyN b s ∧ readyN b s ≤ 200 := cnt_le b hb (pReady s)
  have w1 : w64 (readyN b s - 1) = readyN b s - 1 := w64_of (by omega) (by omega)
  have h1 := hs.w
  have h2 := hs.d
  have w2 : w64 (s.want - s.down) = s.want - s.down := w64_of (by omega) (by omega)
  simp only [i_StewBook_mayEnd, i_StewBook_mayEnd.d1, BB, nils, rows]
  cases c with
  | none => simp only [rowP_none, C.isP_nil, BB, nils, rows]
  | some c =>
    simp only [rowP_some, C.isP_p, C.P_p, BB, nils, rows]
    simp only [CountE, Book.e, Svc.e, Cpy.e, Brt.e, Act.e, Wld.e, Ev1.e, BB, nils, rows, cr] at e1
    simp only [Book.e, Svc.e, Cpy.e, Brt.e, Act.e, Wld.e, Ev1.e, BB, nils, rows, e1, w1, w2, mayC, bne]
    cases c.ending <;> cases c.state == 3 <;> cases s.gone <;> rfl
theorem i_ask2_eq (b : Book) (s : Svc) (c : Cpy) (hb : Bnd b) (hs : SvB s) (hm : mine s c = true) : i_StewBook_ask_2 (c.e ++ [.p s.e] ++ b.e) = some (.b (mayB b s c.num) :: .p s.e :: b.e) := by
  have e1 := i_copy_eq b c.svc c.num hb
  have e2 := i_mayEnd_eq b s (cpyOf b c.svc c.num) hb hs
  rw [mine_name hm] at e1 e2
  simp only [Book.e] at e1 e2
  simp only [i_StewBook_ask_2, i_StewBook_ask_2.d1, Cpy.e, Book.e, BB, nils, rows, mine_name hm, e1, e2]
  rfl
theorem i_ask7_eq (b : Book) (s : Svc) (c : Cpy) (hb : Bnd b) (hs : SvB s) (hm : mine s c = true) : i_StewBook_ask_7 (c.e ++ [.p s.e] ++ b.e) = some (.b (c.image != s.image && mayB b s c.num) :: .p s.e :: b.e) := by
  have e1 := i_ask2_eq b s c hb hs hm
  simp only [Book.e, Cpy.e, BB, nils, rows] at e1
  simp only [i_StewBook_ask_7, i_StewBook_ask_7.d1, Cpy.e, Book.e, BB, nils, rows, e1, C.isP_p, C.P_p, show s.e.getD 3 .nil = .i s.image from rfl]
  cases c.image != s.image <;> simp only [BB, nils, rows, Bool.true_and, Bool.false_and]
theorem i_ask9_eq (b : Book) (s : Svc) (c : Cpy) (hb : Bnd b) (hs : SvB s) (hm : mine s c = true) : i_StewBook_ask_9 (c.e ++ b.e ++ [.p s.e]) = some (.b (drn b c && mayB b s c.num) :: (b.e ++ [.p s.e])) := by
  have e1 := i_ask2_eq b s c hb hs hm
  have e2 := i_drained_eq b c hb
  simp only [Book.e, Cpy.e, BB, nils, rows] at e1 e2
  simp only [i_StewBook_ask_9, i_StewBook_ask_9.d1, Cpy.e, Book.e, BB, nils, rows, e1, e2]
  cases drn b c <;> simp only [BB, nils, rows, Bool.true_and, Bool.false_and]
theorem filter_step {p : Cpy → Bool} {cs : List Cpy} {i : Nat} (h : i < cs.length) : (cs.take (i + 1)).filter p = (cs.take i).filter p ++ bif p cs[i] then [cs[i]] else [] := by
  rw [List.take_succ_eq_append_getElem h, List.filter_append]
  cases hp : p cs[i]
  · rw [List.filter_cons_of_neg (by simp [hp])]; rfl
  · rw [List.filter_cons_of_pos hp]; rfl
theorem filter_len {p : Cpy → Bool} {cs : List Cpy} (i : Nat) : ((cs.take i).filter p).length ≤ cs.length :=
  Nat.le_trans (List.length_filter_le _ _) (List.length_take_le' _ _)
theorem i_ask1_eq (b : Book) (s : Svc) (cs : List Cpy) (hb : Bnd b) (hs : SvB s) (hc : cs.length ≤ 1000) (hm : ∀ c, c ∈ cs → mine s c = true) : i_StewBook_ask_1 (.p s.e :: .l (cs.map Cpy.e) :: b.e) = some (.l ((cs.filter fun c => c.image != s.image && mayB b s c.num).map Cpy.e) :: .p s.e :: .l (cs.map Cpy.e) :: b.e) := by
  have L : ∃ o, lim (ap9 i_StewBook_ask_1.d1) (.i (cs.length : Nat) :: .i 0 :: .p s.e :: (b.e ++ [.l [], .l (cs.map Cpy.e)])) = some o ∧ o = .brk 0 (.p s.e :: (b.e ++ [.l ((cs.filter fun c => c.image != s.image && mayB b s c.num).map Cpy.e), .l (cs.map Cpy.e)])) := by
    refine lim_exs (fun i : Nat => .i (cs.length : Nat) :: .i (i : Nat) :: .p s.e :: (b.e ++ [.l (((cs.take i).filter fun c => c.image != s.image && mayB b s c.num).map Cpy.e), .l (cs.map Cpy.e)])) (fun i => cs.length - i) (fun i => i ≤ cs.length) _ 0 (Nat.zero_le _) ?_
    intro i hi
    have w1 : w64 ((i : Int) + 1) = ((i + 1 : Nat) : Int) := w64_nat (n := i + 1) (by omega)
    by_cases hlt : i < cs.length
    · left
      refine ⟨i + 1, ?_, hlt, by omega⟩
      have p1 : (i : Int) < (cs.length : Int) := by omega
      have hfl := filter_len (p := fun c : Cpy => c.image != s.image && mayB b s c.num) (cs := cs) i
      have p2 : ((cs.take i).filter fun c => c.image != s.image && mayB b s c.num).length + 1 ≤ 4294967296 := by omega
      have g1 : (cs.map Cpy.e).getD i [] = cs[i].e := getD_map_lt Cpy.e hlt []
      have e1 := i_ask7_eq b s cs[i] hb hs (hm _ (List.getElem_mem hlt))
      have st := filter_step (p := fun c : Cpy => c.image != s.image && mayB b s c.num) hlt
      simp only [Book.e, Cpy.e, BB, nils, rows] at e1
      simp only [st]
      simp only [Book.e, BB, nils, rows]
      generalize (cs.take i).filter (fun c => c.image != s.image && mayB b s c.num) = ds at *
      cases hv : (cs[i].image != s.image && mayB b s cs[i].num) <;> rw [hv] at e1
      · simp only [i_StewBook_ask_1.d1, BB, nils, rows, p1, g1, Cpy.e, e1, w1, List.append_nil]
      · simp only [i_StewBook_ask_1.d1, BB, nils, rows, p1, g1, Cpy.e, e1, w1, p2, List.map_append, List.map_cons, List.map_nil]
    · right
      have : i = cs.length := by omega
      subst this
      have p1 : ¬ (cs.length : Int) < (cs.length : Int) := by omega
      refine ⟨_, ?_, ?_, rfl⟩
      · simp only [Book.e, BB, nils, rows, List.take_length]
        simp only [i_StewBook_ask_1.d1, BB, nils, rows, p1]
      · trivial
  obtain ⟨o, h1, rfl⟩ := L
  simp only [Book.e, BB, nils, rows] at h1
  simp only [i_StewBook_ask_1, i_StewBook_ask_1.d3, Book.e, BB, nils, rows]
  rw [h1]
  simp only [BB, nils, rows, i_StewBook_ask_1.d2]
theorem i_ask1v2_eq (b : Book) (s : Svc) (cs : List Cpy) (hb : Bnd b) (hs : SvB s) (hc : cs.length ≤ 1000) (hm : ∀ c, c ∈ cs → mine s c = true) : i_StewBook_ask_1_v2 (b.e ++ [.p s.e, .l (cs.map Cpy.e)]) = some (.l ((cs.filter fun c => drn b c && mayB b s c.num).map Cpy.e) :: .l (cs.map Cpy.e) :: (b.e ++ [.p s.e])) := by
  have L : ∃ o, lim (ap9 i_StewBook_ask_1_v2.d1) (.i (cs.length : Nat) :: .i 0 :: (b.e ++ [.p s.e, .l [], .l (cs.map Cpy.e)])) = some o ∧ o = .brk 0 (b.e ++ [.p s.e, .l ((cs.filter fun c => drn b c && mayB b s c.num).map Cpy.e), .l (cs.map Cpy.e)]) := by
    refine lim_exs (fun i : Nat => .i (cs.length : Nat) :: .i (i : Nat) :: (b.e ++ [.p s.e, .l (((cs.take i).filter fun c => drn b c && mayB b s c.num).map Cpy.e), .l (cs.map Cpy.e)])) (fun i => cs.length - i) (fun i => i ≤ cs.length) _ 0 (Nat.zero_le _) ?_
    intro i hi
    have w1 : w64 ((i : Int) + 1) = ((i + 1 : Nat) : Int) := w64_nat (n := i + 1) (by omega)
    by_cases hlt : i < cs.length
    · left
      refine ⟨i + 1, ?_, hlt, by omega⟩
      have p1 : (i : Int) < (cs.length : Int) := by omega
      have hfl := filter_len (p := fun c : Cpy => drn b c && mayB b s c.num) (cs := cs) i
      have p2 : ((cs.take i).filter fun c => drn b c && mayB b s c.num).length + 1 ≤ 4294967296 := by omega
      have g1 : (cs.map Cpy.e).getD i [] = cs[i].e := getD_map_lt Cpy.e hlt []
      have e1 := i_ask9_eq b s cs[i] hb hs (hm _ (List.getElem_mem hlt))
      have st := filter_step (p := fun c : Cpy => drn b c && mayB b s c.num) hlt
      simp only [Book.e, Cpy.e, BB, nils, rows] at e1
      simp only [st]
      simp only [Book.e, BB, nils, rows]
      generalize (cs.take i).filter (fun c => drn b c && mayB b s c.num) = ds at *
      cases hv : (drn b cs[i] && mayB b s cs[i].num) <;> rw [hv] at e1
      · simp only [i_StewBook_ask_1_v2.d1, BB, nils, rows, p1, g1, Cpy.e, e1, w1, List.append_nil]
      · simp only [i_StewBook_ask_1_v2.d1, BB, nils, rows, p1, g1, Cpy.e, e1, w1, p2, List.map_append, List.map_cons, List.map_nil]
    · right
      have : i = cs.length := by omega
      subst this
      have p1 : ¬ (cs.length : Int) < (cs.length : Int) := by omega
      refine ⟨_, ?_, ?_, rfl⟩
      · simp only [Book.e, BB, nils, rows, List.take_length]
        simp only [i_StewBook_ask_1_v2.d1, BB, nils, rows, p1]
      · trivial
  obtain ⟨o, h1, rfl⟩ := L
  simp only [Book.e, BB, nils, rows] at h1
  simp only [i_StewBook_ask_1_v2, i_StewBook_ask_1_v2.d3, Book.e, BB, nils, rows]
  rw [h1]
  simp only [BB, nils, rows, i_StewBook_ask_1_v2.d2]
theorem i_ask1v1_eq (cs : List Cpy) (hc : cs.length ≤ 1000) : i_StewBook_ask_1_v1 [.l (cs.map Cpy.e)] = some [.l ((cs.filter fun c => c.state == 4).map Cpy.e), .l (cs.map Cpy.e)] := by
  have L : ∃ o, lim (ap4 i_StewBook_ask_1_v1.d1) [.i (cs.length : Nat), .i 0, .l [], .l (cs.map Cpy.e)] = some o ∧ o = .brk 0 [.l ((cs.filter fun c => c.state == 4).map Cpy.e), .l (cs.map Cpy.e)] := by
    refine lim_exs (fun i : Nat => [.i (cs.length : Nat), .i (i : Nat), .l (((cs.take i).filter fun c => c.state == 4).map Cpy.e), .l (cs.map Cpy.e)]) (fun i => cs.length - i) (fun i => i ≤ cs.length) _ 0 (Nat.zero_le _) ?_
    intro i hi
    have w1 : w64 ((i : Int) + 1) = ((i + 1 : Nat) : Int) := w64_nat (n := i + 1) (by omega)
    by_cases hlt : i < cs.length
    · left
      refine ⟨i + 1, ?_, hlt, by omega⟩
      have p1 : (i : Int) < (cs.length : Int) := by omega
      have hfl := filter_len (p := fun c : Cpy => c.state == 4) (cs := cs) i
      have p2 : ((cs.take i).filter fun c => c.state == 4).length + 1 ≤ 4294967296 := by omega
      have g1 : (cs.map Cpy.e).getD i [] = cs[i].e := getD_map_lt Cpy.e hlt []
      have e1 := i_ask8_eq cs[i]
      have st := filter_step (p := fun c : Cpy => c.state == 4) hlt
      simp only [Cpy.e] at e1
      simp only [st]
      simp only [BB, nils, rows]
      generalize (cs.take i).filter (fun c => c.state == 4) = ds at *
      cases hv : (cs[i].state == 4) <;> rw [hv] at e1
      · simp only [i_StewBook_ask_1_v1.d1, BB, nils, rows, p1, g1, Cpy.e, e1, w1, List.append_nil]
      · simp only [i_StewBook_ask_1_v1.d1, BB, nils, rows, p1, g1, Cpy.e, e1, w1, p2, List.map_append, List.map_cons, List.map_nil]
    · right
      have : i = cs.length := by omega
      subst this
      have p1 : ¬ (cs.length : Int) < (cs.length : Int) := by omega
      refine ⟨_, ?_, ?_, rfl⟩
      · simp only [BB, nils, rows, List.take_length]
        simp only [i_StewBook_ask_1_v1.d1, BB, nils, rows, p1]
      · trivial
  obtain ⟨o, h1, rfl⟩ := L
  simp only [i_StewBook_ask_1_v1, i_StewBook_ask_1_v1.d3, BB, nils, rows]
  rw [h1]
  simp only [BB, nils, rows, i_StewBook_ask_1_v1.d2]
end Go.Ev
namespace Go.Ev
def NumB (c : Cpy) : Prop := 0 ≤ c.num ∧ c.num ≤ 10000000
theorem i_first1_eq (b : Book) (s : Svc) (x y : Cpy) (hb : Bnd b) (hx : NumB x) (hy : NumB y) : ∃ n : Int, i_StewBook_first_1 (x.e ++ y.e ++ [.p [.p s.e], .p [.p b.e]]) = some [.i n] ∧ decide (n < 0) = sooner b s x y := by
  have e1 := i_drained_eq b x hb
  have e2 := i_drained_eq b y hb
  simp only [Cpy.e] at e1 e2
  have wn : w64 (y.num - x.num) = y.num - x.num := by
    have h1 := hx.1; have h2 := hx.2; have h3 := hy.1; have h4 := hy.2
    exact w64_of (by omega) (by omega)
  have key : ∀ d1 d2 d3 : Int, finR (bindBlk 0 (lim (ap17 i_StewBook_first_1.d1) (.i (([[C.i d1], [C.i d2], [C.i d3]].length : Nat) : Int) :: .i 0 :: (x.e ++ y.e ++ [.l [[C.i d1], [C.i d2], [C.i d3]]]))) (ap14 i_StewBook_first_1.d2)) = some [.i (bif d1 != 0 then d1 else bif d2 != 0 then d2 else bif d3 != 0 then d3 else y.num - x.num)] := by
    intro d1 d2 d3
    have l3 : [[C.i d1], [C.i d2], [C.i d3]].length = 3 := rfl
    have b0 : ∀ (i : Nat) (d : Int), i < 3 → [[C.i d1], [C.i d2], [C.i d3]].getD i [] = [.i d] → (ap17 i_StewBook_first_1.d1) (.i ((3 : Nat) : Int) :: .i (i : Nat) :: (x.e ++ y.e ++ [.l [[C.i d1], [C.i d2], [C.i d3]]])) = bif d != 0 then some (.ret [.i d]) else some (.again (.i ((3 : Nat) : Int) :: .i ((i + 1 : Nat) : Int) :: (x.e ++ y.e ++ [.l [[C.i d1], [C.i d2], [C.i d3]]]))) := by
      intro i d hi hd
      have p1 : (i : Int) < ((3 : Nat) : Int) := by omega
      have w1 : w64 ((i : Int) + 1) = ((i + 1 : Nat) : Int) := w64_nat (n := i + 1) (by omega)
      simp only [Cpy.e, BB, nils, rows]
      simp only [i_StewBook_first_1.d1, BB, nils, rows, p1, l3, hd, w1]
    have b3 : (ap17 i_StewBook_first_1.d1) (.i ((3 : Nat) : Int) :: .i ((3 : Nat) : Int) :: (x.e ++ y.e ++ [.l [[C.i d1], [C.i d2], [C.i d3]]])) = some (.brk 0 (x.e ++ y.e)) := by
      have p1 : ¬ ((3 : Nat) : Int) < ((3 : Nat) : Int) := by omega
      simp only [Cpy.e, BB, nils, rows]
      simp only [i_StewBook_first_1.d1, BB, nils, rows, p1]
    have s0 := b0 0 d1 (by omega) rfl
    have s1 := b0 1 d2 (by omega) rfl
    have s2 := b0 2 d3 (by omega) rfl
    rw [l3]
    have z : (0 : Int) = ((0 : Nat) : Int) := rfl
    rw [z]
    cases h1 : d1 != 0 <;> rw [h1] at s0
    · rw [lim_again s0]
      cases h2 : d2 != 0 <;> rw [h2] at s1
      · rw [lim_again s1]
        cases h3 : d3 != 0 <;> rw [h3] at s2
        · rw [lim_again s2, lim_brk b3]
          simp only [Cpy.e, BB, nils, rows, i_StewBook_first_1.d2, wn]
        · rw [lim_ret s2]; simp only [BB, nils, rows]
      · rw [lim_ret s1]; simp only [BB, nils, rows]
    · rw [lim_ret s0]; simp only [BB, nils, rows]
  have k := key (w64 (b2i (x.state == 3) - b2i (y.state == 3))) (w64 (b2i (x.image == s.image) - b2i (y.image == s.image))) (w64 (b2i (!drn b x) - b2i (!drn b y)))
  refine ⟨bif w64 (b2i (x.state == 3) - b2i (y.state == 3)) != 0 then w64 (b2i (x.state == 3) - b2i (y.state == 3)) else bif w64 (b2i (x.image == s.image) - b2i (y.image == s.image)) != 0 then w64 (b2i (x.image == s.image) - b2i (y.image == s.image)) else bif w64 (b2i (!drn b x) - b2i (!drn b y)) != 0 then w64 (b2i (!drn b x) - b2i (!drn b y)) else y.num - x.num, ?_, ?_⟩
  · simp only [Cpy.e, BB, nils, rows] at k
    simp only [i_StewBook_first_1, i_StewBook_first_1.d3, Cpy.e, BB, nils, rows, C.isP_p, C.P_p, i_one_eq, e1, e2, show s.e.getD 3 .nil = .i s.image from rfl]
    exact k
  · simp only [sooner, bne]
    have w0 : w64 (1 - 1) = 0 := rfl
    have w1 : w64 (0 - 0) = 0 := rfl
    have w2 : w64 (1 - 0) = 1 := rfl
    have w3 : w64 (0 - 1) = -1 := rfl
    have z0 : ((0 : Int) == 0) = true := rfl
    have z1 : ((1 : Int) == 0) = false := rfl
    have z2 : ((-1 : Int) == 0) = false := rfl
    have y1 : decide ((1 : Int) < 0) = false := rfl
    have y2 : decide ((-1 : Int) < 0) = true := rfl
    have t1 : (true == true) = true := rfl
    have t2 : (true == false) = false := rfl
    have t3 : (false == true) = false := rfl
    have t4 : (false == false) = true := rfl
    have hn : decide (y.num - x.num < 0) = decide (x.num > y.num) := by
      by_cases h : x.num > y.num
      · rw [decide_eq_true h, decide_eq_true (show y.num - x.num < 0 by omega)]
      · rw [decide_eq_false h, decide_eq_false (show ¬ y.num - x.num < 0 by omega)]
    cases x.state == 3 <;> cases y.state == 3 <;> simp only [b2i, BB, nils, rows, w0, w1, w2, w3, z0, z1, z2, y1, y2, t1, t2, t3, t4]
    all_goals cases x.image == s.image <;> cases y.image == s.image <;> simp only [b2i, BB, nils, rows, w0, w1, w2, w3, z0, z1, z2, y1, y2, t1, t2, t3, t4]
    all_goals cases drn b x <;> cases drn b y <;> simp only [b2i, BB, nils, rows, w0, w1, w2, w3, z0, z1, z2, y1, y2, t1, t2, t3, t4]
    all_goals exact hn
theorem i_first_eq (b : Book) (s : Svc) (c0 : Cpy) (r : List Cpy) (hb : Bnd b) (hc : r.length + 1 ≤ 1000) (hn : ∀ c, c ∈ c0 :: r → NumB c) : i_StewBook_first [.p b.e, .p s.e, .l ((c0 :: r).map Cpy.e)] = some (bestC (sooner b s) c0 r).e := by
  have L : ∃ o, lim (ap18 slices_MinFunc.d1) (.l ((c0 :: r).map Cpy.e) :: .p [.p s.e] :: .p [.p b.e] :: .i 1 :: ([.s (bs #[]), .i 0, .i 0, .i 0, .i 0, .b false, .s (bs #[])] ++ c0.e)) = some o ∧ o = .brk 0 ([.s (bs #[]), .i 0, .i 0, .i 0, .i 0, .b false, .s (bs #[])] ++ (bestC (sooner b s) c0 r).e) := by
    refine lim_exs (fun q : Cpy × Nat => .l ((c0 :: r).map Cpy.e) :: .p [.p s.e] :: .p [.p b.e] :: .i (q.2 : Nat) :: ([.s (bs #[]), .i 0, .i 0, .i 0, .i 0, .b false, .s (bs #[])] ++ q.1.e)) (fun q => r.length + 1 - q.2) (fun q => 1 ≤ q.2 ∧ q.2 ≤ r.length + 1 ∧ NumB q.1 ∧ bestC (sooner b s) q.1 (r.drop (q.2 - 1)) = bestC (sooner b s) c0 r) _ (c0, 1) ⟨Nat.le_refl _, by omega, hn _ (List.mem_cons_self ..), by simp⟩ ?_
    rintro ⟨c, i⟩ ⟨h1, hi, hcn, hbst⟩
    simp only at h1 hi hcn hbst
    have w1 : w64 ((i : Int) + 1) = ((i + 1 : Nat) : Int) := w64_nat (n := i + 1) (by omega)
    by_cases hlt : i < r.length + 1
    · left
      have hlt' : i < (c0 :: r).length := by simpa using hlt
      have p1 : (i : Int) < ((r.length + 1 : Nat) : Int) := by omega
      have hfi : (c0 :: r)[i] = r[i - 1]'(by omega) := by rw [List.getElem_cons, dif_neg (by omega)]
      have g1 : ((c0 :: r).map Cpy.e).getD i [] = (r[i - 1]'(by omega)).e := by rw [getD_map_lt Cpy.e hlt', hfi]
      have hri : NumB (r[i - 1]'(by omega)) := hn _ (List.mem_cons_of_mem _ (List.getElem_mem _))
      obtain ⟨n, e1, e2⟩ := i_first1_eq b s (r[i - 1]'(by omega)) c hb hri hcn
      have hnext : bestC (sooner b s) (bif sooner b s (r[i - 1]'(by omega)) c then (r[i - 1]'(by omega)) else c) (r.drop i) = bestC (sooner b s) c0 r := by
        rw [← hbst, List.drop_eq_getElem_cons (show i - 1 < r.length by omega), bestC]
        have : i - 1 + 1 = i := by omega
        rw [this]
      generalize (r[i - 1]'(by omega)) = ci at *
      simp only [Cpy.e, BB, nils, rows] at e1
      by_cases hneg : n < 0
      · rw [decide_eq_true hneg] at e2
        rw [← e2] at hnext
        refine ⟨(ci, i + 1), ?_, ⟨by simp only; omega, hlt, hri, hnext⟩, by simp only; omega⟩
        simp only [Cpy.e, BB, nils, rows]
        simp only [slices_MinFunc.d1, BB, nils, rows, List.length_cons, p1, g1, Cpy.e, e1, w1, hneg]
      · rw [decide_eq_false hneg] at e2
        rw [← e2] at hnext
        refine ⟨(c, i + 1), ?_, ⟨by simp only; omega, hlt, hcn, hnext⟩, by simp only; omega⟩
        simp only [Cpy.e, BB, nils, rows]
        simp only [slices_MinFunc.d1, BB, nils, rows, List.length_cons, p1, g1, Cpy.e, e1, w1, hneg]
    · right
      have hil : i = r.length + 1 := by omega
      subst hil
      simp only [Nat.add_sub_cancel, List.drop_length, bestC] at hbst
      have p1 : ¬ ((r.length + 1 : Nat) : Int) < ((r.length + 1 : Nat) : Int) := by omega
      refine ⟨_, ?_, ?_, by rw [← hbst]⟩
      · simp only [Cpy.e, BB, nils, rows]
        simp only [slices_MinFunc.d1, BB, nils, rows, List.length_cons, p1]
      · trivial
  obtain ⟨o, h1, rfl⟩ := L
  have p1 : ¬ (((r.length + 1 : Nat) : Int) < 1) := by omega
  have p2 : (0 : Int) < ((r.length + 1 : Nat) : Int) := by omega
  have g1 : ((c0 :: r).map Cpy.e).getD 0 [] = c0.e := rfl
  have hmf : slices_MinFunc [.l ((c0 :: r).map Cpy.e), .p [.p s.e], .p [.p b.e]] = some (bestC (sooner b s) c0 r).e := by
    simp only [Cpy.e, BB, nils, rows] at h1
    simp only [slices_MinFunc, slices_MinFunc.d3, BB, nils, rows, List.length_cons, p1, p2, g1, Cpy.e]
    rw [h1]
    simp only [BB, nils, rows, slices_MinFunc.d2]
  simp only [i_StewBook_first, i_StewBook_first.d1, BB, nils, rows, hmf, Cpy.e]
theorem i_ask5_eq (b : Book) (s : Svc) (a : Act) (cs : List Cpy) (hb : Bnd b) (hc : cs.length ≤ 1000) (hn : ∀ c, c ∈ cs → NumB c) : i_StewBook_ask_5 (.l (cs.map Cpy.e) :: (A7 a ++ [.p s.e, .l []] ++ b.e)) = some (A7 a ++ [.b (!(cs.length == 0))] ++ A7 a ++ [.p s.e] ++ b.e ++ [.l (((firstO b s cs).map cEn).map enE)]) := by
  simp only [i_StewBook_ask_5, i_StewBook_ask_5.d1, A7, Book.e, BB, nils, rows, len_zero]
  cases cs with
  | nil => rfl
  | cons c0 r =>
    have e1 := i_first_eq b s c0 r hb (by simpa using hc) hn
    have e2 := i_ask3v_eq a [bestC (sooner b s) c0 r] (by simp)
    have z : ((r.length + 1 : Nat) == 0) = false := rfl
    have q : ((1 : Nat) : Int) > 0 := by omega
    simp only [Book.e, Cpy.e, A7, BB, nils, rows, List.map_cons, List.map_nil, q] at e1 e2
    simp only [BB, nils, rows, List.length_cons, z, List.map_cons, Cpy.e, e1, e2, firstO, List.map_nil]
end Go.Ev
namespace Go.Ev
theorem svcOk_per {s : Svc} {n : Int} (h : svcOk s n = true) : 0 ≤ s.per := by
  by_cases hp : s.per = 0
  · omega
  · have e1 : (s.per == 0) = false := by simp [hp]
    simp only [svcOk, e1, jS, Bool.and_eq_true, within, decide_eq_true_eq] at h
    exact h.2.1.1
theorem sel2_eq (b : Book) (s : Svc) : selL b s 2 = (liveL b s).filter fun c => c.image != s.image := by
  rw [selL]; congr 1; funext c
  have h1 : ((2 : Int) == 2) = true := rfl
  have h2 : ((2 : Int) == 6) = false := rfl
  have h3 : ((2 : Int) == 3) = false := rfl
  simp only [sel, h1, h2, h3, Bool.true_and, Bool.false_and, Bool.or_false]
theorem sel6_eq (b : Book) (s : Svc) : selL b s 6 = (liveL b s).filter fun c => drn b c := by
  rw [selL]; congr 1; funext c
  have h1 : ((6 : Int) == 2) = false := rfl
  have h2 : ((6 : Int) == 6) = true := rfl
  have h3 : ((6 : Int) == 3) = false := rfl
  simp only [sel, h1, h2, h3, Bool.true_and, Bool.false_and, Bool.or_false, Bool.false_or]
theorem sel3_eq (b : Book) (s : Svc) : selL b s 3 = (liveL b s).filter fun c => c.state == 4 := by
  rw [selL]; congr 1
theorem live_cnt (b : Book) (s : Svc) (p : Cpy → Bool) : (((liveL b s).filter p).length : Int) = cnt b (fun c => pLive s c && p c) := by
  have e : (fun c => p c && pLive s c) = fun c => pLive s c && p c := funext fun c => Bool.and_comm _ _
  rw [cnt, List.countP_eq_length_filter, liveL, List.filter_filter, e]
theorem old_cnt (b : Book) (s : Svc) : ((selL b s 2).length : Int) = cnt b (pOld s) := by
  rw [sel2_eq, live_cnt]; congr 1; try (funext c; simp only [pLive, pOld, Bool.and_assoc])
theorem on_cnt (b : Book) (s : Svc) : ((selL b s 6).length : Int) = cnt b (pOn b s) := by
  rw [sel6_eq, live_cnt]; rfl
def AskE (b : Book) (k : Int) (s : Svc) (o : Option (List C)) : Prop := ∃ (a : Act) (ok : Bool), o = some (A7 a ++ [.b ok] ++ b.e ++ [.l (a.ends.map enE)]) ∧ ok = wanted (specA k b s) ∧ (ok = true → a = specA k b s)
theorem bestC_mem (lt : Cpy → Cpy → Bool) : ∀ (l : List Cpy) (m : Cpy), bestC lt m l ∈ m :: l
  | [], m => List.mem_cons_self ..
  | c :: r, m => by
    have h := bestC_mem lt r (bif lt c m then c else m)
    rw [bestC]
    rcases List.mem_cons.1 h with h | h
    · rw [h]
      cases lt c m
      · exact List.mem_cons_self ..
      · exact List.mem_cons_of_mem _ (List.mem_cons_self ..)
    · exact List.mem_cons_of_mem _ (List.mem_cons_of_mem _ h)
theorem wanted_a0 (s : Svc) : wanted (a0 s) = false := rfl
theorem i_ask_eq (k : Int) (b : Book) (j : Nat) (hj : j < b.svcs.length) (hb : Bnd b) (hv : validB b = true) (hk : 1 ≤ k ∧ k ≤ 6) : AskE b k b.svcs[j] (i_StewBook_ask (.i k :: .p b.svcs[j].e :: b.e)) := by
  have hok := validB_svc hv _ (List.getElem_mem hj)
  generalize hs : b.svcs[j] = s at *
  have hsb := svb hok
  have hw := hsb.w
  have ho := hsb.o
  have hcl := svcOk_cool hok
  have hc := hb.c
  have hll : (liveL b s).length ≤ b.cpys.length := List.length_filter_le _ _
  have hmn : ∀ c, c ∈ liveL b s → mine s c = true := fun c hc => (live_mine hc).1
  have hnum : ∀ c, c ∈ liveL b s → NumB c := by
    intro c hc
    have hcm := (live_mine hc).2.2
    have hcv : cpyOk b c = true := by
      simp only [validB, Bool.and_eq_true] at hv
      exact chainOk_mem hv.2 c hcm
    simp only [cpyOk] at hcv
    cases hsv : svcOf b c.svc with
    | none => rw [hsv] at hcv; simp at hcv
    | some t =>
      rw [hsv] at hcv
      simp only [Bool.and_eq_true] at hcv
      have ht := validB_svc hv t (List.mem_of_find?_eq_some hsv)
      have hnx : 1 ≤ t.next ∧ t.next ≤ 1000000 := by
        simp only [svcOk, Bool.and_eq_true, within, decide_eq_true_eq] at ht
        exact ht.1.1.1.1.1.2
      have hc1 := hcv.1.1.1.1
      simp only [within, Bool.and_eq_true, decide_eq_true_eq] at hc1
      rw [w64_of (by omega) (by omega)] at hc1
      exact ⟨by omega, by omega⟩
  obtain ⟨o, e1, rfl⟩ := ask_loop k b s hb
  have e2 := i_count_eq b s hb
  have c0 : cn (pLive s) b.cpys b.cpys.length = nL b s := cn_all _ _
  have c1 : cn (pOld s) b.cpys b.cpys.length = ((selL b s 2).length : Int) := (cn_all _ _).trans (old_cnt b s).symm
  have c2 : cn (pEnd s) b.cpys b.cpys.length = cnt b (pEnd s) := cn_all _ _
  have c3 : cnt b (pOn b s) = ((selL b s 6).length : Int) := (on_cnt b s).symm
  have nb : 0 ≤ nL b s ∧ nL b s ≤ 200 := cnt_le b hb _
  have ne := cnt_le b hb (pEnd s)
  have lln : ((liveL b s).length : Int) = nL b s := liveL_len b s
  have wo : w64 (s.want + s.over) = s.want + s.over := w64_of (by omega) (by omega)
  have wd : w64 (s.want - nL b s) = s.want - nL b s := w64_of (by omega) (by omega)
  have wc : w64 (s.cool + 1) = s.cool + 1 := w64_of (by omega) (by omega)
  have w1 : w64 (s.want - 1) = s.want - 1 := w64_of (by omega) (by omega)
  have f1 := i_ask1_eq b s (liveL b s) hb hsb (by omega) hmn
  have f2 := i_ask1v2_eq b s (liveL b s) hb hsb (by omega) hmn
  have f3 := i_ask1v1_eq (liveL b s) (by omega)
  have m1 : ((liveL b s).filter fun c => c.image != s.image && mayB b s c.num) = mayL b s (selL b s 2) := by
    rw [sel2_eq, mayL, List.filter_filter]; congr 1; funext c; exact Bool.and_comm _ _
  have m2 : ((liveL b s).filter fun c => drn b c && mayB b s c.num) = mayL b s (selL b s 6) := by
    rw [sel6_eq, mayL, List.filter_filter]; congr 1; funext c; exact Bool.and_comm _ _
  have m3 : ((liveL b s).filter fun c => c.state == 4) = selL b s 3 := (sel3_eq b s).symm
  rw [m1] at f1
  rw [m2] at f2
  rw [m3] at f3
  have hle : ∀ k, (mayL b s (selL b s k)).length ≤ 200 := fun k => Nat.le_trans (List.length_filter_le _ _) (Nat.le_trans (sel_len b s k) hc)
  have hin : ∀ k c, c ∈ mayL b s (selL b s k) → NumB c := fun k c h => hnum c (List.mem_filter.1 (List.mem_filter.1 h).1).1
  have f4 := i_ask5_eq b s (a0 s) _ hb (by have := hle 2; omega) (hin 2)
  have f5 := i_ask5_eq b s (a0 s) _ hb (by have := hle 6; omega) (hin 6)
  have f6 := i_ask3_eq (a0 s) (selL b s 3) (by have := sel_len b s 3; omega)
  have f7 := i_ask3_eq (a0 s) (liveL b s) (by omega)
  change lim _ _ = some (.brk 0 (askS k b s (cnt b (pOn b s)) (liveL b s) [])) at e1
  simp only [askS, L7, CountE, Book.e, A7, a0, List.map_nil, BB, nils, rows, c0, c1, c2, c3] at e1 e2 f1 f2 f3 f4 f5 f6 f7
  simp only [i_StewBook_ask, i_StewBook_ask.d7, Book.e, BB, nils, rows, C.isP_p, C.P_p, e2, show s.e.getD 0 .nil = .s s.name from rfl, show s.e.getD 1 .nil = .i s.ver from rfl]
  rw [e1]
  have leafF : wanted (specA k b s) = false → ∀ (x3 x4 x5 : Int) (x6 x7 : Bool), AskE b k s (some [.s s.name, .i s.ver, .i x3, .i x4, .i x5, .b x6, .b x7, .b false, .i b.now, .l (b.svcs.map Svc.e), .l (b.cpys.map Cpy.e), .l (b.brts.map Brt.e), .l []]) :=
    fun h x3 x4 x5 x6 x7 => ⟨⟨s.name, s.ver, x3, x4, x5, x6, [], x7⟩, false, rfl, h.symm, fun h => by simp at h⟩
  have leaf : ∀ (a : Act) (ok : Bool), a = specA k b s → ok = wanted a → AskE b k s (some [.s a.svc, .i a.seen, .i a.create, .i a.want, .i a.cool, .b a.scale, .b a.drop, .b ok, .i b.now, .l (b.svcs.map Svc.e), .l (b.cpys.map Cpy.e), .l (b.brts.map Brt.e), .l (a.ends.map enE)]) :=
    fun a ok h1 h2 => ⟨a, ok, rfl, by rw [h2, h1], fun _ => h1⟩
  simp only [BB, nils, rows, i_StewBook_ask.d6, C.isP_p, C.P_p, show s.e.getD 2 .nil = .b s.gone from rfl, f7]
  have d5 : AskE b k s (finR ((ap29 i_StewBook_ask.d5) (askS k b s ((selL b s 6).length : Nat) (liveL b s) []))) ∨ (s.gone = true ∧ k ≠ 3) := by
    by_cases hgo : s.gone = true ∧ k ≠ 3
    · exact .inr hgo
    left
    simp only [askS, L7, CountE, Book.e, BB, nils, rows, c0, c1, c2]
    have hkk : k = 1 ∨ k = 2 ∨ k = 3 ∨ k = 4 ∨ k = 5 ∨ k = 6 := by omega
    rcases hkk with rfl | rfl | rfl | rfl | rfl | rfl
    all_goals simp only [i_StewBook_ask.d5, BB, nils, rows, C.isP_p, C.P_p, Int.reduceBEq, Int.reduceBNe, len_zero, show s.e.getD 4 .nil = .i s.want from rfl, show s.e.getD 6 .nil = .i s.over from rfl, show s.e.getD 8 .nil = .i s.per from rfl, show s.e.getD 9 .nil = .i s.least from rfl, show s.e.getD 10 .nil = .i s.most from rfl, show s.e.getD 12 .nil = .i s.cool from rfl, wo, wd, w1, i_StewBook_ask_4, i_StewBook_ask_4.d1, i_StewBook_ask_6, i_StewBook_ask_6.d1, f1, f2, f3, f4, f5, f6]
    ·
      have hg : s.gone = false := by cases hg : s.gone with | false => rfl | true => exact absurd ⟨hg, by decide⟩ hgo
      have hsp : specA 1 b s = cntS b s := by simp only [specA, hg, BB, nils, rows, Int.reduceBEq]
      by_cases q1 : nL b s < s.want
      · simp only [q1, BB, nils, rows]
        exact leaf { a0 s with create := s.want - nL b s } true (by rw [hsp, cntS, decide_eq_true q1]; rfl) (by simp only [wanted, a0, show (s.want - nL b s > 0) from by omega, decide_true, Bool.true_or])
      simp only [q1, BB, nils, rows]
      have hd3 : ∀ t : Bool, (decide (nL b s > s.want) && (((selL b s 2).length == 0 && (selL b s 6).length == 0) || decide (nL b s > s.want + s.over))) = t → AskE b 1 s (finR (i_StewBook_ask.d3 (.b t) (.i b.now) (.l (b.svcs.map Svc.e)) (.l (b.cpys.map Cpy.e)) (.l (b.brts.map Brt.e)) (.p s.e) (.s (bs #[])) (.i 0) (.i 0) (.i 0) (.i 0) (.b false) (.b false) (.s s.name) (.i s.ver) (.i 0) (.i 0) (.i 0) (.b false) (.b false) (.l []) (.l []) (.l ((liveL b s).map Cpy.e)))) := by
        intro t ht
        cases t with
        | false =>
          simp only [i_StewBook_ask.d3, BB, nils, rows]
          exact leafF (by rw [hsp, cntS, decide_eq_false q1, ht]; rfl) _ _ _ _ _
        | true =>
          have hpos : 0 < (liveL b s).length := by
            have := of_decide_eq_true (Bool.and_eq_true_iff.1 ht).1
            omega
          have hspc : specA 1 b s = (match firstO b s (liveL b s) with | c :: _ => bif mayB b s c.num then { a0 s with ends := [cEn c] } else a0 s | [] => a0 s) := by rw [hsp, cntS, decide_eq_false q1, ht]; rfl
          clear leafF
          generalize liveL b s = lv at hpos hspc hll hmn hnum ⊢
          match lv, hpos with
          | c :: r, _ =>
            have hmm := bestC_mem (sooner b s) r c
            have g1 := i_first_eq b s c r hb (by simp only [List.length_cons] at hll; omega) hnum
            have g2 := i_ask2_eq b s _ hb hsb (hmn _ hmm)
            have g3 := i_ask3v_eq (a0 s) [bestC (sooner b s) c r] (by simp)
            have q : ((1 : Nat) : Int) > 0 := by omega
            simp only [Book.e, Cpy.e, A7, a0, BB, nils, rows, List.map_cons, List.map_nil, q] at g1 g2 g3
            simp only [firstO] at hspc
            simp only [i_StewBook_ask.d3, BB, nils, rows, List.map_cons, Cpy.e, g1, g2]
            cases hmb : mayB b s (bestC (sooner b s) c r).num <;> simp only [BB, nils, rows]
            · rw [hmb] at hspc
              exact leaf (a0 s) false hspc.symm rfl
            · rw [hmb] at hspc
              simp only [g3, BB, nils, rows]
              exact leaf { a0 s with ends := [cEn (bestC (sooner b s) c r)] } true hspc.symm rfl
      by_cases q2 : nL b s > s.want
      · simp only [q2, BB, nils, rows]
        cases hx : (selL b s 2).length == 0 <;> simp only [BB, nils, rows]
        · exact hd3 _ (by rw [decide_eq_true q2, hx]; simp only [Bool.false_and, Bool.false_or, Bool.true_and])
        · cases hy : (selL b s 6).length == 0 <;> simp only [BB, nils, rows]
          · exact hd3 _ (by rw [decide_eq_true q2, hx, hy]; simp only [Bool.and_false, Bool.false_or, Bool.true_and])
          · exact hd3 _ (by rw [decide_eq_true q2, hx, hy]; rfl)
      · simp only [q2, BB, nils, rows]
        exact hd3 _ (by rw [decide_eq_false q2]; rfl)
    · have hg : s.gone = false := by cases hg : s.gone with | false => rfl | true => exact absurd ⟨hg, by decide⟩ hgo
      have hsp : specA 2 b s = replS b s (selL b s 2) := by simp only [specA, hg, BB, nils, rows, Int.reduceBEq]
      cases h0 : (selL b s 2).length == 0 <;> simp only [BB, nils, rows]
      rotate_left
      · exact leafF (by rw [hsp, replS, h0]; rfl) _ _ _ _ _
      by_cases q1 : nL b s < s.want
      · simp only [q1, BB, nils, rows]
        exact leafF (by rw [hsp, replS, h0, decide_eq_true q1]; rfl) _ _ _ _ _
      simp only [q1, BB, nils, rows]
      by_cases q2 : nL b s < s.want + s.over
      · simp only [q2, BB, nils, rows]
        exact leaf { a0 s with create := 1 } true (by rw [hsp, replS, h0, decide_eq_false q1, decide_eq_true q2]; rfl) rfl
      simp only [q2, BB, nils, rows]
      have hsp2 : specA 2 b s = { a0 s with ends := (firstO b s (mayL b s (selL b s 2))).map cEn } := by rw [hsp, replS, h0, decide_eq_false q1, decide_eq_false q2]; rfl
      exact leaf { a0 s with ends := (firstO b s (mayL b s (selL b s 2))).map cEn } _ hsp2.symm (by
        cases mayL b s (selL b s 2) with
        | nil => rfl
        | cons c r => rfl)
    · have hsp : specA 3 b s = { a0 s with ends := (selL b s 3).map cEn } := by simp only [specA, BB, nils, rows, Int.reduceBEq]
      exact leaf { a0 s with ends := (selL b s 3).map cEn } _ hsp.symm (by simp only [wanted, a0, jW, Bool.false_or, Bool.or_false]; rfl)
    · have hg : s.gone = false := by cases hg : s.gone with | false => rfl | true => exact absurd ⟨hg, by decide⟩ hgo
      have hsp : specA 4 b s = (bif decide (s.per > 0) then scaS s else a0 s) := by simp only [specA, hg, BB, nils, rows, Int.reduceBEq]
      have hper : 0 ≤ s.per := svcOk_per hok
      cases hp : s.per == 0 <;> simp only [BB, nils, rows]
      rotate_left
      · have : s.per = 0 := by simpa using hp
        exact leafF (by rw [hsp, decide_eq_false (by omega)]; rfl) _ _ _ _ _
      have hp0 : s.per ≠ 0 := by simpa using hp
      have hsp' : specA 4 b s = scaS s := by rw [hsp, decide_eq_true (by omega)]; rfl
      clear hsp
      have g := i_demand_eq s hp0
      simp only [g, BB, nils, rows]
      by_cases q1 : s.want < s.least
      · simp only [q1, BB, nils, rows]
        exact leaf { a0 s with scale := true, want := s.least } true (by rw [hsp', scaS, decide_eq_true q1]; rfl) rfl
      simp only [q1, BB, nils, rows]
      by_cases q2 : s.want > s.most
      · simp only [q2, BB, nils, rows]
        exact leaf { a0 s with scale := true, want := s.most } true (by rw [hsp', scaS, decide_eq_false q1, decide_eq_true q2]; rfl) rfl
      simp only [q2, BB, nils, rows]
      by_cases q3 : desired s > s.want
      · simp only [q3, BB, nils, rows]
        exact leaf { a0 s with scale := true, want := desired s } true (by rw [hsp', scaS, decide_eq_false q1, decide_eq_false q2, decide_eq_true q3]; rfl) rfl
      simp only [q3, BB, nils, rows]
      by_cases q4 : desired s < s.want
      · simp only [q4, BB, nils, rows]
        simp only [i_StewBook_ask.d4, BB, nils, rows, C.isP_p, C.P_p, show s.e.getD 4 .nil = .i s.want from rfl, show s.e.getD 12 .nil = .i s.cool from rfl, q4, i_StewBook_ask_6, i_StewBook_ask_6.d1, w1, wc]
        by_cases q5 : s.cool ≥ 3
        · have q5' : (s.cool == 3) = true := by simp; omega
          simp only [q5', BB, nils, rows]
          exact leaf { a0 s with scale := true, want := s.want - 1 } true (by rw [hsp', scaS, decide_eq_false q1, decide_eq_false q2, decide_eq_false q3, decide_eq_true q4, decide_eq_true q5]; rfl) rfl
        · have q5' : (s.cool == 3) = false := by simp; omega
          simp only [q5', BB, nils, rows]
          exact leaf { a0 s with scale := true, want := s.want, cool := s.cool + 1 } true (by rw [hsp', scaS, decide_eq_false q1, decide_eq_false q2, decide_eq_false q3, decide_eq_true q4, decide_eq_false q5]; rfl) rfl
      · simp only [q4, BB, nils, rows]
        simp only [i_StewBook_ask.d4, BB, nils, rows, C.isP_p, C.P_p, show s.e.getD 4 .nil = .i s.want from rfl, show s.e.getD 12 .nil = .i s.cool from rfl, q4, i_StewBook_ask_6, i_StewBook_ask_6.d1, w1, wc]
        cases q6 : s.cool == 0 <;> simp only [q6, bne, BB, nils, rows]
        · exact leaf { a0 s with scale := true, want := s.want } true (by rw [hsp', scaS, decide_eq_false q1, decide_eq_false q2, decide_eq_false q3, decide_eq_false q4, q6]; rfl) rfl
        · exact leafF (by rw [hsp', scaS, decide_eq_false q1, decide_eq_false q2, decide_eq_false q3, decide_eq_false q4, q6]; rfl) _ _ _ _ _
    · have hg : s.gone = false := by cases hg : s.gone with | false => rfl | true => exact absurd ⟨hg, by decide⟩ hgo
      exact leafF (by simp only [specA, hg, BB, nils, rows, Int.reduceBEq]; rfl) _ _ _ _ _
    · have hg : s.gone = false := by cases hg : s.gone with | false => rfl | true => exact absurd ⟨hg, by decide⟩ hgo
      have hsp : specA 6 b s = (bif (selL b s 2).length == 0 then replS b s (selL b s 6) else a0 s) := by simp only [specA, hg, BB, nils, rows, Int.reduceBEq]
      by_cases qq : ((selL b s 2).length : Int) > 0
      · have h2 : ((selL b s 2).length == 0) = false := by rw [beq_eq_false_iff_ne]; omega
        simp only [qq, BB, nils, rows]
        exact leafF (by rw [hsp, h2]; rfl) _ _ _ _ _
      have h2 : ((selL b s 2).length == 0) = true := by rw [beq_iff_eq]; omega
      have hsp' : specA 6 b s = replS b s (selL b s 6) := by rw [hsp, h2]; rfl
      simp only [qq, BB, nils, rows]
      cases h0 : (selL b s 6).length == 0 <;> simp only [BB, nils, rows]
      rotate_left
      · exact leafF (by rw [hsp', replS, h0]; rfl) _ _ _ _ _
      by_cases q1 : nL b s < s.want
      · simp only [q1, BB, nils, rows]
        exact leafF (by rw [hsp', replS, h0, decide_eq_true q1]; rfl) _ _ _ _ _
      simp only [q1, BB, nils, rows]
      by_cases q2 : nL b s < s.want + s.over
      · simp only [q2, BB, nils, rows]
        exact leaf { a0 s with create := 1 } true (by rw [hsp', replS, h0, decide_eq_false q1, decide_eq_true q2]; rfl) rfl
      simp only [q2, BB, nils, rows]
      have hsp2 : specA 6 b s = { a0 s with ends := (firstO b s (mayL b s (selL b s 6))).map cEn } := by rw [hsp', replS, h0, decide_eq_false q1, decide_eq_false q2]; rfl
      exact leaf { a0 s with ends := (firstO b s (mayL b s (selL b s 6))).map cEn } _ hsp2.symm (by
        cases mayL b s (selL b s 6) with
        | nil => rfl
        | cons c r => rfl)
  simp only [askS, L7, CountE, Book.e, BB, nils, rows, c0, c1, c2] at d5
  cases hg : s.gone <;> simp only [BB, nils, rows]
  · exact d5.resolve_right (by simp [hg])
  · cases hk3 : k == 3 <;> simp only [BB, nils, rows]
    rotate_left
    · exact d5.resolve_right (by simp only [beq_iff_eq] at hk3; simp [hk3])
    cases hk5 : k != 5 <;> simp only [BB, nils, rows]
    · have hk5' : k = 5 := by simpa using hk5
      subst hk5'
      have hsp : specA 5 b s = { a0 s with ends := (liveL b s).map cEn, drop := nL b s + cnt b (pEnd s) == 0 } := by simp only [specA, hg, BB, nils, rows, Int.reduceBEq]
      by_cases q1 : ((liveL b s).length : Int) > 0
      · have hd : (nL b s + cnt b (pEnd s) == 0) = false := by simp; omega
        simp only [q1, BB, nils, rows]
        exact leaf { a0 s with ends := (liveL b s).map cEn } true (by rw [hsp, hd]; rfl) (by simp only [wanted, a0, jW, q1, decide_true]; rfl)
      · have hl0 : liveL b s = [] := List.length_eq_zero_iff.1 (by omega)
        have hn0 : nL b s = 0 := by omega
        simp only [q1, BB, nils, rows]
        refine ⟨{ a0 s with drop := true }, cnt b (pEnd s) == 0, rfl, ?_, fun h => ?_⟩
        · rw [hsp, hl0, hn0, Int.zero_add]; rfl
        · rw [hsp, hl0, hn0, Int.zero_add, h]; rfl
    · have hk5' : (k == 5) = false := by simpa [bne] using hk5
      exact leafF (by simp only [specA, hk3, hg, hk5', BB, nils, rows]; rfl) _ _ _ _ _
end Go.Ev
namespace Go.Ev
theorem s_l18Open_ex (z : List Int) (hz : ∀ n, n ∈ z → 0 ≤ n ∧ n ≤ 255) : ∃ r : Rd, s_l18Open [.l (z.map inE)] = some r.e ∧ ROk 0 r := by
  simp only [s_l18Open, s_l18Open.d1, BB, nils, rows]
  by_cases h : (z.length : Int) > 2000
  · have h' : (2000 : Int) ≤ (z.length : Int) := by omega
    simp only [h, h', BB, nils, rows]
    refine ⟨⟨z.take 2000, 0⟩, by simp only [Rd.e, List.map_take, List.drop_zero]; rfl, ⟨by simp; omega, fun n hn => hz n (List.mem_of_mem_take hn), Nat.le_refl _⟩⟩
  · simp only [h, BB, nils, rows]
    exact ⟨⟨z, 0⟩, rfl, ⟨by simp only; omega, hz, Nat.le_refl _⟩⟩
theorem s_l18Any_ex (r : Rd) {m : Nat} (hr : ROk m r) (hm : m ≤ 999) : Sp (m + 9000) (s_l18Any r.e) := by
  obtain ⟨w, r1, e0, hw, h1⟩ := s_l25Reached_ex r hr hm
  have hb := hw.b
  generalize w.book = b at e0 hb
  have e1 : s_l18Draw r.e = some (bR b r1) := by
    simp only [Rd.e, BB, nils, rows] at e0
    simp only [s_l18Draw, s_l18Draw.d1, Rd.e, BB, nils, rows, e0]
    rfl
  obtain ⟨x, r2, e2, a2, b2, h2⟩ := pick_ex r1 24 h1 (by omega) (by omega)
  simp only [Rd.e, bR, BB, nils, rows] at e1
  simp only [s_l18Any, s_l18Any.d4, Rd.e, BB, nils, rows, e1, e2]
  have fin : ∀ (n : Nat) (c : Book) (q : Rd), Big c → ROk n q → n ≤ m + 9000 → Sp (m + 9000) (some (bR c q)) := fun n c q hc hq hn => ⟨c, q, rfl, hc, hq.le hn⟩
  by_cases q0 : x = 0
  · subst q0
    obtain ⟨c, r3, e3, hc, h3⟩ := s_l18Spoil_ex r2 b h2 (by omega) hb
    simp only [Rd.e, Book.e, bR, BB, nils, rows] at e3
    simp only [BB, nils, rows, Int.reduceBEq, e3]
    exact fin _ c r3 hc h3 (by omega)
  have q0' : (x == 0) = false := by simpa using q0
  simp only [q0', BB, nils, rows]
  by_cases q1 : x = 1
  · subst q1
    obtain ⟨y, r3, e3, a3, b3, h3⟩ := pick_ex r2 2 h2 (by omega) (by omega)
    simp only [BB, nils, rows, Int.reduceBEq, e3]
    exact fin _ { b with now := w64 (1000000 - y) } r3 (Big.now hb _) h3 (by omega)
  have q1' : (x == 1) = false := by simpa using q1
  simp only [q1', BB, nils, rows]
  by_cases q2 : x = 2
  · subst q2
    simp only [BB, nils, rows, Int.reduceBEq]
    by_cases z1 : (b.svcs.length : Int) > 0
    rotate_left
    · simp only [s_l18Any.d3, z1, BB, nils, rows]
      exact fin _ b r2 hb.big h2 (by omega)
    by_cases z2 : (b.brts.length : Int) > 0
    rotate_left
    · simp only [s_l18Any.d3, z1, z2, BB, nils, rows]
      exact fin _ b r2 hb.big h2 (by omega)
    simp only [z1, z2, BB, nils, rows]
    obtain ⟨y, r3, e3, a3, b3, h3⟩ := pick_ex r2 4 h2 (by omega) (by omega)
    simp only [s_l18Any.d3, e3, BB, nils, rows]
    have hs := hb.s
    have hc := hb.c
    have ht := hb.t
    have w1 : w64 ((b.svcs.length : Int) - 1) = ((b.svcs.length - 1 : Nat) : Int) := by rw [w64_of (by omega) (by omega)]; omega
    have w2 : w64 (200 - y) = 200 - y := w64_of (by omega) (by omega)
    have L : ∃ o, lim (ap12 s_l18Any.d1) [.i ((b.svcs.length - 1 : Nat) : Int), .i (200 - y), .l (r3.b.map inE), .i (r3.p : Nat), .i 0, .i b.now, .l [], .l [], .l [], .l (b.svcs.map Svc.e), .l (b.cpys.map Cpy.e), .l (b.brts.map Brt.e)] = some o ∧
        ∃ (c : Book) (q : Rd), o = .brk 1 [.l (q.b.map inE), .i (q.p : Nat), .i 0, .i c.now, .l [], .l [], .l [], .l (c.svcs.map Svc.e), .l (c.cpys.map Cpy.e), .l (c.brts.map Brt.e)] ∧ Big c ∧ ROk (m + 8000) q := by
      refine lim_exs (fun a : Book × Rd => [.i ((b.svcs.length - 1 : Nat) : Int), .i (200 - y), .l (a.2.b.map inE), .i (a.2.p : Nat), .i 0, .i a.1.now, .l [], .l [], .l [], .l (a.1.svcs.map Svc.e), .l (a.1.cpys.map Cpy.e), .l (a.1.brts.map Brt.e)]) (fun a => 200 - a.1.cpys.length)
        (fun a => Bnd a.1 ∧ a.1.svcs.length = b.svcs.length ∧ a.1.brts.length = b.brts.length ∧ ROk (m + 5000 + a.1.cpys.length) a.2) _ (b, r3) ⟨hb, rfl, rfl, h3.le (by omega)⟩ ?_
      rintro ⟨c, q⟩ ⟨hcb, hcs, hct, hq⟩
      simp only at hcb hcs hct hq ⊢
      have hcc := hcb.c
      by_cases k1 : (c.cpys.length : Int) < 200 - y
      · left
        obtain ⟨z, q', e4, a4, b4, h4⟩ := pick_ex q 2 hq (by omega) (by omega)
        have j1 : b.svcs.length - 1 < c.svcs.length := by omega
        have j2 : 0 < c.brts.length := by omega
        generalize hj : b.svcs.length - 1 = j at *
        have p1 : ((j : Nat) : Int) < (c.svcs.length : Int) := by omega
        have p2 : (0 : Int) < (c.brts.length : Int) := by omega
        have p3 : c.cpys.length + [(C.nil)].length ≤ 4294967296 := by simp; omega
        have p3' : c.cpys.length + 1 ≤ 4294967296 := by omega
        have g1 : (c.svcs.map Svc.e).getD j [] = c.svcs[j].e := getD_map_lt Svc.e j1 []
        have g2 : (c.brts.map Brt.e).getD 0 [] = c.brts[0].e := getD_map_lt Brt.e j2 []
        refine ⟨({ c with svcs := c.svcs.set j { c.svcs[j] with next := w64 (c.svcs[j].next + 1) }, cpys := c.cpys ++ [⟨c.svcs[j].name, c.svcs[j].next, 1, 1, 3, z == 0, c.brts[0].name⟩] }, q'), ?_, ⟨⟨?_, ?_, ?_, ⟨⟨?_, ?_⟩, ?_⟩⟩, ?_, hct, ?_⟩, ?_⟩
        · have s1 : setCs c.svcs[j].e 7 [.i (w64 (c.svcs[j].next + 1))] = ({ c.svcs[j] with next := w64 (c.svcs[j].next + 1) } : Svc).e := ss_next _ _
          simp only [s_l18Any.d1, BB, nils, rows, k1, p1, e4, p2, p3', g1, g2, List.map_append, List.map_set, List.map_cons, List.map_nil]
          simp only [← s1]
          rfl
        · simp only [List.length_set]; omega
        · simp only [List.length_append, List.length_singleton]; omega
        · exact hcb.t
        · intro s hs'
          rcases List.mem_or_eq_of_mem_set hs' with h | h
          · exact hcb.w.s s h
          · rw [h]; exact hcb.w.s c.svcs[j] (List.getElem_mem j1)
        · exact hcb.w.t
        · intro d hd
          rcases List.mem_append.1 hd with h | h
          · exact hcb.w.c d h
          · rw [List.mem_singleton.1 h]
            exact ⟨hcb.w.s _ (List.getElem_mem j1), hcb.w.t _ (List.getElem_mem j2)⟩
        · simp only [List.length_set]; exact hcs
        · simp only [List.length_append, List.length_singleton]; exact h4.le (by omega)
        · simp only [List.length_append, List.length_singleton]; omega
      · right
        refine ⟨_, ?_, ?_, c, q, rfl, hcb.big, hq.le (by omega)⟩
        · simp only [s_l18Any.d1, BB, nils, rows, k1]
        · trivial
    obtain ⟨o, e5, c, q, rfl, hc5, hq5⟩ := L
    rw [w1, w2, e5]
    simp only [BB, nils, rows, s_l18Any.d2]
    exact fin _ c q hc5 hq5 (by omega)
  have q2' : (x == 2) = false := by simpa using q2
  simp only [q2', BB, nils, rows]
  cases q3 : x == 3 <;> simp only [BB, nils, rows]
  · exact fin _ b r2 hb.big h2 (by omega)
  · by_cases z1 : (b.svcs.length : Int) > 0
    · obtain ⟨y, r3, e3, a3, b3, h3⟩ := pick_ex r2 2 h2 (by omega) (by omega)
      have j1 : 0 < b.svcs.length := by omega
      have z2 : (0 : Int) < (b.svcs.length : Int) := by omega
      have g1 : (b.svcs.map Svc.e).getD 0 [] = b.svcs[0].e := getD_map_lt Svc.e j1 []
      simp only [z1, z2, e3, BB, nils, rows, g1, ss_next]
      have := fin _ { b with svcs := b.svcs.set 0 { b.svcs[0] with next := w64 (1000000 - y) } } r3 (Big.svc hb _ _ (hb.w.s b.svcs[0] (List.getElem_mem j1))) h3 (by omega)
      simp only [bR, Rd.e, BB, nils, rows, List.map_set] at this
      exact this
    · simp only [z1, BB, nils, rows]
      exact fin _ b r2 hb.big h2 (by omega)
theorem s_StewAsk_big (k : Int) (b : Book) (hb : Big b) : ∃ ac : List Act, s_StewAsk (.i k :: b.e) = some [.l (ac.map Act.e)] := ⟨_, s_StewAsk_eq k b hb⟩
theorem s_DrawStewAsk_ex (z : List Int) (hz : ∀ n, n ∈ z → 0 ≤ n ∧ n ≤ 255) : ∃ (k : Int) (b : Book), s_DrawStewAsk [.l (z.map inE)] = some (.i k :: b.e) ∧ Big b := by
  obtain ⟨r0, e0, h0⟩ := s_l18Open_ex z hz
  obtain ⟨b, r1, e1, hb, h1⟩ := s_l18Any_ex r0 h0 (by omega)
  obtain ⟨x, r2, e2, a2, b2, h2⟩ := pick_ex r1 6 h1 (by omega) (by omega)
  have L : ∃ o, lim (ap12 s_DrawStewAsk.d1) [.i x, .i 0, .i 0, .l (r2.b.map inE), .i (r2.p : Nat), .i b.now, .l (b.svcs.map Svc.e), .l (b.cpys.map Cpy.e), .l (b.brts.map Brt.e), .l [], .l [], .l []] = some o ∧
      ((∃ k : Int, o = .ret (.i k :: b.e)) ∨ ∃ r : Rd, ROk 20000 r ∧ o = .brk 0 [.i 0, .l (r.b.map inE), .i (r.p : Nat), .i b.now, .l (b.svcs.map Svc.e), .l (b.cpys.map Cpy.e), .l (b.brts.map Brt.e), .l [], .l [], .l []]) := by
    refine lim_exs (fun a : Nat × Rd => [.i x, .i (a.1 : Nat), .i 0, .l (a.2.b.map inE), .i (a.2.p : Nat), .i b.now, .l (b.svcs.map Svc.e), .l (b.cpys.map Cpy.e), .l (b.brts.map Brt.e), .l [], .l [], .l []]) (fun a => 6 - a.1) (fun a => a.1 ≤ 6 ∧ ROk (10000 + a.1) a.2) _ (0, r2) ⟨by omega, h2.le (by omega)⟩ ?_
    rintro ⟨i, r⟩ ⟨hi, hr⟩
    simp only at hi hr ⊢
    by_cases hlt : (i : Int) < 6
    · obtain ⟨y, r', e3, a3, b3, h3⟩ := pick_ex r 8 hr (by omega) (by omega)
      by_cases hy : y > 0
      · obtain ⟨ac, e4⟩ := s_StewAsk_big (w64 (1 + ((w64 (x + i)).tmod 6))) b hb
        simp only [Book.e] at e4
        by_cases hz : (ac.length : Int) > 0
        · right
          refine ⟨.ret (.i (w64 (1 + ((w64 (x + i)).tmod 6))) :: b.e), ?_, trivial, .inl ⟨_, rfl⟩⟩
          simp only [s_DrawStewAsk.d1, BB, nils, rows, hlt, e3, hy, e4, hz, Book.e]
        · left
          have w1 : w64 ((i : Int) + 1) = ((i + 1 : Nat) : Int) := w64_nat (n := i + 1) (by omega)
          refine ⟨(i + 1, r'), ?_, ⟨by simp only; omega, h3.le (by simp only; omega)⟩, by simp only; omega⟩
          simp only [s_DrawStewAsk.d1, BB, nils, rows, hlt, e3, hy, e4, hz, w1]
      · right
        refine ⟨_, ?_, ?_, .inr ⟨r', h3.le (by omega), rfl⟩⟩
        · simp only [s_DrawStewAsk.d1, BB, nils, rows, hlt, e3, hy]
        · trivial
    · right
      refine ⟨_, ?_, ?_, .inr ⟨r, hr.le (by omega), rfl⟩⟩
      · simp only [s_DrawStewAsk.d1, BB, nils, rows, hlt]
      · trivial
  obtain ⟨o, e5, ho⟩ := L
  simp only [Rd.e, bR, BB, nils, rows] at e0 e1
  simp only [s_DrawStewAsk, s_DrawStewAsk.d3, BB, nils, rows, e0, e1, e2]
  rw [e5]
  rcases ho with ⟨k, rfl⟩ | ⟨r, hr, rfl⟩
  · exact ⟨k, b, by simp only [BB, nils, rows], hb⟩
  · obtain ⟨y, r', e6, a6, b6, h6⟩ := pick_ex r 8 hr (by omega) (by omega)
    exact ⟨y, b, by simp only [BB, nils, rows, s_DrawStewAsk.d2, e6, Book.e], hb⟩
end Go.Ev
namespace Go.Ev
theorem asksB_out (k : Int) (b : Book) (h : k < 1 ∨ 6 < k) : asksB k b = [] := by
  have e1 : (k == 1) = false := by simp; omega
  have e2 : (k == 2) = false := by simp; omega
  have e3 : (k == 3) = false := by simp; omega
  have e4 : (k == 4) = false := by simp; omega
  have e5 : (k == 5) = false := by simp; omega
  have e6 : (k == 6) = false := by simp; omega
  rw [asksB]
  cases validB b
  · rfl
  · rw [jR, List.filter_eq_nil_iff]
    intro a ha
    obtain ⟨s, hs, rfl⟩ := List.mem_map.1 ha
    simp only [specA, e1, e2, e3, e4, e5, e6, BB, nils, rows]
    cases s.gone <;> simp only [BB, nils, rows] <;> simp [wanted_a0]
theorem i_StewAsk_eq (k : Int) (b : Book) (hb : Big b) : i_StewAsk (.i k :: b.e) = some [.l ((asksB k b).map Act.e)] := by
  have hsm : Small b := ⟨by have := hb.s; omega, by have := hb.c; omega, by have := hb.t; omega⟩
  have e1 := i_StewValid_eq b hsm hb.w.toNames
  simp only [Book.e, Svc.e, Cpy.e, Brt.e, Act.e, Wld.e, Ev1.e, BB, nils, rows] at e1
  simp only [i_StewAsk, i_StewAsk.d3, Book.e, Svc.e, Cpy.e, Brt.e, Act.e, Wld.e, Ev1.e, BB, nils, rows, e1]
  cases hv : validB b <;> simp only [BB, nils, rows]
  · simp only [asksB, hv, BB, nils, rows]; rfl
  by_cases k1 : k < 1
  · rw [asksB_out k b (.inl k1)]; simp only [k1, BB, nils, rows]; rfl
  by_cases k6 : k > 6
  · rw [asksB_out k b (.inr k6)]; simp only [k1, k6, BB, nils, rows]; rfl
  simp only [k1, k6, BB, nils, rows]
  have hbn := validB_bnd hv hb.w
  have hs8 := hbn.s
  have L : ∃ o, lim (ap8 i_StewAsk.d1) (.i k :: .i (b.svcs.length : Nat) :: .i 0 :: (b.e ++ [.l []])) = some o ∧ o = .brk 0 [.l (((b.svcs.map (specA k b)).filter wanted).map Act.e)] := by
    refine lim_exs (fun i : Nat => .i k :: .i (b.svcs.length : Nat) :: .i (i : Nat) :: (b.e ++ [.l ((((b.svcs.take i).map (specA k b)).filter wanted).map Act.e)])) (fun i => b.svcs.length - i) (fun i => i ≤ b.svcs.length) _ 0 (Nat.zero_le _) ?_
    intro i hi
    have w1 : w64 ((i : Int) + 1) = ((i + 1 : Nat) : Int) := w64_nat (n := i + 1) (by omega)
    by_cases hlt : i < b.svcs.length
    · left
      refine ⟨i + 1, ?_, hlt, by omega⟩
      obtain ⟨a, ok, e2, e3, e4⟩ := i_ask_eq k b i hlt hbn hv (by omega)
      have g1 : (b.svcs.map Svc.e).getD i [] = b.svcs[i].e := getD_map_lt Svc.e hlt []
      have p1 : (i : Int) < (b.svcs.length : Int) := by omega
      have tk : ((b.svcs.take (i + 1)).map (specA k b)).filter wanted = ((b.svcs.take i).map (specA k b)).filter wanted ++ [specA k b b.svcs[i]].filter wanted := by
        rw [List.take_succ_eq_append_getElem hlt, List.map_append, List.filter_append]; rfl
      have hfl : (((b.svcs.take i).map (specA k b)).filter wanted).length + 1 ≤ 4294967296 := by
        have h1 := List.length_filter_le wanted ((b.svcs.take i).map (specA k b))
        rw [jW] at h1
        have h2 := List.length_take_le i b.svcs
        omega
      simp only [tk]
      generalize ((b.svcs.take i).map (specA k b)).filter wanted = ac at *
      generalize specA k b b.svcs[i] = sp at *
      simp only [Book.e, Svc.e, Cpy.e, Brt.e, Act.e, Wld.e, Ev1.e, A7, BB, nils, rows] at e2
      simp only [Book.e, Svc.e, Cpy.e, Brt.e, Act.e, Wld.e, Ev1.e, BB, nils, rows]
      simp only [i_StewAsk.d1, BB, nils, rows, g1, p1, Svc.e, e2]
      cases ok with
      | false =>
        rw [List.filter_cons_of_neg (by simp [← e3])]
        simp only [BB, nils, rows, w1, List.filter_nil, List.append_nil]
      | true =>
        rw [List.filter_cons_of_pos e3.symm, ← e4 rfl]
        simp only [BB, nils, rows, w1, hfl, List.filter_nil, List.map_append, List.map_cons, List.map_nil]; rfl
    · right
      have : i = b.svcs.length := by omega
      subst this
      have p1 : ¬ (b.svcs.length : Int) < (b.svcs.length : Int) := by omega
      refine ⟨_, ?_, ?_, rfl⟩
      · simp only [Book.e, Svc.e, Cpy.e, Brt.e, Act.e, Wld.e, Ev1.e, BB, nils, rows, List.take_length]
        simp only [i_StewAsk.d1, BB, nils, rows, p1]
      · trivial
  obtain ⟨o, h1, rfl⟩ := L
  simp only [Book.e, Svc.e, Cpy.e, Brt.e, Act.e, Wld.e, Ev1.e, BB, nils, rows] at h1
  rw [h1]
  simp only [BB, nils, rows, i_StewAsk.d2, asksB, hv]
theorem w_wsAct_same (a : Act) (h : a.ends.length ≤ 1000) : w_wsAct (a.e ++ a.e) = some [.b true] := by
  have L : ∃ o, lim (ap17 w_wsAct.d1) (.i 0 :: (a.e ++ a.e)) = some o ∧ o = .brk 0 [] := by
    refine lim_exs (fun i : Nat => .i (i : Nat) :: (a.e ++ a.e)) (fun i => a.ends.length - i) (fun i => i ≤ a.ends.length) _ 0 (Nat.zero_le _) ?_
    intro i hi
    have w1 : w64 ((i : Int) + 1) = ((i + 1 : Nat) : Int) := w64_nat (n := i + 1) (by omega)
    by_cases hlt : i < a.ends.length
    · left
      refine ⟨i + 1, ?_, hlt, by omega⟩
      have p1 : (i : Int) < (a.ends.length : Int) := by omega
      have g1 : (a.ends.map enE).getD i [] = enE a.ends[i] := getD_map_lt enE hlt []
      simp only [Book.e, Svc.e, Cpy.e, Brt.e, Act.e, Wld.e, Ev1.e, BB, nils, rows]
      simp only [w_wsAct.d1, BB, nils, rows, p1, g1, enE, beq_self_eq_true, Bool.and_true, w1]
    · right
      have : i = a.ends.length := by omega
      subst this
      have p1 : ¬ (a.ends.length : Int) < (a.ends.length : Int) := by omega
      refine ⟨_, ?_, ?_, rfl⟩
      · simp only [Book.e, Svc.e, Cpy.e, Brt.e, Act.e, Wld.e, Ev1.e, BB, nils, rows]
        simp only [w_wsAct.d1, BB, nils, rows, p1]
      · trivial
  obtain ⟨o, h1, rfl⟩ := L
  simp only [Book.e, Svc.e, Cpy.e, Brt.e, Act.e, Wld.e, Ev1.e, BB, nils, rows] at h1
  simp only [w_wsAct, w_wsAct.d3, Book.e, Svc.e, Cpy.e, Brt.e, Act.e, Wld.e, Ev1.e, BB, nils, rows, beq_self_eq_true, bne_self_eq_false, h1, w_wsAct.d2]
theorem w_wsActs_same (l : List Act) (hl : l.length ≤ 1000) (h : ∀ a, a ∈ l → a.ends.length ≤ 1000) : w_wsActs [.l (l.map Act.e), .l (l.map Act.e)] = some [.b true] := by
  have L : ∃ o, lim (ap3 w_wsActs.d1) [.l (l.map Act.e), .l (l.map Act.e), .i 0] = some o ∧ o = .brk 0 [] := by
    refine lim_exs (fun i : Nat => [.l (l.map Act.e), .l (l.map Act.e), .i (i : Nat)]) (fun i => l.length - i) (fun i => i ≤ l.length) _ 0 (Nat.zero_le _) ?_
    intro i hi
    have w1 : w64 ((i : Int) + 1) = ((i + 1 : Nat) : Int) := w64_nat (n := i + 1) (by omega)
    by_cases hlt : i < l.length
    · left
      refine ⟨i + 1, ?_, hlt, by omega⟩
      have p1 : (i : Int) < (l.length : Int) := by omega
      have g1 : (l.map Act.e).getD i [] = l[i].e := getD_map_lt Act.e hlt []
      have e1 := w_wsAct_same l[i] (h _ (List.getElem_mem hlt))
      simp only [Book.e, Svc.e, Cpy.e, Brt.e, Act.e, Wld.e, Ev1.e, BB, nils, rows] at e1
      simp only [w_wsActs.d1, BB, nils, rows, p1, g1, Act.e, e1, w1]
    · right
      have : i = l.length := by omega
      subst this
      have p1 : ¬ (l.length : Int) < (l.length : Int) := by omega
      refine ⟨_, ?_, ?_, rfl⟩
      · simp only [w_wsActs.d1, BB, nils, rows, p1]
      · trivial
  obtain ⟨o, h1, rfl⟩ := L
  simp only [w_wsActs, w_wsActs.d3, BB, nils, rows, bne_self_eq_false, h1, w_wsActs.d2]
end Go.Ev
namespace Go.Ev
theorem find_ix {α : Type} (p : α → Bool) : ∀ (l : List α) (n : Nat), (l.find? p = none ∧ findIx p l n = -1) ∨ ∃ i, ∃ h : i < l.length, findIx p l n = ((n + i : Nat) : Int) ∧ l.find? p = some l[i] ∧ p l[i] = true
  | [], n => .inl ⟨rfl, rfl⟩
  | x :: r, n => by
    cases hx : p x with
    | true => exact .inr ⟨0, by simp, by simp [findIx, hx], by simp [hx], hx⟩
    | false =>
      rcases find_ix p r (n + 1) with ⟨h1, h2⟩ | ⟨i, h, h1, h2, h3⟩
      · exact .inl ⟨by simp [hx, h1], by simp [findIx, hx, h2]⟩
      · exact .inr ⟨i + 1, by simpa using h, by rw [findIx, hx, jS, h1]; congr 1; omega, by simp [hx, h2], by simpa using h3⟩
theorem loopL_findE {α : Type} (p : α → Bool) (k : Nat) (ys zs : List C) (K : List C → R) (hK : K zs = some (.ret (.i (-1) :: ys))) : ∀ (l : List α) (n : Nat), bindBlk k (some (loopL (fun i s (_ : Unit) => bif p s then .inr (.ret (.i (i : Nat) :: ys)) else .inl ()) (fun _ => .brk k zs) l n ())) K = some (.ret (.i (findIx p l n) :: ys))
  | [], n => by simp [loopL, findIx, hK]
  | x :: r, n => by
    have ih := loopL_findE p k ys zs K hK r (n + 1)
    cases hx : p x <;> simp [loopL, findIx, hx, ih]
theorem i_copyv_eq (b : Book) (nm : Str) (n : Int) (hb : Bnd b) : i_StewBook_copy_v1 (.s nm :: .i n :: b.e) = some (.i (cpyIx b.cpys nm n) :: b.e) := by
  have hl := hb.c
  have h := lim_list (l := b.cpys) (S := fun i (_ : Unit) => .s nm :: .i n :: .i (b.cpys.length : Nat) :: .i (i : Nat) :: b.e)
    (body := (ap8 i_StewBook_copy_v1.d1))
    (fun _ _ => True) (fun i c _ => bif (fun c : Cpy => sEq c.svc nm && c.num == n) c then .inr (.ret (.i (i : Nat) :: b.e)) else .inl ()) (fun _ => .brk 0 b.e)
    (fun i _ hi _ => by
      have w1 : w64 ((i : Int) + 1) = ((i + 1 : Nat) : Int) := w64_nat (n := i + 1) (by omega)
      have p1 : (i : Int) < (b.cpys.length : Int) := by omega
      have g1 : (b.cpys.map Cpy.e).getD i [] = b.cpys[i].e := getD_map_lt Cpy.e hi []
      cases hs : (b.cpys[i].svc.toList == nm.toList)
      · simp only [sEq, hs, Bool.false_and, jS]
        exact ⟨by simp only [Book.e, BB, nils, rows, i_StewBook_copy_v1.d1, p1, g1, Cpy.e, hs, w1], trivial⟩
      · cases hn : (b.cpys[i].num == n)
        · simp only [sEq, hs, hn, Bool.true_and, jS]
          exact ⟨by simp only [Book.e, BB, nils, rows, i_StewBook_copy_v1.d1, p1, g1, Cpy.e, hs, hn, w1], trivial⟩
        · simp only [sEq, hs, hn, Bool.true_and, jR]
          exact ⟨by simp only [Book.e, BB, nils, rows, i_StewBook_copy_v1.d1, p1, g1, Cpy.e, hs, hn], trivial⟩)
    (fun _ _ => ⟨by
      have p1 : ¬ (b.cpys.length : Int) < (b.cpys.length : Int) := by omega
      simp only [Book.e, BB, nils, rows, i_StewBook_copy_v1.d1, p1], trivial⟩) _ 0 () rfl trivial
  simp only [List.drop_zero] at h
  simp only [Book.e] at h
  simp only [i_StewBook_copy_v1, i_StewBook_copy_v1.d3, Book.e, BB, nils, rows]
  erw [h]
  rw [loopL_findE _ _ _ _ _ (by rfl)]
  rfl
theorem i_servicev_eq (b : Book) (nm : Str) (hb : Bnd b) : i_StewBook_service_v1 (.s nm :: b.e) = some (.i (svcIx b.svcs nm) :: b.e) := by
  have hl := hb.s
  have h := lim_list (l := b.svcs) (S := fun i (_ : Unit) => .s nm :: .i (b.svcs.length : Nat) :: .i (i : Nat) :: b.e)
    (body := (ap7 i_StewBook_service_v1.d1))
    (fun _ _ => True) (fun i c _ => bif (fun c : Svc => sEq c.name nm) c then .inr (.ret (.i (i : Nat) :: b.e)) else .inl ()) (fun _ => .brk 0 b.e)
    (fun i _ hi _ => by
      have w1 : w64 ((i : Int) + 1) = ((i + 1 : Nat) : Int) := w64_nat (n := i + 1) (by omega)
      have p1 : (i : Int) < (b.svcs.length : Int) := by omega
      have g1 : (b.svcs.map Svc.e).getD i [] = b.svcs[i].e := getD_map_lt Svc.e hi []
      cases hs : (b.svcs[i].name.toList == nm.toList)
      · simp only [sEq, hs, jS]
        exact ⟨by simp only [Book.e, BB, nils, rows, i_StewBook_service_v1.d1, p1, g1, Svc.e, hs, w1], trivial⟩
      · simp only [sEq, hs, jR]
        exact ⟨by simp only [Book.e, BB, nils, rows, i_StewBook_service_v1.d1, p1, g1, Svc.e, hs], trivial⟩)
    (fun _ _ => ⟨by
      have p1 : ¬ (b.svcs.length : Int) < (b.svcs.length : Int) := by omega
      simp only [Book.e, BB, nils, rows, i_StewBook_service_v1.d1, p1], trivial⟩) _ 0 () rfl trivial
  simp only [List.drop_zero] at h
  simp only [Book.e] at h
  simp only [i_StewBook_service_v1, i_StewBook_service_v1.d3, Book.e, BB, nils, rows]
  erw [h]
  rw [loopL_findE _ _ _ _ _ (by rfl)]
  rfl
theorem i_clone_eq (b : Book) (hb : Bnd b) : i_clone b.e = some b.e := by
  have h1 := hb.s
  have h2 := hb.c
  have h3 := hb.t
  have p1 : b.svcs.length ≤ 4294967296 := by omega
  have p2 : b.cpys.length ≤ 4294967296 := by omega
  have p3 : b.brts.length ≤ 4294967296 := by omega
  simp only [i_clone, i_clone.d1, Book.e, BB, nils, rows, p1, p2, p3]
def upEnds : List (Int × Int) → Bool
  | x :: y :: r => decide (x.1 < y.1) && upEnds (y :: r)
  | _ => true
def formedP (a : Act) : Bool :=
  within a.create 0 20 && (decide ((a.ends.length : Int) ≤ 200) && (upEnds a.ends && ((bif a.scale then within a.want 0 10 && within a.cool 0 3 else a.want == 0 && a.cool == 0) && (!a.drop || (a.create == 0 && (!a.scale && ((a.ends.length : Int) == 0)))))))
theorem upEnds_drop {l : List (Int × Int)} {i : Nat} (h : i + 1 < l.length) : upEnds (l.drop i) = (decide ((l[i]'(by omega)).1 < l[i + 1].1) && upEnds (l.drop (i + 1))) := by
  rw [List.drop_eq_getElem_cons (by omega : i < l.length), List.drop_eq_getElem_cons h]; rfl
theorem upEnds_last {l : List (Int × Int)} {i : Nat} (h : l.length ≤ i + 1) : upEnds (l.drop i) = true := by
  have : (l.drop i).length ≤ 1 := by rw [List.length_drop]; omega
  match l.drop i, this with
  | [], _ => rfl
  | [_], _ => rfl
theorem i_formed_eq (a : Act) : i_formed a.e = some [.b (formedP a)] := by
  simp only [i_formed, i_formed.d4, Book.e, Svc.e, Cpy.e, Brt.e, Act.e, Wld.e, Ev1.e, BB, nils, rows, i_within_eq, formedP]
  cases within a.create 0 20 <;> simp only [BB, nils, rows, Bool.false_and, Bool.true_and]
  by_cases hl : (a.ends.length : Int) > 200
  · have : ¬ (a.ends.length : Int) ≤ 200 := by omega
    simp only [hl, this, BB, nils, rows, Bool.false_and]
  have hl' : (a.ends.length : Int) ≤ 200 := by omega
  simp only [hl, hl', BB, nils, rows, Bool.true_and]
  have L : ∃ o, lim (ap9 i_formed.d1) (.i 1 :: a.e) = some o ∧ o = bif upEnds a.ends then .brk 0 a.e else .ret [.b false] := by
    refine lim_exs (fun i : Nat => .i ((i + 1 : Nat) : Int) :: a.e) (fun i => a.ends.length - i) (fun i => i ≤ a.ends.length ∧ upEnds a.ends = upEnds (a.ends.drop i)) _ 0 ⟨Nat.zero_le _, by rw [List.drop_zero]⟩ ?_
    rintro i ⟨hil, hi⟩
    have w1 : w64 (((i + 1 : Nat) : Int) + 1) = ((i + 1 + 1 : Nat) : Int) := w64_nat (n := i + 1 + 1) (by omega)
    have w2 : w64 (((i + 1 : Nat) : Int) - 1) = ((i : Nat) : Int) := by rw [w64_of (by omega) (by omega)]; omega
    by_cases hlt : i + 1 < a.ends.length
    · have p1 : ((i + 1 : Nat) : Int) < (a.ends.length : Int) := by omega
      have p2 : (i : Int) < (a.ends.length : Int) := by omega
      have g1 : (a.ends.map enE).getD (i + 1) [] = enE a.ends[i + 1] := getD_map_lt enE hlt []
      have g2 : (a.ends.map enE).getD i [] = enE a.ends[i] := getD_map_lt enE (by omega) []
      have hu := upEnds_drop hlt
      by_cases hq : a.ends[i + 1].1 ≤ a.ends[i].1
      · right
        refine ⟨.ret [.b false], ?_, trivial, ?_⟩
        · simp only [Book.e, Svc.e, Cpy.e, Brt.e, Act.e, Wld.e, Ev1.e, BB, nils, rows, i_formed.d1, p1, p2, w2, g1, g2, enE, hq]
        · rw [hi, hu, decide_eq_false (by omega)]; rfl
      · left
        refine ⟨i + 1, ?_, ⟨by omega, ?_⟩, by omega⟩
        · simp only [Book.e, Svc.e, Cpy.e, Brt.e, Act.e, Wld.e, Ev1.e, BB, nils, rows, i_formed.d1, p1, p2, w1, w2, g1, g2, enE, hq]
        · rw [hi, hu, decide_eq_true (by omega), Bool.true_and]
    · right
      have p1 : ¬ ((i + 1 : Nat) : Int) < (a.ends.length : Int) := by omega
      refine ⟨.brk 0 a.e, ?_, trivial, ?_⟩
      · simp only [Book.e, Svc.e, Cpy.e, Brt.e, Act.e, Wld.e, Ev1.e, BB, nils, rows, i_formed.d1, p1]
      · rw [hi, upEnds_last (by omega)]; rfl
  obtain ⟨o, h1, rfl⟩ := L
  simp only [Book.e, Svc.e, Cpy.e, Brt.e, Act.e, Wld.e, Ev1.e, BB, nils, rows] at h1
  rw [h1]
  cases upEnds a.ends <;> simp only [BB, nils, rows, Bool.false_and, Bool.true_and]
  simp only [i_formed.d3, BB, nils, rows, i_within_eq, bne]
  cases a.scale <;> cases within a.want 0 10 <;> cases within a.cool 0 3 <;> cases a.want == 0 <;> cases a.cool == 0
  all_goals simp only [BB, nils, rows, i_formed.d2, Bool.false_and, Bool.true_and, Bool.and_true, Bool.and_false]
  all_goals cases a.drop <;> cases a.create == 0 <;> simp only [BB, nils, rows, Bool.false_and, Bool.true_and, Bool.true_or, Bool.false_or]
end Go.Ev
