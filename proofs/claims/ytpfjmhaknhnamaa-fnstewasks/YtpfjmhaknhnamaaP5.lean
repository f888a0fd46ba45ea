/- Proved here: the law FnStewAsks of the given program answers true at every input, and leaves the input as it was; no condition. This text: lemmas on the way (an evaluator of the program's code, sound once for all; the functions it prints; plain proofs on these). -/
import Derived.Test.YtpfjmhaknhnamaaP4
import Derived.WalkKit
import Derived.ProofKit
import Derived.OpenShut
import Derived.ShutString
import Derived.ChangeOld
import Derived.Below
import Derived.SizedLaws
import Derived.Test.YtpfjmhaknhnamaaRows
set_option linter.all false
set_option autoImplicit false
set_option maxRecDepth 8000
namespace Go.Ev
def endM (b : Book) (nm : Str) (n : Int) (c : Cpy) : Cpy := bif sEq c.svc nm && c.num == n then { c with ending := true, ver := b.now + 1 } else c
def endB (b : Book) (nm : Str) (n : Int) : Book := { b with cpys := b.cpys.map (endM b nm n) }
def endsP (s : Svc) : List (Int × Int) → Book → Option Book
  | [], b => some b
  | e :: r, b => bif mayB b s e.1 then endsP s r (endB b s.name e.1) else none
def le (nm : Str) (c : Cpy) : Bool := sLt c.svc nm || sEq c.svc nm
def newC (s : Svc) (v : Int) (k : Nat) : Cpy := ⟨s.name, s.next + k, v, s.image, 1, false, bs #[]⟩
def news (s : Svc) (v : Int) (n : Nat) : List Cpy := (List.range n).map (newC s v)
def svcU (l : List Svc) (s : Svc) : List Svc := l.map fun t => bif sEq t.name s.name then s else t
def finP (b : Book) (s : Svc) (a : Act) : Book :=
  ⟨b.now + 1, (fun l : List Svc => bif a.drop then l.filter (fun t => !sEq t.name a.svc) else l) (svcU b.svcs { s with ver := b.now + 1, next := s.next + a.create }),
    b.cpys.takeWhile (le s.name) ++ news s (b.now + 1) a.create.toNat ++ b.cpys.dropWhile (le s.name), b.brts⟩
def scaled (s : Svc) (a : Act) : Svc := bif a.scale then { s with want := a.want, cool := a.cool } else s
def actP3 (b : Book) (s : Svc) (a : Act) : Int ⊕ Book :=
  bif decide (a.create > 0) && (s.gone || decide (nL b s + a.create > s.want + s.over)) then .inl 6 else
  bif decide ((b.cpys.length : Int) + a.create > 200) || (decide (s.next + a.create > 1000000) || b.now == 1000000) then .inl 7 else .inr (finP b s a)
def actP2 (b : Book) (s : Svc) (a : Act) : Int ⊕ Book :=
  bif a.drop && (!s.gone || decide (nL b s + cnt b (pEnd s) > 0)) then .inl 6 else
  bif a.scale && (s.per == 0 || !within a.want s.least s.most) then .inl 6 else actP3 b (scaled s a) a
def verOk (b : Book) (a : Act) (e : Int × Int) : Bool := match cpyOf b a.svc e.1 with | some c => c.ver == e.2 | none => false
def applyP (b : Book) (a : Act) : Int ⊕ Book :=
  bif !formedP a then .inl 2 else match svcOf b a.svc with
  | none => .inl 3
  | some s => bif !(a.ends.all fun e => (cpyOf b a.svc e.1).isSome) then .inl 3 else bif s.ver != a.seen then .inl 4 else bif !(a.ends.all (verOk b a)) then .inl 4 else
    match endsP s a.ends b with
    | none => .inl 5
    | some b1 => actP2 b1 s a
def actS (j : Nat) (a : Act) (b : Book) (mid : List C) : List C := .i (j : Nat) :: (mid ++ [.i b.now, .l (b.brts.map Brt.e)] ++ a.e ++ [.l (b.svcs.map Svc.e), .l (b.cpys.map Cpy.e)])
def actR (c : Int) (b : Book) : List C := [.i c, .i b.now, .l (b.brts.map Brt.e), .l (b.svcs.map Svc.e), .l (b.cpys.map Cpy.e)]
theorem endB_bnd {b : Book} (h : Bnd b) (nm : Str) (n : Int) : Bnd (endB b nm n) := by
  refine ⟨h.s, by simp only [endB, jW]; exact h.c, h.t, ⟨⟨h.w.s, h.w.t⟩, fun c hc => ?_⟩⟩
  obtain ⟨d, hd, rfl⟩ := List.mem_map.1 hc
  have := h.w.c d hd
  rw [endM]
  cases (sEq d.svc nm && d.num == n) <;> exact this
theorem cpy_at (b : Book) (nm : Str) (n : Int) : (cpyOf b nm n = none ∧ cpyIx b.cpys nm n = -1) ∨ ∃ i, ∃ h : i < b.cpys.length, cpyIx b.cpys nm n = ((i : Nat) : Int) ∧ cpyOf b nm n = some b.cpys[i] ∧ (sEq b.cpys[i].svc nm && b.cpys[i].num == n) = true := by
  have := find_ix (fun c : Cpy => sEq c.svc nm && c.num == n) b.cpys 0
  simp only [Nat.zero_add] at this
  exact this
theorem svc_at (b : Book) (nm : Str) : (svcOf b nm = none ∧ svcIx b.svcs nm = -1) ∨ ∃ i, ∃ h : i < b.svcs.length, svcIx b.svcs nm = ((i : Nat) : Int) ∧ svcOf b nm = some b.svcs[i] ∧ sEq b.svcs[i].name nm = true := by
  have := find_ix (fun c : Svc => sEq c.name nm) b.svcs 0
  simp only [Nat.zero_add] at this
  exact this
theorem act_d1 (j : Nat) (a : Act) (b : Book) (hb : Bnd b) (hl : a.ends.length ≤ 200) : lim (ap16 i_StewBook_act.d1) (actS j a b [.l (a.ends.map enE), .i (a.ends.length : Nat), .i 0]) =
    some (bif a.ends.all fun e => (cpyOf b a.svc e.1).isSome then .brk 0 (actS j a b []) else .ret (actR 3 b)) := by
  have L : ∃ o, lim (ap16 i_StewBook_act.d1) (actS j a b [.l (a.ends.map enE), .i (a.ends.length : Nat), .i 0]) = some o ∧ o = (bif a.ends.all fun e => (cpyOf b a.svc e.1).isSome then .brk 0 (actS j a b []) else .ret (actR 3 b)) := by
    refine lim_exs (fun i : Nat => actS j a b [.l (a.ends.map enE), .i (a.ends.length : Nat), .i (i : Nat)]) (fun i => a.ends.length - i) (fun i => i ≤ a.ends.length ∧ a.ends.all (fun e => (cpyOf b a.svc e.1).isSome) = (a.ends.drop i).all (fun e => (cpyOf b a.svc e.1).isSome)) _ 0 ⟨Nat.zero_le _, by rw [List.drop_zero]⟩ ?_
    rintro i ⟨hi, hq⟩
    have w1 : w64 ((i : Int) + 1) = ((i + 1 : Nat) : Int) := w64_nat (n := i + 1) (by omega)
    by_cases hlt : i < a.ends.length
    · have p1 : (i : Int) < (a.ends.length : Int) := by omega
      have g1 : (a.ends.map enE).getD i [] = enE a.ends[i] := getD_map_lt enE hlt []
      have e1 := i_copyv_eq b a.svc a.ends[i].1 hb
      rw [List.drop_eq_getElem_cons hlt, List.all_cons] at hq
      simp only [Book.e, Svc.e, Cpy.e, Brt.e, Act.e, Wld.e, Ev1.e, BB, nils, rows] at e1
      rcases cpy_at b a.svc a.ends[i].1 with ⟨h1, h2⟩ | ⟨m, hm, h1, h2, h3⟩
      · right
        refine ⟨.ret (actR 3 b), ?_, trivial, ?_⟩
        · rw [h2] at e1
          have p2 : (-1 : Int) < 0 := by omega
          simp only [actS, actR, Book.e, Svc.e, Cpy.e, Brt.e, Act.e, Wld.e, Ev1.e, BB, nils, rows, i_StewBook_act.d1, p1, g1, enE, e1, p2]
        · rw [hq, h1]; rfl
      · left
        refine ⟨i + 1, ?_, ⟨by omega, ?_⟩, by omega⟩
        · rw [h1] at e1
          have p2 : ¬ ((m : Nat) : Int) < 0 := by omega
          simp only [actS, Book.e, Svc.e, Cpy.e, Brt.e, Act.e, Wld.e, Ev1.e, BB, nils, rows, i_StewBook_act.d1, p1, g1, enE, e1, p2, w1]
        · rw [hq, h2]; rfl
    · right
      have p1 : ¬ (i : Int) < (a.ends.length : Int) := by omega
      refine ⟨.brk 0 (actS j a b []), ?_, trivial, ?_⟩
      · simp only [actS, Book.e, Svc.e, Cpy.e, Brt.e, Act.e, Wld.e, Ev1.e, BB, nils, rows, i_StewBook_act.d1, p1]
      · rw [hq, List.drop_of_length_le (by omega)]; rfl
  obtain ⟨o, h1, rfl⟩ := L
  exact h1
theorem act_d2 (j : Nat) (a : Act) (b : Book) (hb : Bnd b) (hl : a.ends.length ≤ 200) (hx : (a.ends.all fun e => (cpyOf b a.svc e.1).isSome) = true) : lim (ap16 i_StewBook_act.d2) (actS j a b [.l (a.ends.map enE), .i (a.ends.length : Nat), .i 0]) =
    some (bif a.ends.all (verOk b a) then .brk 2 (actS j a b []) else .ret (actR 4 b)) := by
  have L : ∃ o, lim (ap16 i_StewBook_act.d2) (actS j a b [.l (a.ends.map enE), .i (a.ends.length : Nat), .i 0]) = some o ∧ o = (bif a.ends.all (verOk b a) then .brk 2 (actS j a b []) else .ret (actR 4 b)) := by
    refine lim_exs (fun i : Nat => actS j a b [.l (a.ends.map enE), .i (a.ends.length : Nat), .i (i : Nat)]) (fun i => a.ends.length - i) (fun i => i ≤ a.ends.length ∧ a.ends.all (verOk b a) = (a.ends.drop i).all (verOk b a)) _ 0 ⟨Nat.zero_le _, by rw [List.drop_zero]⟩ ?_
    rintro i ⟨hi, hq⟩
    have w1 : w64 ((i : Int) + 1) = ((i + 1 : Nat) : Int) := w64_nat (n := i + 1) (by omega)
    by_cases hlt : i < a.ends.length
    · have p1 : (i : Int) < (a.ends.length : Int) := by omega
      have g1 : (a.ends.map enE).getD i [] = enE a.ends[i] := getD_map_lt enE hlt []
      have e1 := i_copyv_eq b a.svc a.ends[i].1 hb
      rw [List.drop_eq_getElem_cons hlt, List.all_cons] at hq
      simp only [Book.e, Svc.e, Cpy.e, Brt.e, Act.e, Wld.e, Ev1.e, BB, nils, rows] at e1
      rcases cpy_at b a.svc a.ends[i].1 with ⟨h1, h2⟩ | ⟨m, hm, h1, h2, h3⟩
      · have := List.all_eq_true.1 hx _ (List.getElem_mem hlt)
        rw [h1] at this; simp at this
      · rw [h1] at e1
        have g2 : (b.cpys.map Cpy.e).getD m [] = b.cpys[m].e := getD_map_lt Cpy.e hm []
        have hv : verOk b a a.ends[i] = (b.cpys[m].ver == a.ends[i].2) := by rw [verOk, h2]
        cases hc : (b.cpys[m].ver == a.ends[i].2)
        · right
          refine ⟨.ret (actR 4 b), ?_, trivial, ?_⟩
          · simp only [actS, actR, Book.e, Svc.e, Cpy.e, Brt.e, Act.e, Wld.e, Ev1.e, BB, nils, rows, i_StewBook_act.d2, p1, g1, enE, e1, g2, bne, hc]
          · rw [hq, hv, hc]; rfl
        · left
          refine ⟨i + 1, ?_, ⟨by omega, ?_⟩, by omega⟩
          · simp only [actS, Book.e, Svc.e, Cpy.e, Brt.e, Act.e, Wld.e, Ev1.e, BB, nils, rows, i_StewBook_act.d2, p1, g1, enE, e1, g2, bne, hc, w1]
          · rw [hq, hv, hc]; rfl
    · right
      have p1 : ¬ (i : Int) < (a.ends.length : Int) := by omega
      refine ⟨.brk 2 (actS j a b []), ?_, trivial, ?_⟩
      · simp only [actS, Book.e, Svc.e, Cpy.e, Brt.e, Act.e, Wld.e, Ev1.e, BB, nils, rows, i_StewBook_act.d2, p1]
      · rw [hq, List.drop_of_length_le (by omega)]; rfl
  obtain ⟨o, h1, rfl⟩ := L
  exact h1
def UniqC (l : List Cpy) : Prop := ∀ (i k : Nat) (hi : i < l.length) (hk : k < l.length), (sEq l[i].svc l[k].svc && l[i].num == l[k].num) = true → i = k
theorem bytesLess_irr : ∀ (a : List UInt8), Op.bytesLess a a = false
  | [] => rfl
  | x :: r => by
    have ih := bytesLess_irr r
    simp only [Op.bytesLess, ih]
    simp
theorem sEq_eq {a b : Str} (h : sEq a b = true) : a = b := toList_inj (by simpa [sEq] using h)
theorem sEq_self (a : Str) : sEq a a = true := by simp [sEq]
theorem sLt_irr (a : Str) : sLt a a = false := bytesLess_irr _
theorem sLt_trans {a b c : Str} (h1 : sLt a b = true) (h2 : sLt b c = true) : sLt a c = true := bytesLess_trans _ _ _ h1 h2
theorem cLt_irr (a : Cpy) : cLt a a = false := by simp [cLt, sLt_irr]
theorem cLt_trans (a b c : Cpy) (h1 : cLt a b = true) (h2 : cLt b c = true) : cLt a c = true := by
  simp only [cLt, Bool.or_eq_true, Bool.and_eq_true, decide_eq_true_eq] at h1 h2 ⊢
  rcases h1 with h1 | ⟨h1, h1'⟩ <;> rcases h2 with h2 | ⟨h2, h2'⟩
  · exact .inl (sLt_trans h1 h2)
  · rw [sEq_eq h2] at h1; exact .inl h1
  · rw [← sEq_eq h1] at h2; exact .inl h2
  · rw [← sEq_eq h2, sEq_eq h1]; exact .inr ⟨sEq_self _, by omega⟩
theorem valid_uniqC {b : Book} (h : validB b = true) : UniqC b.cpys := by
  simp only [validB, Bool.and_eq_true] at h
  have hc := chain_lt h.2 cLt_trans
  have key : ∀ (i k : Nat) (hi : i < b.cpys.length) (hk : k < b.cpys.length), i < k → (sEq b.cpys[i].svc b.cpys[k].svc && b.cpys[i].num == b.cpys[k].num) = true → False := by
    intro i k hi hk hlt he
    obtain ⟨d, rfl⟩ : ∃ d, k = i + d + 1 := ⟨k - i - 1, by omega⟩
    have := hc d i (by omega)
    simp only [Bool.and_eq_true, beq_iff_eq] at he
    simp only [cLt, sEq_eq he.1, he.2, sLt_irr, Bool.false_or, Bool.and_eq_true, decide_eq_true_eq] at this
    omega
  intro i k hi hk he
  rcases Nat.lt_trichotomy i k with h1 | h1 | h1
  · exact (key i k hi hk h1 he).elim
  · exact h1
  · refine (key k i hk hi h1 ?_).elim
    simp only [Bool.and_eq_true, beq_iff_eq] at he ⊢
    exact ⟨by rw [sEq_eq he.1]; exact sEq_self _, he.2.symm⟩
theorem UniqC.end {b : Book} (h : UniqC b.cpys) (nm : Str) (n : Int) : UniqC (endB b nm n).cpys := by
  intro i k hi hk he
  simp only [endB, jW] at hi hk
  simp only [endB, List.getElem_map] at he
  have hs : ∀ c, (endM b nm n c).svc = c.svc ∧ (endM b nm n c).num = c.num := by intro c; rw [endM]; cases (sEq c.svc nm && c.num == n) <;> exact ⟨rfl, rfl⟩
  rw [(hs _).1, (hs _).1, (hs _).2, (hs _).2] at he
  exact h i k hi hk he
theorem set_map {α : Type} (p : α → Bool) (f : α → α) (l : List α) (m : Nat) (hm : m < l.length) (hp : p l[m] = true) (hu : ∀ i (hi : i < l.length), p l[i] = true → i = m) : l.set m (f l[m]) = l.map fun c => bif p c then f c else c := by
  apply List.ext_getElem
  · simp
  intro i h1 h2
  simp only [List.length_set] at h1
  rw [List.getElem_set, List.getElem_map]
  by_cases hi : m = i
  · subst hi; rw [if_pos rfl, hp]; rfl
  · rw [if_neg hi]
    cases hq : p l[i] with
    | true => exact absurd (hu i h1 hq).symm hi
    | false => rfl
theorem end_set {b : Book} (hu : UniqC b.cpys) (nm : Str) (n : Int) (m : Nat) (hm : m < b.cpys.length) (hp : (sEq b.cpys[m].svc nm && b.cpys[m].num == n) = true) :
    b.cpys.set m { b.cpys[m] with ending := true, ver := b.now + 1 } = (endB b nm n).cpys := by
  refine set_map (fun c => sEq c.svc nm && c.num == n) (fun c => { c with ending := true, ver := b.now + 1 }) b.cpys m hm hp fun i hi hpi => hu i m hi hm ?_
  simp only [Bool.and_eq_true, beq_iff_eq] at hp hpi ⊢
  exact ⟨by rw [sEq_eq hpi.1, sEq_eq hp.1]; exact sEq_self _, by rw [hpi.2, hp.2]⟩
theorem act_d3 (j : Nat) (a : Act) (b : Book) (hj : j < b.svcs.length) (hn : b.svcs[j].name = a.svc) (hs : SvB b.svcs[j]) (hb : Bnd b) (hu : UniqC b.cpys) (hnow : 0 ≤ b.now ∧ b.now ≤ 1000000) (hl : a.ends.length ≤ 200) :
    ∃ o, lim (ap16 i_StewBook_act.d3) (actS j a b [.l (a.ends.map enE), .i (a.ends.length : Nat), .i 0]) = some o ∧ match endsP b.svcs[j] a.ends b with | none => ∃ b' : Book, o = .ret (actR 5 b') | some b1 => o = .brk 4 (actS j a b1 []) := by
  generalize hsv : b.svcs[j] = s at *
  have hres := lim_exs (body := (ap16 i_StewBook_act.d3)) (fun q : Nat × Book => actS j a q.2 [.l (a.ends.map enE), .i (a.ends.length : Nat), .i (q.1 : Nat)]) (fun q => a.ends.length - q.1)
    (fun q => q.1 ≤ a.ends.length ∧ Bnd q.2 ∧ UniqC q.2.cpys ∧ q.2.now = b.now ∧ q.2.svcs = b.svcs ∧ endsP s a.ends b = endsP s (a.ends.drop q.1) q.2)
    (fun o => match endsP s a.ends b with | none => ∃ b' : Book, o = .ret (actR 5 b') | some b1 => o = .brk 4 (actS j a b1 [])) (0, b) ⟨Nat.zero_le _, hb, hu, rfl, rfl, by rw [List.drop_zero]⟩ ?_
  · exact hres
  rintro ⟨i, c⟩ ⟨hi, hcb, hcu, hcn, hcs, hq⟩
  simp only at hi hcb hcu hcn hcs hq ⊢
  have w1 : w64 ((i : Int) + 1) = ((i + 1 : Nat) : Int) := w64_nat (n := i + 1) (by omega)
  by_cases hlt : i < a.ends.length
  · have p1 : (i : Int) < (a.ends.length : Int) := by omega
    have g1 : (a.ends.map enE).getD i [] = enE a.ends[i] := getD_map_lt enE hlt []
    have e1 := i_copyv_eq c a.svc a.ends[i].1 hcb
    have e2 := i_mayEnd_eq c s (cpyOf c a.svc a.ends[i].1) hcb hs
    have hj' : j < c.svcs.length := by rw [hcs]; exact hj
    have g0 : (c.svcs.map Svc.e).getD j [] = s.e := by rw [getD_map_lt Svc.e hj' [], ← hsv]; simp only [hcs]
    rw [List.drop_eq_getElem_cons hlt, endsP] at hq
    simp only [Book.e, BB, nils, rows] at e1 e2
    rcases cpy_at c a.svc a.ends[i].1 with ⟨h1, h2⟩ | ⟨m, hm, h1, h2, h3⟩
    · right
      simp only [h1, rowP_none] at e2
      have hmb : mayB c s a.ends[i].1 = false := by rw [mayB, hn, h1]
      rw [hmb, jS] at hq
      rw [h2] at e1
      refine ⟨.ret (actR 5 c), ?_, trivial, ?_⟩
      · have p2 : ¬ (0 : Int) ≤ -1 := by omega
        simp only [actS, actR, Book.e, Act.e, BB, nils, rows, i_StewBook_act.d3, p1, g1, enE, e1, g0, p2, e2]
      · rw [hq]; exact ⟨c, rfl⟩
    · simp only [h2, rowP_some] at e2
      have hmb : mayB c s a.ends[i].1 = mayC c s c.cpys[m] := by rw [mayB, hn, h2]
      rw [hmb, hn] at hq
      rw [h1] at e1
      have g2 : (c.cpys.map Cpy.e).getD m [] = c.cpys[m].e := getD_map_lt Cpy.e hm []
      have p2 : (0 : Int) ≤ ((m : Nat) : Int) := by omega
      cases hmc : mayC c s c.cpys[m]
      · right
        rw [hmc] at hq e2
        refine ⟨.ret (actR 5 c), ?_, trivial, ?_⟩
        · simp only [actS, actR, Book.e, Act.e, BB, nils, rows, i_StewBook_act.d3, p1, g1, enE, e1, g0, g2, p2, e2]
        · rw [hq]; exact ⟨c, rfl⟩
      · left
        rw [hmc] at hq e2
        have wn : w64 (c.now + 1) = c.now + 1 := w64_of (by omega) (by omega)
        refine ⟨(i + 1, endB c a.svc a.ends[i].1), ?_, ⟨by simp only; omega, endB_bnd hcb _ _, hcu.end _ _, hcn, hcs, hq⟩, by simp only; omega⟩
        have hset := end_set hcu a.svc a.ends[i].1 m hm h3
        have s1 : setCs c.cpys[m].e 5 [.b true] = ({ c.cpys[m] with ending := true } : Cpy).e := rfl
        have s2 : setCs ({ c.cpys[m] with ending := true } : Cpy).e 2 [.i (c.now + 1)] = ({ c.cpys[m] with ending := true, ver := c.now + 1 } : Cpy).e := rfl
        have s3 : ((c.cpys.map Cpy.e).set m ({ c.cpys[m] with ending := true } : Cpy).e).getD m [] = ({ c.cpys[m] with ending := true } : Cpy).e := by
          rw [List.getD_eq_getElem?_getD, List.getElem?_set_self (by rw [jW]; exact hm)]; rfl
        have s4 : ((c.cpys.map Cpy.e).set m ({ c.cpys[m] with ending := true } : Cpy).e).set m ({ c.cpys[m] with ending := true, ver := c.now + 1 } : Cpy).e = (endB c a.svc a.ends[i].1).cpys.map Cpy.e := by
          rw [List.set_set, ← hset, List.map_set]
        simp only [actS, Book.e, Act.e, BB, nils, rows, i_StewBook_act.d3, p1, g1, enE, e1, g0, g2, p2, w1, wn]
        simp only [e2, BB, nils, rows, s1, s2, s3, s4]
        rfl
  · right
    have p1 : ¬ (i : Int) < (a.ends.length : Int) := by omega
    refine ⟨.brk 4 (actS j a c []), ?_, trivial, ?_⟩
    · simp only [actS, Book.e, Svc.e, Cpy.e, Brt.e, Act.e, Wld.e, Ev1.e, BB, nils, rows, i_StewBook_act.d3, p1]
    · rw [hq, List.drop_of_length_le (by omega)]; rfl
end Go.Ev
namespace Go.Ev
theorem tw_at {α : Type} (q : α → Bool) : ∀ (l : List α) (p : Nat), (∀ i (h : i < l.length), i < p → q l[i] = true) → (p = l.length ∨ ∃ h : p < l.length, q l[p] = false) → l.takeWhile q = l.take p ∧ l.dropWhile q = l.drop p
  | [], p, _, h => by simp
  | x :: r, 0, _, h => by
    rcases h with h | ⟨h, h1⟩
    · simp at h
    · have : q x = false := h1
      simp [this]
  | x :: r, p + 1, ha, h => by
    have hx : q x = true := ha 0 (by simp) (by omega)
    have ih := tw_at q r p (fun i hi hip => ha (i + 1) (by simpa using hi) (by omega)) (by
      rcases h with h | ⟨h, h1⟩
      · exact .inl (by simpa using h)
      · exact .inr ⟨by simpa using h, by simpa using h1⟩)
    simp [hx, ih.1, ih.2]
theorem act1_eq (s : Svc) (a : Act) : i_StewBook_act_1 (s.e ++ [.p a.e]) = some [.b (sEq s.name a.svc)] := by
  simp only [i_StewBook_act_1, i_StewBook_act_1.d1, Book.e, Svc.e, Cpy.e, Brt.e, Act.e, Wld.e, Ev1.e, BB, nils, rows, sEq, C.isP_p, C.P_p]
theorem indexFunc_eq (l : List Svc) (a : Act) (hl : l.length ≤ 1000) : slices_IndexFunc [.l (l.map Svc.e), .p a.e] = some [.i (findIx (fun s => sEq s.name a.svc) l 0)] := by
  have h := lim_list (l := l) (S := fun i (_ : Unit) => [.l (l.map Svc.e), .p a.e, .i (l.length : Nat), .i (i : Nat)])
    (body := (ap4 slices_IndexFunc.d1))
    (fun _ _ => True) (fun i s _ => bif (fun s : Svc => sEq s.name a.svc) s then .inr (.ret [.i (i : Nat)]) else .inl ()) (fun _ => .brk 0 [])
    (fun i _ hi _ => by
      have w1 : w64 ((i : Int) + 1) = ((i + 1 : Nat) : Int) := w64_nat (n := i + 1) (by omega)
      have p1 : (i : Int) < (l.length : Int) := by omega
      have g1 : (l.map Svc.e).getD i [] = l[i].e := getD_map_lt Svc.e hi []
      have e1 := act1_eq l[i] a
      simp only [Svc.e, BB, nils, rows] at e1
      cases hs : sEq l[i].name a.svc
      · rw [hs] at e1
        simp only [hs, jS]
        exact ⟨by simp only [BB, nils, rows, slices_IndexFunc.d1, p1, g1, Svc.e, e1, w1], trivial⟩
      · rw [hs] at e1
        simp only [hs, jR]
        exact ⟨by simp only [BB, nils, rows, slices_IndexFunc.d1, p1, g1, Svc.e, e1], trivial⟩)
    (fun _ _ => ⟨by
      have p1 : ¬ (l.length : Int) < (l.length : Int) := by omega
      simp only [BB, nils, rows, slices_IndexFunc.d1, p1], trivial⟩) _ 0 () rfl trivial
  simp only [List.drop_zero] at h
  simp only [slices_IndexFunc, slices_IndexFunc.d3, BB, nils, rows]
  erw [h, loopL_findE _ _ [] _ _ (by rfl)]
  rfl
structure Del {α : Type} (q : α → Bool) (l : List α) (i j : Nat) (z : List α) : Prop where
  n : z.length = l.length
  ij : i ≤ j
  jl : j ≤ l.length
  a : z.take i = (l.take j).filter q
  b : z.drop j = l.drop j
theorem Del.at {α : Type} {q : α → Bool} {l z : List α} {i j : Nat} (h : Del q l i j z) (hj : j < l.length) : ∃ h2 : j < z.length, z[j] = l[j] := by
  have h2 : j < z.length := by rw [h.n]; exact hj
  refine ⟨h2, ?_⟩
  have e1 := List.drop_eq_getElem_cons h2
  have e2 := List.drop_eq_getElem_cons hj
  rw [h.b, e2] at e1
  exact (List.cons.inj e1).1.symm
theorem Del.no {α : Type} {q : α → Bool} {l z : List α} {i j : Nat} (h : Del q l i j z) (hj : j < l.length) (hq : q l[j] = false) : Del q l i (j + 1) z := by
  refine ⟨h.n, by have := h.ij; omega, hj, ?_, ?_⟩
  · rw [h.a, List.take_succ_eq_append_getElem hj, List.filter_append, List.filter_cons_of_neg (by simp [hq]), List.filter_nil, List.append_nil]
  · have := congrArg (List.drop 1) h.b
    simpa only [List.drop_drop] using this
theorem Del.yes {α : Type} {q : α → Bool} {l z : List α} {i j : Nat} (h : Del q l i j z) (hj : j < l.length) (hq : q l[j] = true) : Del q l (i + 1) (j + 1) (z.set i l[j]) := by
  have hi : i < z.length := by have := h.n; have := h.ij; omega
  refine ⟨by rw [List.length_set]; exact h.n, by have := h.ij; omega, hj, ?_, ?_⟩
  · rw [List.take_succ_eq_append_getElem (by rw [List.length_set]; exact hi), List.getElem_set_self, List.take_set_of_le (Nat.le_refl _), h.a, List.take_succ_eq_append_getElem hj, List.filter_append, List.filter_cons_of_pos hq, List.filter_nil]
  · rw [List.drop_set_of_lt (by have := h.ij; omega)]
    have := congrArg (List.drop 1) h.b
    simpa only [List.drop_drop] using this
theorem Del.start {α : Type} {p : α → Bool} {l : List α} {m : Nat} (hm : m < l.length) (hp : p l[m] = true) (ha : ∀ i (h : i < l.length), i < m → p l[i] = false) : Del (fun x => !p x) l m (m + 1) l := by
  refine ⟨rfl, by omega, hm, ?_, rfl⟩
  rw [List.take_succ_eq_append_getElem hm, List.filter_append, List.filter_cons_of_neg (by simp [hp]), List.filter_nil, List.append_nil, List.filter_eq_self.2]
  intro x hx
  obtain ⟨i, h1, rfl⟩ := List.getElem_of_mem hx
  rw [List.length_take] at h1
  rw [List.getElem_take, ha i (by omega) (by omega)]; rfl
theorem findIx_first {α : Type} (p : α → Bool) : ∀ (l : List α) (n : Nat), (findIx p l n = -1 ∧ ∀ x, x ∈ l → p x = false) ∨ ∃ i, ∃ h : i < l.length, findIx p l n = ((n + i : Nat) : Int) ∧ p l[i] = true ∧ ∀ k (h : k < l.length), k < i → p l[k] = false
  | [], n => .inl ⟨rfl, by simp⟩
  | x :: r, n => by
    cases hx : p x with
    | true => exact .inr ⟨0, by simp, by simp [findIx, hx], hx, fun k _ h => by omega⟩
    | false =>
      rcases findIx_first p r (n + 1) with ⟨h1, h2⟩ | ⟨i, h, h1, h2, h3⟩
      · exact .inl ⟨by simp [findIx, hx, h1], by simp only [List.mem_cons, forall_eq_or_imp]; exact ⟨hx, h2⟩⟩
      · refine .inr ⟨i + 1, by simpa using h, by rw [findIx, hx, jS, h1]; congr 1; omega, by simpa using h2, fun k hk hki => ?_⟩
        cases k with
        | zero => exact hx
        | succ k => exact h3 k (by simpa using hk) (by omega)
theorem deleteFunc_eq (l : List Svc) (a : Act) (hl : l.length ≤ 1000) : slices_DeleteFunc (.l (l.map Svc.e) :: a.e) = some (a.e ++ [.l ((l.filter fun s => !sEq s.name a.svc).map Svc.e)]) := by
  have e0 := indexFunc_eq l a hl
  simp only [Act.e, BB, nils, rows] at e0
  simp only [slices_DeleteFunc, slices_DeleteFunc.d3, Act.e, BB, nils, rows, e0]
  rcases findIx_first (fun s : Svc => sEq s.name a.svc) l 0 with ⟨h1, h2⟩ | ⟨m, hm, h1, h2, h3⟩
  · have : (l.filter fun s => !sEq s.name a.svc) = l := List.filter_eq_self.2 fun x hx => by rw [h2 x hx]; rfl
    rw [this, h1]
    rfl
  · simp only [Nat.zero_add] at h1
    have q1 : (((m : Nat) : Int) == -1) = false := by simp
    have wm : w64 (((m : Nat) : Int) + 1) = ((m + 1 : Nat) : Int) := w64_nat (n := m + 1) (by omega)
    simp only [h1, q1, BB, nils, rows, wm]
    have L : ∃ o, lim (ap11 slices_DeleteFunc.d1) (.i (m : Nat) :: .i ((m + 1 : Nat) : Int) :: (a.e ++ [.l (l.map Svc.e)])) = some o ∧ ∃ (i : Nat) (z : List Svc), Del (fun s : Svc => !sEq s.name a.svc) l i l.length z ∧ o = .brk 0 (.i (i : Nat) :: (a.e ++ [.l (z.map Svc.e)])) := by
      refine lim_exs (fun q : Nat × Nat × List Svc => .i (q.1 : Nat) :: .i (q.2.1 : Nat) :: (a.e ++ [.l (q.2.2.map Svc.e)])) (fun q => l.length - q.2.1) (fun q => Del (fun s : Svc => !sEq s.name a.svc) l q.1 q.2.1 q.2.2) _ (m, m + 1, l) (Del.start hm h2 h3) ?_
      rintro ⟨i, j, z⟩ hD
      simp only at hD ⊢
      have hij := hD.ij
      have hjl := hD.jl
      have hzn := hD.n
      have w1 : w64 ((i : Int) + 1) = ((i + 1 : Nat) : Int) := w64_nat (n := i + 1) (by omega)
      have w2 : w64 ((j : Int) + 1) = ((j + 1 : Nat) : Int) := w64_nat (n := j + 1) (by omega)
      by_cases hlt : j < l.length
      · left
        obtain ⟨hz, hzj⟩ := hD.at hlt
        have p1 : (j : Int) < (z.length : Int) := by omega
        have p2 : (i : Int) < (z.length : Int) := by omega
        have g1 : (z.map Svc.e).getD j [] = l[j].e := by rw [getD_map_lt Svc.e hz [], hzj]
        have g2 : (z.map Svc.e).getD i [] = (z[i]'(by omega)).e := getD_map_lt Svc.e (by omega) []
        have e1 := act1_eq l[j] a
        simp only [Svc.e, Act.e, BB, nils, rows] at e1
        cases hs : sEq l[j].name a.svc
        · refine ⟨(i + 1, j + 1, z.set i l[j]), ?_, hD.yes hlt (by rw [hs]; rfl), by simp only; omega⟩
          rw [hs] at e1
          have s1 : setCs (z[i]'(by omega)).e 0 [.s l[j].name, .i l[j].ver, .b l[j].gone, .i l[j].image, .i l[j].want, .i l[j].down, .i l[j].over, .i l[j].next, .i l[j].per, .i l[j].least, .i l[j].most, .i l[j].load, .i l[j].cool] = l[j].e := rfl
          simp only [slices_DeleteFunc.d1, Act.e, BB, nils, rows, p1, p2, g1, g2, w1, w2, List.map_set]
          simp only [show ∀ s : Svc, s.e.getD 0 .nil = .s s.name from fun _ => rfl, show ∀ s : Svc, s.e.getD 1 .nil = .i s.ver from fun _ => rfl, show ∀ s : Svc, s.e.getD 2 .nil = .b s.gone from fun _ => rfl, show ∀ s : Svc, s.e.getD 3 .nil = .i s.image from fun _ => rfl, show ∀ s : Svc, s.e.getD 4 .nil = .i s.want from fun _ => rfl, show ∀ s : Svc, s.e.getD 5 .nil = .i s.down from fun _ => rfl, show ∀ s : Svc, s.e.getD 6 .nil = .i s.over from fun _ => rfl, show ∀ s : Svc, s.e.getD 7 .nil = .i s.next from fun _ => rfl, show ∀ s : Svc, s.e.getD 8 .nil = .i s.per from fun _ => rfl, show ∀ s : Svc, s.e.getD 9 .nil = .i s.least from fun _ => rfl, show ∀ s : Svc, s.e.getD 10 .nil = .i s.most from fun _ => rfl, show ∀ s : Svc, s.e.getD 11 .nil = .i s.load from fun _ => rfl, show ∀ s : Svc, s.e.getD 12 .nil = .i s.cool from fun _ => rfl, e1, BB, nils, rows, s1]
        · refine ⟨(i, j + 1, z), ?_, hD.no hlt (by rw [hs]; rfl), by simp only; omega⟩
          rw [hs] at e1
          simp only [slices_DeleteFunc.d1, Act.e, BB, nils, rows, p1, p2, g1, Svc.e, e1, w2]
      · right
        have hjl2 : j = l.length := by omega
        subst hjl2
        have p1 : ¬ (l.length : Int) < (z.length : Int) := by omega
        refine ⟨_, ?_, ?_, i, z, hD, rfl⟩
        · simp only [slices_DeleteFunc.d1, Act.e, BB, nils, rows, p1]
        · trivial
    obtain ⟨o, h4, i, z, hD, rfl⟩ := L
    simp only [Act.e, BB, nils, rows] at h4
    rw [h4]
    have hij := hD.ij
    have hzn := hD.n
    have hta := hD.a
    rw [List.take_length] at hta
    have p1 : (i : Int) ≤ (z.length : Int) := by omega
    have p2 : (z.length : Int) ≤ (z.length : Int) := by omega
    have n1 : ((z.length : Int) - (i : Int)).toNat = z.length - i := by omega
    have tl : ∀ (x : List (List C)), x.length = z.length - i → ((z.map Svc.e).take i ++ x ++ (z.map Svc.e).drop (i + (z.length - i))).length = z.length := by
      intro x hx
      simp only [List.length_append, List.length_take, List.length_drop, jW, hx]
      omega
    have tt : ∀ (x : List (List C)), ((z.map Svc.e).take i ++ x ++ (z.map Svc.e).drop (i + (z.length - i))).take i = (l.filter fun s => !sEq s.name a.svc).map Svc.e := by
      intro x
      rw [List.append_assoc, List.take_append_of_le_length (by rw [List.length_take, jW]; omega), List.take_take, Nat.min_self, ← hta, List.map_take]
    simp only [slices_DeleteFunc.d2, BB, nils, rows, p1, p2, n1, tl _ List.length_replicate, tt]
end Go.Ev
namespace Go.Ev
structure ActOk (b : Book) (s : Svc) (a : Act) : Prop where
  now : 0 ≤ b.now ∧ b.now ≤ 1000000
  nx : 0 ≤ s.next ∧ s.next ≤ 1000000
  cr : 0 ≤ a.create ∧ a.create ≤ 20
theorem ins_eq (p : Nat) (es : List (List C)) (v : List C) (hp : p ≤ es.length) (hl : es.length ≤ 1000) : slices_Insert [.i (p : Nat), .l es, .l [v]] = some [.l [v], .l (es.take p ++ [v] ++ es.drop p)] := by
  have p1 : (p : Int) ≤ (es.length : Int) := by omega
  have p2 : es.length + 1 ≤ 4294967296 := by omega
  simp only [slices_Insert, insF, BB, nils, rows, p1, p2, Bool.true_and, beq_self_eq_true]
def bk (b : Book) (ss : List Svc) (cs : List Cpy) : Book := ⟨b.now, ss, cs, b.brts⟩
def Res (o : Out) (r : Int ⊕ Book) : Prop := match r with | .inl c => ∃ b' : Book, o = .ret (actR c b') | .inr b' => o = .ret (actR 0 b')
theorem act_d7 (j : Nat) (a : Act) (b : Book) (s : Svc) (p : Nat) (hj : j < b.svcs.length) (hs : b.svcs[j] = s) (hok : ActOk b s a) (hb : Bnd b) (hp : p ≤ b.cpys.length) (hu : ∀ i (h : i < b.svcs.length), sEq b.svcs[i].name s.name = true → i = j) (hpw : b.cpys.takeWhile (le s.name) = b.cpys.take p ∧ b.cpys.dropWhile (le s.name) = b.cpys.drop p) :
    ap14 i_StewBook_act.d7 (actS j a ⟨b.now + 1, b.svcs.set j { s with ver := b.now + 1 }, b.cpys, b.brts⟩ [.i (p : Nat)]) = some (.ret (actR 0 (finP b s a))) := by
  obtain ⟨cr, hcr⟩ : ∃ n : Nat, a.create = (n : Int) := ⟨a.create.toNat, by have := hok.cr; omega⟩
  have hc := hb.c
  have hcb := hok.cr
  have hnx := hok.nx
  have hu2 : b.svcs.set j { s with ver := b.now + 1, next := s.next + a.create } = svcU b.svcs { s with ver := b.now + 1, next := s.next + a.create } := by
    have := set_map (fun t : Svc => sEq t.name s.name) (fun _ => { s with ver := b.now + 1, next := s.next + a.create }) b.svcs j hj (by rw [hs]; exact sEq_self _) hu
    exact this
  let S : Nat → List C := fun i => .i (j : Nat) :: .i ((p + i : Nat) : Int) :: .i a.create :: .i (i : Nat) :: .i (b.now + 1) :: .l (b.brts.map Brt.e) :: (a.e ++ [.l ((b.svcs.set j { s with ver := b.now + 1, next := s.next + i }).map Svc.e), .l ((b.cpys.take p ++ news s (b.now + 1) i ++ b.cpys.drop p).map Cpy.e)])
  have L : ∃ o, lim (ap16 i_StewBook_act.d5) (S 0) = some o ∧ o = .brk 8 ([.i (b.now + 1), .l (b.brts.map Brt.e)] ++ a.e ++ [.l ((b.svcs.set j { s with ver := b.now + 1, next := s.next + a.create }).map Svc.e), .l ((b.cpys.take p ++ news s (b.now + 1) cr ++ b.cpys.drop p).map Cpy.e)]) := by
    refine lim_exs S (fun i => cr - i) (fun i => i ≤ cr) _ 0 (Nat.zero_le _) ?_
    intro i hi
    by_cases hlt : i < cr
    · left
      refine ⟨i + 1, ?_, hlt, by omega⟩
      have w1 : w64 ((i : Int) + 1) = ((i + 1 : Nat) : Int) := w64_nat (n := i + 1) (by omega)
      have w2 : w64 (((p + i : Nat) : Int) + 1) = ((p + (i + 1) : Nat) : Int) := w64_nat (n := p + (i + 1)) (by omega)
      have w3 : w64 (s.next + (i : Int) + 1) = s.next + ((i + 1 : Nat) : Int) := by rw [w64_of (by omega) (by omega)]; omega
      have p1 : (i : Int) < (cr : Int) := by omega
      have g1 : ((b.svcs.set j { s with ver := b.now + 1, next := s.next + i }).map Svc.e).getD j [] = ({ s with ver := b.now + 1, next := s.next + i } : Svc).e := by
        rw [getD_map_lt Svc.e (by rw [List.length_set]; exact hj) [], List.getElem_set_self]
      have hnl : (news s (b.now + 1) i).length = i := by simp [news]
      have hln : ((b.cpys.take p ++ news s (b.now + 1) i ++ b.cpys.drop p).map Cpy.e).length = b.cpys.length + i := by
        simp only [jW, List.length_append, hnl, List.length_take, List.length_drop]; omega
      have e1 := ins_eq (p + i) ((b.cpys.take p ++ news s (b.now + 1) i ++ b.cpys.drop p).map Cpy.e) (newC s (b.now + 1) i).e (by omega) (by omega)
      have t1 : ((b.cpys.take p ++ news s (b.now + 1) i ++ b.cpys.drop p).map Cpy.e).take (p + i) = (b.cpys.take p ++ news s (b.now + 1) i).map Cpy.e := by
        rw [← List.map_take, List.take_left' (by rw [List.length_append, hnl, List.length_take]; omega)]
      have t2 : ((b.cpys.take p ++ news s (b.now + 1) i ++ b.cpys.drop p).map Cpy.e).drop (p + i) = (b.cpys.drop p).map Cpy.e := by
        rw [← List.map_drop, List.drop_left' (by rw [List.length_append, hnl, List.length_take]; omega)]
      have t3 : (b.cpys.take p ++ news s (b.now + 1) i).map Cpy.e ++ [(newC s (b.now + 1) i).e] ++ (b.cpys.drop p).map Cpy.e = (b.cpys.take p ++ news s (b.now + 1) (i + 1) ++ b.cpys.drop p).map Cpy.e := by
        rw [news, news, List.range_succ, List.map_append (l₁ := List.range i)]
        simp only [List.map_append, List.map_cons, List.map_nil, List.append_assoc]
      rw [t1, t2, t3] at e1
      have s1 : setCs ({ s with ver := b.now + 1, next := s.next + i } : Svc).e 7 [.i (s.next + ((i + 1 : Nat) : Int))] = ({ s with ver := b.now + 1, next := s.next + ((i + 1 : Nat) : Int) } : Svc).e := rfl
      have s2 : ((b.svcs.set j { s with ver := b.now + 1, next := s.next + i }).map Svc.e).set j ({ s with ver := b.now + 1, next := s.next + ((i + 1 : Nat) : Int) } : Svc).e = (b.svcs.set j { s with ver := b.now + 1, next := s.next + ((i + 1 : Nat) : Int) }).map Svc.e := by
        rw [← List.map_set, List.set_set]
      simp only [newC, Cpy.e] at e1
      simp only [S, Act.e, BB, nils, rows, i_StewBook_act.d5, hcr, p1, g1, show ∀ s : Svc, s.e.getD 0 .nil = .s s.name from fun _ => rfl, show ∀ s : Svc, s.e.getD 3 .nil = .i s.image from fun _ => rfl, show ∀ s : Svc, s.e.getD 7 .nil = .i s.next from fun _ => rfl, e1, w1, w2, w3, s1, s2]
    · right
      have : i = cr := by omega
      subst this
      have p1 : ¬ (i : Int) < (i : Int) := by omega
      refine ⟨_, ?_, ?_, rfl⟩
      · simp only [S, Act.e, BB, nils, rows, i_StewBook_act.d5, hcr, p1]
      · trivial
  obtain ⟨o, h1, rfl⟩ := L
  have s0 : ({ s with ver := b.now + 1, next := s.next + ((0 : Nat) : Int) } : Svc) = { s with ver := b.now + 1 } := by
    rw [show s.next + ((0 : Nat) : Int) = s.next from by omega]
  have c0 : b.cpys.take p ++ news s (b.now + 1) 0 ++ b.cpys.drop p = b.cpys := by
    rw [show news s (b.now + 1) 0 = [] from rfl, List.append_nil, List.take_append_drop]
  have hcrn : a.create.toNat = cr := by omega
  simp only [S, s0, c0, Nat.add_zero, Act.e, BB, nils, rows] at h1
  simp only [actS, actR, Act.e, BB, nils, rows, i_StewBook_act.d7]
  erw [h1]
  simp only [BB, nils, rows, i_StewBook_act.d6, finP, hpw.1, hpw.2, hcrn, hu2]
  cases hd : a.drop <;> simp only [BB, nils, rows]
  have hlen : (svcU b.svcs { s with ver := b.now + 1, next := s.next + a.create }).length ≤ 1000 := by have := hb.s; simp only [svcU, jW]; omega
  have e2 := deleteFunc_eq (svcU b.svcs { s with ver := b.now + 1, next := s.next + a.create }) a hlen
  simp only [Act.e, BB, nils, rows, hd] at e2
  simp only [e2, BB, nils, rows]
end Go.Ev
namespace Go.Ev
def UniqN (l : List Svc) : Prop := ∀ (i k : Nat) (hi : i < l.length) (hk : k < l.length), sEq l[i].name l[k].name = true → i = k
theorem UniqN.set {l : List Svc} (h : UniqN l) {j : Nat} (hj : j < l.length) {s : Svc} (hn : s.name = l[j].name) : UniqN (l.set j s) := by
  have key : ∀ i (hi : i < (l.set j s).length), (l.set j s)[i].name = (l[i]'(by simpa using hi)).name := by
    intro i hi
    rw [List.getElem_set]
    split
    · rename_i e; subst e; exact hn
    · rfl
  intro i k hi hk he
  rw [key i hi, key k hk] at he
  exact h i k (by simpa using hi) (by simpa using hk) he
theorem svcU_set {l : List Svc} {j : Nat} (hj : j < l.length) {s t : Svc} (hn : s.name = l[j].name) (ht : t.name = s.name) : svcU (l.set j s) t = svcU l t := by
  apply List.ext_getElem
  · simp [svcU]
  intro i h1 h2
  simp only [svcU, jW, List.length_set] at h1
  simp only [svcU, List.getElem_map, List.getElem_set]
  by_cases e : j = i
  · subst e
    rw [if_pos rfl, ← hn, ← ht, sEq_self]; rfl
  · rw [if_neg e]
theorem finP_set {b : Book} {j : Nat} (hj : j < b.svcs.length) {s : Svc} (a : Act) (hn : s.name = b.svcs[j].name) : finP { b with svcs := b.svcs.set j s } s a = finP b s a := by
  have := svcU_set hj hn (t := { s with ver := b.now + 1, next := s.next + a.create }) rfl
  simp only [finP, this]
theorem act_d4 (j : Nat) (a : Act) (b : Book) (hj : j < b.svcs.length) (hc : b.cpys.length ≤ 200) : ∃ p, p ≤ b.cpys.length ∧ lim (ap14 i_StewBook_act.d4) (actS j a b [.i 0]) = some (.brk 6 (actS j a b [.i (p : Nat)])) ∧
    b.cpys.takeWhile (le b.svcs[j].name) = b.cpys.take p ∧ b.cpys.dropWhile (le b.svcs[j].name) = b.cpys.drop p := by
  have L : ∃ o, lim (ap14 i_StewBook_act.d4) (actS j a b [.i 0]) = some o ∧ ∃ p, p ≤ b.cpys.length ∧ o = .brk 6 (actS j a b [.i (p : Nat)]) ∧ (∀ i (h : i < b.cpys.length), i < p → le b.svcs[j].name b.cpys[i] = true) ∧ (p = b.cpys.length ∨ ∃ h : p < b.cpys.length, le b.svcs[j].name b.cpys[p] = false) := by
    refine lim_exs (fun i : Nat => actS j a b [.i (i : Nat)]) (fun i => b.cpys.length - i) (fun p => p ≤ b.cpys.length ∧ ∀ i (h : i < b.cpys.length), i < p → le b.svcs[j].name b.cpys[i] = true) _ 0 ⟨Nat.zero_le _, fun i _ h => by omega⟩ ?_
    rintro i ⟨hi, ha⟩
    have w1 : w64 ((i : Int) + 1) = ((i + 1 : Nat) : Int) := w64_nat (n := i + 1) (by omega)
    have g0 : (b.svcs.map Svc.e).getD j [] = b.svcs[j].e := getD_map_lt Svc.e hj []
    by_cases hlt : i < b.cpys.length
    · have p1 : (i : Int) < (b.cpys.length : Int) := by omega
      have g1 : (b.cpys.map Cpy.e).getD i [] = b.cpys[i].e := getD_map_lt Cpy.e hlt []
      have hle : (Op.bytesLess b.cpys[i].svc.toList b.svcs[j].name.toList || (b.cpys[i].svc.toList == b.svcs[j].name.toList)) = le b.svcs[j].name b.cpys[i] := rfl
      cases hq : le b.svcs[j].name b.cpys[i]
      · right
        refine ⟨_, ?_, ?_, i, hi, rfl, ha, .inr ⟨hlt, hq⟩⟩
        · simp only [actS, Act.e, BB, nils, rows, i_StewBook_act.d4, p1, g0, g1, show ∀ s : Svc, s.e.getD 0 .nil = .s s.name from fun _ => rfl, show ∀ c : Cpy, c.e.getD 0 .nil = .s c.svc from fun _ => rfl, hle, hq]
        · trivial
      · left
        refine ⟨i + 1, ?_, ⟨hlt, fun k hk hki => ?_⟩, by omega⟩
        · simp only [actS, Act.e, BB, nils, rows, i_StewBook_act.d4, p1, g0, g1, show ∀ s : Svc, s.e.getD 0 .nil = .s s.name from fun _ => rfl, show ∀ c : Cpy, c.e.getD 0 .nil = .s c.svc from fun _ => rfl, hle, hq, w1]
        · by_cases e : k = i
          · subst e; exact hq
          · exact ha k hk (by omega)
    · right
      have p1 : ¬ (i : Int) < (b.cpys.length : Int) := by omega
      refine ⟨_, ?_, ?_, i, hi, rfl, ha, .inl (by omega)⟩
      · simp only [actS, Act.e, BB, nils, rows, i_StewBook_act.d4, p1]
      · trivial
  obtain ⟨o, h1, p, hp, rfl, h2, h3⟩ := L
  exact ⟨p, hp, h1, tw_at _ _ _ h2 h3⟩
theorem act_d8 (j : Nat) (a : Act) (b : Book) (s : Svc) (hj : j < b.svcs.length) (hs : b.svcs[j] = s) (hok : ActOk b s a) (hb : Bnd b) (hu : UniqN b.svcs) :
    ∃ o, ap13 i_StewBook_act.d8 (actS j a b []) = some o ∧ Res o (bif decide ((b.cpys.length : Int) + a.create > 200) || (decide (s.next + a.create > 1000000) || b.now == 1000000) then .inl 7 else .inr (finP b s a)) := by
  have hc := hb.c
  have h1 := hok.now
  have h2 := hok.nx
  have h3 := hok.cr
  have g0 : (b.svcs.map Svc.e).getD j [] = s.e := by rw [getD_map_lt Svc.e hj [], hs]
  have w1 : w64 ((b.cpys.length : Int) + a.create) = (b.cpys.length : Int) + a.create := w64_of (by omega) (by omega)
  have w2 : w64 (s.next + a.create) = s.next + a.create := w64_of (by omega) (by omega)
  have w3 : w64 (b.now + 1) = b.now + 1 := w64_of (by omega) (by omega)
  have p0 : (0 : Int) ≤ ((j : Nat) : Int) := by omega
  by_cases q1 : (b.cpys.length : Int) + a.create > 200
  · refine ⟨.ret (actR 7 b), ?_, ?_⟩
    · simp only [actS, actR, Act.e, BB, nils, rows, i_StewBook_act.d8, w1, q1]
    · simp only [q1, BB, nils, rows, Bool.true_or]; exact ⟨b, rfl⟩
  by_cases q2 : s.next + a.create > 1000000
  · refine ⟨.ret (actR 7 b), ?_, ?_⟩
    · simp only [actS, actR, Act.e, BB, nils, rows, i_StewBook_act.d8, w1, q1, g0, show s.e.getD 7 .nil = .i s.next from rfl, w2, q2]
    · simp only [q1, q2, BB, nils, rows, Bool.true_or, Bool.false_or]; exact ⟨b, rfl⟩
  cases q3 : b.now == 1000000
  rotate_left
  · refine ⟨.ret (actR 7 b), ?_, ?_⟩
    · simp only [actS, actR, Act.e, BB, nils, rows, i_StewBook_act.d8, w1, q1, g0, show s.e.getD 7 .nil = .i s.next from rfl, w2, q2, q3]
    · simp only [q1, q2, BB, nils, rows, Bool.or_true]; exact ⟨b, rfl⟩
  have hss : (b.svcs.set j { s with ver := b.now + 1 })[j]'(by rw [List.length_set]; exact hj) = { s with ver := b.now + 1 } := List.getElem_set_self _
  obtain ⟨p, hp, e4, t1, t2⟩ := act_d4 j a ⟨b.now + 1, b.svcs.set j { s with ver := b.now + 1 }, b.cpys, b.brts⟩ (by simp only [List.length_set]; exact hj) hc
  simp only [hss] at t1 t2 hp
  have e7 := act_d7 j a b s p hj hs hok hb hp (fun i hi he => hu i j hi hj (by rw [hs]; exact he)) ⟨t1, t2⟩
  have s1 : setCs s.e 1 [.i (b.now + 1)] = ({ s with ver := b.now + 1 } : Svc).e := rfl
  have s2 : (b.svcs.map Svc.e).set j ({ s with ver := b.now + 1 } : Svc).e = (b.svcs.set j { s with ver := b.now + 1 }).map Svc.e := by rw [List.map_set]
  refine ⟨.ret (actR 0 (finP b s a)), ?_, ?_⟩
  · simp only [actS, Act.e, BB, nils, rows] at e4 e7
    simp only [actS, Act.e, BB, nils, rows, i_StewBook_act.d8, w1, q1, g0, show s.e.getD 7 .nil = .i s.next from rfl, w2, q2, q3, w3, s1, s2]
    rw [e4]
    simp only [BB, nils, rows]
    exact e7
  · simp only [q1, q2, BB, nils, rows, Bool.or_false, Res]
theorem act_d9 (j : Nat) (a : Act) (b : Book) (s : Svc) (n1 n2 n3 n4 : C) (nl : Int) (hj : j < b.svcs.length) (hs : b.svcs[j] = s) (hok : ActOk b s a) (hb : Bnd b) (hu : UniqN b.svcs) (hv : SvB s) (hnl : 0 ≤ nl ∧ nl ≤ 200) :
    ∃ o, ap18 i_StewBook_act.d9 ([.i (j : Nat), .i b.now, .l (b.brts.map Brt.e)] ++ a.e ++ [.l (b.svcs.map Svc.e), .i nl, n1, n2, n3, n4, .l (b.cpys.map Cpy.e)]) = some o ∧
      Res o (bif decide (a.create > 0) && (s.gone || decide (nl + a.create > s.want + s.over)) then .inl 6 else bif decide ((b.cpys.length : Int) + a.create > 200) || (decide (s.next + a.create > 1000000) || b.now == 1000000) then .inl 7 else .inr (finP b s a)) := by
  obtain ⟨o, h1, h2⟩ := act_d8 j a b s hj hs hok hb hu
  have h3 := hok.cr
  have hw := hv.w
  have ho := hv.o
  have g0 : (b.svcs.map Svc.e).getD j [] = s.e := by rw [getD_map_lt Svc.e hj [], hs]
  have w1 : w64 (nl + a.create) = nl + a.create := w64_of (by omega) (by omega)
  have w2 : w64 (s.want + s.over) = s.want + s.over := w64_of (by omega) (by omega)
  simp only [actS, Act.e, BB, nils, rows] at h1
  by_cases q1 : a.create > 0
  · cases hg : s.gone
    · by_cases q2 : nl + a.create > s.want + s.over
      · refine ⟨.ret (actR 6 b), ?_, ?_⟩
        · simp only [actR, Act.e, BB, nils, rows, i_StewBook_act.d9, q1, g0, show s.e.getD 2 .nil = .b s.gone from rfl, hg, show s.e.getD 4 .nil = .i s.want from rfl, show s.e.getD 6 .nil = .i s.over from rfl, w1, w2, q2]
        · simp only [q1, q2, BB, nils, rows, Bool.and_true, Bool.or_true]; exact ⟨b, rfl⟩
      · refine ⟨o, ?_, ?_⟩
        · simp only [actR, Act.e, BB, nils, rows, i_StewBook_act.d9, q1, g0, show s.e.getD 2 .nil = .b s.gone from rfl, hg, show s.e.getD 4 .nil = .i s.want from rfl, show s.e.getD 6 .nil = .i s.over from rfl, w1, w2, q2]
          exact h1
        · simp only [q2, BB, nils, rows, Bool.and_false, Bool.or_false]; exact h2
    · refine ⟨.ret (actR 6 b), ?_, ?_⟩
      · simp only [actR, Act.e, BB, nils, rows, i_StewBook_act.d9, q1, g0, show s.e.getD 2 .nil = .b s.gone from rfl, hg]
      · simp only [q1, BB, nils, rows, Bool.and_true, Bool.true_or]; exact ⟨b, rfl⟩
  · refine ⟨o, ?_, ?_⟩
    · simp only [actR, Act.e, BB, nils, rows, i_StewBook_act.d9, q1]
      exact h1
    · simp only [q1, BB, nils, rows, Bool.false_and]; exact h2
theorem act_d11 (j : Nat) (a : Act) (b : Book) (s : Svc) (hj : j < b.svcs.length) (hs : b.svcs[j] = s) (hok : ActOk b s a) (hb : Bnd b) (hu : UniqN b.svcs) (hv : SvB s) (hsc : a.scale = true → 0 ≤ a.want ∧ a.want ≤ 10) :
    ∃ o, ap13 i_StewBook_act.d11 (actS j a b []) = some o ∧ Res o (actP2 b s a) := by
  have e1 := i_count_eq b s hb
  have g0 : (b.svcs.map Svc.e).getD j [] = s.e := by rw [getD_map_lt Svc.e hj [], hs]
  have p0 : (0 : Int) ≤ ((j : Nat) : Int) := by omega
  have c1 : cn (pLive s) b.cpys b.cpys.length = nL b s := cn_all _ _
  have c2 : cn (pEnd s) b.cpys b.cpys.length = cnt b (pEnd s) := cn_all _ _
  have hnl : 0 ≤ nL b s ∧ nL b s ≤ 200 := cnt_le b hb _
  have hne := cnt_le b hb (pEnd s)
  have w1 : w64 (nL b s + cnt b (pEnd s)) = nL b s + cnt b (pEnd s) := w64_of (by omega) (by omega)
  simp only [Book.e, CountE, c1, c2] at e1
  generalize cn (pReady s) b.cpys b.cpys.length = x1 at e1
  generalize cn (pOld s) b.cpys b.cpys.length = x2 at e1
  generalize cn (pFail s) b.cpys b.cpys.length = x3 at e1
  have d10 : ∃ o, ap18 i_StewBook_act.d10 ([.i (j : Nat), .i b.now, .l (b.brts.map Brt.e)] ++ a.e ++ [.l (b.svcs.map Svc.e), .i (nL b s), .i x1, .i x2, .i x3, .i (cnt b (pEnd s)), .l (b.cpys.map Cpy.e)]) = some o ∧
      Res o (bif a.scale && (s.per == 0 || !within a.want s.least s.most) then .inl 6 else actP3 b (scaled s a) a) := by
    cases hsl : a.scale
    · obtain ⟨o, h1, h2⟩ := act_d9 j a b s (.i x1) (.i x2) (.i x3) (.i (cnt b (pEnd s))) (nL b s) hj hs hok hb hu hv hnl
      refine ⟨o, ?_, ?_⟩
      · simp only [Act.e, BB, nils, rows, hsl] at h1
        simp only [Act.e, BB, nils, rows, i_StewBook_act.d10, hsl]
        exact h1
      · simp only [BB, nils, rows, Bool.false_and, scaled, hsl, actP3]
        exact h2
    · cases hp : s.per == 0
      · have ew := i_within_eq a.want s.least s.most
        cases hw : within a.want s.least s.most
        · rw [hw] at ew
          refine ⟨.ret (actR 6 b), ?_, ?_⟩
          · simp only [actR, Act.e, BB, nils, rows, i_StewBook_act.d10, hsl, g0, show s.e.getD 8 .nil = .i s.per from rfl, hp, show s.e.getD 9 .nil = .i s.least from rfl, show s.e.getD 10 .nil = .i s.most from rfl, ew]
          · simp only [BB, nils, rows, Bool.true_and, Bool.false_or]; exact ⟨b, rfl⟩
        · rw [hw] at ew
          have hsn : (scaled s a).name = b.svcs[j].name := by rw [scaled, hsl, hs]; rfl
          have hj2 : j < (b.svcs.set j (scaled s a)).length := by rw [List.length_set]; exact hj
          have hb2 : Bnd { b with svcs := b.svcs.set j (scaled s a) } := by
            refine ⟨by simp only [List.length_set]; exact hb.s, hb.c, hb.t, ⟨⟨fun x hx => ?_, hb.w.t⟩, hb.w.c⟩⟩
            rcases List.mem_or_eq_of_mem_set hx with q | q
            · exact hb.w.s x q
            · rw [q, hsn]; exact hb.w.s _ (List.getElem_mem hj)
          obtain ⟨o, h1, h2⟩ := act_d9 j a { b with svcs := b.svcs.set j (scaled s a) } (scaled s a) (.i x1) (.i x2) (.i x3) (.i (cnt b (pEnd s))) (nL b s) hj2 (List.getElem_set_self _)
            ⟨hok.now, by rw [scaled, hsl]; exact hok.nx, hok.cr⟩ hb2 (hu.set hj hsn) ⟨by rw [scaled, hsl]; exact hsc hsl, by rw [scaled, hsl]; exact hv.d, by rw [scaled, hsl]; exact hv.o⟩ hnl
          rw [finP_set hj a hsn] at h2
          refine ⟨o, ?_, ?_⟩
          · have s1 : setCs s.e 4 [.i a.want] = ({ s with want := a.want } : Svc).e := rfl
            have s2 : setCs ({ s with want := a.want } : Svc).e 12 [.i a.cool] = (scaled s a).e := by rw [scaled, hsl]; rfl
            have s3 : ((b.svcs.map Svc.e).set j ({ s with want := a.want } : Svc).e).getD j [] = ({ s with want := a.want } : Svc).e := by
              rw [List.getD_eq_getElem?_getD, List.getElem?_set_self (by rw [jW]; exact hj)]; rfl
            have s4 : ((b.svcs.map Svc.e).set j ({ s with want := a.want } : Svc).e).set j (scaled s a).e = (b.svcs.set j (scaled s a)).map Svc.e := by
              rw [List.set_set, List.map_set]
            simp only [Act.e, BB, nils, rows, hsl] at h1
            simp only [Act.e, BB, nils, rows, i_StewBook_act.d10, hsl, g0, show s.e.getD 8 .nil = .i s.per from rfl, hp, show s.e.getD 9 .nil = .i s.least from rfl, show s.e.getD 10 .nil = .i s.most from rfl, ew, s1, s2, s3, s4]
            exact h1
          · simp only [BB, nils, rows, Bool.and_false, Bool.or_false, actP3]
            have hnx : nL b (scaled s a) = nL b s := by rw [scaled, hsl]; rfl
            rw [hnx]
            exact h2
      · refine ⟨.ret (actR 6 b), ?_, ?_⟩
        · simp only [actR, Act.e, BB, nils, rows, i_StewBook_act.d10, hsl, g0, show s.e.getD 8 .nil = .i s.per from rfl, hp]
        · simp only [BB, nils, rows, Bool.true_and, Bool.true_or]; exact ⟨b, rfl⟩
  obtain ⟨o, h1, h2⟩ := d10
  simp only [Act.e, BB, nils, rows] at h1
  cases hd : a.drop
  · refine ⟨o, ?_, ?_⟩
    · rw [hd] at h1
      simp only [actS, Act.e, BB, nils, rows, i_StewBook_act.d11, g0, e1, hd]
      exact h1
    · simp only [actP2, hd, Bool.false_and, BB, nils, rows]; exact h2
  · cases hg : s.gone
    · refine ⟨.ret (actR 6 b), ?_, ?_⟩
      · simp only [actS, actR, Act.e, BB, nils, rows, i_StewBook_act.d11, g0, e1, hd, show s.e.getD 2 .nil = .b s.gone from rfl, hg]
      · simp only [actP2, hd, hg, BB, nils, rows, Bool.true_or, Bool.and_true]; exact ⟨b, rfl⟩
    · by_cases q : nL b s + cnt b (pEnd s) > 0
      · refine ⟨.ret (actR 6 b), ?_, ?_⟩
        · simp only [actS, actR, Act.e, BB, nils, rows, i_StewBook_act.d11, g0, e1, hd, show s.e.getD 2 .nil = .b s.gone from rfl, hg, w1, q]
        · simp only [actP2, hd, hg, q, BB, nils, rows, Bool.or_true, Bool.and_true]; exact ⟨b, rfl⟩
      · refine ⟨o, ?_, ?_⟩
        · rw [hd] at h1
          simp only [actS, Act.e, BB, nils, rows, i_StewBook_act.d11, g0, e1, hd, show s.e.getD 2 .nil = .b s.gone from rfl, hg, w1, q]
          exact h1
        · simp only [actP2, hd, hg, q, BB, nils, rows, Bool.or_false, Bool.and_false]; exact h2
end Go.Ev
namespace Go.Ev
theorem endsP_keep (s : Svc) : ∀ (l : List (Int × Int)) (b b1 : Book), endsP s l b = some b1 → Bnd b → b1.now = b.now ∧ b1.svcs = b.svcs ∧ b1.brts = b.brts ∧ b1.cpys.length = b.cpys.length ∧ Bnd b1
  | [], b, b1, h, hb => by obtain rfl := Option.some.inj h; exact ⟨rfl, rfl, rfl, rfl, hb⟩
  | e :: r, b, b1, h, hb => by
    rw [endsP] at h
    cases hm : mayB b s e.1 <;> rw [hm] at h
    · simp at h
    · obtain ⟨h1, h2, h3, h4, h5⟩ := endsP_keep s r (endB b s.name e.1) b1 h (endB_bnd hb _ _)
      exact ⟨h1, h2, h3, by rw [h4]; simp [endB], h5⟩
theorem valid_now {b : Book} (h : validB b = true) : 0 ≤ b.now ∧ b.now ≤ 1000000 := by
  simp only [validB, Bool.and_eq_true, within, decide_eq_true_eq] at h
  exact h.1.1.1.1.1.1
theorem valid_uniqN {b : Book} (h : validB b = true) : UniqN b.svcs := fun i k hi hk he => names_ne h hi hk he
theorem svcOk_next {s : Svc} {n : Int} (h : svcOk s n = true) : 1 ≤ s.next ∧ s.next ≤ 1000000 := by
  simp only [svcOk, Bool.and_eq_true, within, decide_eq_true_eq] at h
  exact h.1.1.1.1.1.2
theorem formed_facts {a : Act} (h : formedP a = true) : (0 ≤ a.create ∧ a.create ≤ 20) ∧ a.ends.length ≤ 200 ∧ (a.scale = true → 0 ≤ a.want ∧ a.want ≤ 10) := by
  simp only [formedP, Bool.and_eq_true, within, decide_eq_true_eq] at h
  refine ⟨h.1, by have := h.2.1; omega, fun hs => ?_⟩
  have := h.2.2.2.1
  rw [hs] at this
  simp only [jR, Bool.and_eq_true, decide_eq_true_eq] at this
  exact this.1
theorem i_act_eq (b : Book) (a : Act) (hb : Bnd b) (hv : validB b = true) : ∃ o, ap12 i_StewBook_act.d14 (a.e ++ b.e) = some o ∧ Res o (applyP b a) := by
  have e1 := i_formed_eq a
  have e2 := i_servicev_eq b a.svc hb
  simp only [Book.e, Act.e, BB, nils, rows] at e1 e2
  simp only [i_StewBook_act.d14, Book.e, Act.e, BB, nils, rows, e1, applyP]
  cases hf : formedP a <;> simp only [BB, nils, rows]
  · exact ⟨_, rfl, b, rfl⟩
  obtain ⟨hcr, hel, hsw⟩ := formed_facts hf
  simp only [e2, BB, nils, rows]
  rcases svc_at b a.svc with ⟨h1, h2⟩ | ⟨j, hj, h1, h2, h3⟩
  · have q : (-1 : Int) < 0 := by omega
    simp only [h1, h2, q, BB, nils, rows]
    exact ⟨_, rfl, b, rfl⟩
  · have q : ¬ ((j : Nat) : Int) < 0 := by omega
    simp only [h1, h2, q, BB, nils, rows]
    have e3 := act_d1 j a b hb hel
    simp only [actS, Act.e, BB, nils, rows] at e3
    rw [e3]
    cases hx : a.ends.all fun e => (cpyOf b a.svc e.1).isSome <;> simp only [BB, nils, rows]
    · exact ⟨_, rfl, b, rfl⟩
    have g0 : (b.svcs.map Svc.e).getD j [] = b.svcs[j].e := getD_map_lt Svc.e hj []
    have p0 : (0 : Int) ≤ ((j : Nat) : Int) := by omega
    simp only [i_StewBook_act.d13, BB, nils, rows, g0, show ∀ s : Svc, s.e.getD 1 .nil = .i s.ver from fun _ => rfl, bne]
    cases hvr : b.svcs[j].ver == a.seen <;> simp only [BB, nils, rows]
    · exact ⟨_, rfl, b, rfl⟩
    have e4 := act_d2 j a b hb hel hx
    simp only [actS, Act.e, BB, nils, rows] at e4
    rw [e4]
    cases hy : a.ends.all (verOk b a) <;> simp only [BB, nils, rows]
    · exact ⟨_, rfl, b, rfl⟩
    have hok := validB_svc hv _ (List.getElem_mem hj)
    have hnm : b.svcs[j].name = a.svc := sEq_eq h3
    obtain ⟨o, e5, h5⟩ := act_d3 j a b hj hnm (svb hok) hb (valid_uniqC hv) (valid_now hv) hel
    simp only [actS, Act.e, BB, nils, rows] at e5
    simp only [i_StewBook_act.d12, BB, nils, rows]
    rw [e5]
    cases he : endsP b.svcs[j] a.ends b with
    | none =>
      rw [he] at h5
      obtain ⟨b', rfl⟩ := h5
      exact ⟨_, rfl, b', rfl⟩
    | some b1 =>
      rw [he] at h5
      simp only at h5
      obtain ⟨k1, k2, k3, k4, k5⟩ := endsP_keep _ _ _ _ he hb
      have hj1 : j < b1.svcs.length := by rw [k2]; exact hj
      have hsj : b1.svcs[j] = b.svcs[j] := by simp only [k2]
      obtain ⟨o', e6, h6⟩ := act_d11 j a b1 b.svcs[j] hj1 hsj ⟨by rw [k1]; exact valid_now hv, by have := svcOk_next hok; omega, hcr⟩ k5 (by rw [k2]; exact valid_uniqN hv) (svb hok) hsw
      refine ⟨o', ?_, h6⟩
      simp only [actS, Act.e, BB, nils, rows] at e6
      rw [h5]
      simp only [actS, Act.e, BB, nils, rows]
      exact e6
theorem apply_ne (b : Book) (a : Act) (c : Int) (h : applyP b a = .inl c) : (c != 0) = true := by
  rw [applyP] at h
  cases hf : formedP a <;> rw [hf] at h <;> simp only [ja, jZ, jR, jS] at h
  · obtain rfl := Sum.inl.inj h; rfl
  split at h
  · obtain rfl := Sum.inl.inj h; rfl
  · cases h1 : (a.ends.all fun e => (cpyOf b a.svc e.1).isSome) <;> rw [h1] at h <;> simp only [ja, jZ, jR, jS] at h
    · obtain rfl := Sum.inl.inj h; rfl
    rename_i s _
    cases h2 : s.ver != a.seen <;> rw [h2] at h <;> simp only [jR, jS] at h
    rotate_left
    · obtain rfl := Sum.inl.inj h; rfl
    cases h3 : a.ends.all (verOk b a) <;> rw [h3] at h <;> simp only [ja, jZ, jR, jS] at h
    · obtain rfl := Sum.inl.inj h; rfl
    split at h
    · obtain rfl := Sum.inl.inj h; rfl
    · rename_i b1 _
      rw [actP2] at h
      cases h4 : (a.drop && (!s.gone || decide (nL b1 s + cnt b1 (pEnd s) > 0))) <;> rw [h4] at h <;> simp only [jR, jS] at h
      rotate_left
      · obtain rfl := Sum.inl.inj h; rfl
      cases h5 : (a.scale && (s.per == 0 || !within a.want s.least s.most)) <;> rw [h5] at h <;> simp only [jR, jS] at h
      rotate_left
      · obtain rfl := Sum.inl.inj h; rfl
      rw [actP3] at h
      generalize (decide (a.create > 0) && ((scaled s a).gone || decide (nL b1 (scaled s a) + a.create > (scaled s a).want + (scaled s a).over))) = q1 at h
      generalize (decide ((b1.cpys.length : Int) + a.create > 200) || (decide ((scaled s a).next + a.create > 1000000) || b1.now == 1000000)) = q2 at h
      cases q1 <;> simp only [jR, jS] at h
      rotate_left
      · obtain rfl := Sum.inl.inj h; rfl
      cases q2 <;> simp only [jR, jS] at h
      · simp at h
      · obtain rfl := Sum.inl.inj h; rfl
def applyR (b : Book) (a : Act) : Book × Int := match applyP b a with | .inl c => (b, c) | .inr b' => (b', 0)
theorem i_StewApply_eq (b : Book) (a : Act) (hb : Big b) : i_StewApply (b.e ++ a.e) = some (bif validB b then (applyR b a).1.r2 (applyR b a).2 else Book.nil.r2 1) := by
  have hsm : Small b := ⟨by have := hb.s; omega, by have := hb.c; omega, by have := hb.t; omega⟩
  have e1 := i_StewValid_eq b hsm hb.w.toNames
  simp only [Book.e, BB, nils, rows] at e1
  simp only [i_StewApply, i_StewApply.d1, Book.e, Act.e, BB, nils, rows, e1]
  cases hv : validB b <;> simp only [BB, nils, rows]
  · rfl
  have hbn := validB_bnd hv hb.w
  have e2 := i_clone_eq b hbn
  obtain ⟨o, e3, h3⟩ := i_act_eq b a hbn hv
  simp only [Book.e, Act.e, BB, nils, rows] at e2 e3
  simp only [e2, BB, nils, rows, i_StewBook_act, e3, applyR]
  cases hp : applyP b a with
  | inl c =>
    rw [hp] at h3
    obtain ⟨b', rfl⟩ := h3
    have hc := apply_ne b a c hp
    simp only [BB, nils, rows, actR, hc, e2, Book.r2]
  | inr b' =>
    rw [hp] at h3
    simp only [Res] at h3
    subst h3
    simp only [BB, nils, rows, actR, bne_self_eq_false, Book.r2]
end Go.Ev
namespace Go.Ev
structure Val (b : Book) : Prop where
  n : 0 ≤ b.now ∧ b.now ≤ 1000000
  ls : b.svcs.length ≤ 8
  lc : b.cpys.length ≤ 200
  lt : b.brts.length ≤ 6
  so : ∀ s, s ∈ b.svcs → svcOk s b.now = true
  su : b.svcs.Pairwise fun s t => sLt s.name t.name = true
  to : ∀ t, t ∈ b.brts → nameOk t.name = true
  tu : b.brts.Pairwise fun s t => sLt s.name t.name = true
  co : ∀ c, c ∈ b.cpys → cpyOk b c = true
  cu : b.cpys.Pairwise fun c d => cLt c d = true
theorem chain_iff {α : Type} {ok : α → Bool} {lt : α → α → Bool} {l : List α} (ht : ∀ a b c, lt a b = true → lt b c = true → lt a c = true) :
    chainOk ok lt l = true ↔ (∀ x, x ∈ l → ok x = true) ∧ l.Pairwise fun a b => lt a b = true := by
  constructor
  · intro h
    refine ⟨chainOk_mem h, List.pairwise_iff_getElem.2 fun i k hi hk hik => ?_⟩
    obtain ⟨d, rfl⟩ : ∃ d, k = i + d + 1 := ⟨k - i - 1, by omega⟩
    exact chain_lt h ht d i hk
  · rintro ⟨h1, h2⟩
    rw [chainOk, List.all_eq_true]
    rintro ⟨x, i⟩ hx
    have hx' := List.mk_mem_zipIdx_iff_getElem?.1 hx
    obtain ⟨hi, hxe⟩ := List.getElem?_eq_some_iff.1 hx'
    simp only [Bool.and_eq_true]
    refine ⟨h1 x (hxe ▸ List.getElem_mem hi), ?_⟩
    cases i with
    | zero => rfl
    | succ k =>
      have hk : k < l.length := by omega
      have := (List.pairwise_iff_getElem.1 h2) k (k + 1) hk hi (by omega)
      simp only [prevOk, Nat.add_sub_cancel, List.getElem?_eq_getElem hk, hxe ▸ this, Bool.or_true]
theorem val_iff (b : Book) : validB b = true ↔ Val b := by
  have t1 : ∀ a b c : Svc, sLt a.name b.name = true → sLt b.name c.name = true → sLt a.name c.name = true := fun _ _ _ => sLt_trans
  have t2 : ∀ a b c : Brt, sLt a.name b.name = true → sLt b.name c.name = true → sLt a.name c.name = true := fun _ _ _ => sLt_trans
  simp only [validB, Bool.and_eq_true, within, decide_eq_true_eq]
  rw [chain_iff (lt := fun s t : Svc => sLt s.name t.name) t1, chain_iff (lt := fun s t : Brt => sLt s.name t.name) t2, chain_iff (lt := cLt) cLt_trans]
  constructor
  · rintro ⟨⟨⟨⟨⟨⟨h1, h2⟩, h3⟩, h4⟩, h5, h6⟩, h7, h8⟩, h9, h10⟩
    exact ⟨h1, h2, h3, h4, h5, h6, h7, h8, h9, h10⟩
  · rintro ⟨h1, h2, h3, h4, h5, h6, h7, h8, h9, h10⟩
    exact ⟨⟨⟨⟨⟨⟨h1, h2⟩, h3⟩, h4⟩, h5, h6⟩, h7, h8⟩, h9, h10⟩
structure SOk (s : Svc) (n : Int) : Prop where
  nm : nameOk s.name = true
  v : 1 ≤ s.ver ∧ s.ver ≤ n
  i : 1 ≤ s.image ∧ s.image ≤ 1000000
  x : 1 ≤ s.next ∧ s.next ≤ 1000000
  w : 0 ≤ s.want ∧ s.want ≤ 10
  d : 0 ≤ s.down ∧ s.down ≤ 10
  o : 0 ≤ s.over ∧ s.over ≤ 10
  do0 : s.down + s.over ≠ 0
  p : (s.per = 0 ∧ s.least = 0 ∧ s.most = 0 ∧ s.load = 0 ∧ s.cool = 0) ∨ (s.per ≠ 0 ∧ (0 ≤ s.per ∧ s.per ≤ 1000000) ∧ (0 ≤ s.load ∧ s.load ≤ 1000000) ∧ (0 ≤ s.least ∧ s.least ≤ 10) ∧ (s.least ≤ s.most ∧ s.most ≤ 10) ∧ (0 ≤ s.cool ∧ s.cool ≤ 3))
theorem svcOk_iff (s : Svc) (n : Int) : svcOk s n = true ↔ SOk s n := by
  constructor
  · intro h
    by_cases hp : s.per = 0
    · have e : (s.per == 0) = true := by simp [hp]
      simp only [svcOk, e, jR, Bool.and_eq_true, within, decide_eq_true_eq, beq_iff_eq, Bool.not_eq_true', beq_eq_false_iff_ne] at h
      obtain ⟨⟨⟨⟨⟨⟨⟨⟨h1, h2⟩, h3⟩, h4⟩, h5⟩, h6⟩, h7⟩, h8⟩, h9⟩ := h
      rw [w64_of (by omega) (by omega)] at h8
      exact ⟨h1, h2, h3, h4, h5, h6, h7, h8, .inl ⟨hp, h9⟩⟩
    · have e : (s.per == 0) = false := by simp [hp]
      simp only [svcOk, e, jS, Bool.and_eq_true, within, decide_eq_true_eq, beq_iff_eq, Bool.not_eq_true', beq_eq_false_iff_ne] at h
      obtain ⟨⟨⟨⟨⟨⟨⟨⟨h1, h2⟩, h3⟩, h4⟩, h5⟩, h6⟩, h7⟩, h8⟩, h9⟩ := h
      rw [w64_of (by omega) (by omega)] at h8
      exact ⟨h1, h2, h3, h4, h5, h6, h7, h8, .inr ⟨hp, h9⟩⟩
  · rintro ⟨h1, h2, h3, h4, h5, h6, h7, h8, h9⟩
    have hw : w64 (s.down + s.over) = s.down + s.over := w64_of (by omega) (by omega)
    rcases h9 with ⟨hp, h9⟩ | ⟨hp, h9⟩
    · have e : (s.per == 0) = true := by simp [hp]
      simp only [svcOk, e, jR, Bool.and_eq_true, within, decide_eq_true_eq, beq_iff_eq, Bool.not_eq_true', beq_eq_false_iff_ne, hw]
      exact ⟨⟨⟨⟨⟨⟨⟨⟨h1, h2⟩, h3⟩, h4⟩, h5⟩, h6⟩, h7⟩, h8⟩, h9⟩
    · have e : (s.per == 0) = false := by simp [hp]
      simp only [svcOk, e, jS, Bool.and_eq_true, within, decide_eq_true_eq, beq_iff_eq, Bool.not_eq_true', beq_eq_false_iff_ne, hw]
      exact ⟨⟨⟨⟨⟨⟨⟨⟨h1, h2⟩, h3⟩, h4⟩, h5⟩, h6⟩, h7⟩, h8⟩, h9⟩
def atOk (b : Book) (c : Cpy) : Bool := bif c.state == 1 then sEq c.berth (bs #[]) else (brtOf b c.berth).isSome
structure COk (b : Book) (c : Cpy) (s : Svc) : Prop where
  f : svcOf b c.svc = some s
  n : 1 ≤ c.num ∧ c.num ≤ s.next - 1
  v : 1 ≤ c.ver ∧ c.ver ≤ b.now
  i : 1 ≤ c.image ∧ c.image ≤ 1000000
  st : 1 ≤ c.state ∧ c.state ≤ 4
  b : atOk b c = true
theorem cpyOk_iff (b : Book) (c : Cpy) (n : Int) (hs : ∀ s, s ∈ b.svcs → svcOk s n = true) : cpyOk b c = true ↔ ∃ s, COk b c s := by
  rw [cpyOk]
  cases h : svcOf b c.svc with
  | none => simp only [Bool.false_eq_true, false_iff]; rintro ⟨s, hk⟩; rw [hk.f] at h; simp at h
  | some s =>
    have hx := (svcOk_iff s n).1 (hs s (List.mem_of_find?_eq_some h))
    have hw : w64 (s.next - 1) = s.next - 1 := by have := hx.x; exact w64_of (by omega) (by omega)
    simp only [Bool.and_eq_true, within, decide_eq_true_eq, hw]
    constructor
    · rintro ⟨⟨⟨⟨h1, h2⟩, h3⟩, h4⟩, h5⟩
      exact ⟨s, h, h1, h2, h3, h4, h5⟩
    · rintro ⟨t, h0, h1, h2, h3, h4, h5⟩
      rw [h] at h0
      obtain rfl := Option.some.inj h0
      exact ⟨⟨⟨⟨h1, h2⟩, h3⟩, h4⟩, h5⟩
theorem Val.cok {b : Book} (h : Val b) {c : Cpy} (hc : c ∈ b.cpys) : ∃ s, COk b c s := (cpyOk_iff b c b.now h.so).1 (h.co c hc)
theorem Val.later {b : Book} (h : Val b) (hn : b.now + 1 ≤ 1000000) : Val { b with now := b.now + 1 } := by
  have so' : ∀ s, s ∈ b.svcs → svcOk s (b.now + 1) = true := by
    intro s hs
    have := (svcOk_iff _ _).1 (h.so s hs)
    exact (svcOk_iff _ _).2 { this with v := by have := this.v; omega }
  refine ⟨by have := h.n; simp only; omega, h.ls, h.lc, h.lt, so', h.su, h.to, h.tu, fun c hc => ?_, h.cu⟩
  obtain ⟨s, hs⟩ := h.cok hc
  exact (cpyOk_iff { b with now := b.now + 1 } c (b.now + 1) so').2 ⟨s, hs.f, hs.n, by have := hs.v; simp only; omega, hs.i, hs.st, hs.b⟩
theorem endM_key (b : Book) (nm : Str) (n : Int) (c : Cpy) : (endM b nm n c).svc = c.svc ∧ (endM b nm n c).num = c.num ∧ (endM b nm n c).image = c.image ∧ (endM b nm n c).state = c.state ∧ (endM b nm n c).berth = c.berth := by
  rw [endM]; cases (sEq c.svc nm && c.num == n) <;> exact ⟨rfl, rfl, rfl, rfl, rfl⟩
theorem cLt_key {a b c d : Cpy} (h1 : a.svc = c.svc) (h2 : a.num = c.num) (h3 : b.svc = d.svc) (h4 : b.num = d.num) : cLt a b = cLt c d := by rw [cLt, cLt, h1, h2, h3, h4]
theorem end_val {b : Book} (h : Val { b with now := b.now + 1 }) (nm : Str) (n : Int) (h0 : 0 ≤ b.now) : Val { endB b nm n with now := b.now + 1 } := by
  refine ⟨h.n, h.ls, by simp only [endB, jW]; exact h.lc, h.lt, h.so, h.su, h.to, h.tu, fun c hc => ?_, ?_⟩
  · simp only [endB] at hc
    obtain ⟨d, hd, rfl⟩ := List.mem_map.1 hc
    obtain ⟨s, hs⟩ := h.cok hd
    obtain ⟨k1, k2, k3, k4, k5⟩ := endM_key b nm n d
    refine (cpyOk_iff _ _ (b.now + 1) h.so).2 ⟨s, by rw [k1]; exact hs.f, by rw [k2]; exact hs.n, ?_, by rw [k3]; exact hs.i, by rw [k4]; exact hs.st, by have := hs.b; rw [atOk] at this ⊢; rw [k4, k5]; exact this⟩
    have := hs.v
    rw [endM]
    cases (sEq d.svc nm && d.num == n)
    · exact this
    · exact ⟨by simp only [jR]; omega, by simp only [jR, endB]; omega⟩
  · simp only [endB]
    rw [List.pairwise_map]
    refine h.cu.imp fun {c d} hcd => ?_
    obtain ⟨k1, k2, _⟩ := endM_key b nm n c
    obtain ⟨k3, k4, _⟩ := endM_key b nm n d
    rw [cLt_key k1 k2 k3 k4]; exact hcd
theorem ends_val (s : Svc) : ∀ (l : List (Int × Int)) (b b1 : Book), endsP s l b = some b1 → Val { b with now := b.now + 1 } → 0 ≤ b.now → Val { b1 with now := b1.now + 1 } ∧ b1.now = b.now ∧ b1.svcs = b.svcs ∧ b1.brts = b.brts ∧ b1.cpys.length = b.cpys.length
  | [], b, b1, h, hv, _ => by obtain rfl := Option.some.inj h; exact ⟨hv, rfl, rfl, rfl, rfl⟩
  | e :: r, b, b1, h, hv, h0 => by
    rw [endsP] at h
    cases hm : mayB b s e.1 <;> rw [hm] at h
    · simp at h
    · obtain ⟨h1, h2, h3, h4, h5⟩ := ends_val s r (endB b s.name e.1) b1 h (end_val hv _ _ h0) h0
      exact ⟨h1, h2, h3, h4, by rw [h5]; simp [endB]⟩
end Go.Ev
namespace Go.Ev
theorem bytesLess_tri : ∀ (a b : List UInt8), Op.bytesLess a b = true ∨ a = b ∨ Op.bytesLess b a = true
  | [], [] => .inr (.inl rfl)
  | [], _ :: _ => .inl rfl
  | _ :: _, [] => .inr (.inr rfl)
  | x :: r, y :: t => by
    simp only [Op.bytesLess]
    rcases Nat.lt_trichotomy x.toNat y.toNat with h | h | h
    · left; have : x < y := h; simp [this]
    · have e : x = y := UInt8.toNat_inj.1 h
      subst e
      rcases bytesLess_tri r t with h1 | h1 | h1
      · left; simp [h1]
      · right; left; rw [h1]
      · right; right; simp [h1]
    · right; right; have : y < x := h; simp [this]
theorem le_false {nm : Str} {c : Cpy} (h : le nm c = false) : sLt nm c.svc = true := by
  simp only [le, Bool.or_eq_false_iff] at h
  rcases bytesLess_tri c.svc.toList nm.toList with h1 | h1 | h1
  · rw [sLt, h1] at h; simp at h
  · have := h.2; simp [sEq, h1] at this
  · exact h1
theorem le_back {nm : Str} {c d : Cpy} (h : le nm d = true) (hcd : cLt c d = true) : le nm c = true := by
  simp only [le, Bool.or_eq_true] at h ⊢
  simp only [cLt, Bool.or_eq_true, Bool.and_eq_true] at hcd
  rcases hcd with h1 | ⟨h1, _⟩
  · left
    rcases h with h | h
    · exact sLt_trans h1 h
    · rw [← sEq_eq h]; exact h1
  · rw [sEq_eq h1]; exact h
theorem drop_le {nm : Str} : ∀ {l : List Cpy}, (l.Pairwise fun c d => cLt c d = true) → ∀ c, c ∈ l.dropWhile (le nm) → le nm c = false
  | [], _, c, hc => by simp at hc
  | x :: r, h, c, hc => by
    rw [List.pairwise_cons] at h
    cases hx : le nm x with
    | true => rw [List.dropWhile_cons_of_pos hx] at hc; exact drop_le h.2 c hc
    | false =>
      rw [List.dropWhile_cons_of_neg (by simp [hx])] at hc
      rcases List.mem_cons.1 hc with rfl | hc
      · exact hx
      · cases hq : le nm c with
        | false => rfl
        | true => rw [le_back hq (h.1 c hc)] at hx; simp at hx
theorem take_le {nm : Str} : ∀ {l : List Cpy} (c : Cpy), c ∈ l.takeWhile (le nm) → le nm c = true ∧ c ∈ l
  | [], c, hc => by simp at hc
  | x :: r, c, hc => by
    cases hx : le nm x with
    | true =>
      rw [List.takeWhile_cons_of_pos hx] at hc
      rcases List.mem_cons.1 hc with rfl | hc
      · exact ⟨hx, List.mem_cons_self ..⟩
      · exact ⟨(take_le c hc).1, List.mem_cons_of_mem _ (take_le c hc).2⟩
    | false => rw [List.takeWhile_cons_of_neg (by simp [hx])] at hc; simp at hc
theorem find_svcU_ne {nm : Str} {s : Svc} (h : sEq s.name nm = false) : ∀ (l : List Svc), (svcU l s).find? (fun t => sEq t.name nm) = l.find? fun t => sEq t.name nm
  | [] => rfl
  | x :: r => by
    have ih := find_svcU_ne h r
    rw [svcU, List.map_cons]
    cases hx : sEq x.name s.name with
    | true =>
      have : sEq x.name nm = false := by rw [sEq_eq hx]; exact h
      rw [jR, List.find?_cons_of_neg (by simp [h]), List.find?_cons_of_neg (by simp [this])]; exact ih
    | false =>
      rw [jS, List.find?_cons, List.find?_cons]
      cases sEq x.name nm
      · exact ih
      · rfl
theorem find_svcU_eq {s : Svc} : ∀ (l : List Svc) (t : Svc), l.find? (fun t => sEq t.name s.name) = some t → (svcU l s).find? (fun t => sEq t.name s.name) = some s
  | [], t, h => by simp at h
  | x :: r, t, h => by
    rw [svcU, List.map_cons]
    cases hx : sEq x.name s.name with
    | true => rw [jR, List.find?_cons_of_pos (by exact sEq_self _)]
    | false =>
      rw [List.find?_cons_of_neg (by simp [hx])] at h
      rw [jS, List.find?_cons_of_neg (by simp [hx])]
      exact find_svcU_eq r t h
theorem find_drop {nm a : Str} (h : sEq a nm = false) : ∀ (l : List Svc), (l.filter fun t => !sEq t.name a).find? (fun t => sEq t.name nm) = l.find? fun t => sEq t.name nm
  | [] => rfl
  | x :: r => by
    have ih := find_drop h r
    cases hx : sEq x.name a with
    | true =>
      have : sEq x.name nm = false := by rw [sEq_eq hx]; exact h
      rw [List.filter_cons_of_neg (by simp [hx]), List.find?_cons_of_neg (by simp [this])]; exact ih
    | false =>
      rw [List.filter_cons_of_pos (by simp [hx]), List.find?_cons, List.find?_cons]
      cases sEq x.name nm
      · exact ih
      · rfl
theorem sEq_sym {a b : Str} (h : sEq a b = false) : sEq b a = false := by
  cases hq : sEq b a with
  | false => rfl
  | true => rw [sEq_eq hq, sEq_self] at h; exact h
theorem fin_svc_ne {b : Book} {s : Svc} {a : Act} (hn : s.name = a.svc) {nm : Str} (h : sEq a.svc nm = false) : svcOf (finP b s a) nm = svcOf b nm := by
  have h1 := find_svcU_ne (s := { s with ver := b.now + 1, next := s.next + a.create }) (nm := nm) (by simp only [hn]; exact h) b.svcs
  rw [svcOf, svcOf, finP]
  cases a.drop
  · exact h1
  · exact (find_drop h _).trans h1
theorem fin_svc_eq {b : Book} {s t : Svc} {a : Act} (hn : s.name = a.svc) (hd : a.drop = false) (h : svcOf b a.svc = some t) : svcOf (finP b s a) a.svc = some { s with ver := b.now + 1, next := s.next + a.create } := by
  rw [svcOf, finP, hd, ← hn]
  rw [svcOf, ← hn] at h
  exact find_svcU_eq (s := { s with ver := b.now + 1, next := s.next + a.create }) b.svcs t h
theorem fin_at {b : Book} {s : Svc} {a : Act} (c : Cpy) : atOk (finP b s a) c = atOk b c := rfl
theorem mem_news {s : Svc} {v : Int} {n : Nat} {c : Cpy} (h : c ∈ news s v n) : ∃ k, k < n ∧ c = newC s v k := by
  rw [news] at h
  obtain ⟨k, hk, rfl⟩ := List.mem_map.1 h
  exact ⟨k, List.mem_range.1 hk, rfl⟩
theorem fin_val {b : Book} {s t : Svc} {a : Act} (hV : Val { b with now := b.now + 1 }) (h0 : 0 ≤ b.now) (ht : svcOf b a.svc = some t) (hn : s.name = a.svc) (hx : s.next = t.next) (hi : s.image = t.image) (hcr : 0 ≤ a.create) (hlen : (b.cpys.length : Int) + a.create ≤ 200)
    (hs : SOk { s with ver := b.now + 1, next := s.next + a.create } (b.now + 1)) (hd : a.drop = true → a.create = 0 ∧ ∀ c, c ∈ b.cpys → sEq a.svc c.svc = false) : Val (finP b s a) := by
  have tm : t ∈ b.svcs := List.mem_of_find?_eq_some ht
  have tk := (svcOk_iff _ _).1 (hV.so t tm)
  have htw := List.takeWhile_append_dropWhile (p := le s.name) (l := b.cpys)
  have hso : ∀ x, x ∈ (finP b s a).svcs → svcOk x (b.now + 1) = true := by
    intro x hx
    have hx' : x ∈ svcU b.svcs { s with ver := b.now + 1, next := s.next + a.create } := by
      simp only [finP] at hx
      cases hdd : a.drop <;> rw [hdd] at hx
      · exact hx
      · exact (List.mem_filter.1 hx).1
    obtain ⟨y, hy, rfl⟩ := List.mem_map.1 hx'
    cases sEq y.name ({ s with ver := b.now + 1, next := s.next + a.create } : Svc).name
    · exact hV.so y hy
    · exact (svcOk_iff _ _).2 hs
  have hcok : ∀ c, c ∈ b.cpys → cpyOk (finP b s a) c = true := by
    intro c hc
    obtain ⟨u, hu⟩ := hV.cok hc
    cases he : sEq a.svc c.svc
    · exact (cpyOk_iff _ _ (b.now + 1) hso).2 ⟨u, by rw [fin_svc_ne hn he]; exact hu.f, hu.n, hu.v, hu.i, hu.st, hu.b⟩
    · have hdf : a.drop = false := by
        cases hdd : a.drop with
        | false => rfl
        | true => rw [(hd hdd).2 c hc] at he; simp at he
      have e := sEq_eq he
      have hut : u = t := by have := hu.f; rw [← e] at this; exact Option.some.inj (this.symm.trans ht)
      have hn' := hu.n
      rw [hut] at hn'
      exact (cpyOk_iff _ _ (b.now + 1) hso).2 ⟨_, by rw [← e]; exact fin_svc_eq hn hdf ht, by simp only; omega, hu.v, hu.i, hu.st, hu.b⟩
  refine ⟨hV.n, ?_, ?_, hV.lt, hso, ?_, hV.to, hV.tu, ?_, ?_⟩
  · have : (svcU b.svcs { s with ver := b.now + 1, next := s.next + a.create }).length = b.svcs.length := by simp [svcU]
    have hl := hV.ls
    simp only at hl
    simp only [finP]
    cases a.drop
    · simp only [jS]; omega
    · simp only [jR]
      exact Nat.le_trans (List.length_filter_le _ _) (by omega)
  · have hl : (b.cpys.takeWhile (le s.name)).length + (b.cpys.dropWhile (le s.name)).length = b.cpys.length := by rw [← List.length_append, htw]
    simp only [finP, List.length_append, news, jW, List.length_range]
    omega
  · have h1 : (svcU b.svcs { s with ver := b.now + 1, next := s.next + a.create }).Pairwise fun s t => sLt s.name t.name = true := by
      rw [svcU, List.pairwise_map]
      refine hV.su.imp fun {x y} hxy => ?_
      have k : ∀ z : Svc, (bif sEq z.name ({ s with ver := b.now + 1, next := s.next + a.create } : Svc).name then ({ s with ver := b.now + 1, next := s.next + a.create } : Svc) else z).name = z.name := by
        intro z
        cases hz : sEq z.name ({ s with ver := b.now + 1, next := s.next + a.create } : Svc).name
        · rfl
        · exact (sEq_eq hz).symm
      rw [k, k]; exact hxy
    simp only [finP]
    cases a.drop
    · exact h1
    · exact h1.filter _
  · intro c hc
    simp only [finP] at hc
    rcases List.mem_append.1 hc with hc | hc
    · rcases List.mem_append.1 hc with hc | hc
      · exact hcok c (take_le c hc).2
      · obtain ⟨k, hk, rfl⟩ := mem_news hc
        have hdf : a.drop = false := by
          cases hdd : a.drop with
          | false => rfl
          | true => have := (hd hdd).1; omega
        have hsi := hs.i
        have hsx := hs.x
        have htx := tk.x
        simp only at hsi hsx
        refine (cpyOk_iff _ _ (b.now + 1) hso).2 ⟨{ s with ver := b.now + 1, next := s.next + a.create }, ?_, ?_, ?_, hsi, by simp only [newC]; omega, ?_⟩
        · have := fin_svc_eq hn hdf ht
          simp only [newC]; rw [← this, hn]
        · simp only [newC]; omega
        · simp only [newC, finP]; omega
        · simp only [atOk, newC, beq_self_eq_true, jR, sEq_self]
    · exact hcok c ((List.dropWhile_suffix _).subset hc)
  · have hcu : (b.cpys.takeWhile (le s.name) ++ b.cpys.dropWhile (le s.name)).Pairwise fun c d => cLt c d = true := by rw [htw]; exact hV.cu
    rw [List.pairwise_append] at hcu
    obtain ⟨k1, k2, k3⟩ := hcu
    simp only [finP]
    rw [List.pairwise_append, List.pairwise_append]
    have nw : (news s (b.now + 1) a.create.toNat).Pairwise fun c d => cLt c d = true := by
      rw [news, List.pairwise_map]
      refine List.pairwise_lt_range.imp fun {i k} hik => ?_
      have : (s.next + (i : Int) < s.next + (k : Int)) := by omega
      simp only [cLt, newC, sEq_self, sLt_irr, Bool.false_or, Bool.true_and]
      exact decide_eq_true this
    have ln : ∀ c, c ∈ b.cpys.takeWhile (le s.name) → ∀ d, d ∈ news s (b.now + 1) a.create.toNat → cLt c d = true := by
      intro c hc d hd'
      obtain ⟨hl, hm⟩ := take_le c hc
      obtain ⟨k, hk, rfl⟩ := mem_news hd'
      simp only [le, Bool.or_eq_true] at hl
      simp only [cLt, newC, Bool.or_eq_true, Bool.and_eq_true, decide_eq_true_eq]
      rcases hl with hl | hl
      · exact .inl hl
      · refine .inr ⟨hl, ?_⟩
        obtain ⟨u, hu⟩ := hV.cok hm
        have hut : u = t := by have := hu.f; rw [sEq_eq hl, hn] at this; exact Option.some.inj (this.symm.trans ht)
        have := hu.n
        rw [hut, ← hx] at this
        exact decide_eq_true (p := c.num < s.next + (k : Int)) (by omega)
    have nr : ∀ c, c ∈ news s (b.now + 1) a.create.toNat → ∀ d, d ∈ b.cpys.dropWhile (le s.name) → cLt c d = true := by
      intro c hc d hd'
      obtain ⟨k, hk, rfl⟩ := mem_news hc
      have := le_false (drop_le hV.cu d hd')
      simp only [cLt, newC, this, Bool.true_or]
    refine ⟨⟨k1, nw, ln⟩, k2, fun c hc d hd' => ?_⟩
    rcases List.mem_append.1 hc with h | h
    · exact k3 c h d hd'
    · exact nr c h d hd'
end Go.Ev
namespace Go.Ev
structure Same (b x : Book) (t : Svc) : Prop where
  s : svcOf x t.name = svcOf b t.name
  c : x.cpys.filter (mine t) = b.cpys.filter (mine t)
  t : x.brts = b.brts
theorem Same.rfl' {b : Book} {t : Svc} : Same b b t := ⟨rfl, rfl, rfl⟩
theorem Same.trans {a b c : Book} {t : Svc} (h1 : Same a b t) (h2 : Same b c t) : Same a c t := ⟨h2.s.trans h1.s, h2.c.trans h1.c, h2.t.trans h1.t⟩
theorem filter_map_same {α : Type} {p : α → Bool} {f : α → α} : ∀ (l : List α), (∀ x, x ∈ l → p (f x) = p x ∧ (p x = true → f x = x)) → (l.map f).filter p = l.filter p
  | [], _ => rfl
  | x :: r, h => by
    have ih := filter_map_same r fun y hy => h y (List.mem_cons_of_mem _ hy)
    obtain ⟨h1, h2⟩ := h x (List.mem_cons_self ..)
    rw [List.map_cons]
    cases hx : p x with
    | true => rw [h2 hx, List.filter_cons_of_pos hx, List.filter_cons_of_pos hx, ih]
    | false => rw [List.filter_cons_of_neg (by rw [h1, hx]; simp), List.filter_cons_of_neg (by simp [hx]), ih]
theorem mine_sEq (t : Svc) (c : Cpy) : mine t c = sEq c.svc t.name := rfl
theorem end_same (b : Book) (nm : Str) (n : Int) (t : Svc) (h : sEq nm t.name = false) : Same b (endB b nm n) t := by
  refine ⟨rfl, ?_, rfl⟩
  simp only [endB]
  refine filter_map_same _ fun c _ => ?_
  have hk := (endM_key b nm n c).1
  refine ⟨by rw [mine, mine, hk], fun hm => ?_⟩
  rw [mine_sEq] at hm
  have : sEq c.svc nm = false := by rw [sEq_eq hm]; exact sEq_sym h
  rw [endM, this, Bool.false_and, jS]
theorem ends_same (s t : Svc) (h : sEq s.name t.name = false) : ∀ (l : List (Int × Int)) (b b1 : Book), endsP s l b = some b1 → Same b b1 t
  | [], b, b1, he => by obtain rfl := Option.some.inj he; exact .rfl'
  | e :: r, b, b1, he => by
    rw [endsP] at he
    cases hm : mayB b s e.1 <;> rw [hm] at he
    · simp at he
    · exact (end_same b s.name e.1 t h).trans (ends_same s t h r _ b1 he)
theorem fin_same {b : Book} {s t : Svc} {a : Act} (hn : s.name = a.svc) (h : sEq a.svc t.name = false) : Same b (finP b s a) t := by
  refine ⟨fin_svc_ne hn h, ?_, rfl⟩
  have htw := List.takeWhile_append_dropWhile (p := le s.name) (l := b.cpys)
  have hnw : (news s (b.now + 1) a.create.toNat).filter (mine t) = [] := by
    rw [List.filter_eq_nil_iff]
    intro c hc
    obtain ⟨k, _, rfl⟩ := mem_news hc
    rw [mine_sEq, newC, hn, h]; simp
  simp only [finP, List.filter_append, hnw, List.append_nil]
  rw [← List.filter_append, htw]
theorem scaled_name (s : Svc) (a : Act) : (scaled s a).name = s.name ∧ (scaled s a).next = s.next ∧ (scaled s a).image = s.image ∧ (scaled s a).gone = s.gone ∧ (scaled s a).over = s.over := by
  rw [scaled]; cases a.scale <;> exact ⟨rfl, rfl, rfl, rfl, rfl⟩
theorem scaled_ok {s : Svc} {a : Act} {n m : Int} (h : SOk s n) (hf : formedP a = true) (hs : (a.scale && (s.per == 0 || !within a.want s.least s.most)) = false) (hm : 1 ≤ m) (hc : s.next + a.create ≤ 1000000) :
    SOk { scaled s a with ver := m, next := (scaled s a).next + a.create } m := by
  have hcr := (formed_facts hf).1
  have hx := h.x
  rw [scaled]
  cases hsl : a.scale
  · exact ⟨h.nm, by simp only [jS]; omega, h.i, by simp only [jS]; omega, h.w, h.d, h.o, h.do0, h.p⟩
  · rw [hsl] at hs
    simp only [Bool.true_and, Bool.or_eq_false_iff, beq_eq_false_iff_ne, Bool.not_eq_false', within, Bool.and_eq_true, decide_eq_true_eq] at hs
    simp only [formedP, Bool.and_eq_true, within, decide_eq_true_eq] at hf
    have h2 := hf.2.2.2.1
    rw [hsl] at h2
    simp only [jR, Bool.and_eq_true, decide_eq_true_eq] at h2
    have hp := h.p.resolve_left (fun q => hs.1 q.1)
    exact ⟨h.nm, by simp only [jR]; omega, h.i, by simp only [jR]; omega, h2.1, h.d, h.o, h.do0, .inr ⟨hp.1, hp.2.1, hp.2.2.1, hp.2.2.2.1, hp.2.2.2.2.1, h2.2⟩⟩
theorem formed_drop {a : Act} (h : formedP a = true) (hd : a.drop = true) : a.create = 0 ∧ a.scale = false ∧ a.ends = [] := by
  simp only [formedP, Bool.and_eq_true] at h
  have := h.2.2.2.2
  rw [hd] at this
  simp only [jZ, Bool.false_or, Bool.and_eq_true, beq_iff_eq, Bool.not_eq_true'] at this
  exact ⟨this.1, this.2.1, List.length_eq_zero_iff.1 (by omega)⟩
structure Aft1 (b x : Book) (a : Act) : Prop where
  v : Val x
  n : x.now = b.now + 1
  s : ∀ t : Svc, sEq a.svc t.name = false → Same b x t
  t : x.brts = b.brts
theorem apply_aft {b x : Book} {a : Act} (hb : Val b) (h : applyP b a = .inr x) : Aft1 b x a := by
  rw [applyP] at h
  cases hf : formedP a <;> rw [hf] at h <;> simp only [ja, jZ, jR, jS] at h
  · simp at h
  split at h
  · simp at h
  rename_i s hs
  cases h1 : (a.ends.all fun e => (cpyOf b a.svc e.1).isSome) <;> rw [h1] at h <;> simp only [ja, jZ, jR, jS] at h
  · simp at h
  cases h2 : s.ver != a.seen <;> rw [h2] at h <;> simp only [jR, jS] at h
  rotate_left
  · simp at h
  cases h3 : a.ends.all (verOk b a) <;> rw [h3] at h <;> simp only [ja, jZ, jR, jS] at h
  · simp at h
  split at h
  · simp at h
  rename_i b1 he
  rw [actP2] at h
  cases h4 : (a.drop && (!s.gone || decide (nL b1 s + cnt b1 (pEnd s) > 0))) <;> rw [h4] at h <;> simp only [jR, jS] at h
  rotate_left
  · simp at h
  cases h5 : (a.scale && (s.per == 0 || !within a.want s.least s.most)) <;> rw [h5] at h <;> simp only [jR, jS] at h
  rotate_left
  · simp at h
  rw [actP3] at h
  obtain ⟨n1, n2, n3, n4, n5⟩ := scaled_name s a
  generalize hq1 : (decide (a.create > 0) && ((scaled s a).gone || decide (nL b1 (scaled s a) + a.create > (scaled s a).want + (scaled s a).over))) = q1 at h
  cases q1 <;> simp only [jR, jS] at h
  rotate_left
  · simp at h
  cases hq2 : (decide ((b1.cpys.length : Int) + a.create > 200) || (decide ((scaled s a).next + a.create > 1000000) || b1.now == 1000000)) <;> rw [hq2] at h <;> simp only [jR, jS] at h
  rotate_left
  · simp at h
  obtain rfl := Sum.inr.inj h
  simp only [Bool.or_eq_false_iff, decide_eq_false_iff_not, beq_eq_false_iff_ne, n2] at hq2
  have sm : s ∈ b.svcs := List.mem_of_find?_eq_some hs
  have sn : s.name = a.svc := sEq_eq (by have := List.find?_some hs; exact this)
  have k0 := hb.n
  have hbn : b.now + 1 ≤ 1000000 ∧ b1.now = b.now := by
    by_cases hz : b.now + 1 ≤ 1000000
    · exact ⟨hz, (ends_val s _ _ _ he (hb.later hz) hb.n.1).2.1⟩
    · have : ∀ (l : List (Int × Int)) (c d : Book), endsP s l c = some d → d.now = c.now := by
        intro l
        induction l with
        | nil => intro c d hh; obtain rfl := Option.some.inj hh; rfl
        | cons e r ih =>
          intro c d hh
          rw [endsP] at hh
          cases hm : mayB c s e.1 <;> rw [hm] at hh
          · simp at hh
          · exact ih (endB c s.name e.1) d hh
      have := this _ _ _ he
      omega
  obtain ⟨v1, m1, m2, m3, m4⟩ := ends_val s _ _ _ he (hb.later hbn.1) hb.n.1
  have hcr := (formed_facts hf).1
  have hS := scaled_ok (m := b1.now + 1) ((svcOk_iff _ _).1 (hb.so s sm)) hf h5 (by omega) (by omega)
  have hdd : a.drop = true → a.create = 0 ∧ ∀ c, c ∈ b1.cpys → sEq a.svc c.svc = false := by
    intro hd
    obtain ⟨d1, d2, d3⟩ := formed_drop hf hd
    refine ⟨d1, fun c hc => ?_⟩
    cases hq : sEq a.svc c.svc with
    | false => rfl
    | true =>
      exfalso
      rw [hd] at h4
      simp only [Bool.true_and, Bool.or_eq_false_iff, decide_eq_false_iff_not] at h4
      have hmi : mine s c = true := by rw [mine_sEq, sn, ← sEq_eq hq]; exact sEq_self _
      have hz := h4.2
      simp only [nL, cnt] at hz
      have z1 : b1.cpys.countP (pLive s) = 0 := by omega
      have z2 : b1.cpys.countP (pEnd s) = 0 := by omega
      rw [List.countP_eq_zero] at z1 z2
      have y1 := z1 c hc
      have y2 := z2 c hc
      rw [pLive, hmi] at y1
      rw [pEnd, hmi] at y2
      cases hen : c.ending <;> rw [hen] at y1 y2 <;> simp at y1 y2
  have hsv : svcOf b1 a.svc = some s := by rw [svcOf, m2]; exact hs
  refine ⟨fin_val v1 (by omega) hsv (by rw [n1, sn]) n2 n3 hcr.1 (by omega) hS hdd, by simp only [finP]; omega, fun t ht => ?_, by simp only [finP]; exact m3⟩
  exact (ends_same s t (by rw [sn]; exact ht) _ _ _ he).trans (fin_same (by rw [n1, sn]) ht)
end Go.Ev
namespace Go.Ev
theorem up_map : ∀ (l : List Cpy), (l.Pairwise fun c d => c.num < d.num) → upEnds (l.map cEn) = true
  | [], _ => rfl
  | [_], _ => rfl
  | x :: y :: r, h => by
    rw [List.pairwise_cons] at h
    have ih := up_map (y :: r) h.2
    have hxy := h.1 y (List.mem_cons_self ..)
    show (decide (x.num < y.num) && upEnds ((y :: r).map cEn)) = true
    rw [decide_eq_true hxy, ih]; rfl
theorem live_pair {b : Book} (hb : Val b) (s : Svc) : (liveL b s).Pairwise fun c d => c.num < d.num := by
  refine (hb.cu.filter (pLive s)).imp_of_mem fun {c d} hc hd hcd => ?_
  have h1 := (live_mine hc).1
  have h2 := (live_mine hd).1
  have : c.svc = d.svc := (mine_name h1).trans (mine_name h2).symm
  simp only [cLt, this, sLt_irr, sEq_self, Bool.false_or, Bool.true_and, decide_eq_true_eq] at hcd
  exact hcd
def FactA (b : Book) (s : Svc) (a : Act) : Prop :=
  a.svc = s.name ∧ a.seen = s.ver ∧ formedP a = true ∧
  ((a.ends = [] ∧ (a.drop = true → s.gone = true ∧ nL b s + cnt b (pEnd s) = 0) ∧ (a.scale = true → s.per ≠ 0 ∧ within a.want s.least s.most = true) ∧ (a.create > 0 → s.gone = false ∧ a.scale = false ∧ nL b s + a.create ≤ s.want + s.over)) ∨
   ∃ l : List Cpy, a.ends = l.map cEn ∧ a.create = 0 ∧ a.scale = false ∧ a.drop = false ∧ (∀ c, c ∈ l → c ∈ liveL b s) ∧ (l.Pairwise fun c d => c.num < d.num) ∧ ((∀ c, c ∈ l → c.state ≠ 3 ∨ s.gone = true) ∨ ∃ c, l = [c] ∧ mayB b s c.num = true))
theorem fact_ends {b : Book} {s : Svc} (hb : Val b) (l : List Cpy) (h1 : ∀ c, c ∈ l → c ∈ liveL b s) (h2 : l.Pairwise fun c d => c.num < d.num) (hl : l.length ≤ 200) (h3 : (∀ c, c ∈ l → c.state ≠ 3 ∨ s.gone = true) ∨ ∃ c, l = [c] ∧ mayB b s c.num = true) : FactA b s { a0 s with ends := l.map cEn } := by
  refine ⟨rfl, rfl, ?_, .inr ⟨l, rfl, rfl, rfl, rfl, h1, h2, h3⟩⟩
  have p : ((l.length : Nat) : Int) ≤ 200 := by omega
  simp only [formedP, a0, up_map l h2, jW, p, decide_true, Bool.true_and, jS, ja, Bool.true_or, beq_self_eq_true, Bool.and_self, within]
  rfl
theorem fact_a0 {b : Book} (s : Svc) : FactA b s (a0 s) := by
  refine ⟨rfl, rfl, rfl, .inl ⟨rfl, ?_, ?_, ?_⟩⟩
  · intro h; simp [a0] at h
  · intro h; simp [a0] at h
  · intro h; simp [a0] at h
theorem fact_create {b : Book} {s : Svc} (n : Int) (h1 : 0 ≤ n ∧ n ≤ 20) (hg : s.gone = false) (h2 : nL b s + n ≤ s.want + s.over) : FactA b s { a0 s with create := n } := by
  refine ⟨rfl, rfl, ?_, .inl ⟨rfl, ?_, ?_, fun _ => ⟨hg, rfl, h2⟩⟩⟩
  · simp only [formedP, a0, within, decide_eq_true h1.1, decide_eq_true h1.2]; rfl
  · intro h; simp [a0] at h
  · intro h; simp [a0] at h
theorem fact_scale {b : Book} {s : Svc} (w c : Int) (hp : s.per ≠ 0) (h1 : s.least ≤ w ∧ w ≤ s.most) (h2 : 0 ≤ w ∧ w ≤ 10) (h3 : 0 ≤ c ∧ c ≤ 3) : FactA b s { a0 s with scale := true, want := w, cool := c } := by
  refine ⟨rfl, rfl, ?_, .inl ⟨rfl, ?_, fun _ => ⟨hp, ?_⟩, ?_⟩⟩
  · simp only [formedP, a0, within, decide_eq_true h2.1, decide_eq_true h2.2, decide_eq_true h3.1, decide_eq_true h3.2]; rfl
  · intro h; simp [a0] at h
  · simp only [within, decide_eq_true h1.1, decide_eq_true h1.2]; rfl
  · intro h; simp [a0] at h
theorem first_cases (b : Book) (s : Svc) (l : List Cpy) : firstO b s l = [] ∨ ∃ c, firstO b s l = [c] ∧ c ∈ l := by
  match l with
  | [] => exact .inl rfl
  | c :: r => exact .inr ⟨_, rfl, bestC_mem _ _ _⟩
theorem sel_sub {b : Book} {s : Svc} {k : Int} {c : Cpy} (h : c ∈ selL b s k) : c ∈ liveL b s ∧ sel b s k c = true := List.mem_filter.1 h
theorem fact_repl {b : Book} {s : Svc} (hb : Val b) (hs : SOk s b.now) (hg : s.gone = false) (k : Int) : FactA b s (replS b s (selL b s k)) := by
  rw [replS]
  cases (selL b s k).length == 0
  rotate_left
  · exact fact_a0 s
  by_cases q1 : nL b s < s.want
  · simp only [q1, BB, nils, rows]; exact fact_a0 s
  by_cases q2 : nL b s < s.want + s.over
  · simp only [q1, q2, BB, nils, rows]; exact fact_create 1 (by omega) hg (by omega)
  simp only [q1, q2, BB, nils, rows]
  rcases first_cases b s (mayL b s (selL b s k)) with h | ⟨c, h, hc⟩
  · rw [h]; exact fact_a0 s
  · rw [h]
    have hm := List.mem_filter.1 hc
    exact fact_ends hb [c] (fun d hd => by rw [List.mem_singleton.1 hd]; exact (sel_sub hm.1).1) (List.pairwise_singleton _ _) (by simp) (.inr ⟨c, rfl, hm.2⟩)
theorem live_le {b : Book} (hb : Val b) (s : Svc) : (liveL b s).length ≤ 200 := Nat.le_trans (List.length_filter_le _ _) hb.lc
theorem specA_fact {b : Book} {s : Svc} (hb : Val b) (hsm : s ∈ b.svcs) (k : Int) : FactA b s (specA k b s) := by
  have hs := (svcOk_iff _ _).1 (hb.so s hsm)
  have hlp := live_pair hb s
  have hll := live_le hb s
  have hw := hs.w
  have ho := hs.o
  rw [specA]
  cases k3 : k == 3 <;> simp only [BB, nils, rows]
  rotate_left
  · refine fact_ends hb (selL b s 3) (fun c hc => (sel_sub hc).1) (hlp.filter _) (Nat.le_trans (List.length_filter_le _ _) hll) (.inl fun c hc => .inl ?_)
    have := (sel_sub hc).2
    have e1 : ((3 : Int) == 2) = false := rfl
    have e2 : ((3 : Int) == 6) = false := rfl
    have e3 : ((3 : Int) == 3) = true := rfl
    simp only [sel, e1, e2, e3, Bool.false_and, Bool.true_and, Bool.false_or, beq_iff_eq] at this
    omega
  cases hg : s.gone <;> simp only [BB, nils, rows]
  rotate_left
  · cases k5 : k == 5 <;> simp only [BB, nils, rows]
    · exact fact_a0 s
    · cases hd : nL b s + cnt b (pEnd s) == 0
      · exact fact_ends hb (liveL b s) (fun c hc => hc) hlp hll (.inl fun c hc => .inr hg)
      · have hz : nL b s + cnt b (pEnd s) = 0 := by simpa using hd
        have hl0 : liveL b s = [] := by
          have h1 := liveL_len b s
          have h2 : 0 ≤ cnt b (pEnd s) := by simp only [cnt]; omega
          exact List.length_eq_zero_iff.1 (by omega)
        rw [hl0]
        refine ⟨rfl, rfl, rfl, .inl ⟨rfl, fun _ => ⟨hg, hz⟩, ?_, ?_⟩⟩
        · intro h; simp [a0] at h
        · intro h; simp [a0] at h
  cases k1 : k == 1 <;> simp only [BB, nils, rows]
  rotate_left
  · rw [cntS]
    by_cases q1 : nL b s < s.want
    · have : 0 ≤ nL b s := by simp only [nL, cnt]; omega
      simp only [q1, BB, nils, rows]; exact fact_create _ (by omega) hg (by omega)
    simp only [q1, BB, nils, rows]
    generalize (decide (nL b s > s.want) && (((selL b s 2).length == 0 && (selL b s 6).length == 0) || decide (nL b s > s.want + s.over))) = q
    cases q <;> simp only [BB, nils, rows]
    · exact fact_a0 s
    · rcases first_cases b s (liveL b s) with h | ⟨c, h, hc⟩
      · rw [h]; exact fact_a0 s
      · rw [h]
        cases hm : mayB b s c.num <;> simp only [hm, BB, nils, rows]
        · exact fact_a0 s
        · exact fact_ends hb [c] (fun d hd => by rw [List.mem_singleton.1 hd]; exact hc) (List.pairwise_singleton _ _) (by simp) (.inr ⟨c, rfl, hm⟩)
  cases k2 : k == 2 <;> simp only [BB, nils, rows]
  rotate_left
  · exact fact_repl hb hs hg 2
  cases k6 : k == 6 <;> simp only [BB, nils, rows]
  rotate_left
  · cases (selL b s 2).length == 0
    · exact fact_a0 s
    · exact fact_repl hb hs hg 6
  cases k4 : k == 4 <;> simp only [BB, nils, rows]
  · exact fact_a0 s
  by_cases hp : s.per > 0
  · simp only [hp, BB, nils, rows]
    have hp' : s.per ≠ 0 := by omega
    have hq := hs.p.resolve_left (fun q => hp' q.1)
    obtain ⟨_, hq1, hq2, hq3, hq4, hq5⟩ := hq
    have hde : s.least ≤ desired s ∧ desired s ≤ s.most := by
      rw [desired]
      generalize w64 ((w64 (w64 (s.load + s.per) - 1)).tdiv s.per) = d
      by_cases z1 : d < s.least
      · by_cases z2 : s.least > s.most
        · omega
        · simp only [z1, z2, BB, nils, rows]; omega
      · by_cases z2 : d > s.most
        · simp only [z1, z2, BB, nils, rows]; omega
        · simp only [z1, z2, BB, nils, rows]; omega
    rw [scaS]
    by_cases p1 : s.want < s.least
    · simp only [p1, BB, nils, rows]; exact fact_scale s.least 0 hp' (by omega) (by omega) (by omega)
    by_cases p2 : s.want > s.most
    · simp only [p1, p2, BB, nils, rows]; exact fact_scale s.most 0 hp' (by omega) (by omega) (by omega)
    by_cases p3 : desired s > s.want
    · simp only [p1, p2, p3, BB, nils, rows]; exact fact_scale (desired s) 0 hp' (by omega) (by omega) (by omega)
    by_cases p4 : desired s < s.want
    · by_cases p5 : s.cool ≥ 3
      · simp only [p1, p2, p3, p4, p5, BB, nils, rows]; exact fact_scale (s.want - 1) 0 hp' (by omega) (by omega) (by omega)
      · simp only [p1, p2, p3, p4, p5, BB, nils, rows]; exact fact_scale s.want (s.cool + 1) hp' (by omega) (by omega) (by omega)
    simp only [p1, p2, p3, p4, BB, nils, rows]
    cases s.cool == 0
    · exact fact_scale s.want 0 hp' (by omega) (by omega) (by omega)
    · exact fact_a0 s
  · simp only [hp, BB, nils, rows]; exact fact_a0 s
end Go.Ev
namespace Go.Ev
theorem cnt_same {b x : Book} {s : Svc} (h : x.cpys.filter (mine s) = b.cpys.filter (mine s)) (g : Cpy → Bool) : cnt x (fun c => mine s c && g c) = cnt b (fun c => mine s c && g c) := by
  have key : ∀ y : Book, cnt y (fun c => mine s c && g c) = (((y.cpys.filter (mine s)).countP g : Nat) : Int) := by
    intro y
    rw [cnt, List.countP_filter]
    congr 2
    funext c; exact Bool.and_comm _ _
  rw [key, key, h]
theorem nL_same {b x : Book} {s : Svc} (h : x.cpys.filter (mine s) = b.cpys.filter (mine s)) : nL x s = nL b s := cnt_same h fun c => !c.ending
theorem nE_same {b x : Book} {s : Svc} (h : x.cpys.filter (mine s) = b.cpys.filter (mine s)) : cnt x (pEnd s) = cnt b (pEnd s) := cnt_same h fun c => c.ending
theorem nR_same {b x : Book} {s : Svc} (h : x.cpys.filter (mine s) = b.cpys.filter (mine s)) : readyN x s = readyN b s := cnt_same h fun c => !c.ending && c.state == 3
theorem cpyOf_filter (y : Book) (s : Svc) (n : Int) : cpyOf y s.name n = (y.cpys.filter (mine s)).find? fun c => c.num == n := by
  rw [cpyOf, List.find?_filter]
  congr 1
  funext c
  rw [mine_sEq]
  cases sEq c.svc s.name <;> cases c.num == n <;> rfl
theorem cpyOf_same {b x : Book} {s : Svc} (h : x.cpys.filter (mine s) = b.cpys.filter (mine s)) (n : Int) : cpyOf x s.name n = cpyOf b s.name n := by rw [cpyOf_filter, cpyOf_filter, h]
theorem mayB_same {b x : Book} {s : Svc} (h : x.cpys.filter (mine s) = b.cpys.filter (mine s)) (n : Int) : mayB x s n = mayB b s n := by
  rw [mayB, mayB, cpyOf_same h]
  cases cpyOf b s.name n with
  | none => rfl
  | some c => simp only [mayC, nR_same h]
theorem cpy_self {b : Book} (hb : Val b) {s : Svc} {c : Cpy} (hc : c ∈ liveL b s) : cpyOf b s.name c.num = some c := by
  obtain ⟨h1, h2, h3⟩ := live_mine hc
  obtain ⟨i, hi, hci⟩ := List.getElem_of_mem h3
  have hu := valid_uniqC ((val_iff b).2 hb)
  rcases cpy_at b s.name c.num with ⟨h4, _⟩ | ⟨m, hm, _, h5, h6⟩
  · rw [cpyOf] at h4
    have := List.find?_eq_none.1 h4 c h3
    rw [mine_sEq] at h1
    rw [h1] at this; simp at this
  · have : i = m := hu i m hi hm (by
      simp only [Bool.and_eq_true, beq_iff_eq] at h6 ⊢
      rw [hci]
      exact ⟨by rw [mine_name h1, ← sEq_eq h6.1]; exact sEq_self _, h6.2.symm⟩)
    subst this
    rw [h5, hci]
theorem endB_cpy (b : Book) (nm : Str) (n m : Int) (h : m ≠ n) : cpyOf (endB b nm n) nm m = cpyOf b nm m := by
  rw [cpyOf, cpyOf]
  simp only [endB]
  rw [List.find?_map]
  have hf : ((fun c : Cpy => sEq c.svc nm && c.num == m) ∘ endM b nm n) = fun c : Cpy => sEq c.svc nm && c.num == m := by
    funext c
    have hk := endM_key b nm n c
    simp only [Function.comp, hk.1, hk.2.1]
  rw [hf]
  cases hx : b.cpys.find? (fun c => sEq c.svc nm && c.num == m) with
  | none => rfl
  | some c =>
    have hc := List.find?_some hx
    simp only [Bool.and_eq_true, beq_iff_eq] at hc
    have : (c.num == n) = false := by rw [hc.2]; simpa using h
    simp only [Option.map_some, endM, this, Bool.and_false, jS]
theorem ends_go (s : Svc) : ∀ (l : List Cpy) (x : Book), (∀ c, c ∈ l → cpyOf x s.name c.num = some c ∧ c.ending = false ∧ (c.state ≠ 3 ∨ s.gone = true)) → (l.Pairwise fun c d => c.num < d.num) → ∃ x1, endsP s (l.map cEn) x = some x1
  | [], x, _, _ => ⟨x, rfl⟩
  | c :: r, x, h, hp => by
    rw [List.pairwise_cons] at hp
    obtain ⟨h1, h2, h3⟩ := h c (List.mem_cons_self ..)
    have hm : mayB x s c.num = true := by
      rw [mayB, h1]
      simp only [mayC, h2, ja, Bool.true_and, Bool.or_eq_true]
      rcases h3 with h3 | h3
      · exact .inl (by simpa using h3)
      · exact .inr (.inl h3)
    obtain ⟨x1, hx1⟩ := ends_go s r (endB x s.name c.num) (fun d hd => by
      obtain ⟨k1, k2, k3⟩ := h d (List.mem_cons_of_mem _ hd)
      exact ⟨by rw [endB_cpy _ _ _ _ (by have := hp.1 d hd; omega)]; exact k1, k2, k3⟩) hp.2
    refine ⟨x1, ?_⟩
    rw [List.map_cons, endsP]
    show (bif mayB x s c.num then endsP s (r.map cEn) (endB x s.name c.num) else none) = some x1
    rw [hm]; exact hx1
theorem ask_done {b x : Book} {s : Svc} {a : Act} (hb : Val b) (hs : svcOf b s.name = some s) (hsm : Same b x s) (hF : FactA b s a) : applyP x a = .inl 7 ∨ ∃ x', applyP x a = .inr x' := by
  obtain ⟨f1, f2, f3, f4⟩ := hF
  have hc := hsm.c
  have hsv : svcOf x a.svc = some s := by rw [f1, hsm.s]; exact hs
  rw [applyP, f3, hsv]
  simp only [jZ, jS, f2, bne_self_eq_false]
  rcases f4 with ⟨g1, g2, g3, g4⟩ | ⟨l, g1, g2, g3, g4, g5, g6, g7⟩
  · simp only [g1, List.all_nil, jZ, jS, endsP]
    have hn := nL_same hc
    have hn' := nE_same hc
    have e1 : (a.drop && (!s.gone || decide (nL x s + cnt x (pEnd s) > 0))) = false := by
      cases hd : a.drop
      · rfl
      · obtain ⟨d1, d2⟩ := g2 hd
        rw [hn, hn', d1, d2]; rfl
    have e2 : (a.scale && (s.per == 0 || !within a.want s.least s.most)) = false := by
      cases hd : a.scale
      · rfl
      · obtain ⟨d1, d2⟩ := g3 hd
        have : (s.per == 0) = false := by simpa using d1
        rw [d2, this]; rfl
    rw [actP2, e1, jS, e2, jS, actP3]
    have e3 : (decide (a.create > 0) && ((scaled s a).gone || decide (nL x (scaled s a) + a.create > (scaled s a).want + (scaled s a).over))) = false := by
      by_cases hp : a.create > 0
      · obtain ⟨d1, d2, d3⟩ := g4 hp
        have : scaled s a = s := by rw [scaled, d2]; rfl
        rw [this, hn, d1]
        simp only [hp, decide_true, Bool.true_and, Bool.false_or]
        exact decide_eq_false (by omega)
      · simp only [hp, decide_false, Bool.false_and]
    rw [e3, jS]
    generalize (decide ((x.cpys.length : Int) + a.create > 200) || (decide ((scaled s a).next + a.create > 1000000) || x.now == 1000000)) = q
    cases q
    · exact .inr ⟨_, rfl⟩
    · exact .inl rfl
  · have hcx : ∀ c, c ∈ l → cpyOf x s.name c.num = some c := fun c h => by rw [cpyOf_same hc]; exact cpy_self hb (g5 c h)
    have a1 : (a.ends.all fun e => (cpyOf x s.name e.1).isSome) = true := by
      rw [g1, List.all_eq_true]
      intro e he
      obtain ⟨c, hc', rfl⟩ := List.mem_map.1 he
      show (cpyOf x s.name c.num).isSome = true
      rw [hcx c hc']; rfl
    have a2 : a.ends.all (verOk x a) = true := by
      rw [g1, List.all_eq_true]
      intro e he
      obtain ⟨c, hc', rfl⟩ := List.mem_map.1 he
      show (match cpyOf x a.svc c.num with | some d => d.ver == c.ver | none => false) = true
      rw [f1, hcx c hc']; exact beq_self_eq_true _
    rw [f1]
    simp only [a1, a2, jZ, jS]
    have hex : ∃ x1, endsP s a.ends x = some x1 := by
      rw [g1]
      rcases g7 with g7 | ⟨c, hl, hm⟩
      · exact ends_go s l x (fun c h => ⟨hcx c h, (live_mine (g5 c h)).2.1, g7 c h⟩) g6
      · subst hl
        refine ⟨endB x s.name c.num, ?_⟩
        show (bif mayB x s c.num then some (endB x s.name c.num) else none) = _
        rw [mayB_same hc, hm]; rfl
    obtain ⟨x1, hx1⟩ := hex
    rw [hx1]
    simp only [actP2, actP3, g2, g3, g4, Bool.false_and, jS]
    have : decide ((0 : Int) > 0) = false := rfl
    rw [this, Bool.false_and, jS]
    generalize (decide ((x1.cpys.length : Int) + 0 > 200) || (decide ((scaled s a).next + 0 > 1000000) || x1.now == 1000000)) = q
    cases q
    · exact .inr ⟨_, rfl⟩
    · exact .inl rfl
end Go.Ev
namespace Go.Ev
theorem nameOk_size {s : Str} (h : nameOk s = true) : s.size < 4611686018427387904 := by
  simp only [nameOk, Bool.and_eq_true, within, decide_eq_true_eq] at h
  omega
theorem Val.bnd {b : Book} (h : Val b) : Bnd b := by
  have hs : ∀ s, s ∈ b.svcs → s.name.size < 4611686018427387904 := fun s hs => nameOk_size ((svcOk_iff _ _).1 (h.so s hs)).nm
  refine ⟨h.ls, h.lc, h.lt, ⟨⟨hs, fun t ht => nameOk_size (h.to t ht)⟩, fun c hc => ?_⟩⟩
  obtain ⟨s, k⟩ := h.cok hc
  refine ⟨?_, ?_⟩
  · have h1 := List.find?_some k.f
    rw [← sEq_eq h1]
    exact hs s (List.mem_of_find?_eq_some k.f)
  · have h1 := k.b
    rw [atOk] at h1
    cases hst : c.state == 1 <;> rw [hst] at h1
    · simp only [jS] at h1
      obtain ⟨t, ht⟩ := Option.isSome_iff_exists.1 h1
      have h2 := List.find?_some ht
      rw [← sEq_eq h2]
      exact nameOk_size (h.to t (List.mem_of_find?_eq_some ht))
    · rw [sEq_eq h1]; decide
def bookA (b : Book) : List C := [.i b.now, .l (b.svcs.map Svc.e), .l (b.cpys.map Cpy.e), .l (b.brts.map Brt.e)]
theorem asks_loop (b : Book) (k : Int) (hb : Val b) : lim (ap10 w_FnStewAsks.d2) (.i 0 :: (bookA b ++ [.l ((asksB k b).map Act.e)] ++ bookA b)) = some (.brk 0 []) := by
  have hbv := (val_iff b).2 hb
  have hsv : ∀ s, s ∈ b.svcs → svcOf b s.name = some s := by
    intro s hs
    obtain ⟨j, hj, rfl⟩ := List.getElem_of_mem hs
    exact (svc_self hbv hj).1
  have hL : asksB k b = (b.svcs.filter (wanted ∘ specA k b)).map (specA k b) := by rw [asksB, hbv, jR, List.filter_map]
  generalize hl : b.svcs.filter (wanted ∘ specA k b) = L at hL
  have hLb : ∀ s, s ∈ L → s ∈ b.svcs := fun s hs => by rw [← hl] at hs; exact (List.mem_filter.1 hs).1
  have hLp : L.Pairwise fun s t => sLt s.name t.name = true := by rw [← hl]; exact hb.su.filter _
  have hLl : L.length ≤ 8 := by rw [← hl]; exact Nat.le_trans (List.length_filter_le _ _) hb.ls
  rw [hL]
  have hlim : ∃ o, lim (ap10 w_FnStewAsks.d2) (.i 0 :: (bookA b ++ [.l ((L.map (specA k b)).map Act.e)] ++ bookA b)) = some o ∧ o = .brk 0 [] := by
    refine lim_exs (fun q : Nat × Book => .i (q.1 : Nat) :: (bookA b ++ [.l ((L.map (specA k b)).map Act.e)] ++ bookA q.2)) (fun q => L.length - q.1) (fun q => Val q.2 ∧ ∀ s, s ∈ L.drop q.1 → Same b q.2 s) _ (0, b) ⟨hb, fun _ _ => .rfl'⟩ ?_
    rintro ⟨i, x⟩ ⟨hx, hsm⟩
    simp only at hx hsm ⊢
    by_cases hlt : i < L.length
    · left
      have p1 : (i : Int) < (L.length : Int) := by omega
      have w1 : w64 ((i : Int) + 1) = ((i + 1 : Nat) : Int) := w64_nat (n := i + 1) (by omega)
      have g1 : ((L.map (specA k b)).map Act.e).getD i [] = (specA k b L[i]).e := by rw [getD_map_lt Act.e (by rw [jW]; exact hlt) [], List.getElem_map]
      have hsi := hLb _ (List.getElem_mem hlt)
      have hdr := List.drop_eq_getElem_cons hlt
      have hF := specA_fact hb hsi k
      have e1 := i_StewApply_eq b (specA k b L[i]) hb.bnd.big
      have e2 := i_StewApply_eq x (specA k b L[i]) hx.bnd.big
      rw [hbv, jR] at e1
      rw [(val_iff x).2 hx, jR] at e2
      have d1 := ask_done hb (hsv _ hsi) .rfl' hF
      have d2 := ask_done hb (hsv _ hsi) (hsm _ (by rw [hdr]; exact List.mem_cons_self ..)) hF
      have f1 : (specA k b L[i]).svc = L[i].name := hF.1
      generalize specA k b L[i] = a at *
      have c1 : (applyR b a).2 = 0 ∨ (applyR b a).2 = 7 := by
        rw [applyR]
        rcases d1 with h | ⟨x', h⟩ <;> rw [h]
        · exact .inr rfl
        · exact .inl rfl
      have c2 : ((applyR x a).2 = 0 ∨ (applyR x a).2 = 7) ∧ Val (applyR x a).1 ∧ ∀ s, s ∈ L.drop (i + 1) → Same b (applyR x a).1 s := by
        have hrest : ∀ s, s ∈ L.drop (i + 1) → Same b x s := fun s hs => hsm s (by rw [hdr]; exact List.mem_cons_of_mem _ hs)
        rw [applyR]
        rcases d2 with h | ⟨x', h⟩ <;> rw [h]
        · exact ⟨.inr rfl, hx, hrest⟩
        · have hA := apply_aft hx h
          refine ⟨.inl rfl, hA.v, fun s hs => (hrest s hs).trans (hA.s s ?_)⟩
          rw [f1]
          have hlp := List.Pairwise.drop (i := i) hLp
          rw [hdr, List.pairwise_cons] at hlp
          have := hlp.1 s hs
          cases hq : sEq L[i].name s.name with
          | false => rfl
          | true => rw [sEq_eq hq, sLt_irr] at this; simp at this
      obtain ⟨c2, v2, s2⟩ := c2
      refine ⟨(i + 1, (applyR x a).1), ?_, ⟨v2, s2⟩, by simp only; omega⟩
      generalize applyR b a = r1 at *
      generalize applyR x a = r2 at *
      obtain ⟨y1, n1⟩ := r1
      obtain ⟨y2, n2⟩ := r2
      simp only at c1 c2
      simp only [Book.e, Act.e, Book.r2, BB, nils, rows] at e1 e2
      have t1 : ((7 : Int) != 0) = true := rfl
      have t2 : ((7 : Int) != 7) = false := rfl
      have t3 : ((0 : Int) != 0) = false := rfl
      rcases c1 with rfl | rfl <;> rcases c2 with rfl | rfl
      all_goals simp only [bookA, BB, nils, rows, w_FnStewAsks.d2, jW, p1, g1, Act.e, e1, e2, t1, t2, t3, w_FnStewAsks.d1, w1]
    · right
      have p1 : ¬ (i : Int) < (L.length : Int) := by omega
      refine ⟨.brk 0 [], ?_, trivial, rfl⟩
      simp only [bookA, BB, nils, rows, w_FnStewAsks.d2, jW, p1]
  obtain ⟨o, h1, rfl⟩ := hlim
  exact h1
theorem FnStewAsks_true (z : List Int) (hz : ∀ n, n ∈ z → 0 ≤ n ∧ n ≤ 255) : w_FnStewAsks [.l (z.map inE)] = some [.b true] := by
  simp only [w_FnStewAsks, w_FnStewAsks.d4, BB, nils, rows]
  by_cases h : (z.length : Int) > 1048576
  · simp only [h, BB, nils, rows]
  simp only [h, BB, nils, rows]
  obtain ⟨k, b, e0, hb⟩ := s_DrawStewAsk_ex z hz
  have e1 := i_StewAsk_eq k b hb
  have e2 := s_StewAsk_eq k b hb
  have hsm : Small b := ⟨by have := hb.s; omega, by have := hb.c; omega, by have := hb.t; omega⟩
  have e3 := s_StewValid_eq b hsm hb.w.toNames
  have hal : (asksB k b).length ≤ 8 := by
    rw [asksB]
    cases validB b
    · exact Nat.zero_le _
    · rw [jR]
      refine Nat.le_trans (List.length_filter_le _ _) ?_
      rw [jW]; exact hb.s
  have e4 : w_wsActs [.l ((asksB k b).map Act.e), .l ((asksB k b).map Act.e)] = some [.b true] := by
    refine w_wsActs_same _ (by omega) fun a ha => ?_
    rw [asksB] at ha
    cases hv : validB b <;> rw [hv] at ha
    · simp at ha
    · rw [jR] at ha
      obtain ⟨s, hs, rfl⟩ := List.mem_map.1 (List.mem_filter.1 ha).1
      have := (formed_facts (specA_fact ((val_iff b).1 hv) hs k).2.2.1).2.1
      omega
  simp only [Book.e] at e0 e1 e2 e3
  simp only [e0, e1, e2, e3, e4, BB, nils, rows]
  cases hv : validB b <;> simp only [BB, nils, rows]
  · have : asksB k b = [] := by rw [asksB, hv]; rfl
    rw [this]; rfl
  by_cases k1 : k < 1
  · rw [asksB_out k b (.inl k1)]; simp only [k1, BB, nils, rows]; rfl
  by_cases k6 : k > 6
  · rw [asksB_out k b (.inr k6)]; simp only [k1, k6, BB, nils, rows]; rfl
  have hl := asks_loop b k ((val_iff b).1 hv)
  simp only [bookA, BB, nils, rows] at hl
  simp only [k1, k6, BB, nils, rows, hl, w_FnStewAsks.d3]
end Go.Ev
namespace Go.Ev
open Go.RowKit
def IsRow (k : IntKind) (w : World) (a : Option Addr) (len cap : Nat) (zs : List Int) : Prop :=
  (a = none ∧ len = 0 ∧ cap = 0 ∧ zs = []) ∨
  ∃ x, a = some x ∧ len ≤ cap ∧ cap ≤ maxLen ∧ zs.length = cap ∧ (∀ i, i < zs.length → w.cell? (x.add i) = some (.int k (zs.getD i 0))) ∧ ∀ n ∈ zs, (Lit.int k n).wf = true
theorem cell_some {w : World} {a : Addr} {v : Value} (h : w.cell? a = some v) : a.block < w.heap.size ∧ a.spot = none := by
  simp only [World.cell?] at h
  split at h
  · rename_i c _ _ hb
    refine ⟨?_, ?_⟩
    · exact (Array.getElem?_eq_some_iff.1 hb).1
    · split at h
      · simp at h
      · rename_i hs; simpa using hs
  · simp at h
theorem relc_bytes {T : Tys} {F : Nat → Prop} {w : World} {a : Option Addr} {len cap : Nat} {zs : List Int} {t : TypeId} {d : TD} (hd : tget T t = some d) (hcts : d.cts = [.int .u8]) (hF : ∀ k, k < w.heap.size → F k) (h : IsRow .u8 w a len cap zs) :
    RelC T F w (.sl t) (.l ((zs.take len).map inE)) (.slice a len cap) := by
  rcases h with ⟨rfl, rfl, rfl, rfl⟩ | ⟨x, rfl, hl, hm, hz, hc, hw⟩
  · exact .sl0 t none 0
  · rcases Nat.eq_zero_or_pos len with h0 | h0
    · subst h0
      rw [List.take_zero, List.map_nil]
      exact .sl0 t (some x) cap
    · have hc0 := hc 0 (by omega)
      have hx := cell_some hc0
      rw [Addr.add, if_pos rfl] at hx
      obtain ⟨g, o, sp⟩ := x
      obtain ⟨hg, hsp⟩ := hx
      simp only at hsp; subst hsp
      have hlen : ((zs.take len).map inE).length = len := by simp; omega
      have key := RelC.sl (T := T) (F := F) (w := w) t d ((zs.take len).map inE) g o cap (fun i _ => .int .u8 (zs.getD i 0)) hd (hF _ hg) (by omega)
        (fun i cs hi => by
          simp only [List.getElem?_map, Option.map_eq_some_iff] at hi
          obtain ⟨n, _, rfl⟩ := hi
          rw [hcts]; rfl)
        (fun i cs j c hi hj => by
          have hil : i < len := by
            have := (List.getElem?_eq_some_iff.1 hi).1
            omega
          simp only [List.getElem?_map, Option.map_eq_some_iff] at hi
          obtain ⟨n, hn, rfl⟩ := hi
          have hj0 : j = 0 := by
            have := (List.getElem?_eq_some_iff.1 hj).1
            simp only [inE, List.length_cons, List.length_nil] at this; omega
          subst hj0
          have h1 := hc i (by omega)
          rw [hcts]
          have ha : Addr.add ⟨g, o, none⟩ i = ⟨g, o + (i * [CT.int .u8].length + 0), none⟩ := by
            rw [Addr.add]; split
            · rename_i h; subst h; simp
            · simp
          rw [← ha]; exact h1)
        (fun i cs j c t' hi hj ht => by
          have hil : i < len := by
            have := (List.getElem?_eq_some_iff.1 hi).1
            omega
          simp only [List.getElem?_map, Option.map_eq_some_iff] at hi
          obtain ⟨n, hn, rfl⟩ := hi
          have hj0 : j = 0 := by
            have := (List.getElem?_eq_some_iff.1 hj).1
            simp only [inE, List.length_cons, List.length_nil] at this; omega
          subst hj0
          rw [hcts] at ht
          simp only [List.getElem?_cons_zero, Option.some.injEq] at ht
          subst ht
          simp only [inE, List.getElem?_cons_zero, Option.some.injEq] at hj
          subst hj
          rw [List.getElem?_take, if_pos hil] at hn
          rw [List.getD_eq_getElem?_getD, hn]
          exact .int .u8 n)
      rw [hlen] at key
      exact key
theorem wf_byte {n : Int} (h : (Lit.int .u8 n).wf = true) : 0 ≤ n ∧ n ≤ 255 := by
  simp only [Lit.wf, Bool.and_eq_true, decide_eq_true_eq] at h
  exact h
theorem IsRow.bytes {w : World} {a : Option Addr} {len cap : Nat} {zs : List Int} (h : IsRow .u8 w a len cap zs) : ∀ n, n ∈ zs.take len → 0 ≤ n ∧ n ≤ 255 := by
  intro n hn
  have hn' := List.mem_of_mem_take hn
  rcases h with ⟨_, _, _, rfl⟩ | ⟨x, _, _, _, _, _, hw⟩
  · simp at hn'
  · exact wf_byte (hw n hn')
theorem law1 {P : Program} {T : Tys} {f t : Nat} {d : TD} {Fn : List C → Option (List C)} (hf : FSOk P T f ⟨1, ⟨[(0, .d (.sl t))], []⟩, ⟨[(0, .d .bool)], []⟩, [], Fn⟩) (hd : tget T t = some d) (hcts : d.cts = [.int .u8])
    (a : Option Addr) (len cap : Nat) (zs : List Int) (W : World) (h : IsRow .u8 W a len cap zs) (hF : Fn [.l ((zs.take len).map inE)] = some [.b true]) :
    Calls P f #[.slice a len cap] W fun e W' => e = .returned (.bool true) ∧ Below W.heap.size W W' := by
  refine (hf.calls W (fun _ => False) (fun k => k < W.heap.size) (fun _ => .bool false) [.l ((zs.take len).map inE)] [.b true] #[.slice a len cap] ?_ rfl ?_ hF).mono ?_
  · exact ⟨fun b x h => (by cases h), fun b b' x x' g h => (by cases h), fun b x g h => (by cases h), fun k h => h, ⟨rfl, rfl, rfl, Nat.le_refl _, fun _ _ _ => rfl⟩, fun k h => h, fun k h => .inl h, fun n hn => (by cases hn)⟩
  · intro k hk
    have : k = 0 := by simp only at hk; omega
    subst this
    exact .c _ _ _ (relc_bytes hd hcts (fun k hk => hk) h)
  · rintro e W' ⟨v, F1, θ1, rfl, hw, hv, _⟩
    have hv' : RelV T F1 W' _ θ1 (.c .bool (.b true)) v := hv
    cases hv' with
    | c _ _ _ h =>
      cases h
      exact ⟨rfl, ⟨hw.keep.os, hw.keep.tape, hw.keep.output, hw.keep.size, fun k hk => hw.keep.old k hk (fun h => h)⟩⟩
end Go.Ev
