/- Proved here: the law FnExactPilotChooseCard of the given program answers true at every input, and leaves the input as it was; no condition. This text: lemmas on the way (an evaluator of the program's code, sound once for all; the functions it prints; plain proofs on these). -/
import Derived.Test.YthkhmfnalifmaaaGreatDoorP3
set_option linter.all false
set_option autoImplicit false
set_option maxRecDepth 8000
namespace Go.Ev
theorem findIx_at {α : Type} (p : α → Bool) : ∀ (l : List α) (n : Nat), findIx p l n < 0 ∨ ∃ i, ∃ h : i < l.length, findIx p l n = ((n + i : Nat) : Int) ∧ p l[i] = true
  | [], n => .inl (by simp [findIx])
  | x :: r, n => by
    cases hx : p x with
    | true => exact .inr ⟨0, by simp, by simp [findIx, hx], by simpa using hx⟩
    | false =>
      rcases findIx_at p r (n + 1) with h | ⟨i, h, h1, h2⟩
      · exact .inl (by simpa [findIx, hx] using h)
      · exact .inr ⟨i + 1, by simpa using h, by simp [findIx, hx, h1]; omega, by simpa using h2⟩
def goneA (f : Fl) (g : List Str) (i : Nat) : Bool := match f.cps[(cIx f (sAt g i)).toNat]? with
  | some c => decide (0 ≤ cIx f (sAt g i)) && (!sEq c.at_ (mkS []) && (i == 0 || sLt (sAt g (i - 1)) (sAt g i)))
  | none => false
def goneS (f : Fl) (g : List Str) (i : Nat) : Str := match f.cps[(cIx f (sAt g i)).toNat]? with
  | some c => c.svc
  | none => mkS []
def gcnt (f : Fl) (g : List Str) (nm : Str) : Nat → Nat
  | 0 => 0
  | i + 1 => bif sEq (goneS f g i) nm then gcnt f g nm i + 1 else gcnt f g nm i
theorem gcnt_le (f : Fl) (g : List Str) (nm : Str) : ∀ i, gcnt f g nm i ≤ i
  | 0 => Nat.le_refl _
  | i + 1 => by
    have := gcnt_le f g nm i
    simp only [gcnt]
    cases sEq (goneS f g i) nm <;> simp <;> omega
def wcnt (l : List Cp) (nm : Str) : Nat → Nat
  | 0 => 0
  | i + 1 => match l[i]? with
    | some c => bif sEq c.svc nm && sEq c.at_ (mkS []) then wcnt l nm i + 1 else wcnt l nm i
    | none => wcnt l nm i
theorem wcnt_le (l : List Cp) (nm : Str) : ∀ i, wcnt l nm i ≤ i
  | 0 => Nat.le_refl _
  | i + 1 => by
    have := wcnt_le l nm i
    simp only [wcnt]
    split
    · rename_i c _
      cases sEq c.svc nm && sEq c.at_ (mkS []) <;> simp <;> omega
    · omega
theorem i_one_eq (b : Bool) : i_one [.b b] = some [.i (bif b then 1 else 0)] := by cases b <;> rfl
def svGo (f : Fl) (g : List Str) (i : Nat) : Bool := match f.svs[i]? with
  | some s => gcnt f g s.name g.length == 0 || decide ((gcnt f g s.name g.length : Int) ≤ s.spare - wcnt f.cps s.name f.cps.length)
  | none => true
def mayGo (f : Fl) (g : List Str) : Bool := allFrom (goneA f g) 0 g.length && allFrom (svGo f g) 0 f.svs.length
section
variable {f : Fl} {g : List Str} (hz : f.Sz 1048576) (hg : SsSz 1048576 g)
include hz hg
theorem s_G1 (K : List C → R) : bindBlk 0 (lim (ap6 s_l6MayGo.d1) ([.l (g.map sE), .i 0] ++ f.e)) K = bif allFrom (goneA f g) 0 g.length then K (.l (g.map sE) :: f.e) else some (.ret [.b false]) := by
  have hl : g.length < big := by have := hg.1; simp only [big]; omega
  have h := chk_loop (body := ap6 s_l6MayGo.d1) (S := fun i => [.l (g.map sE), .i (i : Nat)] ++ f.e) (p := goneA f g) (n := g.length) (b := 0) (ys := .l (g.map sE) :: f.e) (r := [.b false])
    (fun i hi => by
      have e3 : ((i : Int) < (g.length : Int)) := by omega
      have hc := s_l2Copy_eq f (sAt g i) hz.2.2.1
      simp only [Fl.e, jA, jB] at hc
      simp only [Fl.e, jA, jB, apL, jC, jD, s_l6MayGo.d1, C.I_i, C.L_l, jW, jY, getD_map' sE hi, ← sAt_get hi, e3, decide_true, jR, jX, w1 hi hl]
      simp only [sE, jC, hc, call1, jI, C.I_i, C.S_s]
      rcases findIx_at (fun x : Cp => sEq x.name (sAt g i)) f.cps 0 with h | ⟨k, hk, h1, h2⟩
      · have h : cIx f (sAt g i) < 0 := h
        have : goneA f g i = false := by
          unfold goneA
          have h' : decide (0 ≤ cIx f (sAt g i)) = false := by simp; omega
          split <;> simp [h']
        simp [h, this]
      · have h1 : cIx f (sAt g i) = (k : Nat) := by rw [← Nat.zero_add k]; exact h1
        have e5 : ¬ ((k : Int) < 0) := by omega
        have e6 : ((k : Int) < (f.cps.length : Int)) := by omega
        have hp : goneA f g i = (!sEq f.cps[k].at_ (mkS []) && (i == 0 || sLt (sAt g (i - 1)) (sAt g i))) := by
          unfold goneA
          rw [h1, jY, List.getElem?_eq_getElem hk]
          simp
        have q1 : ((f.cps[k].e.getD 11 .nil).S.toList == (bs #[]).toList) = sEq f.cps[k].at_ (mkS []) := rfl
        simp only [h1, e5, e6, decide_true, decide_false, jY, getD_map' Cp.e hk, q1, ja, jR, jS, jX, hp]
        cases sEq f.cps[k].at_ (mkS []) with
        | true => simp
        | false =>
          rcases Nat.eq_zero_or_pos i with h0 | h0
          · subst h0; simp
          · have hi1 : i - 1 < g.length := by omega
            have hw : w64 ((i : Int) - 1) = ((i - 1 : Nat) : Int) := by rw [w64_of (by omega) (by simp only [big] at hl; omega)]; omega
            have e1 : ((i : Int) > 0) := by omega
            have e2 : (((i - 1 : Nat) : Int) < (g.length : Int)) := by omega
            have e4 : (i == 0) = false := by simp; omega
            simp only [hw, jY, getD_map' sE hi1, ← sAt_get hi1, e1, e2, e4, decide_true, jR, jX, Bool.false_or, jZ, ja, jS, Bool.true_and, sE, jC, C.S_s]
            show (bif (!sLt (sAt g (i - 1)) (sAt g i)) then _ else _) = _
            cases sLt (sAt g (i - 1)) (sAt g i) <;> simp)
    (by simp [s_l6MayGo.d1, Fl.e]) g.length 0 rfl
  simp only [Int.natCast_zero] at h
  rw [h]
  cases allFrom (goneA f g) 0 g.length <;> simp
theorem gone_at (h : allFrom (goneA f g) 0 g.length = true) {i : Nat} (hi : i < g.length) : ∃ k, ∃ hk : k < f.cps.length, cIx f (sAt g i) = (k : Nat) ∧ goneS f g i = f.cps[k].svc := by
  have := (allFrom_iff _ _ _).1 h i (Nat.zero_le _) (by omega)
  rcases findIx_at (fun x : Cp => sEq x.name (sAt g i)) f.cps 0 with h | ⟨k, hk, h1, h2⟩
  · have h : cIx f (sAt g i) < 0 := h
    have h' : decide (0 ≤ cIx f (sAt g i)) = false := by simp; omega
    unfold goneA at this
    split at this <;> simp [h'] at this
  · have h1 : cIx f (sAt g i) = (k : Nat) := by rw [← Nat.zero_add k]; exact h1
    exact ⟨k, hk, h1, by unfold goneS; rw [h1, jY, List.getElem?_eq_getElem hk]⟩
theorem s_G2 (ha : allFrom (goneA f g) 0 g.length = true) (hs : ∀ s, s ∈ f.svs → 0 ≤ s.spare ∧ s.spare ≤ 60) (K : List C → R) : bindBlk 2 (lim (ap6 s_l6MayGo.d6) ([.l (g.map sE), .i 0] ++ f.e)) K = bif allFrom (svGo f g) 0 f.svs.length then K [] else some (.ret [.b false]) := by
  have hl : f.svs.length < big := by have := hz.2.1.1; simp only [big]; omega
  have hlc : f.cps.length < big := by have := hz.2.2.1; simp only [big]; omega
  have hlg : g.length < big := by have := hg.1; simp only [big]; omega
  have h := chk_loop (body := ap6 s_l6MayGo.d6) (S := fun i => [.l (g.map sE), .i (i : Nat)] ++ f.e) (p := svGo f g) (n := f.svs.length) (b := 2) (ys := []) (r := [.b false])
    (fun i hi => by
      have e3 : ((i : Int) < (f.svs.length : Int)) := by omega
      have hsp := hs _ (List.getElem_mem hi)
      have hp : svGo f g i = (gcnt f g f.svs[i].name g.length == 0 || decide ((gcnt f g f.svs[i].name g.length : Int) ≤ f.svs[i].spare - wcnt f.cps f.svs[i].name f.cps.length)) := by simp only [svGo, List.getElem?_eq_getElem hi]
      have L1 := run_loop (body := ap9 s_l6MayGo.d2) (S := fun k => [.l (g.map sE), .i (i : Nat), C.i (f.svs[i].spare - ((wcnt f.cps f.svs[i].name k : Nat) : Int)), .i 0, .i (k : Nat)] ++ f.e) (n := f.cps.length) (b := 4) (ys := [.l (g.map sE), .i (i : Nat), C.i (f.svs[i].spare - ((wcnt f.cps f.svs[i].name f.cps.length : Nat) : Int)), .i 0] ++ f.e)
        (fun k hk => by
          have e5 : ((k : Int) < (f.cps.length : Int)) := by omega
          have hwl := wcnt_le f.cps f.svs[i].name k
          have hw : w64 (f.svs[i].spare - (wcnt f.cps f.svs[i].name k : Int) - 1) = f.svs[i].spare - ((wcnt f.cps f.svs[i].name k + 1 : Nat) : Int) := by simp only [big] at hlc; rw [w64_of (by omega) (by omega)]; omega
          simp only [Fl.e, jA, jB, apL, jC, jD, s_l6MayGo.d2, C.I_i, C.L_l, jW, jY, getD_map' Cp.e hk, getD_map' Sv.e hi, e3, e5, decide_true, jR, jX, w1 hk hlc, wcnt, List.getElem?_eq_getElem hk, hw]
          simp only [Cp.e, Sv.e, jC, jD, C.S_s]
          show (bif sEq f.cps[k].svc f.svs[i].name then (bif sEq f.cps[k].at_ (mkS []) then _ else _) else _) = _
          cases sEq f.cps[k].svc f.svs[i].name <;> cases sEq f.cps[k].at_ (mkS []) <;> simp)
        (by simp [s_l6MayGo.d2, Fl.e]) f.cps.length 0 rfl
      have L2 := run_loop (body := ap9 s_l6MayGo.d3) (S := fun k => [.l (g.map sE), .i (i : Nat), C.i (f.svs[i].spare - ((wcnt f.cps f.svs[i].name f.cps.length : Nat) : Int)), .i (gcnt f g f.svs[i].name k : Nat), .i (k : Nat)] ++ f.e) (n := g.length) (b := 6) (ys := [.l (g.map sE), .i (i : Nat), C.i (f.svs[i].spare - ((wcnt f.cps f.svs[i].name f.cps.length : Nat) : Int)), .i (gcnt f g f.svs[i].name g.length : Nat)] ++ f.e)
        (fun k hk => by
          have e5 : ((k : Int) < (g.length : Int)) := by omega
          obtain ⟨j, hj, h1, h2⟩ := gone_at hz hg ha hk
          have hc := s_l2Copy_eq f (sAt g k) hz.2.2.1
          simp only [Fl.e, jA, jB] at hc
          have e6 : ((j : Int) < (f.cps.length : Int)) := by omega
          have hw := w64n (n := gcnt f g f.svs[i].name k) (by have := gcnt_le f g f.svs[i].name k; omega)
          simp only [Fl.e, jA, jB, apL, jC, jD, s_l6MayGo.d3, C.I_i, C.L_l, jW, jY, getD_map' sE hk, ← sAt_get hk, e3, e5, decide_true, jR, jX, w1 hk hlg, gcnt, hw, h2]
          simp only [sE, jC, hc, call1, jI, C.I_i, h1, e6, decide_true, jR, jX, jY, getD_map' Cp.e hj, getD_map' Sv.e hi]
          simp only [Cp.e, Sv.e, jC, jD, C.S_s]
          show (bif sEq f.cps[j].svc f.svs[i].name then _ else _) = _
          cases sEq f.cps[j].svc f.svs[i].name <;> simp)
        (by simp [s_l6MayGo.d3, Fl.e]) g.length 0 rfl
      have e7 : f.svs[i].spare - ((0 : Nat) : Int) = f.svs[i].spare := by omega
      simp only [Fl.e, jA, jB, Int.natCast_zero, wcnt, gcnt, Int.sub_zero, e7] at L1 L2
      simp only [Fl.e, jA, jB, apL, jC, jD, s_l6MayGo.d6, C.I_i, C.L_l, jW, jY, getD_map' Sv.e hi, e3, decide_true, jR, jX]
      have hsp0 : f.svs[i].e.getD 1 .nil = .i f.svs[i].spare := rfl
      rw [hsp0, L1]
      simp only [bindBlk_self, apL, jC, jD, s_l6MayGo.d5]
      rw [L2]
      simp only [bindBlk_self, apL, jC, jD, s_l6MayGo.d4, C.I_i, w1 hi hl, hp]
      by_cases g0 : gcnt f g f.svs[i].name g.length = 0
      · simp [g0]
      · have e8 : ((gcnt f g f.svs[i].name g.length : Int) > 0) := by omega
        have e9 : (gcnt f g f.svs[i].name g.length == 0) = false := by simp [g0]
        have e10 : decide ((gcnt f g f.svs[i].name g.length : Int) > f.svs[i].spare - (wcnt f.cps f.svs[i].name f.cps.length : Int)) = !decide ((gcnt f g f.svs[i].name g.length : Int) ≤ f.svs[i].spare - (wcnt f.cps f.svs[i].name f.cps.length : Int)) := by rw [← decide_not, decide_eq_decide]; omega
        simp only [e8, e9, e10, decide_true, jR, Bool.false_or]
        cases decide ((gcnt f g f.svs[i].name g.length : Int) ≤ f.svs[i].spare - (wcnt f.cps f.svs[i].name f.cps.length : Int)) <;> simp)
    (by simp [s_l6MayGo.d6, Fl.e]) f.svs.length 0 rfl
  simp only [Int.natCast_zero] at h
  rw [h]
  cases allFrom (svGo f g) 0 f.svs.length <;> simp
theorem spares (h : allFrom (svA f) 0 f.svs.length = true) : ∀ s, s ∈ f.svs → 0 ≤ s.spare ∧ s.spare ≤ 60 := by
  intro s hs
  obtain ⟨i, hi, rfl⟩ := List.getElem_of_mem hs
  have := (allFrom_iff _ _ _).1 h i (Nat.zero_le _) (by omega)
  simp only [svA, List.getElem?_eq_getElem hi, Bool.and_eq_true, within, decide_eq_true_eq] at this
  exact this.2.2
theorem validF_svs (h : validF f = true) : allFrom (svA f) 0 f.svs.length = true := by
  simp only [validF, Bool.and_eq_true] at h
  exact h.2.2.2.1
theorem s_l6MayGo_eq (h : validF f = true) : s_l6MayGo (f.e ++ [.l (g.map sE)]) = some [.b (mayGo f g)] := by
  have h1 := s_G1 hz hg (ap5 s_l6MayGo.d8)
  simp only [Fl.e, jA, jB] at h1
  simp only [s_l6MayGo, s_l6MayGo.d9, Fl.e, jA, jB, apL, jC, jD, h1, mayGo]
  cases ha : allFrom (goneA f g) 0 g.length with
  | false => simp
  | true =>
    have h2 := s_G2 hz hg ha (spares hz hg (validF_svs hz hg h)) (fun xs => s_l6MayGo.d7)
    simp only [Fl.e, jA, jB] at h2
    simp only [jR, Bool.true_and, apL, jC, jD, s_l6MayGo.d8, h2]
    cases allFrom (svGo f g) 0 f.svs.length <;> simp [s_l6MayGo.d7]
theorem s_PilotMayGo_eq : s_PilotMayGo (f.e ++ [.l (g.map sE)]) = some [.b (validF f && mayGo f g)] := by
  have h1 := s_PilotValid_eq hz
  simp only [Fl.e] at h1
  simp only [s_PilotMayGo, s_PilotMayGo.d1, Fl.e, jA, jB, apL, jC, jD, h1, call1, jI, C.B_b]
  cases h : validF f with
  | false => simp
  | true =>
    have h2 := s_l6MayGo_eq hz hg h
    simp only [Fl.e, jA, jB] at h2
    simp [h2]
def mapG (f : Fl) (g : List Str) : Nat → List (List C)
  | 0 => []
  | i + 1 => mset (goneS f g i) (.i (w64 ((mget (.i 0) (goneS f g i) (mapG f g i)).I + 1))) (mapG f g i)
omit hz in
theorem mapG_get (nm : Str) : ∀ i, i ≤ g.length → mget (.i 0) nm (mapG f g i) = .i (gcnt f g nm i : Nat)
  | 0, _ => rfl
  | i + 1, h => by
    have ih := mapG_get nm i (by omega)
    have ih2 := mapG_get (goneS f g i) i (by omega)
    have hlg : g.length < big := by have := hg.1; simp only [big]; omega
    rw [mapG, gcnt, mget_mset, ih, ih2, sEq_comm]
    have hw := w64n (n := gcnt f g (goneS f g i) i) (by have := gcnt_le f g (goneS f g i) i; omega)
    cases hq : sEq (goneS f g i) nm with
    | true =>
      have := (sEq_iff _ _).1 hq
      subst this
      simp only [jR, C.I_i, hw]
    | false => rfl
theorem i_G1 (K : List C → R) : bindBlk 0 (lim (ap9 i_pMayGo.d1) ([.l (g.map sE), .l (g.map sE), .i (g.length : Nat), .i 0] ++ f.e ++ [.l []])) K = bif allFrom (goneA f g) 0 g.length then K (f.e ++ [.l (mapG f g g.length)]) else some (.ret [.b false]) := by
  have hl : g.length < big := by have := hg.1; simp only [big]; omega
  have h := chk_loop (body := ap9 i_pMayGo.d1) (S := fun i => [.l (g.map sE), .l (g.map sE), .i (g.length : Nat), .i (i : Nat)] ++ f.e ++ [.l (mapG f g i)]) (p := goneA f g) (n := g.length) (b := 0) (ys := f.e ++ [.l (mapG f g g.length)]) (r := [.b false])
    (fun i hi => by
      have e3 : ((i : Int) < (g.length : Int)) := by omega
      have hc := i_pCopyAt_eq f (sAt g i) hz.2.2.1
      simp only [Fl.e, jA, jB] at hc
      simp only [Fl.e, jA, jB, apL, jC, jD, i_pMayGo.d1, C.I_i, C.L_l, jW, jY, getD_map' sE hi, ← sAt_get hi, e3, decide_true, jR, jX, w1 hi hl]
      simp only [sE, jC, hc, call1, jI, C.I_i, C.S_s]
      rcases findIx_at (fun x : Cp => sEq x.name (sAt g i)) f.cps 0 with h | ⟨k, hk, h1, h2⟩
      · have h : cIx f (sAt g i) < 0 := h
        have : goneA f g i = false := by
          unfold goneA
          have h' : decide (0 ≤ cIx f (sAt g i)) = false := by simp; omega
          split <;> simp [h']
        simp [h, this]
      · have h1 : cIx f (sAt g i) = (k : Nat) := by rw [← Nat.zero_add k]; exact h1
        have e5 : ¬ ((k : Int) < 0) := by omega
        have e6 : ((k : Int) < (f.cps.length : Int)) := by omega
        have hp : goneA f g i = (!sEq f.cps[k].at_ (mkS []) && (i == 0 || sLt (sAt g (i - 1)) (sAt g i))) := by
          unfold goneA
          rw [h1, jY, List.getElem?_eq_getElem hk]
          simp
        have hgs : goneS f g i = f.cps[k].svc := by unfold goneS; rw [h1, jY, List.getElem?_eq_getElem hk]
        have q1 : ((f.cps[k].e.getD 11 .nil).S.toList == (bs #[]).toList) = sEq f.cps[k].at_ (mkS []) := rfl
        have q2 : (f.cps[k].e.getD 1 .nil).S = f.cps[k].svc := rfl
        simp only [h1, e5, e6, decide_true, decide_false, jY, getD_map' Cp.e hk, q1, q2, ja, jR, jS, jX, hp, mapG, hgs]
        cases sEq f.cps[k].at_ (mkS []) with
        | true => simp
        | false =>
          rcases Nat.eq_zero_or_pos i with h0 | h0
          · subst h0; simp
          · have hi1 : i - 1 < g.length := by omega
            have hw : w64 ((i : Int) - 1) = ((i - 1 : Nat) : Int) := by rw [w64_of (by omega) (by simp only [big] at hl; omega)]; omega
            have e1 : ((i : Int) > 0) := by omega
            have e2 : (((i - 1 : Nat) : Int) < (g.length : Int)) := by omega
            have e4 : (i == 0) = false := by simp; omega
            simp only [hw, jY, getD_map' sE hi1, ← sAt_get hi1, e1, e2, e4, decide_true, jR, jX, Bool.false_or, jZ, ja, jS, Bool.true_and, sE, jC, C.S_s, prev_not]
            cases sLt (sAt g (i - 1)) (sAt g i) <;> simp)
    (by simp [i_pMayGo.d1, Fl.e]) g.length 0 rfl
  simp only [Int.natCast_zero, mapG] at h
  rw [h]
  cases allFrom (goneA f g) 0 g.length <;> simp
theorem i_G2 (hs : ∀ s, s ∈ f.svs → 0 ≤ s.spare ∧ s.spare ≤ 60) (K : List C → R) : bindBlk 2 (lim (ap8 i_pMayGo.d5) ([.l (f.svs.map Sv.e), .i (f.svs.length : Nat), .i 0] ++ f.e ++ [.l (mapG f g g.length)])) K = bif allFrom (svGo f g) 0 f.svs.length then K [] else some (.ret [.b false]) := by
  have hl : f.svs.length < big := by have := hz.2.1.1; simp only [big]; omega
  have hlc : f.cps.length < big := by have := hz.2.2.1; simp only [big]; omega
  have h := chk_loop (body := ap8 i_pMayGo.d5) (S := fun i => [.l (f.svs.map Sv.e), .i (f.svs.length : Nat), .i (i : Nat)] ++ f.e ++ [.l (mapG f g g.length)]) (p := svGo f g) (n := f.svs.length) (b := 2) (ys := []) (r := [.b false])
    (fun i hi => by
      have e3 : ((i : Int) < (f.svs.length : Int)) := by omega
      have hsp := hs _ (List.getElem_mem hi)
      have hp : svGo f g i = (gcnt f g f.svs[i].name g.length == 0 || decide ((gcnt f g f.svs[i].name g.length : Int) ≤ f.svs[i].spare - wcnt f.cps f.svs[i].name f.cps.length)) := by simp only [svGo, List.getElem?_eq_getElem hi]
      have L1 := run_loop (body := ap14 i_pMayGo.d2) (S := fun k => [C.i ((wcnt f.cps f.svs[i].name k : Nat) : Int), .l (f.svs.map Sv.e), .i (f.svs.length : Nat), .i (i : Nat), .l (f.cps.map Cp.e), .i (f.cps.length : Nat), .i (k : Nat)] ++ f.e ++ [.l (mapG f g g.length), C.s f.svs[i].name, C.i f.svs[i].spare]) (n := f.cps.length) (b := 4) (ys := [.i (wcnt f.cps f.svs[i].name f.cps.length : Nat), .l (f.svs.map Sv.e), .i (f.svs.length : Nat), .i (i : Nat)] ++ f.e ++ [.l (mapG f g g.length), C.s f.svs[i].name, C.i f.svs[i].spare])
        (fun k hk => by
          have e5 : ((k : Int) < (f.cps.length : Int)) := by omega
          have hw := w64n (n := wcnt f.cps f.svs[i].name k) (by have := wcnt_le f.cps f.svs[i].name k; omega)
          have hw0 : w64 ((wcnt f.cps f.svs[i].name k : Nat) : Int) = (wcnt f.cps f.svs[i].name k : Nat) := by have := wcnt_le f.cps f.svs[i].name k; simp only [big] at hlc; rw [w64_of (by omega) (by omega)]
          simp only [Fl.e, jA, jB, apL, jC, jD, i_pMayGo.d2, C.I_i, C.L_l, C.S_s, jW, jY, getD_map' Cp.e hk, e5, decide_true, jR, jX, w1 hk hlc, wcnt, List.getElem?_eq_getElem hk]
          simp only [Cp.e, jC, jD, C.S_s, i_one_eq, call1, jI, C.I_i]
          have q1 : (f.cps[k].svc.toList == f.svs[i].name.toList) = sEq f.cps[k].svc f.svs[i].name := rfl
          have q2 : (f.cps[k].at_.toList == (bs #[]).toList) = sEq f.cps[k].at_ (mkS []) := rfl
          simp only [q1, q2]
          cases sEq f.cps[k].svc f.svs[i].name <;> cases sEq f.cps[k].at_ (mkS []) <;> simp [hw, hw0, i_one_eq])
        (by simp [i_pMayGo.d2, Fl.e]) f.cps.length 0 rfl
      simp only [Fl.e, jA, jB, Int.natCast_zero, wcnt] at L1
      have hn0 : f.svs[i].e.getD 0 .nil = .s f.svs[i].name := rfl
      have hn1 : f.svs[i].e.getD 1 .nil = .i f.svs[i].spare := rfl
      have hmg := mapG_get (f := f) hg f.svs[i].name g.length (Nat.le_refl _)
      have hwl := wcnt_le f.cps f.svs[i].name f.cps.length
      have hw : w64 (f.svs[i].spare - (wcnt f.cps f.svs[i].name f.cps.length : Int)) = f.svs[i].spare - (wcnt f.cps f.svs[i].name f.cps.length : Int) := by simp only [big] at hlc; rw [w64_of (by omega) (by omega)]
      simp only [Fl.e, jA, jB, apL, jC, jD, i_pMayGo.d5, C.I_i, C.L_l, jW, jY, getD_map' Sv.e hi, e3, decide_true, jR, jX, hn0, hn1, C.S_s, hmg, hp]
      by_cases g0 : gcnt f g f.svs[i].name g.length = 0
      · have e8 : (((gcnt f g f.svs[i].name g.length : Nat) : Int) == 0) = true := by simp [g0]
        simp only [e8, jR]
        simp [i_pMayGo.d4, w1 hi hl, g0]
      · have e8 : (((gcnt f g f.svs[i].name g.length : Nat) : Int) == 0) = false := by rw [beq_eq_false_iff_ne]; omega
        have e9 : (gcnt f g f.svs[i].name g.length == 0) = false := by simp [g0]
        have e10 : decide ((gcnt f g f.svs[i].name g.length : Int) > f.svs[i].spare - (wcnt f.cps f.svs[i].name f.cps.length : Int)) = !decide ((gcnt f g f.svs[i].name g.length : Int) ≤ f.svs[i].spare - (wcnt f.cps f.svs[i].name f.cps.length : Int)) := by rw [← decide_not, decide_eq_decide]; omega
        simp only [e8, jS, L1, bindBlk_self, apL, jC, jD, i_pMayGo.d3, C.I_i, C.L_l, C.S_s, hmg, hw, e9, e10, Bool.false_or]
        cases decide ((gcnt f g f.svs[i].name g.length : Int) ≤ f.svs[i].spare - (wcnt f.cps f.svs[i].name f.cps.length : Int)) <;> simp [i_pMayGo.d4, w1 hi hl])
    (by simp [i_pMayGo.d5, Fl.e]) f.svs.length 0 rfl
  simp only [Int.natCast_zero] at h
  rw [h]
  cases allFrom (svGo f g) 0 f.svs.length <;> simp
theorem i_pMayGo_eq (h : validF f = true) : i_pMayGo (f.e ++ [.l (g.map sE)]) = some [.b (mayGo f g)] := by
  have h1 := i_G1 hz hg (ap5 i_pMayGo.d7)
  have h2 := i_G2 hz hg (spares hz hg (validF_svs hz hg h)) (fun xs => i_pMayGo.d6)
  simp only [Fl.e, jA, jB] at h1 h2
  simp only [i_pMayGo, i_pMayGo.d8, Fl.e, jA, jB, apL, jC, jD, C.L_l, jW, nils, h1, mayGo]
  cases ha : allFrom (goneA f g) 0 g.length with
  | false => simp
  | true =>
    simp only [jR, Bool.true_and, apL, jC, jD, i_pMayGo.d7, C.L_l, jW, h2]
    cases allFrom (svGo f g) 0 f.svs.length <;> simp [i_pMayGo.d6]
theorem i_PilotMayGo_eq : i_PilotMayGo (f.e ++ [.l (g.map sE)]) = some [.b (validF f && mayGo f g)] := by
  have h1 := i_PilotValid_eq hz
  simp only [Fl.e] at h1
  simp only [i_PilotMayGo, i_PilotMayGo.d1, Fl.e, jA, jB, apL, jC, jD, h1, call1, jI, C.B_b]
  cases h : validF f with
  | false => simp
  | true =>
    have h2 := i_pMayGo_eq hz hg h
    simp only [Fl.e, jA, jB] at h2
    simp [h2]
end
theorem FnExactPilotMayGo_true (f : Fl) (g : List Str) (hz : f.Sz maxLen) (hg : SsSz maxLen g) : w_FnExactPilotMayGo (f.e ++ [.l (g.map sE)]) = some [.b true] := by
  have h1 := w_szPilotFleet_eq f 1048576 (by omega) (by omega) hz
  simp only [Fl.e, jA, jB] at h1
  simp only [w_FnExactPilotMayGo, w_FnExactPilotMayGo.d1, Fl.e, jA, jB, apL, jC, jD]
  rcases h1 with h | ⟨n, n0, n1, hz', h⟩
  · simp [h, call1]
  have hn : ¬ n < 0 := by omega
  simp only [h, call1, jI, jC, C.I_i, hn, decide_false, jS]
  rcases w_szStringS_eq g n n0 n1 hg with h | ⟨m, m0, m1, hg', h⟩
  · simp [h]
  have hm : ¬ m < 0 := by omega
  have t1 := w_toPilotFleet_eq f hz'
  have t2 := w_toStringS_eq g ⟨hg'.1, fun _ _ => trivial⟩
  have t3 := w_eqPilotFleet_eq f hz'
  have t4 := w_eqStringS_eq g ⟨hg'.1, fun _ _ => trivial⟩
  have s1 := s_PilotMayGo_eq hz' hg'
  have s2 := i_PilotMayGo_eq hz' hg'
  simp only [Fl.e, jA, jB] at t1 t3 s1 s2
  simp only [h, t1, t2, t3, t4, s1, s2, call1, call4, jI, jC, jD, C.I_i, C.L_l, C.B_b, hm, decide_false, jS]
  cases validF f && mayGo f g <;> simp
end Go.Ev
namespace Go.Ev
def markM (k : Nat) (n v : Tok) (m : Str) : Bool := mkOk m && (sEq (mkNm m) (mkS n) && (k == 1 || sEq (mkVal m) (mkS v)))
def Tr.meets (ms : List Str) : Tr → Bool
  | .lf k n v => k == 0 || ms.any (markM k n v)
  | .un t => !t.meets ms
  | .bn k a b => bif k == 4 then a.meets ms && b.meets ms else a.meets ms || b.meets ms
def Tr.Ok (t : Tr) : Prop := t.Wf ∨ t = .lf 0 [] []
theorem any_from (q : Nat → Bool) : ∀ (k i : Nat), (!allFrom (fun j => !q j) i k) = true ↔ ∃ j, i ≤ j ∧ j < i + k ∧ q j = true := by
  intro k i
  rw [Bool.not_eq_true', ← Bool.not_eq_true, allFrom_iff]
  constructor
  · intro h
    apply Classical.byContradiction
    intro hn
    exact h fun j h1 h2 => by
      cases hq : q j with
      | false => rfl
      | true => exact absurd ⟨j, h1, h2, hq⟩ hn
  · rintro ⟨j, h1, h2, h3⟩ h
    have := h j h1 h2
    rw [h3] at this; simp at this
theorem any_list (p : Str → Bool) (ms : List Str) : allFrom (fun j => !p (sAt ms j)) 0 ms.length = !ms.any p := by
  rw [← Bool.not_not (b := allFrom _ _ _)]
  congr 1
  rw [Bool.eq_iff_iff, any_from, List.any_eq_true]
  constructor
  · rintro ⟨j, _, h1, h2⟩
    have hj : j < ms.length := by omega
    rw [sAt_get hj] at h2
    exact ⟨_, List.getElem_mem hj, h2⟩
  · rintro ⟨x, hx, h⟩
    obtain ⟨j, hj, rfl⟩ := List.getElem_of_mem hx
    exact ⟨j, Nat.zero_le _, by omega, by rw [sAt_get hj]; exact h⟩
section
variable {ms : List Str} (hz : SsSz 1048576 ms)
include hz
theorem s_leaf (G : List C → Option (List C)) (k : Nat) (n v : Tok) (c : C) (K : List C → R) : bindBlk 1 (lim (ap6 (s_l1Meets.d2 G)) [.l (ms.map sE), .i 0, .i (k : Nat), .s (mkS n), .s (mkS v), c]) K = bif ms.any (markM k n v) then some (.ret [.b true]) else K [] := by
  have hl : ms.length < big := by have := hz.1; simp only [big]; omega
  have h := chk_loop (body := ap6 (s_l1Meets.d2 G)) (S := fun i => [.l (ms.map sE), .i (i : Nat), .i (k : Nat), .s (mkS n), .s (mkS v), c]) (p := fun j => !markM k n v (sAt ms j)) (n := ms.length) (b := 1) (ys := []) (r := [.b true])
    (fun i hi => by
      have hsz : (sAt ms i).size ≤ 1048576 := by rw [sAt_get hi]; exact hz.2 _ (List.getElem_mem hi)
      have e3 : ((i : Int) < (ms.length : Int)) := by omega
      have q1 : ((mkNm (sAt ms i)).toList == (mkS n).toList) = sEq (mkNm (sAt ms i)) (mkS n) := rfl
      have q2 : ((mkVal (sAt ms i)).toList == (mkS v).toList) = sEq (mkVal (sAt ms i)) (mkS v) := rfl
      have q3 : (((k : Nat) : Int) == 1) = (k == 1) := by rw [Bool.eq_iff_iff, beq_iff_eq, beq_iff_eq]; omega
      simp only [apL, jC, jD, s_l1Meets.d2, s_l1Meets.d1, C.I_i, C.L_l, jW, jY, getD_map' sE hi, ← sAt_get hi, w1 hi hl, e3, decide_true, jR, jX]
      simp only [sE, jC, s_l1Mark_eq _ hsz, call3, jI, C.S_s, jD, C.B_b, q1, q2, q3, markM]
      cases mkOk (sAt ms i) <;> cases sEq (mkNm (sAt ms i)) (mkS n) <;> cases k == 1 <;> cases sEq (mkVal (sAt ms i)) (mkS v) <;> simp [s_l1Meets.d1, w1 hi hl])
    (by simp [s_l1Meets.d2]) ms.length 0 rfl
  simp only [Int.natCast_zero, any_list] at h
  rw [h]
  cases ms.any (markM k n v) <;> simp
theorem i_leaf (G : List C → Option (List C)) (k : Nat) (n v : Tok) (l : C) (K : List C → R) : bindBlk 1 (lim (ap4 (i_pSel_meets.d2 G)) [.p [.i (k : Nat), .s (mkS n), .s (mkS v), l], .l (ms.map sE), .i (ms.length : Nat), .i 0]) K = bif ms.any (markM k n v) then some (.ret [.b true]) else K [] := by
  have hl : ms.length < big := by have := hz.1; simp only [big]; omega
  have h := chk_loop (body := ap4 (i_pSel_meets.d2 G)) (S := fun i => [.p [.i (k : Nat), .s (mkS n), .s (mkS v), l], .l (ms.map sE), .i (ms.length : Nat), .i (i : Nat)]) (p := fun j => !markM k n v (sAt ms j)) (n := ms.length) (b := 1) (ys := []) (r := [.b true])
    (fun i hi => by
      have hsz : (sAt ms i).size ≤ 1048576 := by rw [sAt_get hi]; exact hz.2 _ (List.getElem_mem hi)
      have e3 : ((i : Int) < (ms.length : Int)) := by omega
      have q1 : ((mkNm (sAt ms i)).toList == (mkS n).toList) = sEq (mkNm (sAt ms i)) (mkS n) := rfl
      have q2 : ((mkVal (sAt ms i)).toList == (mkS v).toList) = sEq (mkVal (sAt ms i)) (mkS v) := rfl
      have q3 : (((k : Nat) : Int) == 1) = (k == 1) := by rw [Bool.eq_iff_iff, beq_iff_eq, beq_iff_eq]; omega
      simp only [apL, jC, jD, i_pSel_meets.d2, i_pSel_meets.d1, C.I_i, C.L_l, jW, jY, getD_map' sE hi, ← sAt_get hi, w1 hi hl, e3, decide_true, jR, jX]
      simp only [sE, jC, i_pMark_eq _ hsz, call3, jI, C.S_s, jD, C.B_b, C.isP_p, C.P_p, C.I_i, jR, q1, q2, q3, markM]
      cases mkOk (sAt ms i) <;> cases sEq (mkNm (sAt ms i)) (mkS n) <;> cases k == 1 <;> cases sEq (mkVal (sAt ms i)) (mkS v) <;> simp [i_pSel_meets.d1, w1 hi hl])
    (by simp [i_pSel_meets.d2]) ms.length 0 rfl
  simp only [Int.natCast_zero, any_list] at h
  rw [h]
  cases ms.any (markM k n v) <;> simp
theorem i_meets : ∀ (k : Nat) (t : Tr), t.depth < k → t.Ok → i_pSel_meets.g k 0 [t.enc, .l (ms.map sE)] = some [.b (t.meets ms)]
  | 0, t, h, _ => by omega
  | k + 1, t, h, hok => by
    have hs : ∀ x, i_pSel_meets.g (k + 1) 0 x = i_pSel_meets.step (i_pSel_meets.g k 0) x := fun _ => rfl
    rw [hs]
    simp only [i_pSel_meets.step, i_pSel_meets.d5, apL, jC, jD]
    cases t with
    | lf kd n v =>
      have hlf := i_leaf hz (i_pSel_meets.g k 0) kd n v (.l []) (fun xs => i_pSel_meets.d3 (i_pSel_meets.g k 0))
      have hk : kd = 0 ∨ kd = 1 ∨ kd = 2 := by
        rcases hok with h | h
        · rcases h.2 with ⟨h, _⟩ | ⟨h, _⟩
          · exact .inr (.inl h)
          · exact .inr (.inr h)
        · simp only [Tr.lf.injEq] at h; exact .inl h.1
      simp only [Tr.enc, C.isP_p, jR, C.P_p, jC, C.I_i, Tr.meets]
      rcases hk with rfl | rfl | rfl
      · simp [i_pSel_meets.d4]
      · simp only [i_pSel_meets.d4, jJ, apL, jC, jD, C.B_b, C.L_l, jW, hlf, show (((1 : Nat) : Int) == 1) = true from rfl, jR]
        cases ms.any (markM 1 n v) <;> simp [i_pSel_meets.d3]
      · simp only [i_pSel_meets.d4, jJ, apL, jC, jD, C.B_b, C.L_l, jW, hlf, show (((2 : Nat) : Int) == 1) = false from rfl, show (((2 : Nat) : Int) == 2) = true from rfl, jR, jS]
        cases ms.any (markM 2 n v) <;> simp [i_pSel_meets.d3]
    | un t =>
      simp only [Tr.depth] at h
      have hw : t.Ok := by
        rcases hok with h | h
        · exact .inl h
        · simp at h
      have ih := i_meets k t (by omega) hw
      simp [Tr.enc, i_pSel_meets.d4, ih, call1, Tr.meets]
    | bn kd a b =>
      simp only [Tr.depth] at h
      have hw : (kd = 4 ∨ kd = 5) ∧ a.Ok ∧ b.Ok := by
        rcases hok with h | h
        · exact ⟨h.1, .inl h.2.1, .inl h.2.2⟩
        · simp at h
      have iha := i_meets k a (by omega) hw.2.1
      have ihb := i_meets k b (by omega) hw.2.2
      rcases hw.1 with rfl | rfl
      · cases ha : a.meets ms <;> simp [Tr.enc, i_pSel_meets.d4, iha, ihb, call1, Tr.meets, ha]
      · cases ha : a.meets ms <;> simp [Tr.enc, i_pSel_meets.d4, iha, ihb, call1, Tr.meets, ha]
theorem s_meets {N K : List (List C)} (hN : N.length ≤ 1048576) (hK : K.length ≤ 1048576) : ∀ (k : Nat) (t : Tr) (o : Nat) (r r' : List (List C)), t.depth < k → t.Ok → N.drop o = t.flat ++ r → K.drop o = t.kids o ++ r' →
    s_l1Meets.g k 0 [.l N, .l K, .i (o + t.sz - 1 : Nat), .l (ms.map sE)] = some [.b (t.meets ms)]
  | 0, t, o, r, r', h, _, _, _ => by omega
  | k + 1, t, o, r, r', h, hok, hd, hd' => by
    have hs : ∀ x, s_l1Meets.g (k + 1) 0 x = s_l1Meets.step (s_l1Meets.g k 0) x := fun _ => rfl
    rw [hs]
    simp only [s_l1Meets.step, s_l1Meets.d4, apL, jC, jD, C.I_i, C.L_l, jY]
    cases t with
    | lf kd n v =>
      obtain ⟨h1, h2, _⟩ := drop_cons (show N.drop o = node kd n v 0 :: r from hd)
      have hlf := s_leaf hz (s_l1Meets.g k 0) kd n v (.i ((0 : Nat) : Int)) (fun xs => s_l1Meets.d3 (s_l1Meets.g k 0))
      have e : o + (Tr.lf kd n v).sz - 1 = o := by simp [Tr.sz]
      have hg : N.getD o [] = node kd n v 0 := by rw [List.getD_eq_getElem?_getD, List.getElem?_eq_getElem h1, h2]; rfl
      have e1 : ((o : Int) < (N.length : Int)) := by omega
      have hk : kd = 0 ∨ kd = 1 ∨ kd = 2 := by
        rcases hok with h | h
        · rcases h.2 with ⟨h, _⟩ | ⟨h, _⟩
          · exact .inr (.inl h)
          · exact .inr (.inr h)
        · simp only [Tr.lf.injEq] at h; exact .inl h.1
      simp only [e, hg, node, jC, jD, C.I_i, e1, decide_true, jR, jX, Tr.meets]
      rcases hk with rfl | rfl | rfl
      · simp
      · simp only [show (((1 : Nat) : Int) == 0) = false from rfl, show (((1 : Nat) : Int) == 3) = false from rfl, show (((1 : Nat) : Int) == 4) = false from rfl, show (((1 : Nat) : Int) == 5) = false from rfl, jS, hlf]
        cases ms.any (markM 1 n v) <;> simp [s_l1Meets.d3]
      · simp only [show (((2 : Nat) : Int) == 0) = false from rfl, show (((2 : Nat) : Int) == 3) = false from rfl, show (((2 : Nat) : Int) == 4) = false from rfl, show (((2 : Nat) : Int) == 5) = false from rfl, jS, hlf]
        cases ms.any (markM 2 n v) <;> simp [s_l1Meets.d3]
    | un t =>
      simp only [Tr.depth] at h
      have hw : t.Ok := by
        rcases hok with h | h
        · exact .inl h
        · simp at h
      have hn : N.drop o = t.flat ++ (node 3 [] [] 1 :: r) := by rw [hd]; simp [Tr.flat]
      have hk : K.drop o = t.kids o ++ ([.l [[.i (o + t.sz - 1 : Nat)]]] :: r') := by rw [hd']; simp [Tr.kids]
      have ih := s_meets hN hK k t o _ _ (by omega) hw hn hk
      obtain ⟨h1, h2⟩ := drop_at hn
      obtain ⟨h3, h4⟩ := drop_at hk
      rw [t.flat_len] at h1
      rw [t.kids_len] at h3
      have h2 : N[o + t.sz] = node 3 [] [] 1 := by simp only [t.flat_len] at h2; exact h2
      have h4 : K[o + t.sz] = [.l [[.i (o + t.sz - 1 : Nat)]]] := by simp only [t.kids_len] at h4; exact h4
      have e : o + (Tr.un t).sz - 1 = o + t.sz := by simp [Tr.sz]
      have hg : N.getD (o + t.sz) [] = node 3 [] [] 1 := by rw [List.getD_eq_getElem?_getD, List.getElem?_eq_getElem h1, h2]; rfl
      have hg' : K.getD (o + t.sz) [] = [.l [[.i (o + t.sz - 1 : Nat)]]] := by rw [List.getD_eq_getElem?_getD, List.getElem?_eq_getElem h3, h4]; rfl
      have e1 : (((o + t.sz : Nat) : Int) < (N.length : Int)) := by omega
      have e2 : (((o + t.sz : Nat) : Int) < (K.length : Int)) := by omega
      simp only [e, hg, hg', node, jC, jD, C.I_i, C.L_l, e1, e2, decide_true, jR, jX, ih, call1, jI, C.B_b, Tr.meets]
      simp
    | bn kd a b =>
      simp only [Tr.depth] at h
      have hw : (kd = 4 ∨ kd = 5) ∧ a.Ok ∧ b.Ok := by
        rcases hok with h | h
        · exact ⟨h.1, .inl h.2.1, .inl h.2.2⟩
        · simp at h
      have hn : N.drop o = a.flat ++ (b.flat ++ (node kd [] [] 2 :: r)) := by rw [hd]; simp [Tr.flat]
      have hn2 : N.drop (o + a.sz) = b.flat ++ (node kd [] [] 2 :: r) := by rw [← List.drop_drop, hn, ← a.flat_len]; simp
      have hk : K.drop o = a.kids o ++ (b.kids (o + a.sz) ++ ([.l [[.i (o + a.sz - 1 : Nat)], [.i (o + a.sz + b.sz - 1 : Nat)]]] :: r')) := by rw [hd']; simp [Tr.kids]
      have hk2 : K.drop (o + a.sz) = b.kids (o + a.sz) ++ ([.l [[.i (o + a.sz - 1 : Nat)], [.i (o + a.sz + b.sz - 1 : Nat)]]] :: r') := by
        rw [← List.drop_drop, hk, ← a.kids_len o]; simp
      have iha := s_meets hN hK k a o _ _ (by omega) hw.2.1 hn hk
      have ihb := s_meets hN hK k b (o + a.sz) _ _ (by omega) hw.2.2 hn2 hk2
      obtain ⟨h1, h2⟩ := drop_at hn2
      obtain ⟨h3, h4⟩ := drop_at hk2
      rw [b.flat_len] at h1
      rw [b.kids_len] at h3
      have h2 : N[o + a.sz + b.sz] = node kd [] [] 2 := by simp only [b.flat_len] at h2; exact h2
      have h4 : K[o + a.sz + b.sz] = [.l [[.i (o + a.sz - 1 : Nat)], [.i (o + a.sz + b.sz - 1 : Nat)]]] := by simp only [b.kids_len] at h4; exact h4
      have e : o + (Tr.bn kd a b).sz - 1 = o + a.sz + b.sz := by simp only [Tr.sz]; omega
      have hg : N.getD (o + a.sz + b.sz) [] = node kd [] [] 2 := by rw [List.getD_eq_getElem?_getD, List.getElem?_eq_getElem h1, h2]; rfl
      have hg' : K.getD (o + a.sz + b.sz) [] = [.l [[.i (o + a.sz - 1 : Nat)], [.i (o + a.sz + b.sz - 1 : Nat)]]] := by rw [List.getD_eq_getElem?_getD, List.getElem?_eq_getElem h3, h4]; rfl
      have e1 : (((o + a.sz + b.sz : Nat) : Int) < (N.length : Int)) := by omega
      have e2 : (((o + a.sz + b.sz : Nat) : Int) < (K.length : Int)) := by omega
      simp only [e, hg, hg', node, jC, jD, C.I_i, C.L_l, e1, e2, decide_true, jR, jX, iha, ihb, call1, jI, C.B_b, Tr.meets]
      rcases hw.1 with rfl | rfl
      · cases a.meets ms <;> simp
      · cases a.meets ms <;> simp
end
end Go.Ev
namespace Go.Ev
def PR.tr : PR → Option Tr
  | .err _ => none
  | .all => some (.lf 0 [] [])
  | .tree t => some t
theorem PR.tr_some {p : PR} {t : Tr} (h : p.tr = some t) : p.nodes = t.flat ∧ p.ptr = t.enc ∧ p.code = 0 := by
  cases p with
  | err n => simp [PR.tr] at h
  | all => simp only [PR.tr, Option.some.injEq] at h; subst h; exact ⟨rfl, rfl, rfl⟩
  | tree u => simp only [PR.tr, Option.some.injEq] at h; subst h; exact ⟨rfl, rfl, rfl⟩
theorem PR.tr_none {p : PR} (h : p.tr = none) : ∃ n, p = .err n := by
  cases p with
  | err n => exact ⟨n, rfl⟩
  | all => simp [PR.tr] at h
  | tree u => simp [PR.tr] at h
theorem pp_code (s : Str) {n : Nat} (h : pp s = .err n) : n ≠ 0 := by
  unfold pp at h
  split at h
  · simp at h; omega
  · split at h
    · simp at h
    · split at h
      · split at h
        · simp at h
        · simp at h; omega
      · simp at h; omega
theorem pp_ok {s : Str} {t : Tr} (h : (pp s).tr = some t) : t.Ok ∧ t.sz ≤ 200 ∧ t.depth ≤ 20 := by
  cases hp : pp s with
  | err n => rw [hp] at h; simp [PR.tr] at h
  | all =>
    rw [hp] at h
    simp only [PR.tr, Option.some.injEq] at h
    subst h
    exact ⟨.inr rfl, by simp [Tr.sz], by simp [Tr.depth]⟩
  | tree u =>
    rw [hp] at h
    simp only [PR.tr, Option.some.injEq] at h
    subst h
    obtain ⟨h1, h2, h3⟩ := pp_tree hp
    exact ⟨.inl h1, h2, h3⟩
theorem s_l1Tree0 : s_l1Tree [.l (Tr.lf 0 [] []).flat] = some [.b true] := by
  have w0 : w64 1 = 1 := w64_of (by omega) (by omega)
  have z0 : within 0 0 5 = true := rfl
  have h0 : ap2 s_l1Tree.d4 [.i 0, .l (Tr.lf 0 [] []).flat] = some (.again [.i 1, .l (Tr.lf 0 [] []).flat]) := by
    simp [s_l1Tree.d4, s_l1Tree.d3, s_l1Tree.d2, s_l1Tree.d1, Tr.flat, node, s_l1In_eq, z0, call1, emp, bs_nil, w0]
  have h1 : ap2 s_l1Tree.d4 [.i 1, .l (Tr.lf 0 [] []).flat] = some (.brk 0 []) := by
    simp [s_l1Tree.d4, Tr.flat]
  have hk := s_l1Kids_eq (.lf 0 [] []) (by simp [Tr.sz])
  have e : ¬ (((Tr.lf 0 [] []).flat.length : Int) > 400) := by simp [Tr.flat]
  simp only [s_l1Tree, s_l1Tree.d6, apL, jC, C.L_l, e, decide_false, jS, hk, call2, jI, C.B_b, jZ]
  rw [lim_again h0, lim_brk h1]
  simp [s_l1Tree.d5]
theorem s_l1Tree_Ok (t : Tr) (ht : t.sz ≤ 400) (ho : t.Ok) : s_l1Tree [.l t.flat] = some [.b true] := by
  rcases ho with h | rfl
  · exact s_l1Tree_eq t ht h
  · exact s_l1Tree0
theorem s_l1Valid_Ok (t : Tr) (ht : t.sz ≤ 400) (ho : t.Ok) : s_l1Valid [.l t.flat] = some [.b (decide (t.depth ≤ 20))] := by
  have hd := t.depth_lt
  have hp := t.sz_pos
  have hF := FUEL_ge
  have hw1 : w64 ((t.flat.length : Int) - 1) = ((0 + t.sz - 1 : Nat) : Int) := by rw [t.flat_len, w64_of (by omega) (by omega)]; omega
  have hn : s_l1Nest [.l (t.kids 0), .i (0 + t.sz - 1 : Nat)] = some [.i (t.depth : Nat)] :=
    s_nest (K := t.kids 0) (by rw [t.kids_len]; omega) FUEL t 0 [] (by omega) (by simp only [big]; omega) (by simp)
  simp only [s_l1Valid, s_l1Valid.d1, apL, jC, jD, s_l1Tree_Ok t ht ho, call1, call2, jI, C.B_b, jZ, jS, s_l1Kids_eq t (by omega), C.L_l, hw1, hn, C.I_i, jV]
  have : decide ((t.depth : Int) ≤ 20) = decide (t.depth ≤ 20) := by
    rw [decide_eq_decide]; omega
  rw [this]
def zoneS (z : Str) : Str := bs #[122, 111, 110, 101, 61] ++ z
def marksB (b : Bt) : List Str := b.marks ++ [zoneS b.zone]
def selM (s : Str) (b : Bt) : Bool := match (pp s).tr with
  | some t => t.meets (marksB b)
  | none => false
theorem zone_size (z : Str) : (zoneS z).size = 5 + z.size := by
  unfold zoneS
  rw [ByteArray.size_append]; rfl
theorem berthOk_sz {b : Bt} (hb : berthOk b = true) : b.marks.length ≤ 10 ∧ b.zone.size ≤ 20 := by
  simp only [berthOk, marksOk, nameOk, within, Bool.and_eq_true, decide_eq_true_eq] at hb
  omega
theorem marksB_sz {b : Bt} (hz : b.Sz 1048576) (hb : berthOk b = true) : SsSz 1048576 (marksB b) := by
  obtain ⟨h1, h2⟩ := berthOk_sz hb
  refine ⟨by simp [marksB]; omega, fun s hs => ?_⟩
  rcases List.mem_append.1 hs with hs | hs
  · exact hz.2.2.2 s hs
  · simp at hs; subst hs; rw [zone_size]; omega
theorem s_PilotMeets_eq (t : Tr) (ht : t.sz ≤ 400) (ho : t.Ok) (hd : t.depth ≤ 20) {ms : List Str} (hz : SsSz 1048576 ms) : s_PilotMeets [.l t.flat, .l (ms.map sE)] = some [.b (t.meets ms)] := by
  have hF := FUEL_ge
  have hp := t.sz_pos
  have hw1 : w64 ((t.flat.length : Int) - 1) = ((0 + t.sz - 1 : Nat) : Int) := by rw [t.flat_len, w64_of (by omega) (by omega)]; omega
  have hm : s_l1Meets [.l t.flat, .l (t.kids 0), .i (0 + t.sz - 1 : Nat), .l (ms.map sE)] = some [.b (t.meets ms)] :=
    s_meets hz (by rw [t.flat_len]; omega) (by rw [t.kids_len]; omega) FUEL t 0 [] [] (by omega) ho (by simp) (by simp)
  simp only [s_PilotMeets, s_PilotMeets.d1, apL, jC, jD, s_l1Valid_Ok t ht ho, hd, decide_true, call1, call2, jI, C.B_b, jZ, jS, s_l1Kids_eq t (by omega), C.L_l, hw1, hm, jV]
theorem s_l3Select_eq (s : Str) (b : Bt) (hs : s.size ≤ 1048576) (hz : b.Sz 1048576) (hb : berthOk b = true) : s_l3Select (.s s :: b.e) = some [.b (selM s b)] := by
  obtain ⟨z1, z2⟩ := berthOk_sz hb
  have hm : s_l3Marks b.e = some [.l ((marksB b).map sE)] := by
    have e1 : b.marks.length ≤ 4294967296 := by omega
    have e2 : (bs #[122, 111, 110, 101, 61]).size + b.zone.size ≤ 4294967296 := by
      have : (bs #[122, 111, 110, 101, 61]).size = 5 := rfl
      omega
    have e3 : b.marks.length + 1 ≤ 4294967296 := by omega
    simp [s_l3Marks, s_l3Marks.d1, Bt.e, e1, e2, e3, marksB, zoneS, sE]
  simp only [Bt.e] at hm
  simp only [s_l3Select, s_l3Select.d1, Bt.e, apL, jC, jD, s_PilotParse_eq s hs, call2, jI, C.I_i, selM]
  cases ht : (pp s).tr with
  | none =>
    obtain ⟨n, hn⟩ := PR.tr_none ht
    have hne := pp_code s hn
    have e : ((((PR.err n).code : Nat) : Int) == 0) = false := by rw [beq_eq_false_iff_ne]; simp only [PR.code]; omega
    rw [hn]
    simp only [e, jS, jV]
  | some t =>
    obtain ⟨h1, h2, h3⟩ := PR.tr_some ht
    obtain ⟨o1, o2, o3⟩ := pp_ok ht
    have hp := s_PilotMeets_eq t (by omega) o1 o3 (marksB_sz hz hb)
    rw [h1, h3]
    simp [hm, call1, hp]
theorem i_pMeets_eq (s : Str) (b : Bt) (hs : s.size ≤ 1048576) (hz : b.Sz 1048576) (hb : berthOk b = true) : i_pMeets (.s s :: b.e) = some [.b (selM s b)] := by
  obtain ⟨z1, z2⟩ := berthOk_sz hb
  have hF := FUEL_ge
  have e1 : b.marks.length ≤ 4294967296 := by omega
  have e2 : (bs #[122, 111, 110, 101, 61]).size + b.zone.size ≤ 4294967296 := by
    have : (bs #[122, 111, 110, 101, 61]).size = 5 := rfl
    omega
  have e3 : b.marks.length + 1 ≤ 4294967296 := by omega
  have hmb : b.marks.map sE ++ [[.s (bs #[122, 111, 110, 101, 61] ++ b.zone)]] = (marksB b).map sE := by simp [marksB, zoneS, sE]
  simp only [i_pMeets, i_pMeets.d1, Bt.e, apL, jC, jD, i_pParse_eq s hs, call2, jI, C.I_i, C.L_l, C.S_s, jW, rows, hmb, selM]
  cases ht : (pp s).tr with
  | none =>
    obtain ⟨n, hn⟩ := PR.tr_none ht
    have hne := pp_code s hn
    have e : ((((PR.err n).code : Nat) : Int) == 0) = false := by rw [beq_eq_false_iff_ne]; simp only [PR.code]; omega
    rw [hn]
    simp only [e, jS, jV]
  | some t =>
    obtain ⟨h1, h2, h3⟩ := PR.tr_some ht
    obtain ⟨o1, o2, o3⟩ := pp_ok ht
    have hm : i_pSel_meets [t.enc, .l ((marksB b).map sE)] = some [.b (t.meets (marksB b))] := i_meets (marksB_sz hz hb) FUEL t (by omega) o1
    rw [h2, h3]
    simp [e1, e2, e3, hm, call1]
end Go.Ev
namespace Go.Ev
def zoneOf (f : Fl) (nm : Str) : Str := if bIx f nm < 0 then mkS [] else match f.bts[(bIx f nm).toNat]? with
  | some b => b.zone
  | none => mkS []
theorem bIx_at (f : Fl) (nm : Str) : bIx f nm < 0 ∨ ∃ k, ∃ h : k < f.bts.length, bIx f nm = (k : Nat) ∧ sEq f.bts[k].name nm = true := by
  rcases findIx_at (fun x : Bt => sEq x.name nm) f.bts 0 with h | ⟨k, hk, h1, h2⟩
  · exact .inl h
  · exact .inr ⟨k, hk, by rw [← Nat.zero_add k]; exact h1, h2⟩
theorem cIx_at (f : Fl) (nm : Str) : cIx f nm < 0 ∨ ∃ k, ∃ h : k < f.cps.length, cIx f nm = (k : Nat) ∧ sEq f.cps[k].name nm = true := by
  rcases findIx_at (fun x : Cp => sEq x.name nm) f.cps 0 with h | ⟨k, hk, h1, h2⟩
  · exact .inl h
  · exact .inr ⟨k, hk, by rw [← Nat.zero_add k]; exact h1, h2⟩
theorem s_l3ZoneOf_eq (f : Fl) (nm : Str) (hz : f.Sz 1048576) : s_l3ZoneOf (f.e ++ [.s nm]) = some [.s (zoneOf f nm)] := by
  have hb := s_l2Berth_eq f nm hz.1.1
  simp only [Fl.e, jA, jB] at hb
  simp only [s_l3ZoneOf, s_l3ZoneOf.d1, Fl.e, jA, jB, apL, jC, jD, hb, call1, jI, C.I_i, C.L_l, jW, zoneOf]
  rcases bIx_at f nm with h | ⟨k, hk, h1, _⟩
  · simp [h, bs_nil]
  · have e5 : ¬ ((k : Int) < 0) := by omega
    have e6 : ((k : Int) < (f.bts.length : Int)) := by omega
    have hg : f.bts[k].e.getD 1 .nil = .s f.bts[k].zone := rfl
    simp only [h1, e5, e6, decide_true, decide_false, jR, jS, jX, jY, getD_map' Bt.e hk, hg, if_false, List.getElem?_eq_getElem hk, jV]
theorem i_pZone_eq (f : Fl) (nm : Str) (hz : f.Sz 1048576) : i_pZone (f.e ++ [.s nm]) = some [.s (zoneOf f nm)] := by
  have hb := i_pBerthAt_eq f nm hz.1.1
  simp only [Fl.e, jA, jB] at hb
  simp only [i_pZone, i_pZone.d1, Fl.e, jA, jB, apL, jC, jD, hb, call1, jI, C.I_i, C.L_l, jW, zoneOf]
  rcases bIx_at f nm with h | ⟨k, hk, h1, _⟩
  · have e : ¬ (bIx f nm ≥ 0) := by omega
    simp [h, e, bs_nil]
  · have e5 : ¬ ((k : Int) < 0) := by omega
    have e7 : ((k : Int) ≥ 0) := by omega
    have e6 : ((k : Int) < (f.bts.length : Int)) := by omega
    have hg : f.bts[k].e.getD 1 .nil = .s f.bts[k].zone := rfl
    simp only [h1, e5, e6, e7, decide_true, jR, jX, jY, getD_map' Bt.e hk, hg, if_false, List.getElem?_eq_getElem hk, jV]
def oth (c x : Cp) : Bool := !sEq x.name c.name && !sEq x.at_ (mkS [])
def likeS (l : List Lk) (b : Bt) : Nat → Int
  | 0 => 0
  | i + 1 => match l[i]? with
    | some x => bif selM x.sel b then w64 (likeS l b i + x.w) else likeS l b i
    | none => likeS l b i
def zoneN (f : Fl) (c : Cp) (b : Bt) : Nat → Nat
  | 0 => 0
  | i + 1 => match f.cps[i]? with
    | some x => bif oth c x && (sEq x.svc c.svc && sEq (zoneOf f x.at_) b.zone) then zoneN f c b i + 1 else zoneN f c b i
    | none => zoneN f c b i
def berthN (f : Fl) (c : Cp) (b : Bt) : Nat → Nat
  | 0 => 0
  | i + 1 => match f.cps[i]? with
    | some x => bif oth c x && (sEq x.svc c.svc && sEq x.at_ b.name) then berthN f c b i + 1 else berthN f c b i
    | none => berthN f c b i
def leftN (f : Fl) (c : Cp) (b : Bt) : Nat → Int
  | 0 => w64 (b.room - c.room)
  | i + 1 => match f.cps[i]? with
    | some x => bif oth c x && sEq x.at_ b.name then w64 (leftN f c b i - x.room) else leftN f c b i
    | none => leftN f c b i
theorem zoneN_le (f : Fl) (c : Cp) (b : Bt) : ∀ i, zoneN f c b i ≤ i
  | 0 => Nat.le_refl _
  | i + 1 => by
    have := zoneN_le f c b i
    simp only [zoneN]
    split
    · rename_i x _
      cases oth c x && (sEq x.svc c.svc && sEq (zoneOf f x.at_) b.zone) <;> simp <;> omega
    · omega
theorem berthN_le (f : Fl) (c : Cp) (b : Bt) : ∀ i, berthN f c b i ≤ i
  | 0 => Nat.le_refl _
  | i + 1 => by
    have := berthN_le f c b i
    simp only [berthN]
    split
    · rename_i x _
      cases oth c x && (sEq x.svc c.svc && sEq x.at_ b.name) <;> simp <;> omega
    · omega
def scoreE (f : Fl) (c : Cp) (b : Bt) : List C := [.i (likeS c.likes b c.likes.length), .i (zoneN f c b f.cps.length : Nat), .i (berthN f c b f.cps.length : Nat), .i (leftN f c b f.cps.length)]
section
variable {f : Fl} (hz : f.Sz 1048576) {c : Cp} (hc : c.Sz 1048576) {b : Bt} (hb : b.Sz 1048576) (hbo : berthOk b = true)
include hz hc hb hbo
theorem s_l4Score_eq : s_l4Score (f.e ++ c.e ++ b.e) = some (scoreE f c b) := by
  have hl : c.likes.length < big := by have := hc.2.2.2.2.2.2.1; simp only [big]; omega
  have hlc : f.cps.length < big := by have := hz.2.2.1; simp only [big]; omega
  have L1 := run_loop (body := ap31 s_l4Score.d1) (S := fun i => [C.i (i : Nat)] ++ f.e ++ c.e ++ b.e ++ [C.i 0, C.i 0, C.i 0, C.i 0, C.i (likeS c.likes b i), C.i 0, C.i 0, C.i (w64 (b.room - c.room))]) (n := c.likes.length) (b := 0) (ys := f.e ++ c.e ++ b.e ++ [C.i 0, C.i 0, C.i 0, C.i 0, C.i (likeS c.likes b c.likes.length), C.i 0, C.i 0, C.i (w64 (b.room - c.room))])
    (fun i hi => by
      have hsz := hc.2.2.2.2.2.2.2 _ (List.getElem_mem hi)
      have e3 : ((i : Int) < (c.likes.length : Int)) := by omega
      have hsel := s_l3Select_eq c.likes[i].sel b hsz hb hbo
      simp only [Bt.e] at hsel
      have g0 : c.likes[i].e.getD 0 .nil = .s c.likes[i].sel := rfl
      have g1 : c.likes[i].e.getD 1 .nil = .i c.likes[i].w := rfl
      simp only [Fl.e, Cp.e, Bt.e, jA, jB, apL, jC, jD, s_l4Score.d1, C.I_i, C.L_l, jW, jY, getD_map' Lk.e hi, g0, g1, e3, decide_true, jR, jX, w1 hi hl, hsel, call1, jI, C.B_b, likeS, List.getElem?_eq_getElem hi]
      cases selM c.likes[i].sel b <;> simp)
    (by simp [s_l4Score.d1, Fl.e, Cp.e, Bt.e]) c.likes.length 0 rfl
  have L2 := run_loop (body := ap31 s_l4Score.d5) (S := fun i => [C.i (i : Nat)] ++ f.e ++ c.e ++ b.e ++ [C.i 0, C.i 0, C.i 0, C.i 0, C.i (likeS c.likes b c.likes.length), C.i ((zoneN f c b i : Nat) : Int), C.i ((berthN f c b i : Nat) : Int), C.i (leftN f c b i)]) (n := f.cps.length) (b := 2) (ys := [C.i 0, C.i 0, C.i 0, C.i 0] ++ scoreE f c b)
    (fun i hi => by
      have e3 : ((i : Int) < (f.cps.length : Int)) := by omega
      have hw1 := w64n (n := zoneN f c b i) (by have := zoneN_le f c b i; omega)
      have hw2 := w64n (n := berthN f c b i) (by have := berthN_le f c b i; omega)
      have hzo := s_l3ZoneOf_eq f f.cps[i].at_ hz
      simp only [Fl.e, jA, jB] at hzo
      have q1 : (f.cps[i].name.toList == c.name.toList) = sEq f.cps[i].name c.name := rfl
      have q2 : (f.cps[i].at_.toList == (bs #[]).toList) = sEq f.cps[i].at_ (mkS []) := rfl
      have q3 : (f.cps[i].at_.toList == b.name.toList) = sEq f.cps[i].at_ b.name := rfl
      have q4 : (f.cps[i].svc.toList == c.svc.toList) = sEq f.cps[i].svc c.svc := rfl
      have q5 : ((zoneOf f f.cps[i].at_).toList == b.zone.toList) = sEq (zoneOf f f.cps[i].at_) b.zone := rfl
      simp only [Fl.e, Cp.e, Bt.e, jA, jB, apL, jC, jD, s_l4Score.d5, C.I_i, C.L_l, C.S_s, jW, jY, getD_map' Cp.e hi, e3, decide_true, jR, jX]
      simp only [Cp.e, jC, jD, C.S_s, C.I_i, q1, q2, q3, zoneN, berthN, leftN, List.getElem?_eq_getElem hi, oth]
      cases sEq f.cps[i].name c.name with
      | true => simp [s_l4Score.d4, w1 hi hlc]
      | false =>
        cases sEq f.cps[i].at_ (mkS []) with
        | true => simp [s_l4Score.d4, w1 hi hlc]
        | false =>
          cases h3 : sEq f.cps[i].at_ b.name <;> cases h4 : sEq f.cps[i].svc c.svc <;> cases h5 : sEq (zoneOf f f.cps[i].at_) b.zone <;>
            simp only [ja, jZ, jR, jS, Bool.true_and, Bool.false_and, Bool.and_true, Bool.and_false, jJ, jC, jD, s_l4Score.d3, s_l4Score.d2, C.S_s, C.I_i, q3, q4, q5, h3, h4, h5, hzo, call1, jI, bindBlk_self, apL, s_l4Score.d4, w1 hi hlc, hw1, hw2])
    (by simp [s_l4Score.d5, Fl.e, Cp.e, Bt.e, scoreE]) f.cps.length 0 rfl
  simp only [Fl.e, Cp.e, Bt.e, jA, jB, Int.natCast_zero, likeS, zoneN, berthN, leftN, scoreE] at L1 L2
  simp only [s_l4Score, s_l4Score.d8, Fl.e, Cp.e, Bt.e, jA, jB, apL, jC, jD, C.I_i]
  rw [L1]
  simp only [bindBlk_self, apL, jC, jD, s_l4Score.d7]
  rw [L2]
  simp [s_l4Score.d6, scoreE]
end
end Go.Ev
namespace Go.Ev
theorem valid_bts {f : Fl} (h : validF f = true) : ∀ b, b ∈ f.bts → berthOk b = true := by
  intro b hb
  obtain ⟨i, hi, rfl⟩ := List.getElem_of_mem hb
  simp only [validF, Bool.and_eq_true] at h
  have := (allFrom_iff _ _ _).1 h.2.2.2.2.2.1 i (Nat.zero_le _) (by omega)
  simp only [btA, List.getElem?_eq_getElem hi, Bool.and_eq_true] at this
  exact this.1
theorem valid_cps {f : Fl} (h : validF f = true) : ∀ c, c ∈ f.cps → copyOk c = true := by
  intro b hb
  obtain ⟨i, hi, rfl⟩ := List.getElem_of_mem hb
  simp only [validF, Bool.and_eq_true] at h
  have := (allFrom_iff _ _ _).1 h.2.2.2.2.1 i (Nat.zero_le _) (by omega)
  simp only [cpA, List.getElem?_eq_getElem hi, Bool.and_eq_true] at this
  exact this.1
section
variable {f : Fl} (hz : f.Sz 1048576) {c : Cp} (hc : c.Sz 1048576) {b : Bt} (hb : b.Sz 1048576) (hbo : berthOk b = true)
include hz hc hb hbo
theorem i_pScore_eq : i_pScore (f.e ++ c.e ++ b.e) = some (scoreE f c b) := by
  have hl : c.likes.length < big := by have := hc.2.2.2.2.2.2.1; simp only [big]; omega
  have hlc : f.cps.length < big := by have := hz.2.2.1; simp only [big]; omega
  have L1 := run_loop (body := ap33 i_pScore.d1) (S := fun i => [C.l (c.likes.map Lk.e), C.i ((c.likes.length : Nat) : Int), C.i (i : Nat)] ++ f.e ++ c.e ++ b.e ++ [C.i 0, C.i 0, C.i 0, C.i 0, C.i (likeS c.likes b i), C.i 0, C.i 0, C.i (w64 (b.room - c.room))]) (n := c.likes.length) (b := 0) (ys := f.e ++ c.e ++ b.e ++ [C.i 0, C.i 0, C.i 0, C.i 0, C.i (likeS c.likes b c.likes.length), C.i 0, C.i 0, C.i (w64 (b.room - c.room))])
    (fun i hi => by
      have hsz := hc.2.2.2.2.2.2.2 _ (List.getElem_mem hi)
      have e3 : ((i : Int) < (c.likes.length : Int)) := by omega
      have hsel := i_pMeets_eq c.likes[i].sel b hsz hb hbo
      simp only [Bt.e] at hsel
      have g0 : c.likes[i].e.getD 0 .nil = .s c.likes[i].sel := rfl
      have g1 : c.likes[i].e.getD 1 .nil = .i c.likes[i].w := rfl
      simp only [Fl.e, Cp.e, Bt.e, jA, jB, apL, jC, jD, i_pScore.d1, C.I_i, C.L_l, jW, jY, getD_map' Lk.e hi, g0, g1, e3, decide_true, jR, jX, w1 hi hl, hsel, call1, jI, C.B_b, likeS, List.getElem?_eq_getElem hi]
      cases selM c.likes[i].sel b <;> simp)
    (by simp [i_pScore.d1, Fl.e, Cp.e, Bt.e]) c.likes.length 0 rfl
  have L2 := run_loop (body := ap33 i_pScore.d3) (S := fun i => [C.l (f.cps.map Cp.e), C.i ((f.cps.length : Nat) : Int), C.i (i : Nat)] ++ f.e ++ c.e ++ b.e ++ [C.i 0, C.i 0, C.i 0, C.i 0, C.i (likeS c.likes b c.likes.length), C.i ((zoneN f c b i : Nat) : Int), C.i ((berthN f c b i : Nat) : Int), C.i (leftN f c b i)]) (n := f.cps.length) (b := 2) (ys := [C.i 0, C.i 0, C.i 0, C.i 0] ++ scoreE f c b)
    (fun i hi => by
      have e3 : ((i : Int) < (f.cps.length : Int)) := by omega
      have hw1 := w64n (n := zoneN f c b i) (by have := zoneN_le f c b i; omega)
      have hw2 := w64n (n := berthN f c b i) (by have := berthN_le f c b i; omega)
      have hv1 : w64 (((zoneN f c b i : Nat) : Int) + 0) = ((zoneN f c b i : Nat) : Int) := by have := zoneN_le f c b i; simp only [big] at hlc; rw [w64_of (by omega) (by omega)]; omega
      have hv2 : w64 (((berthN f c b i : Nat) : Int) + 0) = ((berthN f c b i : Nat) : Int) := by have := berthN_le f c b i; simp only [big] at hlc; rw [w64_of (by omega) (by omega)]; omega
      have hzo := i_pZone_eq f f.cps[i].at_ hz
      simp only [Fl.e, jA, jB] at hzo
      have q1 : (f.cps[i].name.toList == c.name.toList) = sEq f.cps[i].name c.name := rfl
      have q2 : (f.cps[i].at_.toList == (bs #[]).toList) = sEq f.cps[i].at_ (mkS []) := rfl
      have q3 : (f.cps[i].at_.toList == b.name.toList) = sEq f.cps[i].at_ b.name := rfl
      have q4 : (f.cps[i].svc.toList == c.svc.toList) = sEq f.cps[i].svc c.svc := rfl
      have q5 : ((zoneOf f f.cps[i].at_).toList == b.zone.toList) = sEq (zoneOf f f.cps[i].at_) b.zone := rfl
      simp only [Fl.e, Cp.e, Bt.e, jA, jB, apL, jC, jD, i_pScore.d3, C.I_i, C.L_l, C.S_s, jW, jY, getD_map' Cp.e hi, e3, decide_true, jR, jX]
      simp only [Cp.e, jC, jD, C.S_s, C.I_i, q1, q2, q3, q4, hzo, zoneN, berthN, leftN, List.getElem?_eq_getElem hi, oth]
      cases sEq f.cps[i].name c.name with
      | true => simp [i_pScore.d2, w1 hi hlc]
      | false =>
        cases sEq f.cps[i].at_ (mkS []) with
        | true => simp [i_pScore.d2, w1 hi hlc]
        | false =>
          cases h3 : sEq f.cps[i].at_ b.name <;> cases h4 : sEq f.cps[i].svc c.svc <;> cases h5 : sEq (zoneOf f f.cps[i].at_) b.zone <;>
            simp only [ja, jZ, jR, jS, Bool.true_and, Bool.false_and, Bool.and_true, Bool.and_false, i_one_eq, call1, jI, jC, jD, C.S_s, C.I_i, q5, h5, bindBlk_self, apL, i_pScore.d2, w1 hi hlc, hw1, hw2, hv1, hv2])
    (by simp [i_pScore.d3, Fl.e, Cp.e, Bt.e, scoreE]) f.cps.length 0 rfl
  simp only [Fl.e, Cp.e, Bt.e, jA, jB, Int.natCast_zero, likeS, zoneN, berthN, leftN, scoreE] at L1 L2
  simp only [i_pScore, i_pScore.d6, Fl.e, Cp.e, Bt.e, jA, jB, apL, jC, jD, C.I_i, C.L_l, jW]
  rw [L1]
  simp only [bindBlk_self, apL, jC, jD, i_pScore.d5, C.L_l, jW]
  rw [L2]
  simp [i_pScore.d4, scoreE]
end
def scoreOf (f : Fl) (c b : Str) : List C := bif validF f then (match f.cps[(cIx f c).toNat]?, f.bts[(bIx f b).toNat]? with
  | some x, some y => if cIx f c < 0 ∨ bIx f b < 0 then [.i 0, .i 0, .i 0, .i 0] else scoreE f x y
  | _, _ => [.i 0, .i 0, .i 0, .i 0]) else [.i 0, .i 0, .i 0, .i 0]
theorem scoreE_len (f : Fl) (c : Cp) (b : Bt) : ∃ x y z w : Int, scoreE f c b = [.i x, .i y, .i z, .i w] := ⟨_, _, _, _, rfl⟩
section
variable {f : Fl} (hz : f.Sz 1048576) (cn bn_ : Str)
include hz
theorem s_PilotScoreOf_eq : s_PilotScoreOf (f.e ++ [.s cn, .s bn_]) = some (scoreOf f cn bn_) := by
  have h1 := s_l2Copy_eq f cn hz.2.2.1
  have h2 := s_l2Berth_eq f bn_ hz.1.1
  have h3 := s_PilotValid_eq hz
  simp only [Fl.e, jA, jB] at h1 h2 h3
  simp only [s_PilotScoreOf, s_PilotScoreOf.d1, Fl.e, jA, jB, apL, jC, jD, h1, h2, h3, call1, jI, C.I_i, C.B_b, C.L_l, jW, scoreOf]
  cases hv : validF f with
  | false => simp
  | true =>
    rcases cIx_at f cn with h | ⟨i, hi, e1, _⟩
    · simp [h]; split <;> rfl
    rcases bIx_at f bn_ with h | ⟨j, hj, e2, _⟩
    · have : ¬ ((i : Int) < 0) := by omega
      simp [e1, h, this, hi]; split <;> rfl
    have n1 : ¬ ((i : Int) < 0) := by omega
    have n2 : ¬ ((j : Int) < 0) := by omega
    have n3 : ((i : Int) < (f.cps.length : Int)) := by omega
    have n4 : ((j : Int) < (f.bts.length : Int)) := by omega
    have hs := s_l4Score_eq hz (hz.2.2.2 _ (List.getElem_mem hi)) (hz.1.2 _ (List.getElem_mem hj)) (valid_bts hv _ (List.getElem_mem hj))
    simp only [Fl.e, Cp.e, Bt.e, jA, jB] at hs
    simp only [e1, e2, n1, n2, n3, n4, decide_true, decide_false, jZ, ja, jR, jS, jX, jY, getD_map' Cp.e hi, getD_map' Bt.e hj, List.getElem?_eq_getElem hi, List.getElem?_eq_getElem hj, or_self, if_false]
    simp only [Cp.e, Bt.e, jC, jD, hs]
    obtain ⟨x, y, z, w, hq⟩ := scoreE_len f f.cps[i] f.bts[j]
    rw [hq]; simp [call4]
theorem i_PilotScoreOf_eq : i_PilotScoreOf (f.e ++ [.s cn, .s bn_]) = some (scoreOf f cn bn_) := by
  have h1 := i_pCopyAt_eq f cn hz.2.2.1
  have h2 := i_pBerthAt_eq f bn_ hz.1.1
  have h3 := i_PilotValid_eq hz
  simp only [Fl.e, jA, jB] at h1 h2 h3
  simp only [i_PilotScoreOf, i_PilotScoreOf.d1, Fl.e, jA, jB, apL, jC, jD, h1, h2, h3, call1, jI, C.I_i, C.B_b, C.L_l, jW, scoreOf]
  rcases cIx_at f cn with h | ⟨i, hi, e1, _⟩
  · simp [h]; cases validF f <;> simp; split <;> rfl
  have n1 : ¬ ((i : Int) < 0) := by omega
  rcases bIx_at f bn_ with h | ⟨j, hj, e2, _⟩
  · simp [e1, h, n1, hi]; cases validF f <;> simp; split <;> rfl
  have n2 : ¬ ((j : Int) < 0) := by omega
  have n3 : ((i : Int) < (f.cps.length : Int)) := by omega
  have n4 : ((j : Int) < (f.bts.length : Int)) := by omega
  cases hv : validF f with
  | false => simp [e1, e2, n1, n2]
  | true =>
    have hs := i_pScore_eq hz (hz.2.2.2 _ (List.getElem_mem hi)) (hz.1.2 _ (List.getElem_mem hj)) (valid_bts hv _ (List.getElem_mem hj))
    simp only [Fl.e, Cp.e, Bt.e, jA, jB] at hs
    simp only [e1, e2, n1, n2, n3, n4, decide_true, decide_false, jZ, ja, jR, jS, jX, jY, getD_map' Cp.e hi, getD_map' Bt.e hj, List.getElem?_eq_getElem hi, List.getElem?_eq_getElem hj, or_self, if_false]
    simp only [Cp.e, Bt.e, jC, jD, hs]
    obtain ⟨x, y, z, w, hq⟩ := scoreE_len f f.cps[i] f.bts[j]
    rw [hq]; simp [call4]
end
theorem scoreOf_len (f : Fl) (c b : Str) : ∃ x y z w : Int, scoreOf f c b = [.i x, .i y, .i z, .i w] := by
  unfold scoreOf
  cases validF f with
  | false => exact ⟨0, 0, 0, 0, rfl⟩
  | true =>
    simp only [jR]
    split
    · split
      · exact ⟨0, 0, 0, 0, rfl⟩
      · exact scoreE_len _ _ _
    · exact ⟨0, 0, 0, 0, rfl⟩
theorem FnExactPilotScoreOf_true (f : Fl) (c b : Str) (hz : f.Sz maxLen) : w_FnExactPilotScoreOf (f.e ++ [.s c, .s b]) = some [.b true] := by
  have h1 := w_szPilotFleet_eq f 1048576 (by omega) (by omega) hz
  simp only [Fl.e, jA, jB] at h1
  simp only [w_FnExactPilotScoreOf, w_FnExactPilotScoreOf.d1, Fl.e, jA, jB, apL, jC, jD, C.S_s]
  by_cases q1 : (c.size : Int) > 1048576
  · simp [q1]
  by_cases q2 : (b.size : Int) > 1048576
  · simp [q1, q2]
  simp only [q1, q2, decide_false, jS]
  rcases h1 with h | ⟨n, n0, n1, hz', h⟩
  · simp [h, call1]
  have hn : ¬ n < 0 := by omega
  have t1 := w_toPilotFleet_eq f hz'
  have t3 := w_eqPilotFleet_eq f hz'
  have s1 := s_PilotScoreOf_eq hz' c b
  have s2 := i_PilotScoreOf_eq hz' c b
  obtain ⟨x, y, z, w, hq⟩ := scoreOf_len f c b
  rw [hq] at s1 s2
  simp only [Fl.e, jA, jB] at t1 t3 s1 s2
  simp only [h, t1, t3, s1, s2, call1, call4, jI, jC, jD, C.I_i, C.L_l, C.B_b, hn, decide_false, jS, w_eqPilotScore, w_eqPilotScore.d1, apL]
  simp
end Go.Ev
namespace Go.Ev
def at_P {α : Type} (p : α → Bool) (l : List α) (j : Nat) : Bool := match l[j]? with | some x => p x | none => false
theorem at_P_lt {α : Type} (p : α → Bool) {l : List α} {j : Nat} (h : j < l.length) : at_P p l j = p l[j] := by simp [at_P, h]
theorem any_P {α : Type} (p : α → Bool) (l : List α) : allFrom (fun j => !at_P p l j) 0 l.length = !l.any p := by
  rw [← Bool.not_not (b := allFrom _ _ _)]
  congr 1
  rw [Bool.eq_iff_iff, any_from, List.any_eq_true]
  constructor
  · rintro ⟨j, _, h1, h2⟩
    have hj : j < l.length := by omega
    rw [at_P_lt p hj] at h2
    exact ⟨_, List.getElem_mem hj, h2⟩
  · rintro ⟨x, hx, h⟩
    obtain ⟨j, hj, rfl⟩ := List.getElem_of_mem hx
    exact ⟨j, Nat.zero_le _, by omega, by rw [at_P_lt p hj]; exact h⟩
def anyN {α : Type} (p : α → Bool) (l : List α) (i : Nat) : Bool := (l.take i).any p
theorem anyN_succ {α : Type} (p : α → Bool) {l : List α} {i : Nat} (h : i < l.length) : anyN p l (i + 1) = (anyN p l i || p l[i]) := by
  unfold anyN
  rw [List.take_succ_eq_append_getElem h, List.any_append]
  simp only [List.any_cons, List.any_nil, Bool.or_false]
theorem anyN_all {α : Type} (p : α → Bool) (l : List α) : anyN p l l.length = l.any p := by simp [anyN]
def cntN {α : Type} (p : α → Bool) (l : List α) (i : Nat) : Nat := (l.take i).countP p
theorem cntN_succ {α : Type} (p : α → Bool) {l : List α} {i : Nat} (h : i < l.length) : cntN p l (i + 1) = cntN p l i + (bif p l[i] then 1 else 0) := by
  simp only [cntN, List.take_succ_eq_append_getElem h, List.countP_append, List.countP_cons, List.countP_nil]
  cases p l[i] <;> simp
theorem cntN_le {α : Type} (p : α → Bool) (l : List α) (i : Nat) : cntN p l i ≤ i := by
  have := List.countP_le_length (p := p) (l := l.take i)
  simp only [cntN, List.length_take] at *
  omega
def sumN {α : Type} (p : α → Bool) (g : α → Int) (l : List α) (i : Nat) : Int := ((l.take i).map fun x => bif p x then g x else 0).sum
theorem sumN_succ {α : Type} (p : α → Bool) (g : α → Int) {l : List α} {i : Nat} (h : i < l.length) : sumN p g l (i + 1) = sumN p g l i + (bif p l[i] then g l[i] else 0) := by
  unfold sumN
  rw [List.take_succ_eq_append_getElem h, List.map_append, List.sum_append]
  simp only [List.map_cons, List.map_nil, List.sum_cons, List.sum_nil, Int.add_zero]
theorem sumN_le {α : Type} (p : α → Bool) (g : α → Int) {l : List α} (hl : ∀ x, x ∈ l → 0 ≤ g x ∧ g x ≤ 1000) : ∀ i, i ≤ l.length → 0 ≤ sumN p g l i ∧ sumN p g l i ≤ 1000 * i
  | 0, _ => by simp [sumN]
  | i + 1, h => by
    have ih := sumN_le p g hl i (by omega)
    have h2 := hl _ (List.getElem_mem (show i < l.length by omega))
    rw [sumN_succ p g (by omega)]
    cases p l[i] <;> simp only [jR, jS] <;> omega
def togP (f : Fl) (c : Cp) (b : Bt) (x : Cp) : Bool := oth c x && (sEq x.svc c.svc && (sEq x.at_ b.name && (x.apart != 0 || c.apart != 0) || sEq (zoneOf f x.at_) b.zone && (x.apart == 2 || c.apart == 2)))
def nearP (f : Fl) (c : Cp) (b : Bt) (x : Cp) : Bool := oth c x && (sEq x.svc c.near && sEq (zoneOf f x.at_) b.zone)
def svcP (c : Cp) (s : Str) (x : Cp) : Bool := oth c x && sEq x.svc s
def farB (f : Fl) (c : Cp) (b : Bt) : Bool := !sEq c.near (mkS []) && (!f.cps.any (nearP f c b) && (f.cps.any (svcP c c.near) || !sEq c.near c.svc))
def onP (c : Cp) (b : Bt) (x : Cp) : Bool := oth c x && sEq x.at_ b.name
def fitsN (f : Fl) (c : Cp) (b : Bt) (o : Bool) : Nat :=
  bif b.shut && !o then 1 else bif !sEq c.fixed (mkS []) && !sEq c.fixed b.name then 2 else bif !selM c.sel b then 3 else bif f.cps.any (togP f c b) then 4 else bif farB f c b then 5 else
  bif decide (10 ≤ cntN (onP c b) f.cps f.cps.length) then 6 else bif decide (b.room < sumN (onP c b) Cp.room f.cps f.cps.length + c.room) then 7 else bif decide (b.hold < sumN (onP c b) Cp.hold f.cps f.cps.length + c.hold) then 8 else 0
theorem name_ne {b : Bt} (h : berthOk b = true) (s : Str) (hs : sEq s b.name = true) : sEq s (mkS []) = false := by
  cases h0 : sEq s (mkS []) with
  | false => rfl
  | true =>
    have e1 : s = b.name := by rw [sEq_iff] at hs; exact hs
    have e2 : s = mkS [] := by rw [sEq_iff] at h0; exact h0
    rw [e2] at e1
    simp only [berthOk, Bool.and_eq_true] at h
    have h := h.1
    rw [← e1] at h
    exact absurd h (by decide)
theorem cp_room {f : Fl} (h : validF f = true) : ∀ x, x ∈ f.cps → 0 ≤ x.room ∧ x.room ≤ 1000 := by
  intro x hx
  have := valid_cps h x hx
  simp only [copyOk, within, Bool.and_eq_true, decide_eq_true_eq] at this
  exact this.2.2.2.1
theorem cp_hold {f : Fl} (h : validF f = true) : ∀ x, x ∈ f.cps → 0 ≤ x.hold ∧ x.hold ≤ 1000 := by
  intro x hx
  have := valid_cps h x hx
  simp only [copyOk, within, Bool.and_eq_true, decide_eq_true_eq] at this
  exact this.2.2.2.2.1
theorem cp_apart {f : Fl} (h : validF f = true) : ∀ x, x ∈ f.cps → 0 ≤ x.apart ∧ x.apart ≤ 2 := by
  intro x hx
  have := valid_cps h x hx
  simp only [copyOk, within, Bool.and_eq_true, decide_eq_true_eq] at this
  exact this.2.2.2.2.2.2.1
theorem cps_60 {f : Fl} (h : validF f = true) : f.cps.length ≤ 60 := by
  simp only [validF, Bool.and_eq_true, decide_eq_true_eq] at h
  exact h.2.2.1
end Go.Ev
namespace Go.Ev
section
variable {f : Fl} (hz : f.Sz 1048576) {c : Cp} (hc : c.Sz 1048576) {b : Bt} (hb : b.Sz 1048576) (hbo : berthOk b = true)
include hz hc hb hbo
theorem s_l3Together_eq : s_l3Together (f.e ++ c.e ++ b.e) = some [.b (f.cps.any (togP f c b))] := by
  have hlc : f.cps.length < big := by have := hz.2.2.1; simp only [big]; omega
  have h := chk_loop (body := ap23 s_l3Together.d3) (S := fun i => [C.i (i : Nat)] ++ f.e ++ c.e ++ b.e) (p := fun j => !at_P (togP f c b) f.cps j) (n := f.cps.length) (b := 0) (ys := []) (r := [.b true])
    (fun i hi => by
      have e3 : ((i : Int) < (f.cps.length : Int)) := by omega
      have hzo := s_l3ZoneOf_eq f f.cps[i].at_ hz
      simp only [Fl.e, jA, jB] at hzo
      have q1 : (f.cps[i].name.toList == c.name.toList) = sEq f.cps[i].name c.name := rfl
      have q2 : (f.cps[i].at_.toList == (bs #[]).toList) = sEq f.cps[i].at_ (mkS []) := rfl
      have q3 : (f.cps[i].at_.toList == b.name.toList) = sEq f.cps[i].at_ b.name := rfl
      have q4 : (f.cps[i].svc.toList == c.svc.toList) = sEq f.cps[i].svc c.svc := rfl
      have q5 : ((zoneOf f f.cps[i].at_).toList == b.zone.toList) = sEq (zoneOf f f.cps[i].at_) b.zone := rfl
      simp only [at_P_lt _ hi, togP, oth]
      simp only [Fl.e, Cp.e, Bt.e, jA, jB, apL, jC, jD, s_l3Together.d3, C.I_i, C.L_l, C.S_s, jW, jY, getD_map' Cp.e hi, e3, decide_true, jR, jX]
      simp only [Cp.e, jC, jD, C.S_s, C.I_i, q1, q2, q3, q4]
      cases sEq f.cps[i].name c.name with
      | true => simp [s_l3Together.d2, w1 hi hlc]
      | false =>
        cases sEq f.cps[i].svc c.svc with
        | false => simp [s_l3Together.d2, w1 hi hlc]
        | true =>
          cases sEq f.cps[i].at_ (mkS []) with
          | true => simp [s_l3Together.d2, w1 hi hlc]
          | false =>
            cases h3 : sEq f.cps[i].at_ b.name <;> cases h4 : f.cps[i].apart != 0 <;> cases h5 : c.apart != 0 <;> cases h6 : sEq (zoneOf f f.cps[i].at_) b.zone <;> cases h7 : f.cps[i].apart == 2 <;> cases h8 : c.apart == 2 <;>
              simp only [ja, jZ, jR, jS, Bool.true_and, Bool.false_and, Bool.and_true, Bool.and_false, Bool.or_true, Bool.or_false, Bool.false_or, Bool.true_or, jJ, bindNrm_ret, bindBlk_ret, jC, jD, s_l3Together.d1, C.S_s, C.I_i, q5, h6, h7, h8, hzo, call1, jI, bindBlk_self, apL, s_l3Together.d2, w1 hi hlc])
    (by simp [s_l3Together.d3, Fl.e, Cp.e, Bt.e]) f.cps.length 0 rfl
  simp only [Fl.e, Cp.e, Bt.e, jA, jB, Int.natCast_zero, any_P] at h
  simp only [s_l3Together, s_l3Together.d5, Fl.e, Cp.e, Bt.e, jA, jB, apL, jC, jD]
  rw [h]
  cases f.cps.any (togP f c b) <;> simp [s_l3Together.d4]
theorem s_l3Far_eq : s_l3Far (f.e ++ c.e ++ b.e) = some [.b (farB f c b)] := by
  have hlc : f.cps.length < big := by have := hz.2.2.1; simp only [big]; omega
  have h := chk_loop (body := ap24 s_l3Far.d2) (S := fun i => [C.b (anyN (svcP c c.near) f.cps i), C.i (i : Nat)] ++ f.e ++ c.e ++ b.e) (p := fun j => !at_P (nearP f c b) f.cps j) (n := f.cps.length) (b := 0) (ys := .b (anyN (svcP c c.near) f.cps f.cps.length) :: c.e) (r := [.b false])
    (fun i hi => by
      have e3 : ((i : Int) < (f.cps.length : Int)) := by omega
      have hzo := s_l3ZoneOf_eq f f.cps[i].at_ hz
      simp only [Fl.e, jA, jB] at hzo
      have q1 : (f.cps[i].name.toList == c.name.toList) = sEq f.cps[i].name c.name := rfl
      have q2 : (f.cps[i].at_.toList == (bs #[]).toList) = sEq f.cps[i].at_ (mkS []) := rfl
      have q4 : (f.cps[i].svc.toList == c.near.toList) = sEq f.cps[i].svc c.near := rfl
      have q5 : ((zoneOf f f.cps[i].at_).toList == b.zone.toList) = sEq (zoneOf f f.cps[i].at_) b.zone := rfl
      simp only [at_P_lt _ hi, nearP, oth, anyN_succ _ hi]
      generalize anyN (svcP c c.near) f.cps i = q
      simp only [Fl.e, Cp.e, Bt.e, jA, jB, apL, jC, jD, s_l3Far.d2, C.I_i, C.L_l, C.S_s, jW, jY, getD_map' Cp.e hi, e3, decide_true, jR, jX, svcP, oth]
      simp only [Cp.e, jC, jD, C.S_s, C.I_i, q1, q2, q4]
      cases sEq f.cps[i].name c.name with
      | true => simp [s_l3Far.d1, w1 hi hlc]
      | false =>
        cases sEq f.cps[i].svc c.near with
        | false => simp [s_l3Far.d1, w1 hi hlc]
        | true =>
          cases sEq f.cps[i].at_ (mkS []) with
          | true => simp [s_l3Far.d1, w1 hi hlc]
          | false => cases h6 : sEq (zoneOf f f.cps[i].at_) b.zone <;> simp [s_l3Far.d1, w1 hi hlc, hzo, call1, q5, h6])
    (by simp [s_l3Far.d2, Fl.e, Cp.e, Bt.e]) f.cps.length 0 rfl
  have h0 : anyN (svcP c c.near) f.cps 0 = false := by simp [anyN]
  have q0 : (c.near.toList == (bs #[]).toList) = sEq c.near (mkS []) := rfl
  have q1 : (c.near.toList == c.svc.toList) = sEq c.near c.svc := rfl
  simp only [Fl.e, Cp.e, Bt.e, jA, jB, Int.natCast_zero, any_P, h0, anyN_all] at h
  simp only [s_l3Far, s_l3Far.d4, Fl.e, Cp.e, Bt.e, jA, jB, apL, jC, jD, C.S_s, q0, farB]
  rw [h]
  cases sEq c.near (mkS []) <;> cases f.cps.any (nearP f c b) <;> cases f.cps.any (svcP c c.near) <;> simp [s_l3Far.d3, q1]
theorem s_l3Fits_eq (hv : validF f = true) (hr : 0 ≤ c.room ∧ c.room ≤ 1000) (hh : 0 ≤ c.hold ∧ c.hold ≤ 1000) (o : Bool) : s_l3Fits (f.e ++ c.e ++ b.e ++ [.b o]) = some [.i (fitsN f c b o : Nat)] := by
  have hlc : f.cps.length < big := by have := hz.2.2.1; simp only [big]; omega
  have h60 := cps_60 hv
  have h := run_loop (body := ap27 s_l3Fits.d2) (S := fun i => [C.b o, C.i (sumN (onP c b) Cp.room f.cps i + c.room), C.i (sumN (onP c b) Cp.hold f.cps i + c.hold), C.i (cntN (onP c b) f.cps i : Nat), C.i (i : Nat)] ++ f.e ++ c.e ++ b.e) (n := f.cps.length) (b := 0)
    (ys := [C.b o, C.i (sumN (onP c b) Cp.room f.cps f.cps.length + c.room), C.i (sumN (onP c b) Cp.hold f.cps f.cps.length + c.hold), C.i (cntN (onP c b) f.cps f.cps.length : Nat)] ++ f.e ++ c.e ++ b.e)
    (fun i hi => by
      have e3 : ((i : Int) < (f.cps.length : Int)) := by omega
      have q1 : (f.cps[i].name.toList == c.name.toList) = sEq f.cps[i].name c.name := rfl
      have q3 : (f.cps[i].at_.toList == b.name.toList) = sEq f.cps[i].at_ b.name := rfl
      have b1 := sumN_le (onP c b) Cp.room (cp_room hv) i (by omega)
      have b2 := sumN_le (onP c b) Cp.hold (cp_hold hv) i (by omega)
      have b3 := cntN_le (onP c b) f.cps i
      have b4 := cp_room hv _ (List.getElem_mem hi)
      have b5 := cp_hold hv _ (List.getElem_mem hi)
      have w2 : w64 (sumN (onP c b) Cp.room f.cps i + c.room + f.cps[i].room) = sumN (onP c b) Cp.room f.cps i + f.cps[i].room + c.room := by rw [w64_of (by omega) (by omega)]; omega
      have w3 : w64 (sumN (onP c b) Cp.hold f.cps i + c.hold + f.cps[i].hold) = sumN (onP c b) Cp.hold f.cps i + f.cps[i].hold + c.hold := by rw [w64_of (by omega) (by omega)]; omega
      have w4 := w64n (n := cntN (onP c b) f.cps i) (by omega)
      have hon : onP c b f.cps[i] = (!sEq f.cps[i].name c.name && sEq f.cps[i].at_ b.name) := by
        unfold onP oth
        cases h3 : sEq f.cps[i].at_ b.name with
        | true => rw [name_ne hbo _ h3]; simp
        | false => simp
      simp only [Fl.e, Cp.e, Bt.e, jA, jB, apL, jC, jD, s_l3Fits.d2, C.I_i, C.L_l, C.S_s, jW, jY, getD_map' Cp.e hi, e3, decide_true, jR, jX, sumN_succ _ _ hi, cntN_succ _ hi, hon]
      simp only [Cp.e, jC, jD, C.S_s, C.I_i, q1, q3]
      cases sEq f.cps[i].name c.name <;> cases sEq f.cps[i].at_ b.name <;> simp [s_l3Fits.d1, w1 hi hlc, w2, w3, w4])
    (by simp [s_l3Fits.d2, Fl.e, Cp.e, Bt.e]) f.cps.length 0 rfl
  have z1 : sumN (onP c b) Cp.room f.cps 0 = 0 := by simp [sumN]
  have z2 : sumN (onP c b) Cp.hold f.cps 0 = 0 := by simp [sumN]
  have z3 : cntN (onP c b) f.cps 0 = 0 := by simp [cntN]
  have hsel := s_l3Select_eq c.sel b hc.2.2.1 hb hbo
  have hT := s_l3Together_eq hz hc hb hbo
  have hF := s_l3Far_eq hz hc hb hbo
  have q0 : (c.fixed.toList == (bs #[]).toList) = sEq c.fixed (mkS []) := rfl
  have q1 : (c.fixed.toList == b.name.toList) = sEq c.fixed b.name := rfl
  simp only [Fl.e, Cp.e, Bt.e, jA, jB, Int.natCast_zero, z1, z2, z3, Int.zero_add] at h hsel hT hF
  simp only [s_l3Fits, s_l3Fits.d6, Fl.e, Cp.e, Bt.e, jA, jB, apL, jC, jD]
  rw [h]
  have e6 : (10 : Int) ≤ ((cntN (onP c b) f.cps f.cps.length : Nat) : Int) ↔ 10 ≤ cntN (onP c b) f.cps f.cps.length := by omega
  simp only [bindBlk_self, apL, jC, jD, s_l3Fits.d5, C.B_b, fitsN]
  have fin : ∀ e : Bool, s_l3Fits.d3 (.i (sumN (onP c b) Cp.room f.cps f.cps.length + c.room)) (.i (sumN (onP c b) Cp.hold f.cps f.cps.length + c.hold)) (.i (cntN (onP c b) f.cps f.cps.length : Nat)) (.b e) (.b f.pack) (.l (f.bts.map Bt.e)) (.l (f.svs.map Sv.e)) (.l (f.cps.map Cp.e))
      (.s c.name) (.s c.svc) (.i c.rank) (.i c.born) (.i c.room) (.i c.hold) (.s c.sel) (.l (c.likes.map Lk.e)) (.i c.apart) (.s c.near) (.s c.fixed) (.s c.at_) (.s b.name) (.s b.zone) (.l (b.marks.map sE)) (.i b.room) (.i b.hold) (.b b.shut) =
      some (.ret [.i (((bif e then 2 else bif !selM c.sel b then 3 else bif f.cps.any (togP f c b) then 4 else bif farB f c b then 5 else
  bif decide (10 ≤ cntN (onP c b) f.cps f.cps.length) then 6 else bif decide (b.room < sumN (onP c b) Cp.room f.cps f.cps.length + c.room) then 7 else bif decide (b.hold < sumN (onP c b) Cp.hold f.cps f.cps.length + c.hold) then 8 else 0 : Nat) : Nat) : Int)]) := by
    intro e
    simp only [s_l3Fits.d3, C.B_b, C.I_i, hsel, hT, hF, call1, jI, jC, ge_iff_le, e6, gt_iff_lt]
    cases e
    · simp only [jS]
      cases selM c.sel b
      · rfl
      · simp only [jZ, jS]
        cases f.cps.any (togP f c b)
        · simp only [jS]
          cases farB f c b
          · simp only [jS]
            cases decide (10 ≤ cntN (onP c b) f.cps f.cps.length)
            · simp only [jS]
              cases decide (b.room < sumN (onP c b) Cp.room f.cps f.cps.length + c.room)
              · simp only [jS]
                cases decide (b.hold < sumN (onP c b) Cp.hold f.cps f.cps.length + c.hold) <;> rfl
              · rfl
            · rfl
          · rfl
        · rfl
    · rfl
  generalize (bif !selM c.sel b then 3 else bif f.cps.any (togP f c b) then 4 else bif farB f c b then 5 else
  bif decide (10 ≤ cntN (onP c b) f.cps f.cps.length) then 6 else bif decide (b.room < sumN (onP c b) Cp.room f.cps f.cps.length + c.room) then 7 else bif decide (b.hold < sumN (onP c b) Cp.hold f.cps f.cps.length + c.hold) then 8 else 0 : Nat) = N at fin ⊢
  cases hs : b.shut <;> rw [hs] at fin <;> cases o <;> cases h1 : sEq c.fixed (mkS []) <;> cases h2 : sEq c.fixed b.name <;>
    simp only [s_l3Fits.d4, q0, q1, h1, h2, fin, C.B_b, C.S_s, jR, jS, jZ, ja, Bool.and_true, Bool.and_false, Bool.true_and, Bool.false_and, jJ, apL, jC, jD, jV] <;> rfl
end
end Go.Ev
namespace Go.Ev
section
variable {f : Fl} (hz : f.Sz 1048576) {c : Cp} (hc : c.Sz 1048576) {b : Bt} (hb : b.Sz 1048576) (hbo : berthOk b = true)
include hz hc hb hbo
theorem i_fits_loop (hv : validF f = true) (hr : 0 ≤ c.room ∧ c.room ≤ 1000) (hh : 0 ≤ c.hold ∧ c.hold ≤ 1000) (ha : 0 ≤ c.apart ∧ c.apart ≤ 2) : lim (ap31 i_pFits.d4) ([C.b false, C.b false, C.i 0, C.i 0, C.i 0, C.b false, C.l (f.cps.map Cp.e), C.i ((f.cps.length : Nat) : Int), C.i 0] ++ f.e ++ c.e ++ b.e) =
    some (.brk 0 ([C.b (anyN (nearP f c b) f.cps f.cps.length), C.b (anyN (svcP c c.svc) f.cps f.cps.length), C.i (cntN (onP c b) f.cps f.cps.length : Nat), C.i (sumN (onP c b) Cp.room f.cps f.cps.length), C.i (sumN (onP c b) Cp.hold f.cps f.cps.length), C.b (anyN (togP f c b) f.cps f.cps.length)] ++ c.e ++ b.e)) := by
  have hlc : f.cps.length < big := by have := hz.2.2.1; simp only [big]; omega
  have h60 := cps_60 hv
  have h := run_loop (body := ap31 i_pFits.d4) (S := fun i => [C.b (anyN (nearP f c b) f.cps i), C.b (anyN (svcP c c.svc) f.cps i), C.i (cntN (onP c b) f.cps i : Nat), C.i (sumN (onP c b) Cp.room f.cps i), C.i (sumN (onP c b) Cp.hold f.cps i), C.b (anyN (togP f c b) f.cps i), C.l (f.cps.map Cp.e), C.i ((f.cps.length : Nat) : Int), C.i (i : Nat)] ++ f.e ++ c.e ++ b.e) (n := f.cps.length) (b := 0)
    (ys := [C.b (anyN (nearP f c b) f.cps f.cps.length), C.b (anyN (svcP c c.svc) f.cps f.cps.length), C.i (cntN (onP c b) f.cps f.cps.length : Nat), C.i (sumN (onP c b) Cp.room f.cps f.cps.length), C.i (sumN (onP c b) Cp.hold f.cps f.cps.length), C.b (anyN (togP f c b) f.cps f.cps.length)] ++ c.e ++ b.e)
    (fun i hi => by
      have e3 : ((i : Int) < (f.cps.length : Int)) := by omega
      have hzo := i_pZone_eq f f.cps[i].at_ hz
      simp only [Fl.e, jA, jB] at hzo
      have q1 : (f.cps[i].name.toList == c.name.toList) = sEq f.cps[i].name c.name := rfl
      have q2 : (f.cps[i].at_.toList == (bs #[]).toList) = sEq f.cps[i].at_ (mkS []) := rfl
      have q3 : (f.cps[i].at_.toList == b.name.toList) = sEq f.cps[i].at_ b.name := rfl
      have q4 : (f.cps[i].svc.toList == c.svc.toList) = sEq f.cps[i].svc c.svc := rfl
      have q6 : (f.cps[i].svc.toList == c.near.toList) = sEq f.cps[i].svc c.near := rfl
      have q5 : ((zoneOf f f.cps[i].at_).toList == b.zone.toList) = sEq (zoneOf f f.cps[i].at_) b.zone := rfl
      have b1 := sumN_le (onP c b) Cp.room (cp_room hv) i (by omega)
      have b2 := sumN_le (onP c b) Cp.hold (cp_hold hv) i (by omega)
      have b3 := cntN_le (onP c b) f.cps i
      have b4 := cp_room hv _ (List.getElem_mem hi)
      have b5 := cp_hold hv _ (List.getElem_mem hi)
      have b6 := cp_apart hv _ (List.getElem_mem hi)
      have w2 : w64 (sumN (onP c b) Cp.room f.cps i + f.cps[i].room) = sumN (onP c b) Cp.room f.cps i + f.cps[i].room := by rw [w64_of (by omega) (by omega)]
      have w3 : w64 (sumN (onP c b) Cp.hold f.cps i + f.cps[i].hold) = sumN (onP c b) Cp.hold f.cps i + f.cps[i].hold := by rw [w64_of (by omega) (by omega)]
      have w4 := w64n (n := cntN (onP c b) f.cps i) (by omega)
      have w5 : decide (w64 (c.apart + f.cps[i].apart) > 0) = (f.cps[i].apart != 0 || c.apart != 0) := by
        rw [w64_of (by omega) (by omega), Bool.eq_iff_iff, decide_eq_true_eq, Bool.or_eq_true, bne_iff_ne, bne_iff_ne]; omega
      simp only [anyN_succ _ hi, sumN_succ _ _ hi, cntN_succ _ hi]
      generalize anyN (nearP f c b) f.cps i = A1
      generalize anyN (svcP c c.svc) f.cps i = A2
      generalize anyN (togP f c b) f.cps i = A3
      generalize sumN (onP c b) Cp.room f.cps i = A4 at w2
      generalize sumN (onP c b) Cp.hold f.cps i = A5 at w3
      generalize cntN (onP c b) f.cps i = A6 at w4
      simp only [Fl.e, Cp.e, Bt.e, jA, jB, apL, jC, jD, i_pFits.d4, C.I_i, C.L_l, C.S_s, jW, jY, getD_map' Cp.e hi, e3, decide_true, jR, jX, nearP, svcP, togP, onP, oth]
      simp only [Cp.e, jC, jD, C.S_s, C.I_i, C.B_b, q1, q2, q3, q4, q5, w5, hzo, call1, jI]
      cases sEq f.cps[i].name c.name with
      | true => simp [i_pFits.d3, w1 hi hlc]
      | false =>
        cases sEq f.cps[i].at_ (mkS []) with
        | true => simp [i_pFits.d3, w1 hi hlc]
        | false =>
          simp only [ja, jR, jS, Bool.true_and]
          have fin : ∀ (t : Bool) (n : Bool), bindBlk 1 (i_pFits.d2 (.b A1) (.b n) (.i (A6 : Nat)) (.i A4) (.i A5) (.b t) (.b (sEq (zoneOf f f.cps[i].at_) b.zone)) (.l (f.cps.map Cp.e)) (.i (f.cps.length : Nat)) (.i (i : Nat)) (.b f.pack) (.l (f.bts.map Bt.e)) (.l (f.svs.map Sv.e)) (.l (f.cps.map Cp.e))
              (.s c.name) (.s c.svc) (.i c.rank) (.i c.born) (.i c.room) (.i c.hold) (.s c.sel) (.l (c.likes.map Lk.e)) (.i c.apart) (.s c.near) (.s c.fixed) (.s c.at_) (.s b.name) (.s b.zone) (.l (b.marks.map sE)) (.i b.room) (.i b.hold) (.b b.shut)
              (.s f.cps[i].name) (.s f.cps[i].svc) (.i f.cps[i].rank) (.i f.cps[i].born) (.i f.cps[i].room) (.i f.cps[i].hold) (.s f.cps[i].sel) (.l (f.cps[i].likes.map Lk.e)) (.i f.cps[i].apart) (.s f.cps[i].near) (.s f.cps[i].fixed) (.s f.cps[i].at_)) (ap31 i_pFits.d3) =
              some (.again [.b (A1 || (sEq f.cps[i].svc c.near && sEq (zoneOf f f.cps[i].at_) b.zone)), .b n, .i ((A6 + (bif sEq f.cps[i].at_ b.name then 1 else 0) : Nat) : Int), .i (A4 + (bif sEq f.cps[i].at_ b.name then f.cps[i].room else 0)), .i (A5 + (bif sEq f.cps[i].at_ b.name then f.cps[i].hold else 0)), .b t, .l (f.cps.map Cp.e), .i (f.cps.length : Nat), .i ((i + 1 : Nat) : Int), .b f.pack, .l (f.bts.map Bt.e), .l (f.svs.map Sv.e), .l (f.cps.map Cp.e),
              .s c.name, .s c.svc, .i c.rank, .i c.born, .i c.room, .i c.hold, .s c.sel, .l (c.likes.map Lk.e), .i c.apart, .s c.near, .s c.fixed, .s c.at_, .s b.name, .s b.zone, .l (b.marks.map sE), .i b.room, .i b.hold, .b b.shut]) := by
            intro t n
            simp only [i_pFits.d2, C.B_b, C.S_s, q6]
            cases A1 <;> cases sEq f.cps[i].svc c.near <;> cases sEq (zoneOf f f.cps[i].at_) b.zone <;> cases h3 : sEq f.cps[i].at_ b.name <;>
              simp only [ja, jZ, jR, jS, jJ, jC, jD, i_pFits.d1, C.S_s, C.I_i, q3, h3, bindBlk_self, apL, i_pFits.d3, w1 hi hlc, w2, w3, w4, Bool.or_true, Bool.or_false, Bool.and_true, Bool.and_false, Bool.true_and, Bool.false_and, Int.add_zero, Nat.add_zero]
          cases h4 : sEq f.cps[i].svc c.svc with
          | false => simp only [jS, Bool.false_and, Bool.or_false, jJ, jC, jD, fin]
          | true =>
            have fin' := fun t : Bool => fin t true
            cases A3 <;> cases h3 : sEq f.cps[i].at_ b.name <;> rw [h3] at fin' <;> cases hA : (f.cps[i].apart != 0 || c.apart != 0) <;> cases h6 : sEq (zoneOf f f.cps[i].at_) b.zone <;> rw [h6] at fin' <;> cases h8 : c.apart == 2 <;>
              simp only [ja, jZ, jR, jS, Bool.true_and, Bool.false_and, Bool.and_true, Bool.and_false, Bool.or_true, Bool.or_false, Bool.false_or, Bool.true_or, jJ, jC, jD, fin'])
    (by simp [i_pFits.d4, Fl.e, Cp.e, Bt.e]) f.cps.length 0 rfl
  have z1 : sumN (onP c b) Cp.room f.cps 0 = 0 := by simp [sumN]
  have z2 : sumN (onP c b) Cp.hold f.cps 0 = 0 := by simp [sumN]
  have z3 : cntN (onP c b) f.cps 0 = 0 := by simp [cntN]
  have z4 : ∀ p : Cp → Bool, anyN p f.cps 0 = false := by simp [anyN]
  simp only [Int.natCast_zero, z1, z2, z3, z4] at h
  exact h
theorem i_pFits_eq (hv : validF f = true) (hr : 0 ≤ c.room ∧ c.room ≤ 1000) (hh : 0 ≤ c.hold ∧ c.hold ≤ 1000) (ha : 0 ≤ c.apart ∧ c.apart ≤ 2) (o : Bool) : i_pFits (f.e ++ c.e ++ b.e ++ [.b o]) = some [.i (fitsN f c b (!o) : Nat)] := by
  have h60 := cps_60 hv
  have h := i_fits_loop hz hc hb hbo hv hr hh ha
  have hsel := i_pMeets_eq c.sel b hc.2.2.1 hb hbo
  have q0 : (c.fixed.toList == (bs #[]).toList) = sEq c.fixed (mkS []) := rfl
  have q1 : (c.fixed.toList == b.name.toList) = sEq c.fixed b.name := rfl
  have q2 : (c.near.toList == (bs #[]).toList) = sEq c.near (mkS []) := rfl
  have q3 : (c.near.toList == c.svc.toList) = sEq c.near c.svc := rfl
  have b1 := sumN_le (onP c b) Cp.room (cp_room hv) f.cps.length (by omega)
  have b2 := sumN_le (onP c b) Cp.hold (cp_hold hv) f.cps.length (by omega)
  have w2 : w64 (sumN (onP c b) Cp.room f.cps f.cps.length + c.room) = sumN (onP c b) Cp.room f.cps f.cps.length + c.room := by rw [w64_of (by omega) (by omega)]
  have w3 : w64 (sumN (onP c b) Cp.hold f.cps f.cps.length + c.hold) = sumN (onP c b) Cp.hold f.cps f.cps.length + c.hold := by rw [w64_of (by omega) (by omega)]
  have e6 : (10 : Int) ≤ ((cntN (onP c b) f.cps f.cps.length : Nat) : Int) ↔ 10 ≤ cntN (onP c b) f.cps f.cps.length := by omega
  simp only [Fl.e, Cp.e, Bt.e, jA, jB, anyN_all] at h hsel
  have far : (!sEq c.near (mkS []) && (!f.cps.any (nearP f c b) && !(sEq c.near c.svc && !f.cps.any (svcP c c.svc)))) = farB f c b := by
    unfold farB
    cases hn : sEq c.near c.svc with
    | true => rw [(sEq_iff _ _).1 hn]; simp
    | false => simp
  have fin : i_pFits.d7 (.b f.pack) (.l (f.bts.map Bt.e)) (.l (f.svs.map Sv.e)) (.l (f.cps.map Cp.e))
      (.s c.name) (.s c.svc) (.i c.rank) (.i c.born) (.i c.room) (.i c.hold) (.s c.sel) (.l (c.likes.map Lk.e)) (.i c.apart) (.s c.near) (.s c.fixed) (.s c.at_) (.s b.name) (.s b.zone) (.l (b.marks.map sE)) (.i b.room) (.i b.hold) (.b b.shut) =
      some (.ret [.i (((bif !selM c.sel b then 3 else bif f.cps.any (togP f c b) then 4 else bif farB f c b then 5 else
  bif decide (10 ≤ cntN (onP c b) f.cps f.cps.length) then 6 else bif decide (b.room < sumN (onP c b) Cp.room f.cps f.cps.length + c.room) then 7 else bif decide (b.hold < sumN (onP c b) Cp.hold f.cps f.cps.length + c.hold) then 8 else 0 : Nat) : Nat) : Int)]) := by
    simp only [i_pFits.d7, hsel, call1, jI, jC, C.B_b, C.L_l, jW]
    cases selM c.sel b
    · rfl
    simp only [jZ, jS]
    rw [h]
    simp only [bindBlk_self, apL, jC, jD, i_pFits.d6, C.B_b]
    cases f.cps.any (togP f c b)
    · simp only [jS]
      have d5 : ∀ e : Bool, i_pFits.d5 (.i (cntN (onP c b) f.cps f.cps.length : Nat)) (.i (sumN (onP c b) Cp.room f.cps f.cps.length)) (.i (sumN (onP c b) Cp.hold f.cps f.cps.length)) (.b e)
          (.s c.name) (.s c.svc) (.i c.rank) (.i c.born) (.i c.room) (.i c.hold) (.s c.sel) (.l (c.likes.map Lk.e)) (.i c.apart) (.s c.near) (.s c.fixed) (.s c.at_) (.s b.name) (.s b.zone) (.l (b.marks.map sE)) (.i b.room) (.i b.hold) (.b b.shut) =
          some (.ret [.i (((bif e then 5 else bif decide (10 ≤ cntN (onP c b) f.cps f.cps.length) then 6 else bif decide (b.room < sumN (onP c b) Cp.room f.cps f.cps.length + c.room) then 7 else bif decide (b.hold < sumN (onP c b) Cp.hold f.cps f.cps.length + c.hold) then 8 else 0 : Nat) : Nat) : Int)]) := by
        intro e
        simp only [i_pFits.d5, C.B_b, C.I_i, w2, w3, ge_iff_le, gt_iff_lt, e6]
        cases e
        · simp only [jS]
          cases decide (10 ≤ cntN (onP c b) f.cps f.cps.length)
          · simp only [jS]
            cases decide (b.room < sumN (onP c b) Cp.room f.cps f.cps.length + c.room)
            · simp only [jS]
              cases decide (b.hold < sumN (onP c b) Cp.hold f.cps f.cps.length + c.hold) <;> rfl
            · rfl
          · rfl
        · rfl
      rw [← far]
      generalize (bif decide (10 ≤ cntN (onP c b) f.cps f.cps.length) then 6 else bif decide (b.room < sumN (onP c b) Cp.room f.cps f.cps.length + c.room) then 7 else bif decide (b.hold < sumN (onP c b) Cp.hold f.cps f.cps.length + c.hold) then 8 else 0 : Nat) = N at d5 ⊢
      simp only [C.S_s, q2, q3]
      cases sEq c.near (mkS []) <;> cases f.cps.any (nearP f c b) <;> cases sEq c.near c.svc <;> cases f.cps.any (svcP c c.svc) <;>
        simp only [jR, jS, jZ, ja, jJ, apL, jC, jD, d5, Bool.and_true, Bool.and_false, Bool.true_and, Bool.false_and]
    · rfl
  simp only [i_pFits, i_pFits.d9, Fl.e, Cp.e, Bt.e, jA, jB, apL, jC, jD, C.B_b, fitsN]
  generalize (bif !selM c.sel b then 3 else bif f.cps.any (togP f c b) then 4 else bif farB f c b then 5 else
  bif decide (10 ≤ cntN (onP c b) f.cps f.cps.length) then 6 else bif decide (b.room < sumN (onP c b) Cp.room f.cps f.cps.length + c.room) then 7 else bif decide (b.hold < sumN (onP c b) Cp.hold f.cps f.cps.length + c.hold) then 8 else 0 : Nat) = N at fin ⊢
  cases hs : b.shut <;> rw [hs] at fin <;> cases o <;> cases h1 : sEq c.fixed (mkS []) <;> cases h2 : sEq c.fixed b.name <;>
    simp only [i_pFits.d8, q0, q1, h1, h2, fin, C.B_b, C.S_s, jR, jS, jZ, ja, Bool.and_true, Bool.and_false, Bool.true_and, Bool.false_and, jJ, bindNrm_ret, apL, jC, jD, jV] <;> rfl
end
end Go.Ev
namespace Go.Ev
def fitsOf (f : Fl) (c b : Str) : Nat := bif validF f then (match f.cps[(cIx f c).toNat]?, f.bts[(bIx f b).toNat]? with
  | some x, some y => if cIx f c < 0 ∨ bIx f b < 0 then 9 else fitsN f x y false
  | _, _ => 9) else 9
section
variable {f : Fl} (hz : f.Sz 1048576) (cn bn_ : Str)
include hz
theorem s_PilotFits_eq : s_PilotFits (f.e ++ [.s cn, .s bn_]) = some [.i (fitsOf f cn bn_ : Nat)] := by
  have h1 := s_l2Copy_eq f cn hz.2.2.1
  have h2 := s_l2Berth_eq f bn_ hz.1.1
  have h3 := s_PilotValid_eq hz
  simp only [Fl.e, jA, jB] at h1 h2 h3
  simp only [s_PilotFits, s_PilotFits.d1, Fl.e, jA, jB, apL, jC, jD, h1, h2, h3, call1, jI, C.I_i, C.B_b, C.L_l, jW, fitsOf]
  cases hv : validF f with
  | false => simp
  | true =>
    rcases cIx_at f cn with h | ⟨i, hi, e1, _⟩
    · simp [h]; split <;> rfl
    rcases bIx_at f bn_ with h | ⟨j, hj, e2, _⟩
    · have : ¬ ((i : Int) < 0) := by omega
      simp [e1, h, this, hi]; split <;> rfl
    have n1 : ¬ ((i : Int) < 0) := by omega
    have n2 : ¬ ((j : Int) < 0) := by omega
    have n3 : ((i : Int) < (f.cps.length : Int)) := by omega
    have n4 : ((j : Int) < (f.bts.length : Int)) := by omega
    have m := List.getElem_mem hi
    have hs := s_l3Fits_eq hz (hz.2.2.2 _ m) (hz.1.2 _ (List.getElem_mem hj)) (valid_bts hv _ (List.getElem_mem hj)) hv (cp_room hv _ m) (cp_hold hv _ m) false
    simp only [Fl.e, Cp.e, Bt.e, jA, jB] at hs
    simp only [e1, e2, n1, n2, n3, n4, decide_true, decide_false, jZ, ja, jR, jS, jX, jY, getD_map' Cp.e hi, getD_map' Bt.e hj, List.getElem?_eq_getElem hi, List.getElem?_eq_getElem hj, or_self, if_false]
    simp only [Cp.e, Bt.e, jC, jD, hs, jI, jV]
theorem i_PilotFits_eq : i_PilotFits (f.e ++ [.s cn, .s bn_]) = some [.i (fitsOf f cn bn_ : Nat)] := by
  have h1 := i_pCopyAt_eq f cn hz.2.2.1
  have h2 := i_pBerthAt_eq f bn_ hz.1.1
  have h3 := i_PilotValid_eq hz
  simp only [Fl.e, jA, jB] at h1 h2 h3
  simp only [i_PilotFits, i_PilotFits.d1, Fl.e, jA, jB, apL, jC, jD, h1, h2, h3, call1, jI, C.I_i, C.B_b, C.L_l, jW, fitsOf]
  cases hv : validF f with
  | false => simp
  | true =>
    rcases cIx_at f cn with h | ⟨i, hi, e1, _⟩
    · simp [h]; split <;> rfl
    rcases bIx_at f bn_ with h | ⟨j, hj, e2, _⟩
    · have : ¬ ((i : Int) < 0) := by omega
      simp [e1, h, this, hi]; split <;> rfl
    have n1 : ¬ ((i : Int) < 0) := by omega
    have n2 : ¬ ((j : Int) < 0) := by omega
    have n3 : ((i : Int) < (f.cps.length : Int)) := by omega
    have n4 : ((j : Int) < (f.bts.length : Int)) := by omega
    have m := List.getElem_mem hi
    have hs := i_pFits_eq hz (hz.2.2.2 _ m) (hz.1.2 _ (List.getElem_mem hj)) (valid_bts hv _ (List.getElem_mem hj)) hv (cp_room hv _ m) (cp_hold hv _ m) (cp_apart hv _ m) true
    simp only [Fl.e, Cp.e, Bt.e, jA, jB, jZ] at hs
    simp only [e1, e2, n1, n2, n3, n4, decide_true, decide_false, jZ, ja, jR, jS, jX, jY, getD_map' Cp.e hi, getD_map' Bt.e hj, List.getElem?_eq_getElem hi, List.getElem?_eq_getElem hj, or_self, if_false]
    simp only [Cp.e, Bt.e, jC, jD, hs, jI, jV]
end
theorem FnExactPilotFits_true (f : Fl) (c b : Str) (hz : f.Sz maxLen) : w_FnExactPilotFits (f.e ++ [.s c, .s b]) = some [.b true] := by
  have h1 := w_szPilotFleet_eq f 1048576 (by omega) (by omega) hz
  simp only [Fl.e, jA, jB] at h1
  simp only [w_FnExactPilotFits, w_FnExactPilotFits.d1, Fl.e, jA, jB, apL, jC, jD, C.S_s]
  by_cases q1 : (c.size : Int) > 1048576
  · simp [q1]
  by_cases q2 : (b.size : Int) > 1048576
  · simp [q1, q2]
  simp only [q1, q2, decide_false, jS]
  rcases h1 with h | ⟨n, n0, n1, hz', h⟩
  · simp [h, call1]
  have hn : ¬ n < 0 := by omega
  have t1 := w_toPilotFleet_eq f hz'
  have t3 := w_eqPilotFleet_eq f hz'
  have s1 := s_PilotFits_eq hz' c b
  have s2 := i_PilotFits_eq hz' c b
  simp only [Fl.e, jA, jB] at t1 t3 s1 s2
  simp only [h, t1, t3, s1, s2, call1, call4, jI, jC, jD, C.I_i, C.L_l, C.B_b, hn, decide_false, jS]
  simp
def better (p : Bool) (a b : Int × Int × Int × Int) : Bool := bif a.1 != b.1 then decide (a.1 > b.1) else bif a.2.1 != b.2.1 then decide (a.2.1 < b.2.1) else bif a.2.2.1 != b.2.2.1 then decide (a.2.2.1 < b.2.2.1) else bif p then decide (a.2.2.2 < b.2.2.2) else decide (a.2.2.2 > b.2.2.2)
def sc4 (a : Int × Int × Int × Int) : List C := [.i a.1, .i a.2.1, .i a.2.2.1, .i a.2.2.2]
def scoreN (f : Fl) (c : Cp) (b : Bt) : Int × Int × Int × Int := (likeS c.likes b c.likes.length, (zoneN f c b f.cps.length : Nat), (berthN f c b f.cps.length : Nat), leftN f c b f.cps.length)
theorem s_PilotBetter_eq (a b : Int × Int × Int × Int) (p : Bool) : s_PilotBetter (sc4 a ++ sc4 b ++ [.b p]) = some [.b (better p a b)] := by
  simp only [s_PilotBetter, s_PilotBetter.d1, sc4, jA, jB, apL, jC, jD, C.I_i, C.B_b, better]
  cases a.1 != b.1 <;> cases a.2.1 != b.2.1 <;> cases a.2.2.1 != b.2.2.1 <;> cases p <;> rfl
theorem i_PilotBetter_eq (a b : Int × Int × Int × Int) (p : Bool) : i_PilotBetter (sc4 a ++ sc4 b ++ [.b p]) = some [.b (better p a b)] := by
  simp only [i_PilotBetter, i_PilotBetter.d1, sc4, jA, jB, apL, jC, jD, C.I_i, C.B_b, better]
  cases a.1 != b.1 <;> cases a.2.1 != b.2.1 <;> cases a.2.2.1 != b.2.2.1 <;> cases p <;> rfl
def wins (f : Fl) (c : Cp) (i : Int) (b : Bt) : Bool := decide (i < 0) || match f.bts[i.toNat]? with | some y => better f.pack (scoreN f c b) (scoreN f c y) | none => true
def bestIx (f : Fl) (c : Cp) : Nat → Int
  | 0 => -1
  | i + 1 => match f.bts[i]? with
    | some b => bif fitsN f c b false == 0 && wins f c (bestIx f c i) b then i else bestIx f c i
    | none => bestIx f c i
theorem bestIx_at (f : Fl) (c : Cp) : ∀ i, i ≤ f.bts.length → bestIx f c i = -1 ∨ ∃ k, ∃ h : k < f.bts.length, bestIx f c i = (k : Nat)
  | 0, _ => .inl rfl
  | i + 1, h => by
    have hi : i < f.bts.length := by omega
    have ih := bestIx_at f c i (by omega)
    simp only [bestIx, List.getElem?_eq_getElem hi]
    generalize (fitsN f c f.bts[i] false == 0 && _) = q
    cases q with
    | true => exact .inr ⟨i, hi, rfl⟩
    | false => exact ih
def chooseB (f : Fl) (c : Cp) : Str := match f.bts[(bestIx f c f.bts.length).toNat]? with
  | some b => if bestIx f c f.bts.length < 0 then mkS [] else b.name
  | none => mkS []
section
variable {f : Fl} (hz : f.Sz 1048576) {c : Cp} (hc : c.Sz 1048576) (hv : validF f = true) (hr : 0 ≤ c.room ∧ c.room ≤ 1000) (hh : 0 ≤ c.hold ∧ c.hold ≤ 1000) (ha : 0 ≤ c.apart ∧ c.apart ≤ 2)
include hz hc hv hr hh ha
theorem s_l4Choose_eq : s_l4Choose (f.e ++ c.e) = some [.s (chooseB f c)] := by
  have hlc : f.bts.length < big := by have := hz.1.1; simp only [big]; omega
  have h := run_loop (body := ap18 s_l4Choose.d2) (S := fun i => [C.i (bestIx f c i), C.i (i : Nat)] ++ f.e ++ c.e) (n := f.bts.length) (b := 0) (ys := [C.i (bestIx f c f.bts.length)] ++ f.e)
    (fun i hi => by
      have e3 : ((i : Int) < (f.bts.length : Int)) := by omega
      have m := List.getElem_mem hi
      have F1 := s_l3Fits_eq hz hc (hz.1.2 _ m) (valid_bts hv _ m) hv hr hh false
      have S1 := s_l4Score_eq hz hc (hz.1.2 _ m) (valid_bts hv _ m)
      have S1 : s_l4Score (f.e ++ c.e ++ f.bts[i].e) = some (sc4 (scoreN f c f.bts[i])) := S1
      have i1 : (-1 : Int) < 0 := by omega
      have fe : (((fitsN f c f.bts[i] false : Nat) : Int) == 0) = (fitsN f c f.bts[i] false == 0) := by rw [Bool.eq_iff_iff, beq_iff_eq, beq_iff_eq]; omega
      simp only [bestIx, List.getElem?_eq_getElem hi]
      simp only [Fl.e, Cp.e, Bt.e, jA, jB] at F1 S1
      simp only [Fl.e, Cp.e, jA, jB, apL, jC, jD, s_l4Choose.d2, C.I_i, C.L_l, C.B_b, jW, jY, getD_map' Bt.e hi, e3, decide_true, jR, jX]
      simp only [Bt.e, jC, jD, F1, S1, call1, jI, C.I_i, fe]
      cases fitsN f c f.bts[i] false == 0 with
      | false => simp [s_l4Choose.d1, w1 hi hlc]
      | true =>
        rcases bestIx_at f c i (by omega) with h | ⟨k, hk, h⟩
        · simp [h, s_l4Choose.d1, w1 hi hlc, wins]
        · have n1 : ¬ ((k : Int) < 0) := by omega
          have n2 : ((k : Int) < (f.bts.length : Int)) := by omega
          have m2 := List.getElem_mem hk
          have S2 : s_l4Score (f.e ++ c.e ++ f.bts[k].e) = some (sc4 (scoreN f c f.bts[k])) := s_l4Score_eq hz hc (hz.1.2 _ m2) (valid_bts hv _ m2)
          have B := s_PilotBetter_eq (scoreN f c f.bts[i]) (scoreN f c f.bts[k]) f.pack
          simp only [Fl.e, Cp.e, Bt.e, sc4, jA, jB] at S2 B
          simp only [h, n1, n2, wins, decide_true, decide_false, ja, jR, jX, jY, getD_map' Bt.e hk, List.getElem?_eq_getElem hk, Bool.true_and, Bool.false_or, sc4, call4, jI, jC, jD]
          simp only [Bt.e, jC, jD, S2, jI, B, C.B_b]
          cases better f.pack (scoreN f c f.bts[i]) (scoreN f c f.bts[k]) <;> simp [s_l4Choose.d1, w1 hi hlc])
    (by simp [s_l4Choose.d2, Fl.e, Cp.e]) f.bts.length 0 rfl
  simp only [Fl.e, Cp.e, jA, jB, Int.natCast_zero, show bestIx f c 0 = -1 from rfl] at h
  simp only [s_l4Choose, s_l4Choose.d4, Fl.e, Cp.e, jA, jB, apL, jC, jD, chooseB]
  rw [h]
  simp only [bindBlk_self, apL, jC, jD, s_l4Choose.d3, C.I_i, C.L_l, jW]
  rcases bestIx_at f c f.bts.length (Nat.le_refl _) with h | ⟨k, hk, h⟩
  · simp [h]
    split <;> rfl
  · have n1 : ¬ ((k : Int) < 0) := by omega
    have n2 : ((k : Int) < (f.bts.length : Int)) := by omega
    simp only [h, n1, n2, decide_true, decide_false, jR, jS, jX, jY, getD_map' Bt.e hk, List.getElem?_eq_getElem hk, if_false, Bt.e, jC, jV]
end
end Go.Ev
namespace Go.Ev
def bestNm (f : Fl) (c : Cp) (i : Nat) : Str := if bestIx f c i < 0 then mkS [] else match f.bts[(bestIx f c i).toNat]? with | some b => b.name | none => mkS []
def bestSc (f : Fl) (c : Cp) (i : Nat) : Int × Int × Int × Int := if bestIx f c i < 0 then (0, 0, 0, 0) else match f.bts[(bestIx f c i).toNat]? with | some b => scoreN f c b | none => (0, 0, 0, 0)
theorem bname_ne {b : Bt} (h : berthOk b = true) : sEq b.name (mkS []) = false := name_ne h _ ((sEq_iff _ _).2 rfl)
section
variable {f : Fl} (hz : f.Sz 1048576) {c : Cp} (hc : c.Sz 1048576) (hv : validF f = true) (hr : 0 ≤ c.room ∧ c.room ≤ 1000) (hh : 0 ≤ c.hold ∧ c.hold ≤ 1000) (ha : 0 ≤ c.apart ∧ c.apart ≤ 2)
include hz hc hv hr hh ha
theorem i_pChoose_eq : i_pChoose (f.e ++ c.e) = some [.s (chooseB f c)] := by
  have hlc : f.bts.length < big := by have := hz.1.1; simp only [big]; omega
  have h := run_loop (body := ap24 i_pChoose.d2) (S := fun i => [C.s (bestNm f c i), C.l (f.bts.map Bt.e), C.i ((f.bts.length : Nat) : Int), C.i (i : Nat)] ++ f.e ++ c.e ++ sc4 (bestSc f c i)) (n := f.bts.length) (b := 0) (ys := [C.s (bestNm f c f.bts.length)])
    (fun i hi => by
      have e3 : ((i : Int) < (f.bts.length : Int)) := by omega
      have m := List.getElem_mem hi
      have F1 := i_pFits_eq hz hc (hz.1.2 _ m) (valid_bts hv _ m) hv hr hh ha true
      have S1 : i_pScore (f.e ++ c.e ++ f.bts[i].e) = some (sc4 (scoreN f c f.bts[i])) := i_pScore_eq hz hc (hz.1.2 _ m) (valid_bts hv _ m)
      have fe : (((fitsN f c f.bts[i] false : Nat) : Int) != 0) = !(fitsN f c f.bts[i] false == 0) := by rw [Bool.eq_iff_iff, bne_iff_ne, Bool.not_eq_true', beq_eq_false_iff_ne]; omega
      have B := i_PilotBetter_eq (scoreN f c f.bts[i]) (bestSc f c i) f.pack
      have q0 : ((bestNm f c i).toList == (bs #[]).toList) = sEq (bestNm f c i) (mkS []) := rfl
      have i0 : ¬ ((i : Int) < 0) := by omega
      have st : (sEq (bestNm f c i) (mkS []) = true ∧ (bestIx f c i < 0)) ∨ (sEq (bestNm f c i) (mkS []) = false ∧ ¬ bestIx f c i < 0 ∧ ∃ y, f.bts[(bestIx f c i).toNat]? = some y ∧ bestSc f c i = scoreN f c y) := by
        rcases bestIx_at f c i (by omega) with h | ⟨k, hk, h⟩
        · exact .inl ⟨by simp [bestNm, h, sEq], by omega⟩
        · have n1 : ¬ ((k : Int) < 0) := by omega
          refine .inr ⟨?_, by omega, f.bts[k], by simp [h, hk], by simp [bestSc, h, n1, hk]⟩
          simp only [bestNm, h, n1, if_false, jY, List.getElem?_eq_getElem hk]
          exact bname_ne (valid_bts hv _ (List.getElem_mem hk))
      have nx : ∀ q : Bool, (fitsN f c f.bts[i] false == 0 && wins f c (bestIx f c i) f.bts[i]) = q →
          bestNm f c (i + 1) = (bif q then f.bts[i].name else bestNm f c i) ∧ bestSc f c (i + 1) = (bif q then scoreN f c f.bts[i] else bestSc f c i) := by
        intro q hq
        simp only [bestNm, bestSc, bestIx, List.getElem?_eq_getElem hi, hq]
        cases q <;> simp [i0, hi]
      simp only [Fl.e, Cp.e, Bt.e, sc4, jA, jB, jZ] at F1 S1 B
      simp only [Fl.e, Cp.e, sc4, jA, jB, apL, jC, jD, i_pChoose.d2, C.I_i, C.L_l, C.S_s, C.B_b, jW, jY, getD_map' Bt.e hi, e3, decide_true, jR, jX]
      simp only [Bt.e, jC, jD, F1, S1, call1, call4, jI, C.I_i, fe, q0]
      cases hf : fitsN f c f.bts[i] false == 0 with
      | false =>
        obtain ⟨g1, g2⟩ := nx false (by simp only [hf, Bool.false_and])
        simp only [g1, g2, jS]
        simp [i_pChoose.d1, w1 hi hlc]
      | true =>
        rcases st with ⟨s1, s2⟩ | ⟨s1, s2, y, s3, s4⟩
        · obtain ⟨g1, g2⟩ := nx true (by simp only [hf, s2, wins, decide_true, Bool.true_and, Bool.true_or])
          simp only [g1, g2, jR, s1]
          simp [i_pChoose.d1, w1 hi hlc]
        · obtain ⟨g1, g2⟩ := nx (better f.pack (scoreN f c f.bts[i]) (bestSc f c i)) (by simp only [hf, s2, s3, s4, wins, decide_false, Bool.true_and, Bool.false_or])
          simp only [g1, g2, s1, jZ, ja, jR, jS, B, jI, C.B_b, jC]
          cases better f.pack (scoreN f c f.bts[i]) (bestSc f c i) <;> simp [i_pChoose.d1, w1 hi hlc])
    (by simp [i_pChoose.d2, Fl.e, Cp.e, sc4]) f.bts.length 0 rfl
  have e0 : bestNm f c 0 = bs #[] := rfl
  have e1 : bestSc f c 0 = (0, 0, 0, 0) := rfl
  simp only [Fl.e, Cp.e, sc4, jA, jB, Int.natCast_zero, e0, e1] at h
  simp only [i_pChoose, i_pChoose.d4, Fl.e, Cp.e, jA, jB, apL, jC, jD, C.L_l, jW]
  rw [h]
  have : bestNm f c f.bts.length = chooseB f c := by
    unfold bestNm chooseB
    rcases bestIx_at f c f.bts.length (Nat.le_refl _) with h | ⟨k, hk, h⟩
    · simp [h]; split <;> rfl
    · have n1 : ¬ ((k : Int) < 0) := by omega
      simp [h, n1, hk]
  simp [i_pChoose.d3, this]
end
def chooseOf (f : Fl) (c : Str) : Str := bif validF f then (match f.cps[(cIx f c).toNat]? with
  | some x => if cIx f c < 0 then mkS [] else chooseB f x
  | none => mkS []) else mkS []
section
variable {f : Fl} (hz : f.Sz 1048576) (cn : Str)
include hz
theorem s_PilotChoose_eq : s_PilotChoose (f.e ++ [.s cn]) = some [.s (chooseOf f cn)] := by
  have h1 := s_l2Copy_eq f cn hz.2.2.1
  have h3 := s_PilotValid_eq hz
  simp only [Fl.e, jA, jB] at h1 h3
  simp only [s_PilotChoose, s_PilotChoose.d1, Fl.e, jA, jB, apL, jC, jD, h1, h3, call1, jI, C.I_i, C.B_b, C.L_l, jW, chooseOf]
  cases hv : validF f with
  | false => rfl
  | true =>
    rcases cIx_at f cn with h | ⟨i, hi, e1, _⟩
    · simp [h]; split <;> rfl
    have n1 : ¬ ((i : Int) < 0) := by omega
    have n3 : ((i : Int) < (f.cps.length : Int)) := by omega
    have m := List.getElem_mem hi
    have hs := s_l4Choose_eq hz (hz.2.2.2 _ m) hv (cp_room hv _ m) (cp_hold hv _ m) (cp_apart hv _ m)
    simp only [Fl.e, Cp.e, jA, jB] at hs
    simp only [e1, n1, n3, decide_true, decide_false, jZ, ja, jR, jS, jX, jY, getD_map' Cp.e hi, List.getElem?_eq_getElem hi, if_false]
    simp only [Cp.e, jC, jD, hs, jI, jV]
theorem i_PilotChoose_eq : i_PilotChoose (f.e ++ [.s cn]) = some [.s (chooseOf f cn)] := by
  have h1 := i_pCopyAt_eq f cn hz.2.2.1
  have h3 := i_PilotValid_eq hz
  simp only [Fl.e, jA, jB] at h1 h3
  simp only [i_PilotChoose, i_PilotChoose.d1, Fl.e, jA, jB, apL, jC, jD, h1, h3, call1, jI, C.I_i, C.B_b, C.L_l, jW, chooseOf]
  rcases cIx_at f cn with h | ⟨i, hi, e1, _⟩
  · simp [h]; cases validF f <;> simp <;> first | rfl | (split <;> rfl)
  have n1 : ¬ ((i : Int) < 0) := by omega
  have n3 : ((i : Int) < (f.cps.length : Int)) := by omega
  have m := List.getElem_mem hi
  cases hv : validF f with
  | false => simp only [e1, n1, decide_false, ja, jR, jS]; rfl
  | true =>
    have hs := i_pChoose_eq hz (hz.2.2.2 _ m) hv (cp_room hv _ m) (cp_hold hv _ m) (cp_apart hv _ m)
    simp only [Fl.e, Cp.e, jA, jB] at hs
    simp only [e1, n1, n3, decide_true, decide_false, jZ, ja, jR, jS, jX, jY, getD_map' Cp.e hi, List.getElem?_eq_getElem hi, if_false]
    simp only [Cp.e, jC, jD, hs, jI, jV]
end
theorem FnExactPilotChoose_true (f : Fl) (c : Str) (hz : f.Sz maxLen) : w_FnExactPilotChoose (f.e ++ [.s c]) = some [.b true] := by
  have h1 := w_szPilotFleet_eq f 1048576 (by omega) (by omega) hz
  simp only [Fl.e, jA, jB] at h1
  simp only [w_FnExactPilotChoose, w_FnExactPilotChoose.d1, Fl.e, jA, jB, apL, jC, jD, C.S_s]
  by_cases q1 : (c.size : Int) > 1048576
  · simp [q1]
  simp only [q1, decide_false, jS]
  rcases h1 with h | ⟨n, n0, n1, hz', h⟩
  · simp [h, call1]
  have hn : ¬ n < 0 := by omega
  have t1 := w_toPilotFleet_eq f hz'
  have t3 := w_eqPilotFleet_eq f hz'
  have s1 := s_PilotChoose_eq hz' c
  have s2 := i_PilotChoose_eq hz' c
  simp only [Fl.e, jA, jB] at t1 t3 s1 s2
  simp only [h, t1, t3, s1, s2, call1, call4, jI, jC, jD, C.I_i, C.L_l, C.B_b, C.S_s, hn, decide_false, jS]
  simp
end Go.Ev
namespace Go.Ev
theorem dec_list {α : Type} (e : α → List C) (P : α → Prop) : ∀ (es : List (List C)), (∀ r, r ∈ es → ∃ x, r = e x ∧ P x) → ∃ l : List α, es = l.map e ∧ ∀ x, x ∈ l → P x
  | [], _ => ⟨[], rfl, fun x h => by simp at h⟩
  | r :: es, h => by
    obtain ⟨x, rfl, hx⟩ := h r (by simp)
    obtain ⟨l, rfl, hl⟩ := dec_list e P es fun r hr => h r (by simp [hr])
    exact ⟨x :: l, rfl, fun y hy => by
      rcases List.mem_cons.1 hy with rfl | hy
      · exact hx
      · exact hl y hy⟩
theorem db_rows {T : Tys} {e : TypeId} {d : TD} {c : C} (h : DB T (.sl e) c) (hd : tget T e = some d) : ∃ es : List (List C), c = .l es ∧ es.length ≤ maxLen ∧ ∀ r, r ∈ es → r.length = d.cts.length ∧ ∀ (j : Nat) (c : C) (ct : CT), r[j]? = some c → d.cts[j]? = some ct → DB T ct c := by
  cases h with
  | l e es h h1 h2 => exact ⟨es, rfl, h, fun r hr => ⟨h1 r d hr hd, fun j c ct => h2 r d j c ct hr hd⟩⟩
theorem db_str {T : Tys} {c : C} (h : DB T .str c) : ∃ s : Str, c = .s s ∧ s.size ≤ maxLen := by cases h with | s x h => exact ⟨x, rfl, h⟩
theorem db_int {T : Tys} {k : IntKind} {c : C} (h : DB T (.int k) c) : ∃ n : Int, c = .i n := by cases h with | i k n h => exact ⟨n, rfl⟩
theorem db_bool {T : Tys} {c : C} (h : DB T .bool c) : ∃ b : Bool, c = .b b := by cases h with | b x => exact ⟨x, rfl⟩
theorem db_strs {c : C} (h : DB T0 (.sl 9) c) : ∃ l : List Str, c = .l (l.map sE) ∧ SsSz maxLen l := by
  obtain ⟨es, rfl, hl, hr⟩ := db_rows h (d := ⟨.str, [.str], 16⟩) rfl
  obtain ⟨l, rfl, h2⟩ := dec_list sE (fun s => s.size ≤ maxLen) es fun r hr' => by
    obtain ⟨h1, h2⟩ := hr r hr'
    match r, h1 with
    | [c], _ =>
      obtain ⟨s, rfl, hs⟩ := db_str (h2 0 c .str rfl rfl)
      exact ⟨s, rfl, hs⟩
  exact ⟨l, rfl, by simpa using hl, h2⟩
theorem db_likes {c : C} (h : DB T0 (.sl 158) c) : ∃ l : List Lk, c = .l (l.map Lk.e) ∧ l.length ≤ maxLen ∧ ∀ x, x ∈ l → x.sel.size ≤ maxLen := by
  obtain ⟨es, rfl, hl, hr⟩ := db_rows h (d := ⟨.st [(0, 9), (1, 3)], [.str, .int .i64], 24⟩) rfl
  obtain ⟨l, rfl, h2⟩ := dec_list Lk.e (fun x => x.sel.size ≤ maxLen) es fun r hr' => by
    obtain ⟨h1, h2⟩ := hr r hr'
    match r, h1 with
    | [a, b], _ =>
      obtain ⟨s, rfl, hs⟩ := db_str (h2 0 a _ rfl rfl)
      obtain ⟨n, rfl⟩ := db_int (h2 1 b _ rfl rfl)
      exact ⟨⟨s, n⟩, rfl, hs⟩
  exact ⟨l, rfl, by simpa using hl, h2⟩
theorem db_bts {c : C} (h : DB T0 (.sl 95) c) : ∃ l : List Bt, c = .l (l.map Bt.e) ∧ l.length ≤ maxLen ∧ ∀ x, x ∈ l → x.Sz maxLen := by
  obtain ⟨es, rfl, hl, hr⟩ := db_rows h (d := ⟨.st [(0, 9), (1, 9), (2, 27), (3, 3), (4, 3), (5, 4)], [.str, .str, .sl 9, .int .i64, .int .i64, .bool], 80⟩) rfl
  obtain ⟨l, rfl, h2⟩ := dec_list Bt.e (fun x => x.Sz maxLen) es fun r hr' => by
    obtain ⟨h1, h2⟩ := hr r hr'
    match r, h1 with
    | [a, b, c, d, e, f], _ =>
      obtain ⟨a, rfl, ha⟩ := db_str (h2 0 a _ rfl rfl)
      obtain ⟨b, rfl, hb⟩ := db_str (h2 1 b _ rfl rfl)
      obtain ⟨c, rfl, hc⟩ := db_strs (h2 2 c _ rfl rfl)
      obtain ⟨d, rfl⟩ := db_int (h2 3 d _ rfl rfl)
      obtain ⟨e, rfl⟩ := db_int (h2 4 e _ rfl rfl)
      obtain ⟨f, rfl⟩ := db_bool (h2 5 f _ rfl rfl)
      exact ⟨⟨a, b, c, d, e, f⟩, rfl, ha, hb, hc⟩
  exact ⟨l, rfl, by simpa using hl, h2⟩
theorem db_svs {c : C} (h : DB T0 (.sl 97) c) : ∃ l : List Sv, c = .l (l.map Sv.e) ∧ l.length ≤ maxLen ∧ ∀ x, x ∈ l → x.Sz maxLen := by
  obtain ⟨es, rfl, hl, hr⟩ := db_rows h (d := ⟨.st [(0, 9), (1, 3)], [.str, .int .i64], 24⟩) rfl
  obtain ⟨l, rfl, h2⟩ := dec_list Sv.e (fun x => x.Sz maxLen) es fun r hr' => by
    obtain ⟨h1, h2⟩ := hr r hr'
    match r, h1 with
    | [a, b], _ =>
      obtain ⟨s, rfl, hs⟩ := db_str (h2 0 a _ rfl rfl)
      obtain ⟨n, rfl⟩ := db_int (h2 1 b _ rfl rfl)
      exact ⟨⟨s, n⟩, rfl, hs⟩
  exact ⟨l, rfl, by simpa using hl, h2⟩
theorem db_cps {c : C} (h : DB T0 (.sl 101) c) : ∃ l : List Cp, c = .l (l.map Cp.e) ∧ l.length ≤ maxLen ∧ ∀ x, x ∈ l → x.Sz maxLen := by
  obtain ⟨es, rfl, hl, hr⟩ := db_rows h (d := ⟨.st [(0, 9), (1, 9), (2, 3), (3, 3), (4, 3), (5, 3), (6, 9), (7, 99), (8, 3), (9, 9), (10, 9), (11, 9)], [.str, .str, .int .i64, .int .i64, .int .i64, .int .i64, .str, .sl 158, .int .i64, .str, .str, .str], 160⟩) rfl
  obtain ⟨l, rfl, h2⟩ := dec_list Cp.e (fun x => x.Sz maxLen) es fun r hr' => by
    obtain ⟨h1, h2⟩ := hr r hr'
    match r, h1 with
    | [a, b, c, d, e, f, g, h, i, j, k, l], _ =>
      obtain ⟨a, rfl, ha⟩ := db_str (h2 0 a _ rfl rfl)
      obtain ⟨b, rfl, hb⟩ := db_str (h2 1 b _ rfl rfl)
      obtain ⟨c, rfl⟩ := db_int (h2 2 c _ rfl rfl)
      obtain ⟨d, rfl⟩ := db_int (h2 3 d _ rfl rfl)
      obtain ⟨e, rfl⟩ := db_int (h2 4 e _ rfl rfl)
      obtain ⟨f, rfl⟩ := db_int (h2 5 f _ rfl rfl)
      obtain ⟨g, rfl, hg⟩ := db_str (h2 6 g _ rfl rfl)
      obtain ⟨h, rfl, hh⟩ := db_likes (h2 7 h _ rfl rfl)
      obtain ⟨i, rfl⟩ := db_int (h2 8 i _ rfl rfl)
      obtain ⟨j, rfl, hj⟩ := db_str (h2 9 j _ rfl rfl)
      obtain ⟨k, rfl, hk⟩ := db_str (h2 10 k _ rfl rfl)
      obtain ⟨l, rfl, hl⟩ := db_str (h2 11 l _ rfl rfl)
      exact ⟨⟨a, b, c, d, e, f, g, h, i, j, k, l⟩, rfl, ha, hb, hg, hj, hk, hl, hh⟩
  exact ⟨l, rfl, by simpa using hl, h2⟩
abbrev ctsF : List CT := [.bool, .sl 95, .sl 97, .sl 101]
theorem rd_fleet {w : World} {vs : List Value} {xs : List C} (h : Rd T0 w ctsF vs xs) : ∃ f : Fl, xs = f.e ∧ f.Sz maxLen := by
  obtain ⟨h1, _, _, h2⟩ := h
  match xs, h1 with
  | [a, b, c, d], _ =>
    obtain ⟨a, rfl⟩ := db_bool (h2 0 a _ rfl rfl)
    obtain ⟨b, rfl, hb⟩ := db_bts (h2 1 b _ rfl rfl)
    obtain ⟨c, rfl, hc⟩ := db_svs (h2 2 c _ rfl rfl)
    obtain ⟨d, rfl, hd⟩ := db_cps (h2 3 d _ rfl rfl)
    exact ⟨⟨a, b, c, d⟩, rfl, hb, hc, hd⟩
theorem rd_strs {w : World} {v : Value} {xs : List C} (h : Rd T0 w [.sl 9] [v] xs) : ∃ g : List Str, xs = [.l (g.map sE)] ∧ SsSz maxLen g ∧ RelC T0 (fun k => k < w.heap.size) w (.sl 9) (.l (g.map sE)) v := by
  obtain ⟨h1, _, h3, h2⟩ := h
  match xs, h1 with
  | [a], _ =>
    obtain ⟨a', rfl, ha⟩ := db_strs (h2 0 a _ rfl rfl)
    exact ⟨a', rfl, ha, h3 0 _ _ v rfl rfl rfl⟩
theorem rd_str {w : World} {v : Value} {xs : List C} (h : Rd T0 w [.str] [v] xs) : ∃ s : Str, xs = [.s s] ∧ s.size ≤ maxLen ∧ RelC T0 (fun k => k < w.heap.size) w .str (.s s) v := by
  obtain ⟨h1, _, h3, h2⟩ := h
  match xs, h1 with
  | [a], _ =>
    obtain ⟨a', rfl, ha⟩ := db_str (h2 0 a _ rfl rfl)
    exact ⟨a', rfl, ha, h3 0 _ _ v rfl rfl rfl⟩
end Go.Ev
