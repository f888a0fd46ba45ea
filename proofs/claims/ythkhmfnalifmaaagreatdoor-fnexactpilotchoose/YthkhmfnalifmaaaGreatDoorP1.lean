/- Proved here: the law FnExactPilotChooseCard of the given program answers true at every input, and leaves the input as it was; no condition. This text: lemmas on the way (an evaluator of the program's code, sound once for all; the functions it prints; plain proofs on these). -/
import Derived.Test.YthkhmfnalifmaaaGreatDoorP0
import Derived.LoopN
set_option linter.all false
set_option autoImplicit false
namespace Go.Ev
structure Ex.le (e e' : Ex) : Prop where
  xs : ∃ pre, e'.xs = pre ++ e.xs
  r : ∀ n b, e.r.find n = some b → e'.r.find n = some b
  fz : ∀ b, b ∈ e.fz → b ∈ e'.fz
theorem Ex.le_refl (e : Ex) : e.le e := ⟨⟨[], rfl⟩, fun _ _ h => h, fun _ h => h⟩
theorem Ex.le.le_trans {a b c : Ex} (h : a.le b) (h' : b.le c) : a.le c := by
  obtain ⟨p, hp⟩ := h.xs
  obtain ⟨q, hq⟩ := h'.xs
  exact ⟨⟨q ++ p, by rw [hq, hp, List.append_assoc]⟩, fun n b x => h'.r n b (h.r n b x), fun b x => h'.fz b (h.fz b x)⟩
theorem Ex.push (e : Ex) (x : C) : e.le ⟨x :: e.xs, e.r, e.fz⟩ := ⟨⟨[x], rfl⟩, fun _ _ h => h, fun _ h => h⟩
theorem Ex.pushF (e : Ex) (x : C) (b : Nat) : e.le ⟨x :: e.xs, e.r, b :: e.fz⟩ := ⟨⟨[x], rfl⟩, fun _ _ h => h, fun _ h => List.mem_cons_of_mem _ h⟩
theorem onb_eq {a b : Option Nat} (h : onb a b = true) : a = b := by
  cases a <;> cases b <;> simp [onb] at h <;> first | rfl | (rw [h])
theorem find_cons (n m : Nat) (b : Option Nat) (r : Ren) : Ren.find ((n, b) :: r) m = if n = m then some b else Ren.find r m := by
  by_cases h : n = m
  · subst h; simp [Ren.find, sif]
  · have : Nat.beq n m = false := by
      cases hb : Nat.beq n m with
      | false => rfl
      | true => exact absurd (Nat.eq_of_beq_eq_true hb) h
    simp [Ren.find, this, sif, h]
theorem put_ok {e e' : Ex} {n : Nat} {b : Option Nat} (h : e.put n b = some e') : e.le e' ∧ e'.r.find n = some b ∧ e'.xs = e.xs ∧ e'.fz = e.fz := by
  unfold Ex.put at h
  split at h
  · rename_i r hr
    simp only [Option.some.injEq] at h
    subst h
    unfold Ren.put at hr
    split at hr
    · rename_i hn
      simp only [Option.some.injEq] at hr
      subst hr
      refine ⟨⟨⟨[], rfl⟩, fun m c hm => ?_, fun _ h => h⟩, by simp [find_cons], rfl, rfl⟩
      simp only [find_cons]
      split
      · rename_i e; subst e; rw [hn] at hm; simp at hm
      · exact hm
    · rename_i b' hb
      cases ho : onb b' b with
      | false => simp [ho, sif] at hr
      | true =>
        simp [ho, sif] at hr
        subst hr
        have := onb_eq ho; subst this
        exact ⟨Ex.le_refl _, hb, rfl, rfl⟩
  · simp at h
theorem pos_get {xs l : List C} {x : C} (h : ∃ pre, xs = pre ++ (x :: l)) : xs.reverse.getD l.length .nil = x := by
  obtain ⟨pre, rfl⟩ := h
  simp [List.getD_eq_getElem?_getD]
theorem liveArr_ok {bx : Bxs} {b ver : Nat} {t : TypeId} {es : List (List C)} (h : liveArr bx b ver = some (t, es)) : bx b = some (.arr ver t es) := by
  unfold liveArr at h
  split at h
  · rename_i v t' es' hb
    cases hv : Nat.beq v ver with
    | false => simp [hv, sif] at h
    | true =>
      simp [hv, sif] at h
      obtain ⟨rfl, rfl⟩ := h
      rw [hb, Nat.eq_of_beq_eq_true hv]
  · simp at h
structure Fin (T : Tys) (F : Nat → Prop) (w : World) (bx : Bxs) (θ : Nat → Value) (F' : Nat → Prop) (bx' : Bxs) (θ' : Nat → Value) (l : List (Nat × BSk)) (ef : Ex) : Prop where
  F : ∀ k, F k → F' k
  fzF : ∀ b, b ∈ ef.fz → ∀ x, bx b = some x → x.live = true → ∀ g, blkOf (θ b) = some g → F' g
  fz : ∀ b, b ∈ ef.fz → ∀ ver t es, bx b = some (.arr ver t es) → RelC T F' w (.sl t) (.l es) (θ b)
  nm : ∀ n b, tmHas l n = true → ef.r.find n = some (some b) → ∃ x x', bx b = some x ∧ bx' n = some x' ∧ x'.ver = 0 ∧ x.same x' ∧ θ' n = θ b
  no : ∀ n, tmHas l n = true → ef.r.find n = some none → ∃ t, bx' n = some (.arr 0 t []) ∧ θ' n = .slice none 0 0
section
variable {T : Tys} {F F' : Nat → Prop} {w : World} {bx bx' : Bxs} {θ θ' : Nat → Value} {l : List (Nat × BSk)}
def ExtOk (T : Tys) (F : Nat → Prop) (w : World) (bx : Bxs) (θ : Nat → Value) (l : List (Nat × BSk)) (k : Sk) (val : Value) (e e' : Ex) : Prop :=
  e.le e' ∧ (∀ nm xs, (k.inst nm xs e.xs.length).2 = e'.xs.length) ∧
  ∀ ef, e'.le ef → k.named l = true → ∀ F' bx' θ', Fin T F w bx θ F' bx' θ' l ef → RelV T F' w bx' θ' (k.inst nm0 ef.xs.reverse e.xs.length).1 val
def ExtsOk (T : Tys) (F : Nat → Prop) (w : World) (bx : Bxs) (θ : Nat → Value) (l : List (Nat × BSk)) (ks : List Sk) (vals : List Value) (e e' : Ex) : Prop :=
  e.le e' ∧ (∀ nm xs, (Sk.insts nm xs ks e.xs.length).2 = e'.xs.length) ∧ (∀ nm xs p, (Sk.insts nm xs ks p).1.length = ks.length) ∧
  ∀ ef, e'.le ef → Sk.nameds l ks = true → ∀ F' bx' θ', Fin T F w bx θ F' bx' θ' l ef → ∀ (i : Nat) (x : V) (v : Value), (Sk.insts nm0 ef.xs.reverse ks e.xs.length).1[i]? = some x → vals[i]? = some v → RelV T F' w bx' θ' x v
theorem insts_len (nm : Nm) (xs : List C) : ∀ (ks : List Sk) (p : Nat), (Sk.insts nm xs ks p).1.length = ks.length
  | [], _ => rfl
  | k :: r, p => by simp [Sk.insts, insts_len nm xs r]
theorem cteqs_eq : ∀ {a b : List CT}, cteqs a b = true → a = b
  | [], [], _ => rfl
  | [], _ :: _, h => by simp [cteqs] at h
  | _ :: _, [], h => by simp [cteqs] at h
  | a :: r, b :: r', h => by
    simp only [cteqs, andS_eq, Bool.and_eq_true] at h
    rw [cteq_eq h.1, cteqs_eq h.2]
theorem relC_part {t : TypeId} {d : TD} {es : List (List C)} {lo hi : Int} {A : Option Addr} {c : Nat} {v : Value} (hd : tget T t = some d) (h0 : 0 ≤ lo) (h1 : lo ≤ hi) (h2 : hi ≤ es.length)
    (hcc : (hi - lo).toNat ≤ c) (hA : lo < hi → ∃ g o, v = .slice (some ⟨g, o, none⟩) es.length (c + lo.toNat) ∧ A = some ⟨g, o + lo.toNat * d.cts.length, none⟩) (h : RelC T F w (.sl t) (.l es) v) :
    RelC T F w (.sl t) (.l ((es.take hi.toNat).drop lo.toNat)) (.slice A (hi - lo).toNat c) := by
  have hl : ((es.take hi.toNat).drop lo.toNat).length = (hi - lo).toNat := by
    rw [List.length_drop, List.length_take]; omega
  rcases Int.lt_or_eq_of_le h1 with hlt | rfl
  · obtain ⟨g, og, hv, rfl⟩ := hA hlt
    subst hv
    generalize hz : Value.slice (some ⟨g, og, none⟩) es.length (c + lo.toNat) = z at h
    cases h with
    | sl0 => simp at h2; omega
    | sl _ d' _ g' o' cap' cv hd' hF hcap hlen hc hr =>
      simp only [Value.slice.injEq, Option.some.injEq, Addr.mk.injEq] at hz
      obtain ⟨⟨rfl, rfl, _⟩, _, _⟩ := hz
      rw [hd] at hd'
      obtain rfl := Option.some.inj hd'
      have key : ∀ (i : Nat) (cs : List C), ((es.take hi.toNat).drop lo.toNat)[i]? = some cs → es[lo.toNat + i]? = some cs := by
        intro i cs h
        rw [List.getElem?_drop, List.getElem?_take] at h
        split at h
        · exact h
        · simp at h
      rw [← hl]
      refine .sl t d _ g (og + lo.toNat * d.cts.length) c (fun i j => cv (lo.toNat + i) j) hd hF (by omega) (fun i cs h => hlen _ _ (key i cs h)) (fun i cs j x a1 a2 => ?_) fun i cs j x ct a1 a2 a3 => hr _ _ _ _ _ (key i cs a1) a2 a3
      have := hc _ _ _ _ (key i cs a1) a2
      rw [← this]
      congr 2
      rw [Nat.add_mul]; omega
  · have e1 : (es.take lo.toNat).drop lo.toNat = [] := by simp
    have e2 : (lo - lo).toNat = 0 := by omega
    rw [e1, e2]
    exact .sl0 _ _ _
def KnT (T : Tys) (bx : Bxs) : Prop := ∀ (b v : Nat) (t : TypeId) (es : List (List C)), bx b = some (.arr v t es) → ∃ d, tget T t = some d
def KnB (T : Tys) (F : Nat → Prop) (w : World) (bx : Bxs) (θ : Nat → Value) : Prop := ∀ (b : Nat) (x : Box), bx b = some x → RelB T F w bx θ b x
theorem KnB.knT (hK : KnB T F w bx θ) : KnT T bx := fun b v t es hb => by
  obtain ⟨d, A, cap, hd, _⟩ := hK b _ hb
  exact ⟨d, hd⟩
theorem lendV_ok {t : CT} {x : V} {v : Value} {c : C} {f : List Nat} (h : lendV bx t x = some (c, f)) (hr : RelV T F w bx θ x v) (hF : ∀ k, F k → F' k)
    (hz : ∀ b, b ∈ f → ∀ ver t es, bx b = some (.arr ver t es) → RelC T F' w (.sl t) (.l es) (θ b)) : RelC T F' w t c v := by
  cases hr with
  | c t' x v hr =>
    replace h : sif (cteq t t') (some (x, ([] : List Nat))) none = some (c, f) := by cases t <;> exact h
    cases hc : cteq t t' with
    | false => simp [hc, sif] at h
    | true =>
      simp [hc, sif] at h
      have := cteq_eq hc; subst this
      obtain ⟨rfl, rfl⟩ := h
      exact hr.mv hF fun _ _ => rfl
  | nl =>
    cases t with
    | sl t =>
      replace h : some (C.l [], ([] : List Nat)) = some (c, f) := h
      simp at h; obtain ⟨rfl, rfl⟩ := h
      exact .sl0 _ _ _
    | _ => exact absurd (show (none : Option (C × List Nat)) = some (c, f) from h) (by simp)
  | np =>
    cases t with
    | pt t =>
      replace h : some (C.nil, ([] : List Nat)) = some (c, f) := h
      simp at h; obtain ⟨rfl, rfl⟩ := h
      exact .pt0 _
    | _ => exact absurd (show (none : Option (C × List Nat)) = some (c, f) from h) (by simp)
  | ow b ver v y hb hv hs hh =>
    cases t with
    | sl t =>
      replace h : (match liveArr bx b ver with | some (t', es) => sif (Nat.beq t t') (some (C.l es, [b])) none | none => none) = some (c, f) := h
      split at h
      · rename_i t' es hl
        cases ht : Nat.beq t t' with
        | false => simp [ht, sif] at h
        | true =>
          simp [ht, sif] at h
          obtain ⟨rfl, rfl⟩ := h
          have := Nat.eq_of_beq_eq_true ht; subst this
          have hbb := liveArr_ok hl
          rw [hb] at hbb
          obtain rfl := Option.some.inj hbb
          obtain ⟨t2, es2, _, rfl⟩ := hh rfl
          exact hz b (by simp) _ _ _ hb
      · simp at h
    | _ => exact absurd (show (none : Option (C × List Nat)) = some (c, f) from h) (by simp)
  | _ => cases t <;> exact absurd (show (none : Option (C × List Nat)) = some (c, f) from h) (by simp)
theorem lend_ok : ∀ {cts : List CT} {cells : List V} {cs : List C} {f : List Nat}, lend bx cts cells = some (cs, f) →
    cs.length = cts.length ∧ ((∀ k, F k → F' k) → (∀ b, b ∈ f → ∀ ver t es, bx b = some (.arr ver t es) → RelC T F' w (.sl t) (.l es) (θ b)) →
      ∀ (i : Nat) (c : C) (ct : CT), cs[i]? = some c → cts[i]? = some ct → ∃ x, cells[i]? = some x ∧ ∀ v, RelV T F w bx θ x v → RelC T F' w ct c v)
  | [], [], cs, f, h => by
    replace h : some (([] : List C), ([] : List Nat)) = some (cs, f) := h
    simp at h; obtain ⟨rfl, rfl⟩ := h
    exact ⟨rfl, fun _ _ i c ct h => by simp at h⟩
  | [], _ :: _, cs, f, h => absurd (show (none : Option (List C × List Nat)) = some (cs, f) from h) (by simp)
  | _ :: _, [], cs, f, h => absurd (show (none : Option (List C × List Nat)) = some (cs, f) from h) (by simp)
  | t :: ts, v :: vs, cs, f, h => by
    replace h : (match lendV bx t v with
      | some (x, f) => match lend bx ts vs with
        | some (xs, g) => some (x :: xs, app f g)
        | none => none
      | none => none) = some (cs, f) := h
    split at h
    · rename_i x f1 h1
      split at h
      · rename_i xs g h2
        simp only [Option.some.injEq, Prod.mk.injEq] at h
        obtain ⟨rfl, rfl⟩ := h
        obtain ⟨a, b⟩ := lend_ok h2
        refine ⟨by simp [a], fun hF hz i c ct hi ht => ?_⟩
        rw [app_eq] at hz
        cases i with
        | zero =>
          simp only [List.getElem?_cons_zero, Option.some.injEq] at hi ht
          subst hi; subst ht
          exact ⟨v, rfl, fun u hu => lendV_ok h1 hu hF fun b hb => hz b (List.mem_append_left _ hb)⟩
        | succ i =>
          obtain ⟨x', e1, e2⟩ := b hF (fun b hb => hz b (List.mem_append_right _ hb)) i c ct (by simpa using hi) (by simpa using ht)
          exact ⟨x', by simpa using e1, e2⟩
      · simp at h
    · simp at h
theorem Ex.pushL (e : Ex) (x : C) (b : Nat) (f : List Nat) : e.le ⟨x :: e.xs, e.r, b :: app f e.fz⟩ := ⟨⟨[x], rfl⟩, fun _ _ h => h, fun c h => by
  rw [app_eq]; exact List.mem_cons_of_mem _ (List.mem_append_right _ h)⟩
variable (hK : KnB T F w bx θ)
include hK
mutual
theorem ext_ok : ∀ (k : Sk) (v : V) (val : Value) (e e' : Ex), RelV T F w bx θ v val → k.ext T bx v e = some e' → ExtOk T F w bx θ l k val e e'
  | .un, v, val, e, e', hv, h => by
    replace h : some e = some e' := by cases v <;> exact h
    simp only [Option.some.injEq] at h
    subst h
    exact ⟨Ex.le_refl _, fun _ _ => rfl, fun ef _ _ F' bx' θ' _ => .un _⟩
  | .d t, v, val, e, e', hv, h => by
    cases hv with
    | c t' x v hr =>
      replace h : sif (cteq t t') (some ⟨x :: e.xs, e.r, e.fz⟩) none = some e' := by cases t <;> exact h
      cases hc : cteq t t' with
      | false => simp [hc, sif] at h
      | true =>
        simp [hc, sif] at h
        have := cteq_eq hc; subst this
        subst h
        refine ⟨e.push x, fun _ _ => rfl, fun ef hef _ F' bx' θ' hf => ?_⟩
        show RelV T F' w bx' θ' (.c t (ef.xs.reverse.getD e.xs.length .nil)) _
        rw [pos_get hef.xs]
        exact .c _ _ _ (hr.mv hf.F fun _ _ => rfl)
    | nl =>
      cases t with
      | sl t =>
        replace h : some (⟨.l [] :: e.xs, e.r, e.fz⟩ : Ex) = some e' := h
        simp only [Option.some.injEq] at h
        subst h
        refine ⟨e.push _, fun _ _ => rfl, fun ef hef _ F' bx' θ' hf => ?_⟩
        show RelV T F' w bx' θ' (.c _ (ef.xs.reverse.getD e.xs.length .nil)) _
        rw [pos_get hef.xs]
        exact .c _ _ _ (.sl0 _ _ _)
      | _ => exact absurd (show (none : Option Ex) = some e' from h) (by simp)
    | vw b ver lo hi v y hb hv hs hh =>
      cases t with
      | sl t =>
        replace h : (match liveArr bx b ver with
          | some (t', es) => sif (Nat.beq t t') (some (⟨.l ((es.take hi.toNat).drop lo.toNat) :: e.xs, e.r, b :: e.fz⟩ : Ex)) none
          | none => none) = some e' := h
        split at h
        · rename_i t' es hl
          have hbb := liveArr_ok hl
          cases ht : Nat.beq t t' with
          | false => simp [ht, sif] at h
          | true =>
            simp [ht, sif] at h
            have := Nat.eq_of_beq_eq_true ht
            subst this
            subst h
            rw [hb] at hbb
            obtain rfl := Option.some.inj hbb
            obtain ⟨t2, es2, d, A, c, e1, hd, h0, h1, h2, rfl, hcc, hA, _⟩ := hh rfl
            simp only [Box.arr.injEq, true_and] at e1
            obtain ⟨rfl, rfl⟩ := e1
            refine ⟨e.pushF _ _, fun _ _ => rfl, fun ef hef _ F' bx' θ' hf => ?_⟩
            show RelV T F' w bx' θ' (.c _ (ef.xs.reverse.getD e.xs.length .nil)) _
            rw [pos_get hef.xs]
            exact .c _ _ _ (relC_part hd h0 h1 h2 hcc hA (hf.fz b (hef.fz _ (List.mem_cons_self ..)) _ _ _ hb))
        · simp at h
      | _ => exact absurd (show (none : Option Ex) = some e' from h) (by simp)
    | pt b ver off v y hb hv hs hh =>
      cases t with
      | pt t =>
        cases off with
        | succ off => exact absurd (show (none : Option Ex) = some e' from h) (by simp)
        | zero =>
          replace h : (match bx b with
            | some (.var v t' cells) => sif (andS (Nat.beq t t') (Nat.beq v ver)) (match tget T t with
              | some td => match lend bx td.cts cells with
                | some (cs, f) => some (⟨.p cs :: e.xs, e.r, b :: app f e.fz⟩ : Ex)
                | none => none
              | none => none) none
            | _ => none) = some e' := h
          rw [hb] at h
          cases y with
          | var v' t' cells =>
            replace h : sif (andS (Nat.beq t t') (Nat.beq v' ver)) (match tget T t with
              | some td => match lend bx td.cts cells with
                | some (cs, f) => some (⟨.p cs :: e.xs, e.r, b :: app f e.fz⟩ : Ex)
                | none => none
              | none => none) none = some e' := h
            cases hq : andS (Nat.beq t t') (Nat.beq v' ver) with
            | false => rw [hq, sif_false] at h; simp at h
            | true =>
              rw [hq, sif_true] at h
              simp only [andS_eq, Bool.and_eq_true] at hq
              have e1 := Nat.eq_of_beq_eq_true hq.1; subst e1
              have e2 := Nat.eq_of_beq_eq_true hq.2; subst e2
              split at h
              · rename_i td htd
                split at h
                · rename_i cs f hcs
                  simp only [Option.some.injEq] at h
                  subst h
                  obtain ⟨t2, cells2, g, e3, e4, rfl⟩ := hh rfl
                  simp only [Box.var.injEq, true_and] at e3
                  obtain ⟨rfl, rfl⟩ := e3
                  obtain ⟨g', wcs, ee, d, k1, k2, k3, k4, k5, k6⟩ := hK b _ hb
                  rw [e4] at k1
                  simp only [Value.pointer.injEq, Option.some.injEq, Addr.mk.injEq, true_and] at k1
                  obtain ⟨rfl, _⟩ := k1
                  rw [htd] at k4
                  obtain rfl := Option.some.inj k4
                  refine ⟨e.pushL _ _ _, fun _ _ => rfl, fun ef hef _ F' bx' θ' hf => ?_⟩
                  show RelV T F' w bx' θ' (.c _ (ef.xs.reverse.getD e.xs.length .nil)) _
                  rw [pos_get hef.xs]
                  have hmem : ∀ c, c ∈ f → c ∈ ef.fz := fun c hc => hef.fz _ (List.mem_cons_of_mem _ (by rw [app_eq]; exact List.mem_append_left _ hc))
                  obtain ⟨l1, l2⟩ := lend_ok (T := T) (F := F) (F' := F') (w := w) (θ := θ) hcs
                  have l3 := l2 hf.F (fun c hc => hf.fz c (hmem c hc))
                  refine .c _ _ _ (.pt t td cs g 0 (fun j => wcs.getD j undef) htd (hf.fzF b (hef.fz _ (List.mem_cons_self ..)) _ hb rfl g (by rw [e4]; rfl)) l1 (fun j c hj => ?_) fun j c ct hj hct => ?_)
                  · have hj' : j < wcs.size := by rw [k3, k5, ← l1]; exact (List.getElem?_eq_some_iff.1 hj).1
                    simp [World.cell?, k2, hj']
                  · obtain ⟨x, a1, a2⟩ := l3 j c ct hj hct
                    have hj' : j < wcs.size := by rw [k3]; exact (List.getElem?_eq_some_iff.1 a1).1
                    refine a2 _ (k6 j x _ a1 ?_)
                    simp [hj']
                · simp at h
              · simp at h
          | _ => exact absurd (show (none : Option Ex) = some e' from h) (by simp)
      | _ => cases off <;> exact absurd (show (none : Option Ex) = some e' from h) (by simp)
    | pe b ver ix off nb v y hb hv hs hh =>
      cases t with
      | pt t =>
        cases off with
        | succ off => exact absurd (show (none : Option Ex) = some e' from h) (by simp)
        | zero =>
          replace h : (match liveArr bx b ver with
            | some (t', es) => sif (Nat.beq t t') (some (⟨sif nb (cond (decide (0 ≤ ix)) (.p (es.getD ix.toNat [])) .nil) (.p (es.getD ix.toNat [])) :: e.xs, e.r, b :: e.fz⟩ : Ex)) none
            | none => none) = some e' := h
          split at h
          · rename_i t' es hl
            cases ht : Nat.beq t t' with
            | false => simp [ht, sif] at h
            | true =>
              rw [ht, sif_true] at h
              simp only [Option.some.injEq] at h
              have := Nat.eq_of_beq_eq_true ht; subst this
              subst h
              have hbb := liveArr_ok hl
              rw [hb] at hbb
              obtain rfl := Option.some.inj hbb
              obtain ⟨t2, es2, d, e3, hd, e4⟩ := hh rfl
              simp only [Box.arr.injEq, true_and] at e3
              obtain ⟨rfl, rfl⟩ := e3
              refine ⟨e.pushF _ _, fun _ _ => rfl, fun ef hef _ F' bx' θ' hf => ?_⟩
              show RelV T F' w bx' θ' (.c _ (ef.xs.reverse.getD e.xs.length .nil)) _
              rw [pos_get hef.xs]
              have hz := hf.fz b (hef.fz _ (List.mem_cons_self ..)) _ _ _ hb
              rcases e4 with ⟨rfl, h1, rfl⟩ | ⟨h0, h1, g, og, cap, h2, rfl⟩
              · rw [sif_true]
                have : decide (0 ≤ ix) = false := by simp; omega
                rw [this]
                exact .c _ _ _ (.pt0 _)
              · have hx : sif nb (cond (decide (0 ≤ ix)) (C.p (es.getD ix.toNat [])) .nil) (.p (es.getD ix.toNat [])) = .p (es.getD ix.toNat []) := by
                  have : decide (0 ≤ ix) = true := by simp; omega
                  rw [this]; cases nb <;> rfl
                rw [hx]
                refine .c _ _ _ ?_
                rw [h2] at hz
                generalize hgz : Value.slice (some ⟨g, og, none⟩) es.length cap = z at hz
                have hlt : ix.toNat < es.length := by omega
                cases hz with
                | sl0 => simp at hlt
                | sl _ d' _ g' o' cap' cv hd' hF hcap hlen hc hr =>
                  simp only [Value.slice.injEq, Option.some.injEq, Addr.mk.injEq] at hgz
                  obtain ⟨⟨rfl, rfl, _⟩, _, _⟩ := hgz
                  rw [hd] at hd'
                  obtain rfl := Option.some.inj hd'
                  have hrow : es[ix.toNat]? = some (es.getD ix.toNat []) := by simp [List.getD_eq_getElem?_getD, List.getElem?_eq_getElem hlt]
                  refine .pt t d _ g (og + (ix.toNat * d.cts.length + 0)) (fun j => cv ix.toNat j) hd hF (hlen _ _ hrow) (fun j c hj => ?_) fun j c ct hj hct => hr _ _ _ _ _ hrow hj hct
                  have := hc _ _ _ _ hrow hj
                  rw [← this]
                  congr 2
                  omega
          · simp at h
      | _ => cases off <;> exact absurd (show (none : Option Ex) = some e' from h) (by simp)
    | fa cts cs off g o cv hF hlen hc hr =>
      cases t with
      | pt t =>
        cases off with
        | succ off => exact absurd (show (none : Option Ex) = some e' from h) (by simp)
        | zero =>
          replace h : (match tget T t with
            | some d => sif (cteqs cts d.cts) (some (⟨.p cs :: e.xs, e.r, e.fz⟩ : Ex)) none
            | none => none) = some e' := h
          split at h
          · rename_i d hd
            cases hq : cteqs cts d.cts with
            | false => simp [hq, sif] at h
            | true =>
              rw [hq, sif_true] at h
              have := cteqs_eq hq
              subst this
              simp only [Option.some.injEq] at h
              subst h
              refine ⟨e.push _, fun _ _ => rfl, fun ef hef _ F' bx' θ' hf => ?_⟩
              show RelV T F' w bx' θ' (.c _ (ef.xs.reverse.getD e.xs.length .nil)) _
              rw [pos_get hef.xs]
              exact .c _ _ _ ((RelC.pt t d cs g o cv hd hF hlen hc hr).mv hf.F fun _ _ => rfl)
          · simp at h
      | _ => cases off <;> exact absurd (show (none : Option Ex) = some e' from h) (by simp)
    | np =>
      cases t with
      | pt t =>
        replace h : some (⟨.nil :: e.xs, e.r, e.fz⟩ : Ex) = some e' := h
        simp only [Option.some.injEq] at h
        subst h
        refine ⟨e.push _, fun _ _ => rfl, fun ef hef _ F' bx' θ' hf => ?_⟩
        show RelV T F' w bx' θ' (.c _ (ef.xs.reverse.getD e.xs.length .nil)) _
        rw [pos_get hef.xs]
        exact .c _ _ _ (.pt0 _)
      | _ => exact absurd (show (none : Option Ex) = some e' from h) (by simp)
    | ow b ver v y hb hv hs hh =>
      cases t with
      | sl t =>
        replace h : (match liveArr bx b ver with
          | some (t', es) => sif (Nat.beq t t') (some (⟨.l es :: e.xs, e.r, b :: e.fz⟩ : Ex)) none
          | none => none) = some e' := h
        split at h
        · rename_i t' es hl
          cases ht : Nat.beq t t' with
          | false => simp [ht, sif] at h
          | true =>
            simp [ht, sif] at h
            subst h
            have := Nat.eq_of_beq_eq_true ht; subst this
            have hbb := liveArr_ok hl
            rw [hb] at hbb
            obtain rfl := Option.some.inj hbb
            obtain ⟨t2, es2, _, rfl⟩ := hh rfl
            refine ⟨e.pushF _ _, fun _ _ => rfl, fun ef hef _ F' bx' θ' hf => ?_⟩
            show RelV T F' w bx' θ' (.c _ (ef.xs.reverse.getD e.xs.length .nil)) _
            rw [pos_get hef.xs]
            exact .c _ _ _ (hf.fz b (hef.fz _ (List.mem_cons_self ..)) _ _ _ hb)
        · simp at h
      | _ => exact absurd (show (none : Option Ex) = some e' from h) (by simp)
    | _ => cases t <;> exact absurd (show (none : Option Ex) = some e' from h) (by simp)
  | .ow n, v, val, e, e', hv, h => by
    cases hv with
    | ow b ver v y hb hv hs hh =>
      replace h : (match liveArr bx b ver with
        | some _ => e.put n (some b)
        | none => none) = some e' := h
      split at h
      · rename_i q hl
        obtain ⟨t, es⟩ := q
        have hbb := liveArr_ok hl
        rw [hb] at hbb
        obtain rfl := Option.some.inj hbb
        obtain ⟨t2, es2, _, rfl⟩ := hh rfl
        obtain ⟨p1, p2, p3, p4⟩ := put_ok h
        refine ⟨p1, fun _ _ => by rw [p3]; rfl, fun ef hef hn F' bx' θ' hf => ?_⟩
        obtain ⟨x, x', q1, q2, q3, q4, q5⟩ := hf.nm n b hn (hef.r _ _ p2)
        rw [hb] at q1; obtain rfl := Option.some.inj q1
        cases x' with
        | arr v' t' es' =>
          simp only [Box.ver] at q3; subst q3
          exact .ow n 0 _ _ q2 (Nat.le_refl _) hs fun _ => ⟨t', es', rfl, q5.symm⟩
        | _ => exact q4.elim
      · simp at h
    | nl =>
      replace h : e.put n none = some e' := h
      obtain ⟨p1, p2, p3, p4⟩ := put_ok h
      refine ⟨p1, fun _ _ => by rw [p3]; rfl, fun ef hef hn F' bx' θ' hf => ?_⟩
      obtain ⟨t, q1, q2⟩ := hf.no n hn (hef.r _ _ p2)
      exact .ow n 0 _ _ q1 (Nat.le_refl _) ⟨_, _, _, rfl⟩ fun _ => ⟨t, [], rfl, q2.symm⟩
    | _ => exact absurd (show (none : Option Ex) = some e' from h) (by simp)
  | .mp n, v, val, e, e', hv, h => by
    cases hv with
    | mp b ver v y hb hv hs hh =>
      replace h : (match bx b with
        | some (.mp v _ _) => sif (Nat.beq v ver) (e.put n (some b)) none
        | _ => none) = some e' := h
      rw [hb] at h
      cases y with
      | mp v' t es =>
        replace h : sif (Nat.beq v' ver) (e.put n (some b)) none = some e' := h
        cases hc : Nat.beq v' ver with
        | false => simp [hc, sif] at h
        | true =>
          rw [hc, sif_true] at h
          have e2 := Nat.eq_of_beq_eq_true hc; subst e2
          obtain ⟨t2, es2, e3, rfl⟩ := hh rfl
          obtain ⟨p1, p2, p3, p4⟩ := put_ok h
          refine ⟨p1, fun _ _ => by rw [p3]; rfl, fun ef hef hn F' bx' θ' hf => ?_⟩
          obtain ⟨x, x', q1, q2, q3, q4, q5⟩ := hf.nm n b hn (hef.r _ _ p2)
          rw [hb] at q1; obtain rfl := Option.some.inj q1
          cases x' with
          | mp v2 t3 es3 =>
            simp only [Box.ver] at q3; subst q3
            exact .mp n 0 _ _ q2 (Nat.le_refl _) hs fun _ => ⟨t3, es3, rfl, q5.symm⟩
          | _ => exact q4.elim
      | _ => exact absurd (show (none : Option Ex) = some e' from h) (by simp)
    | _ => exact absurd (show (none : Option Ex) = some e' from h) (by simp)
  | .pt n o, v, val, e, e', hv, h => by
    cases hv with
    | pt b ver o' v y hb hv hs hh =>
      replace h : (match bx b with
        | some (.var v _ _) => sif (andS (Nat.beq o o') (Nat.beq v ver)) (e.put n (some b)) none
        | _ => none) = some e' := h
      rw [hb] at h
      cases y with
      | var v' t cells =>
        replace h : sif (andS (Nat.beq o o') (Nat.beq v' ver)) (e.put n (some b)) none = some e' := h
        cases hc : andS (Nat.beq o o') (Nat.beq v' ver) with
        | false => simp [hc, sif] at h
        | true =>
          rw [hc, sif_true] at h
          simp only [andS_eq, Bool.and_eq_true] at hc
          have e1 := Nat.eq_of_beq_eq_true hc.1; subst e1
          have e2 := Nat.eq_of_beq_eq_true hc.2; subst e2
          obtain ⟨t2, cells2, g, e3, e4, rfl⟩ := hh rfl
          obtain ⟨p1, p2, p3, p4⟩ := put_ok h
          refine ⟨p1, fun _ _ => by rw [p3]; rfl, fun ef hef hn F' bx' θ' hf => ?_⟩
          obtain ⟨x, x', q1, q2, q3, q4, q5⟩ := hf.nm n b hn (hef.r _ _ p2)
          rw [hb] at q1; obtain rfl := Option.some.inj q1
          cases x' with
          | var v2 t3 cells3 =>
            simp only [Box.ver] at q3; subst q3
            exact .pt n 0 o _ _ q2 (Nat.le_refl _) hs fun _ => ⟨t3, cells3, g, rfl, by rw [q5, e4], rfl⟩
          | _ => exact q4.elim
      | _ => exact absurd (show (none : Option Ex) = some e' from h) (by simp)
    | _ => exact absurd (show (none : Option Ex) = some e' from h) (by simp)
  | .pe n o, v, val, e, e', hv, h => by
    cases hv with
    | pe b ver ix o' nb v y hb hv hs hh =>
      replace h : (match liveArr bx b ver with
        | some _ => sif (Nat.beq o o') (Ex.put ⟨.i ix :: e.xs, e.r, e.fz⟩ n (some b)) none
        | none => none) = some e' := h
      split at h
      · rename_i q hl
        obtain ⟨t, es⟩ := q
        have hbb := liveArr_ok hl
        rw [hb] at hbb
        obtain rfl := Option.some.inj hbb
        cases hc : Nat.beq o o' with
        | false => simp [hc, sif] at h
        | true =>
          rw [hc, sif_true] at h
          have e1 := Nat.eq_of_beq_eq_true hc; subst e1
          obtain ⟨t2, es2, d, e3, hd, e4⟩ := hh rfl
          simp only [Box.arr.injEq, true_and] at e3
          obtain ⟨rfl, rfl⟩ := e3
          obtain ⟨p1, p2, p3, p4⟩ := put_ok h
          refine ⟨(e.push _).le_trans p1, fun _ _ => by rw [p3]; rfl, fun ef hef hn F' bx' θ' hf => ?_⟩
          obtain ⟨x, x', q1, q2, q3, q4, q5⟩ := hf.nm n b hn (hef.r _ _ p2)
          rw [hb] at q1; obtain rfl := Option.some.inj q1
          have hx : ef.xs.reverse.getD e.xs.length .nil = .i ix := pos_get (by have := hef.xs; rw [p3] at this; exact this)
          cases x' with
          | arr v' t' es' =>
            simp only [Box.ver] at q3; subst q3
            obtain ⟨rfl, hlen⟩ := q4
            show RelV T F' w bx' θ' (.pe n 0 (ef.xs.reverse.getD e.xs.length .nil).I o true) _
            rw [hx]
            refine .pe n 0 ix o true _ _ q2 (Nat.le_refl _) hs fun _ => ⟨t, es', d, rfl, hd, ?_⟩
            rcases e4 with ⟨_, h1, h2⟩ | ⟨h0, h1, g, og, cap, h2, h3⟩
            · exact .inl ⟨rfl, h1, h2⟩
            · exact .inr ⟨h0, by omega, g, og, cap, by rw [q5, h2, hlen], h3⟩
          | _ => exact q4.elim
      · simp at h
    | np =>
      replace h : (match e.r.find n with
        | some (some b) => match bx b with
          | some (.arr _ _ _) => some (⟨.i (-1) :: e.xs, e.r, e.fz⟩ : Ex)
          | _ => none
        | _ => none) = some e' := h
      split at h
      · rename_i b hfd
        split at h
        · rename_i v1 t1 es1 hb
          simp only [Option.some.injEq] at h
          subst h
          refine ⟨e.push _, fun _ _ => rfl, fun ef hef hn F' bx' θ' hf => ?_⟩
          obtain ⟨x, x', q1, q2, q3, q4, q5⟩ := hf.nm n b hn (hef.r _ _ hfd)
          rw [hb] at q1; obtain rfl := Option.some.inj q1
          have hx : ef.xs.reverse.getD e.xs.length .nil = .i (-1) := pos_get hef.xs
          cases x' with
          | arr v' t' es' =>
            simp only [Box.ver] at q3; subst q3
            obtain ⟨rfl, hlen⟩ := q4
            obtain ⟨d, hd⟩ := hK.knT b v1 _ es1 hb
            show RelV T F' w bx' θ' (.pe n 0 (ef.xs.reverse.getD e.xs.length .nil).I o true) _
            rw [hx]
            exact .pe n 0 (-1) o true _ _ q2 (Nat.le_refl _) ⟨_, rfl⟩ fun _ => ⟨_, es', d, rfl, hd, .inl ⟨rfl, by decide, rfl⟩⟩
          | _ => exact q4.elim
        · simp at h
      · simp at h
    | _ => exact absurd (show (none : Option Ex) = some e' from h) (by simp)
  | .ag q, v, val, e, e', hv, h => by
    cases hv with
    | ag vs vals hl hr =>
      replace h : Sk.exts T bx q vs e = some e' := h
      obtain ⟨h1, h2, h3, h4⟩ := exts_ok q vs vals e e' hl hr h
      refine ⟨h1.1, fun nm xs => h2 nm xs, fun ef hef hn F' bx' θ' hf => ?_⟩
      exact .ag _ _ (by rw [insts_len, hl, h1.2]) (h4 ef hef hn F' bx' θ' hf)
    | _ => exact absurd (show (none : Option Ex) = some e' from h) (by simp)
  | .tu q, v, val, e, e', hv, h => by
    cases hv with
    | tu vs vals hl hr =>
      replace h : Sk.exts T bx q vs e = some e' := h
      obtain ⟨h1, h2, h3, h4⟩ := exts_ok q vs vals e e' hl hr h
      refine ⟨h1.1, fun nm xs => h2 nm xs, fun ef hef hn F' bx' θ' hf => ?_⟩
      exact .tu _ _ (by rw [insts_len, hl, h1.2]) (h4 ef hef hn F' bx' θ' hf)
    | _ => exact absurd (show (none : Option Ex) = some e' from h) (by simp)
  | .fn f q, v, val, e, e', hv, h => by
    cases hv with
    | fn f' vs vals hl hr =>
      replace h : sif (Nat.beq f f') (Sk.exts T bx q vs e) none = some e' := h
      cases hc : Nat.beq f f' with
      | false => simp [hc, sif] at h
      | true =>
        rw [hc, sif_true] at h
        have e1 := Nat.eq_of_beq_eq_true hc; subst e1
        obtain ⟨h1, h2, h3, h4⟩ := exts_ok q vs vals e e' hl hr h
        refine ⟨h1.1, fun nm xs => h2 nm xs, fun ef hef hn F' bx' θ' hf => ?_⟩
        exact .fn _ _ _ (by rw [insts_len, hl, h1.2]) (h4 ef hef hn F' bx' θ' hf)
    | _ => exact absurd (show (none : Option Ex) = some e' from h) (by simp)
theorem exts_ok : ∀ (ks : List Sk) (vs : List V) (vals : List Value) (e e' : Ex), vals.length = vs.length → (∀ (i : Nat) (x : V) (v : Value), vs[i]? = some x → vals[i]? = some v → RelV T F w bx θ x v) →
    Sk.exts T bx ks vs e = some e' → (e.le e' ∧ vs.length = ks.length) ∧ (∀ nm xs, (Sk.insts nm xs ks e.xs.length).2 = e'.xs.length) ∧ True ∧
    ∀ ef, e'.le ef → Sk.nameds l ks = true → ∀ F' bx' θ', Fin T F w bx θ F' bx' θ' l ef → ∀ (i : Nat) (x : V) (v : Value), (Sk.insts nm0 ef.xs.reverse ks e.xs.length).1[i]? = some x → vals[i]? = some v → RelV T F' w bx' θ' x v
  | [], [], vals, e, e', hl, hr, h => by
    replace h : some e = some e' := h
    simp only [Option.some.injEq] at h
    subst h
    exact ⟨⟨Ex.le_refl _, rfl⟩, fun _ _ => rfl, trivial, fun ef _ _ F' bx' θ' _ i x v hi => by simp [Sk.insts] at hi⟩
  | [], _ :: _, vals, e, e', hl, hr, h => absurd (show (none : Option Ex) = some e' from h) (by simp)
  | _ :: _, [], vals, e, e', hl, hr, h => absurd (show (none : Option Ex) = some e' from h) (by simp)
  | k :: ks, v :: vs, [], e, e', hl, hr, h => by simp at hl
  | k :: ks, v :: vs, u :: us, e, e', hl, hr, h => by
    replace h : (match k.ext T bx v e with
      | some e1 => Sk.exts T bx ks vs e1
      | none => none) = some e' := h
    split at h
    · rename_i e1 h1
      obtain ⟨a1, a2, a3⟩ := ext_ok k v u e e1 (hr 0 v u rfl rfl) h1
      obtain ⟨⟨b1, b0⟩, b2, b3, b4⟩ := exts_ok ks vs us e1 e' (by simpa using hl) (fun i x w h1 h2 => hr (i + 1) x w (by simpa using h1) (by simpa using h2)) h
      refine ⟨⟨a1.le_trans b1, by simp [b0]⟩, fun nm xs => ?_, trivial, fun ef hef hn F' bx' θ' hf i x z hi hz => ?_⟩
      · show (Sk.insts nm xs ks (k.inst nm xs e.xs.length).2).2 = _
        rw [a2, b2]
      · simp only [Sk.nameds, andS_eq, Bool.and_eq_true] at hn
        cases i with
        | zero =>
          simp [Sk.insts] at hi hz
          subst hi; subst hz
          exact a3 ef (b1.le_trans hef) hn.1 F' bx' θ' hf
        | succ i =>
          simp only [Sk.insts, List.getElem?_cons_succ] at hi hz
          rw [a2] at hi
          exact b4 ef hef hn.2 F' bx' θ' hf i x z hi hz
    · simp at h
end
end
end Go.Ev
namespace Go.Ev
section
variable {T : Tys} {F F' : Nat → Prop} {w : World} {bx bx' : Bxs} {θ θ' : Nat → Value} {l : List (Nat × BSk)}
theorem extSl_ok (hT : KnB T F w bx θ) {ρ : Slots} {val : Nat → Value} (hr : ∀ d, RelV T F w bx θ (ρ d) (val d)) : ∀ (q : List (Nat × Sk)) (e e' : Ex), extSl T ⟨ρ, bx⟩ q e = some e' →
    e.le e' ∧ (∀ nm xs f, (instSl nm xs q e.xs.length f).2 = e'.xs.length) ∧
    ∀ ef, e'.le ef → slNamed l q = true → ∀ F' bx' θ', Fin T F w bx θ F' bx' θ' l ef → ∀ f : Slots, (∀ d, RelV T F' w bx' θ' (f d) (val d)) → ∀ d, RelV T F' w bx' θ' ((instSl nm0 ef.xs.reverse q e.xs.length f).1 d) (val d)
  | [], e, e', h => by
    replace h : some e = some e' := h
    simp only [Option.some.injEq] at h
    subst h
    exact ⟨Ex.le_refl _, fun _ _ _ => rfl, fun ef _ _ F' bx' θ' _ f hf d => hf d⟩
  | (d, k) :: r, e, e', h => by
    replace h : (match k.ext T bx (ρ d) e with
      | some e1 => extSl T ⟨ρ, bx⟩ r e1
      | none => none) = some e' := h
    split at h
    · rename_i e1 h1
      obtain ⟨a1, a2, a3⟩ := ext_ok (l := l) hT k (ρ d) (val d) e e1 (hr d) h1
      obtain ⟨b1, b2, b3⟩ := extSl_ok hT hr r e1 e' h
      refine ⟨a1.le_trans b1, fun nm xs f => ?_, fun ef hef hn F' bx' θ' hF f hf => ?_⟩
      · show (instSl nm xs r (k.inst nm xs e.xs.length).2 _).2 = _
        rw [a2, b2]
      · simp only [slNamed, andS_eq, Bool.and_eq_true] at hn
        show ∀ d', RelV T F' w bx' θ' ((instSl nm0 ef.xs.reverse r (k.inst nm0 ef.xs.reverse e.xs.length).2 _).1 d') (val d')
        rw [a2]
        refine b3 ef hef hn.2 F' bx' θ' hF _ fun d' => ?_
        by_cases hd : d' = d
        · subst hd
          rw [upd_same]
          exact a3 ef (b1.le_trans hef) hn.1 F' bx' θ' hF
        · rw [upd_ne _ _ hd]; exact hf d'
    · simp at h
def Shape (bx : Bxs) (r : Ren) (n : Nat) (x' : Box) : Prop :=
  x'.ver = 0 ∧ ((∃ b x, r.find n = some (some b) ∧ bx b = some x ∧ x.same x') ∨ (r.find n = some none ∧ ∃ t, x' = .arr 0 t []))
theorem tmHas_cons (b n : Nat) (k : BSk) (r : List (Nat × BSk)) : tmHas ((b, k) :: r) n = true ↔ b = n ∨ tmHas r n = true := by
  simp only [tmHas, orS_eq, Bool.or_eq_true]
  refine or_congr ⟨Nat.eq_of_beq_eq_true, fun h => ?_⟩ Iff.rfl
  subst h; exact Nat.beq_refl _
theorem exts_len {bx : Bxs} : ∀ (ks : List Sk) (vs : List V) (e e' : Ex), Sk.exts T bx ks vs e = some e' → vs.length = ks.length
  | [], [], e, e', h => rfl
  | [], _ :: _, e, e', h => absurd (show (none : Option Ex) = some e' from h) (by simp)
  | _ :: _, [], e, e', h => absurd (show (none : Option Ex) = some e' from h) (by simp)
  | k :: ks, v :: vs, e, e', h => by
    replace h : (match k.ext T bx v e with
      | some e1 => Sk.exts T bx ks vs e1
      | none => none) = some e' := h
    split at h
    · simp [exts_len ks vs _ _ h]
    · simp at h
theorem knT {fr : Fr} (hw : WR T fr F w bx θ) : KnB T F w bx θ := fun b x hb => hw.box b x hb
theorem extBx_ok {fr : Fr} (hw : WR T fr F w bx θ) : ∀ (q : List (Nat × BSk)) (e e' : Ex), extBx T bx q e = some e' →
    e.le e' ∧
    (∀ ef, e'.le ef → ∀ f : Bxs, (∀ n, tmHas q n = true → ∃ x', instBx nm0 ef.xs.reverse q e.xs.length f n = some x' ∧ Shape bx ef.r n x') ∧ (∀ n, ¬ tmHas q n = true → instBx nm0 ef.xs.reverse q e.xs.length f n = f n)) ∧
    ∀ ef, e'.le ef → bxNamed l q = true → bxT T q = true → ∀ F' bx' θ', Fin T F w bx θ F' bx' θ' l ef → (∀ n b, ef.r.find n = some (some b) → θ' n = θ b) → (∀ n, ef.r.find n = some none → θ' n = .slice none 0 0) → ∀ f : Bxs, ∀ n x', tmHas q n = true → instBx nm0 ef.xs.reverse q e.xs.length f n = some x' → RelB T F' w bx' θ' n x'
  | [], e, e', h => by
    replace h : some e = some e' := h
    simp only [Option.some.injEq] at h
    subst h
    exact ⟨Ex.le_refl _, fun ef _ f => ⟨fun n hn => by simp [tmHas] at hn, fun n _ => rfl⟩, fun ef _ _ _ F' bx' θ' _ _ _ f n x' hn => by simp [tmHas] at hn⟩
  | (n, .var t cells) :: r, e, e', h => by
    replace h : (match e.r.find n with
      | some (some b) => match bx b with
        | some (.var _ t' vs) => match sif (Nat.beq t t') (Sk.exts T bx cells vs e) none with
          | some e' => extBx T bx r e'
          | none => none
        | _ => none
      | _ => none) = some e' := h
    split at h
    · rename_i b hb
      split at h
      · rename_i v t' vs hbb
        cases hc : Nat.beq t t' with
        | false => simp [hc, sif] at h
        | true =>
          rw [hc, sif_true] at h
          have e1 := Nat.eq_of_beq_eq_true hc; subst e1
          split at h
          · rename_i e1 h1
            obtain ⟨g, cs, te, d, q1, q2, q3, q4, q5, q6⟩ := hw.box b _ hbb
            obtain ⟨⟨a1, a0⟩, a2, _, a4⟩ := exts_ok (l := l) (knT hw) cells vs cs.toList e e1 (by simpa using q3) (fun i x v h1 h2 => q6 i x v h1 (by simpa using h2)) h1
            obtain ⟨b1, b2, b3⟩ := extBx_ok hw r e1 e' h
            have hinst : ∀ (ef : Ex) (f : Bxs), instBx nm0 ef.xs.reverse ((n, .var t cells) :: r) e.xs.length f = instBx nm0 ef.xs.reverse r e1.xs.length (upd f n (some (.var 0 t (Sk.insts nm0 ef.xs.reverse cells e.xs.length).1))) := by
              intro ef f
              show instBx nm0 ef.xs.reverse r (Sk.insts nm0 ef.xs.reverse cells e.xs.length).2 _ = _
              rw [a2]; rfl
            have hfind : ∀ ef, e'.le ef → ef.r.find n = some (some b) := fun ef hef => ((a1.le_trans b1).le_trans hef).r _ _ hb
            refine ⟨a1.le_trans b1, fun ef hef f => ?_, fun ef hef hn hT F' bx' θ' hF hθ hθn f m x' hm hx => ?_⟩
            · rw [hinst]
              obtain ⟨c1, c2⟩ := b2 ef hef (upd f n (some (.var 0 t (Sk.insts nm0 ef.xs.reverse cells e.xs.length).1)))
              refine ⟨fun m hm => ?_, fun m hm => ?_⟩
              · by_cases hr : tmHas r m = true
                · exact c1 m hr
                · have : n = m := ((tmHas_cons _ _ _ _).1 hm).resolve_right hr
                  subst this
                  refine ⟨_, by rw [c2 n hr, upd_same], rfl, .inl ⟨b, _, hfind ef hef, hbb, ?_⟩⟩
                  show vs.length = _
                  rw [insts_len]; exact a0
              · have hm' := fun h => hm ((tmHas_cons _ _ _ _).2 h)
                rw [c2 m (fun h => hm' (.inr h)), upd_ne _ _ (fun h => hm' (.inl h.symm))]
            · simp only [bxNamed, andS_eq, Bool.and_eq_true] at hn
              have hT' : bxT T r = true := by
                simp only [bxT] at hT
                split at hT
                · exact hT
                · simp at hT
              rw [hinst] at hx
              by_cases hr : tmHas r m = true
              · exact b3 ef hef hn.2 hT' F' bx' θ' hF hθ hθn _ m x' hr hx
              · have : n = m := ((tmHas_cons _ _ _ _).1 hm).resolve_right hr
                subst this
                rw [(b2 ef hef _).2 n hr, upd_same] at hx
                obtain rfl := Option.some.inj hx
                refine ⟨g, cs, te, d, by rw [hθ n b (hfind ef hef)]; exact q1, q2, by rw [insts_len, q3, a0], q4, by rw [insts_len, ← a0]; exact q5, fun i x v h1 h2 => ?_⟩
                exact a4 ef (b1.le_trans hef) hn.1 F' bx' θ' hF i x v h1 (by simpa using h2)
          · simp at h
      · simp at h
    · simp at h
  | (n, .arr t) :: r, e, e', h => by
    have key : ∀ (es : List (List C)), extBx T bx r ⟨.l es :: e.xs, e.r, e.fz⟩ = some e' →
        ((∃ b v, e.r.find n = some (some b) ∧ bx b = some (.arr v t es)) ∨ (e.r.find n = some none ∧ es = [])) →
        e.le e' ∧
        (∀ ef, e'.le ef → ∀ f : Bxs, (∀ m, tmHas ((n, .arr t) :: r) m = true → ∃ x', instBx nm0 ef.xs.reverse ((n, .arr t) :: r) e.xs.length f m = some x' ∧ Shape bx ef.r m x') ∧ (∀ m, ¬ tmHas ((n, .arr t) :: r) m = true → instBx nm0 ef.xs.reverse ((n, .arr t) :: r) e.xs.length f m = f m)) ∧
        ∀ ef, e'.le ef → bxNamed l ((n, .arr t) :: r) = true → bxT T ((n, .arr t) :: r) = true → ∀ F' bx' θ', Fin T F w bx θ F' bx' θ' l ef → (∀ n b, ef.r.find n = some (some b) → θ' n = θ b) → (∀ n, ef.r.find n = some none → θ' n = .slice none 0 0) → ∀ f : Bxs, ∀ m x', tmHas ((n, .arr t) :: r) m = true → instBx nm0 ef.xs.reverse ((n, .arr t) :: r) e.xs.length f m = some x' → RelB T F' w bx' θ' m x' := by
      intro es h hcase
      obtain ⟨b1, b2, b3⟩ := extBx_ok hw r _ e' h
      have hle : e.le e' := (e.push _).le_trans b1
      have hget : ∀ ef, e'.le ef → ef.xs.reverse.getD e.xs.length .nil = .l es := fun ef hef => pos_get ((b1.le_trans hef).xs)
      have hinst : ∀ (ef : Ex) (f : Bxs), e'.le ef → instBx nm0 ef.xs.reverse ((n, .arr t) :: r) e.xs.length f = instBx nm0 ef.xs.reverse r (C.l es :: e.xs).length (upd f n (some (.arr 0 t es))) := by
        intro ef f hef
        show instBx nm0 ef.xs.reverse r (e.xs.length + 1) (upd f n (some (.arr 0 t (ef.xs.reverse.getD e.xs.length .nil).L))) = _
        rw [hget ef hef]; rfl
      refine ⟨hle, fun ef hef f => ?_, fun ef hef hn hT F' bx' θ' hF hθ hθn f m x' hm hx => ?_⟩
      · rw [hinst ef f hef]
        obtain ⟨c1, c2⟩ := b2 ef hef (upd f n (some (.arr 0 t es)))
        refine ⟨fun m hm => ?_, fun m hm => ?_⟩
        · by_cases hr : tmHas r m = true
          · exact c1 m hr
          · have : n = m := ((tmHas_cons _ _ _ _).1 hm).resolve_right hr
            subst this
            refine ⟨_, by rw [c2 n hr, upd_same], rfl, ?_⟩
            rcases hcase with ⟨b, v, h1, h2⟩ | ⟨h1, rfl⟩
            · exact .inl ⟨b, _, (hle.le_trans hef).r _ _ h1, h2, rfl, rfl⟩
            · exact .inr ⟨(hle.le_trans hef).r _ _ h1, t, rfl⟩
        · have hm' := fun h => hm ((tmHas_cons _ _ _ _).2 h)
          rw [c2 m (fun h => hm' (.inr h)), upd_ne _ _ (fun h => hm' (.inl h.symm))]
      · replace hn : bxNamed l r = true := hn
        have hT' : (∃ d, tget T t = some d) ∧ bxT T r = true := by
          simp only [bxT] at hT
          split at hT
          · rename_i d hd; exact ⟨⟨d, hd⟩, hT⟩
          · simp at hT
        rw [hinst ef f hef] at hx
        by_cases hr : tmHas r m = true
        · exact b3 ef hef hn hT'.2 F' bx' θ' hF hθ hθn _ m x' hr hx
        · have : n = m := ((tmHas_cons _ _ _ _).1 hm).resolve_right hr
          subst this
          rw [(b2 ef hef _).2 n hr, upd_same] at hx
          obtain rfl := Option.some.inj hx
          rcases hcase with ⟨b, v, h1, h2⟩ | ⟨h1, rfl⟩
          · obtain ⟨d, A, cap, p1, p2, p3, p4⟩ := hw.box b _ h2
            refine ⟨d, A, cap, p1, by rw [hθ n b ((hle.le_trans hef).r _ _ h1)]; exact p2, p3, p4.imp id ?_⟩
            rintro ⟨g, o, cs, g1, g2, g3, g4, g5⟩
            exact ⟨g, o, cs, g1, g2, g3, g4, fun i c j x ct v a1 a2 a3 a4 => (g5 i c j x ct v a1 a2 a3 a4).mv hF.F fun _ _ => rfl⟩
          · obtain ⟨d, hd⟩ := hT'.1
            exact ⟨d, none, 0, hd, by rw [hθn n ((hle.le_trans hef).r _ _ h1)]; rfl, fun i c h => by simp at h, .inl ⟨rfl, rfl, rfl⟩⟩
    replace h : (match e.r.find n with
      | some (some b) => match bx b with
        | some (.arr _ t' es) => sif (Nat.beq t t') (extBx T bx r ⟨.l es :: e.xs, e.r, e.fz⟩) none
        | _ => none
      | some none => extBx T bx r ⟨.l [] :: e.xs, e.r, e.fz⟩
      | none => none) = some e' := h
    split at h
    · rename_i b hb
      split at h
      · rename_i v t' es hbb
        cases hc : Nat.beq t t' with
        | false => simp [hc, sif] at h
        | true =>
          rw [hc, sif_true] at h
          have e1 := Nat.eq_of_beq_eq_true hc; subst e1
          exact key es h (.inl ⟨b, v, hb, hbb⟩)
      · simp at h
    · rename_i hb
      exact key [] h (.inr ⟨hb, rfl⟩)
    · simp at h
  | (n, .mp t) :: r, e, e', h => by
    have key : ∀ (es : List (List C)), extBx T bx r ⟨.l es :: e.xs, e.r, e.fz⟩ = some e' →
        (∃ b v, e.r.find n = some (some b) ∧ bx b = some (.mp v t es)) →
        e.le e' ∧
        (∀ ef, e'.le ef → ∀ f : Bxs, (∀ m, tmHas ((n, .mp t) :: r) m = true → ∃ x', instBx nm0 ef.xs.reverse ((n, .mp t) :: r) e.xs.length f m = some x' ∧ Shape bx ef.r m x') ∧ (∀ m, ¬ tmHas ((n, .mp t) :: r) m = true → instBx nm0 ef.xs.reverse ((n, .mp t) :: r) e.xs.length f m = f m)) ∧
        ∀ ef, e'.le ef → bxNamed l ((n, .mp t) :: r) = true → bxT T ((n, .mp t) :: r) = true → ∀ F' bx' θ', Fin T F w bx θ F' bx' θ' l ef → (∀ n b, ef.r.find n = some (some b) → θ' n = θ b) → (∀ n, ef.r.find n = some none → θ' n = .slice none 0 0) → ∀ f : Bxs, ∀ m x', tmHas ((n, .mp t) :: r) m = true → instBx nm0 ef.xs.reverse ((n, .mp t) :: r) e.xs.length f m = some x' → RelB T F' w bx' θ' m x' := by
      intro es h hcase
      obtain ⟨b1, b2, b3⟩ := extBx_ok hw r _ e' h
      have hle : e.le e' := (e.push _).le_trans b1
      have hget : ∀ ef, e'.le ef → ef.xs.reverse.getD e.xs.length .nil = .l es := fun ef hef => pos_get ((b1.le_trans hef).xs)
      have hinst : ∀ (ef : Ex) (f : Bxs), e'.le ef → instBx nm0 ef.xs.reverse ((n, .mp t) :: r) e.xs.length f = instBx nm0 ef.xs.reverse r (C.l es :: e.xs).length (upd f n (some (.mp 0 t es))) := by
        intro ef f hef
        show instBx nm0 ef.xs.reverse r (e.xs.length + 1) (upd f n (some (.mp 0 t (ef.xs.reverse.getD e.xs.length .nil).L))) = _
        rw [hget ef hef]; rfl
      refine ⟨hle, fun ef hef f => ?_, fun ef hef hn hT F' bx' θ' hF hθ hθn f m x' hm hx => ?_⟩
      · rw [hinst ef f hef]
        obtain ⟨c1, c2⟩ := b2 ef hef (upd f n (some (.mp 0 t es)))
        refine ⟨fun m hm => ?_, fun m hm => ?_⟩
        · by_cases hr : tmHas r m = true
          · exact c1 m hr
          · have : n = m := ((tmHas_cons _ _ _ _).1 hm).resolve_right hr
            subst this
            refine ⟨_, by rw [c2 n hr, upd_same], rfl, ?_⟩
            obtain ⟨b, v, h1, h2⟩ := hcase
            exact .inl ⟨b, _, (hle.le_trans hef).r _ _ h1, h2, rfl⟩
        · have hm' := fun h => hm ((tmHas_cons _ _ _ _).2 h)
          rw [c2 m (fun h => hm' (.inr h)), upd_ne _ _ (fun h => hm' (.inl h.symm))]
      · replace hn : bxNamed l r = true := hn
        replace hT : bxT T r = true := hT
        rw [hinst ef f hef] at hx
        by_cases hr : tmHas r m = true
        · exact b3 ef hef hn hT F' bx' θ' hF hθ hθn _ m x' hr hx
        · have : n = m := ((tmHas_cons _ _ _ _).1 hm).resolve_right hr
          subst this
          rw [(b2 ef hef _).2 n hr, upd_same] at hx
          obtain rfl := Option.some.inj hx
          obtain ⟨b, v, h1, h2⟩ := hcase
          obtain ⟨q, arr, clk, d, ct, p1, p2, p3, p4, p5⟩ := hw.box b _ h2
          exact ⟨q, arr, clk, d, ct, by rw [hθ n b ((hle.le_trans hef).r _ _ h1)]; exact p1, p2, p3, p4, p5⟩
    replace h : (match e.r.find n with
      | some (some b) => match bx b with
        | some (.mp _ t' es) => sif (Nat.beq t t') (extBx T bx r ⟨.l es :: e.xs, e.r, e.fz⟩) none
        | _ => none
      | _ => none) = some e' := h
    split at h
    · rename_i b hb
      split at h
      · rename_i v t' es hbb
        cases hc : Nat.beq t t' with
        | false => simp [hc, sif] at h
        | true =>
          rw [hc, sif_true] at h
          have e1 := Nat.eq_of_beq_eq_true hc; subst e1
          exact key es h ⟨b, v, hb, hbb⟩
      · simp at h
    · simp at h
end
end Go.Ev
namespace Go.Ev
section
variable {T : Tys} {fr : Fr} {F : Nat → Prop} {w : World} {bx : Bxs} {θ : Nat → Value}
theorem find_mem : ∀ {r : Ren} {n b : Nat}, r.find n = some (some b) → b ∈ names r
  | [], n, b, h => by simp [Ren.find] at h
  | (m, c) :: r, n, b, h => by
    rw [find_cons] at h
    split at h
    · simp only [Option.some.injEq] at h
      subst h
      simp [names]
    · have := find_mem h
      cases c <;> simp [names, this]
theorem nodup_find : ∀ {r : Ren}, nodupb (names r) = true → ∀ {n n' b : Nat}, r.find n = some (some b) → r.find n' = some (some b) → n = n'
  | [], hd, n, n', b, h, h' => by simp [Ren.find] at h
  | (m, c) :: r, hd, n, n', b, h, h' => by
    have hd' : nodupb (names r) = true ∧ ∀ b', c = some b' → ¬ b' ∈ names r := by
      cases c with
      | none => exact ⟨hd, fun _ h => by simp at h⟩
      | some q =>
        simp only [names, nodupb, andS_eq, notS_eq, Bool.and_eq_true, Bool.not_eq_true'] at hd
        refine ⟨hd.2, fun b' hb => ?_⟩
        simp only [Option.some.injEq] at hb
        subst hb
        intro hm
        rw [(memb_iff _ _).2 hm] at hd
        simp at hd
    rw [find_cons] at h h'
    split at h
    · rename_i e1
      split at h'
      · rename_i e2; exact e1.symm.trans e2
      · simp only [Option.some.injEq] at h
        exact absurd (find_mem h') (hd'.2 b h)
    · split at h'
      · simp only [Option.some.injEq] at h'
        exact absurd (find_mem h) (hd'.2 b h')
      · exact nodup_find hd'.1 h h'
theorem fzOk_not {r : Ren} : ∀ {l : List Nat}, fzOk r l = true → ∀ b, b ∈ l → ¬ b ∈ names r
  | [], h, b, hb => by simp at hb
  | c :: l, h, b, hb => by
    simp only [fzOk, andS_eq, notS_eq, Bool.and_eq_true, Bool.not_eq_true'] at h
    rcases List.mem_cons.1 hb with rfl | hb
    · intro hm; rw [(memb_iff _ _).2 hm] at h; simp at h
    · exact fzOk_not h.2 b hb
def thOf (θ : Nat → Value) (r : Ren) : Nat → Value := fun n => match r.find n with | some (some b) => θ b | _ => .slice none 0 0
def FzF (F : Nat → Prop) (bx : Bxs) (θ : Nat → Value) (fz : List Nat) : Nat → Prop := fun k => F k ∨ ∃ b x, b ∈ fz ∧ bx b = some x ∧ x.live = true ∧ blkOf (θ b) = some k
structure Inj (T : Tys) (F : Nat → Prop) (w : World) (bx : Bxs) (θ : Nat → Value) (val : Nat → Value) (t : Tm) (e : Ex) (σ : St) (F' : Nat → Prop) (θ' : Nat → Value) : Prop where
  sl : ∀ d, RelV T F' w σ.bx θ' (σ.sl d) (val d)
  box : ∀ b x, σ.bx b = some x → RelB T F' w σ.bx θ' b x
  disj : ∀ b b' x x' g, σ.bx b = some x → σ.bx b' = some x' → x.live = true → x'.live = true → blkOf (θ' b) = some g → blkOf (θ' b') = some g → b = b'
  out : ∀ n x g, σ.bx n = some x → x.live = true → blkOf (θ' n) = some g → ¬ F' g ∧ ∃ b y, e.r.find n = some (some b) ∧ bx b = some y ∧ y.live = true ∧ blkOf (θ b) = some g
  has : ∀ n, tmHas t.bx n = true → ∃ x', σ.bx n = some x' ∧ Shape bx e.r n x'
  hasnt : ∀ n x, σ.bx n = some x → tmHas t.bx n = true
theorem ext_le {t : Tm} {ρ : Slots} {val : Nat → Value} {r0 : Ren} {e : Ex} (hw : WR T fr F w bx θ) (hr : ∀ d, RelV T F w bx θ (ρ d) (val d)) (h : t.ext T r0 ⟨ρ, bx⟩ = some e) : ∀ n b, r0.find n = some b → e.r.find n = some b := by
  unfold Tm.ext at h
  split at h
  · rename_i e1 h1
    split at h
    · rename_i e2 h2
      cases hc : andS (andS (bxT T t.bx) (andS (slNamed t.bx t.sl) (bxNamed t.bx t.bx))) (andS (nodupb (names e2.r)) (fzOk e2.r e2.fz)) with
      | false => simp [hc, sif] at h
      | true =>
        rw [hc, sif_true] at h
        simp only [Option.some.injEq] at h
        subst h
        have a := (extSl_ok (l := t.bx) (knT hw) hr t.sl _ e1 h1).1
        have b := (extBx_ok (l := t.bx) hw t.bx e1 e2 h2).1
        exact (a.le_trans b).r
    · simp at h
  · simp at h
theorem tm_ext_ok {t : Tm} {ρ : Slots} {val : Nat → Value} {r0 : Ren} {e : Ex} (hw : WR T fr F w bx θ) (hr : ∀ d, RelV T F w bx θ (ρ d) (val d)) (h : t.ext T r0 ⟨ρ, bx⟩ = some e) :
    Inj T F w bx θ val t e (t.inj (rev e.xs [])) (FzF F bx θ e.fz) (thOf θ e.r) := by
  rw [rev_eq, List.append_nil]
  unfold Tm.ext at h
  split at h
  · rename_i e1 h1
    split at h
    · rename_i e2 h2
      cases hc : andS (andS (bxT T t.bx) (andS (slNamed t.bx t.sl) (bxNamed t.bx t.bx))) (andS (nodupb (names e2.r)) (fzOk e2.r e2.fz)) with
      | false => simp [hc, sif] at h
      | true =>
        rw [hc, sif_true] at h
        simp only [Option.some.injEq] at h
        subst h
        simp only [andS_eq, Bool.and_eq_true] at hc
        obtain ⟨⟨hT, hn1, hn2⟩, hnd, hfz⟩ := hc
        obtain ⟨a1, a2, a3⟩ := extSl_ok (l := t.bx) (knT hw) hr t.sl _ e1 h1
        obtain ⟨b1, b2, b3⟩ := extBx_ok (l := t.bx) hw t.bx e1 e2 h2
        have hsl : (t.inj e2.xs.reverse).sl = (instSl nm0 e2.xs.reverse t.sl 0 fun _ => .un).1 := rfl
        have hbx : (t.inj e2.xs.reverse).bx = instBx nm0 e2.xs.reverse t.bx e1.xs.length fun _ => none := by
          show instBx nm0 e2.xs.reverse t.bx (instSl nm0 e2.xs.reverse t.sl 0 fun _ => .un).2 _ = _
          have := a2 nm0 e2.xs.reverse (fun _ => .un)
          simp only [List.length_nil] at this
          rw [this]
        obtain ⟨s1, s2⟩ := b2 e2 (Ex.le_refl _) (fun _ => none)
        rw [← hbx] at s1 s2
        have hshape : ∀ n x, (t.inj e2.xs.reverse).bx n = some x → tmHas t.bx n = true ∧ Shape bx e2.r n x := by
          intro n x hx
          by_cases hh : tmHas t.bx n = true
          · obtain ⟨x', h1, h2⟩ := s1 n hh
            rw [hx] at h1; obtain rfl := Option.some.inj h1
            exact ⟨hh, h2⟩
          · have := s2 n hh; rw [hx] at this; simp at this
        have hth : ∀ n b, e2.r.find n = some (some b) → thOf θ e2.r n = θ b := fun n b h => by simp [thOf, h]
        have hthn : ∀ n, e2.r.find n = some none → thOf θ e2.r n = .slice none 0 0 := fun n h => by simp [thOf, h]
        have hF : Fin T F w bx θ (FzF F bx θ e2.fz) (t.inj e2.xs.reverse).bx (thOf θ e2.r) t.bx e2 := by
          refine ⟨fun k h => .inl h, fun b hb x hx hl g hg => .inr ⟨b, x, hb, hx, hl, hg⟩, fun b hb ver t' es hbb => ?_, fun n b hh hf => ?_, fun n hh hf => ?_⟩
          · exact freeze_arr (hw.box b _ hbb) (fun k h => .inl h) fun g hg => .inr ⟨b, _, hb, hbb, rfl, hg⟩
          · obtain ⟨x', h1, h2, h3⟩ := s1 n hh
            rcases h3 with ⟨b', x, q1, q2, q3⟩ | ⟨q1, _⟩
            · rw [hf] at q1
              simp only [Option.some.injEq] at q1
              subst q1
              exact ⟨x, x', q2, h1, h2, q3, hth n b hf⟩
            · rw [hf] at q1; simp at q1
          · obtain ⟨x', h1, h2, h3⟩ := s1 n hh
            rcases h3 with ⟨b', x, q1, q2, q3⟩ | ⟨q1, t', rfl⟩
            · rw [hf] at q1; simp at q1
            · exact ⟨t', h1, hthn n hf⟩
        have hout : ∀ n x g, (t.inj e2.xs.reverse).bx n = some x → x.live = true → blkOf (thOf θ e2.r n) = some g → ∃ b y, e2.r.find n = some (some b) ∧ bx b = some y ∧ y.live = true ∧ blkOf (θ b) = some g := by
          intro n x g hx hl hg
          obtain ⟨h1, h2, h3⟩ := hshape n x hx
          rcases h3 with ⟨b, y, q1, q2, q3⟩ | ⟨q1, t', rfl⟩
          · rw [hth n b q1] at hg
            refine ⟨b, y, q1, q2, ?_, hg⟩
            cases y <;> cases x <;> simp_all [Box.same, Box.live]
          · rw [hthn n q1] at hg; simp [blkOf] at hg
        refine ⟨?_, ?_, ?_, ?_, fun n hh => s1 n hh, fun n x hx => (hshape n x hx).1⟩
        · have := a3 e2 b1 hn1 _ _ _ hF (fun _ => .un) (fun d => .un _)
          rw [hsl]; simpa using this
        · intro n x hx
          have hh := (hshape n x hx).1
          rw [hbx] at hx
          have := b3 e2 (Ex.le_refl _) hn2 hT _ _ _ hF hth hthn (fun _ => none) n x hh hx
          exact this
        · intro n n' x x' g hx hx' hl hl' hg hg'
          obtain ⟨b, y, q1, q2, q3, q4⟩ := hout n x g hx hl hg
          obtain ⟨b', y', q1', q2', q3', q4'⟩ := hout n' x' g hx' hl' hg'
          have := hw.disj b b' y y' g q2 q2' q3 q3' q4 q4'
          subst this
          exact nodup_find hnd q1 q1'
        · intro n x g hx hl hg
          obtain ⟨b, y, q1, q2, q3, q4⟩ := hout n x g hx hl hg
          refine ⟨?_, b, y, q1, q2, q3, q4⟩
          rintro (hF | ⟨c, z, c1, c2, c3, c4⟩)
          · exact (hw.out b y g q2 q3 q4).1 hF
          · have := hw.disj b c y z g q2 c2 q3 c3 q4 c4
            subst this
            exact fzOk_not hfz b c1 (find_mem q1)
    · simp at h
  · simp at h
theorem FzF_lt (hw : WR T fr F w bx θ) {fz : List Nat} : ∀ k, FzF F bx θ fz k → k < w.heap.size := by
  rintro k (h | ⟨b, x, h1, h2, h3, h4⟩)
  · exact hw.lt k h
  · exact (hw.out b x k h2 h3 h4).2.1
theorem FzF_new (hw : WR T fr F w bx θ) {fz : List Nat} : ∀ k, FzF F bx θ fz k → fr.F0 k ∨ fr.w0.heap.size ≤ k ∨ fr.wr k := by
  rintro k (h | ⟨b, x, h1, h2, h3, h4⟩)
  · exact hw.new k h
  · exact .inr (hw.out b x k h2 h3 h4).2.2
theorem Inj.wr {val : Nat → Value} {t : Tm} {e : Ex} {σ : St} {st : List Nat} (hw : WR T fr F w bx θ) (h : Inj T F w bx θ val t e σ (FzF F bx θ e.fz) (thOf θ e.r))
    (hst : ∀ n, n ∈ st → ∃ x, σ.bx n = some x ∧ (x.ver = 0 → thOf θ e.r n = fr.θ0 n)) : WR T ⟨fr.w0, fr.wr, fr.F0, fr.θ0, st⟩ (FzF F bx θ e.fz) w σ.bx (thOf θ e.r) := by
  refine ⟨h.box, h.disj, fun n x g hx hl hg => ?_, FzF_lt hw, ⟨hw.keep.os, hw.keep.tape, hw.keep.output, hw.keep.size, hw.keep.old⟩, fun k hk => .inl (hw.sub k hk), FzF_new hw, hst⟩
  obtain ⟨h1, b, y, q1, q2, q3, q4⟩ := h.out n x g hx hl hg
  exact ⟨h1, (hw.out b y g q2 q3 q4).2⟩
theorem find_idRen : ∀ {l : List Nat} {n : Nat}, n ∈ l → Ren.find (idRen l) n = some (some n)
  | [], n, h => by simp at h
  | m :: r, n, h => by
    show Ren.find ((m, some m) :: idRen r) n = _
    rw [find_cons]
    split
    · rename_i e; rw [e]
    · rename_i hne
      rcases List.mem_cons.1 h with rfl | h
      · exact absurd rfl hne
      · exact find_idRen h
theorem allHas_mem {l : List (Nat × BSk)} : ∀ {q : List Nat}, allHas l q = true → ∀ n, n ∈ q → tmHas l n = true
  | [], h, n, hn => by simp at hn
  | m :: q, h, n, hn => by
    simp only [allHas, andS_eq, Bool.and_eq_true] at h
    rcases List.mem_cons.1 hn with rfl | hn
    · exact h.1
    · exact allHas_mem h.2 n hn
theorem ipOk_mem {bx : Bxs} : ∀ {q : List Nat}, ipOk bx q = true → ∀ n, n ∈ q → ∃ x, bx n = some x ∧ x.ver = 0
  | [], h, n, hn => by simp at hn
  | m :: q, h, n, hn => by
    simp only [ipOk, andS_eq, Bool.and_eq_true] at h
    rcases List.mem_cons.1 hn with rfl | hn
    · have h1 := h.1
      split at h1
      · rename_i x hx; exact ⟨x, hx, Nat.eq_of_beq_eq_true h1⟩
      · simp at h1
    · exact ipOk_mem h.2 n hn
theorem outD_ok {X : Cx} {fr : Fr} {t : Tm} {σ : St} {f : List C → Out} {r : Out} {a : Act} (hst : fr.st = X.ip) (h : outD X t σ f = some r) (hs : Sim X.T fr X.n σ a w) :
    ∃ xs, r = f xs ∧ Sim X.T fr X.n (t.inj xs) a w := by
  obtain ⟨σs, σb⟩ := σ
  unfold outD at h
  cases hj : joinOk X t ⟨σs, σb⟩ with
  | false => simp [hj, sif] at h
  | true =>
    rw [hj, sif_true] at h
    split at h
    · rename_i xs hxs
      simp only [Option.some.injEq] at h
      subst h
      refine ⟨xs, rfl, ?_⟩
      unfold Tm.data at hxs
      split at hxs
      · rename_i e he
        simp only [Option.some.injEq] at hxs
        subst hxs
        obtain ⟨F, θ, hw, hr, hn, hd⟩ := hs
        simp only [joinOk, andS_eq, Bool.and_eq_true] at hj
        have hi := tm_ext_ok hw hr he
        have hle := ext_le hw hr he
        refine ⟨⟨_, _, ?_, hi.sl, hn, hd⟩⟩
        have := hi.wr hw (st := fr.st) (fun n hn' => by
          rw [hst] at hn'
          obtain ⟨x, h1, h2⟩ := ipOk_mem hj.1 n hn'
          obtain ⟨x', h3, h4⟩ := hi.has n (allHas_mem hj.2.1 n hn')
          refine ⟨x', h3, fun _ => ?_⟩
          have hf := hle n _ (find_idRen hn')
          obtain ⟨y, q1, q2⟩ := hw.stay n (by rw [hst]; exact hn')
          replace q1 : σb n = some y := q1
          rw [h1] at q1; obtain rfl := Option.some.inj q1
          simp only [thOf, hf]
          exact q2 h2)
        exact this
      · simp at hxs
    · simp at h
end
end Go.Ev
namespace Go.Ev
section
variable {T : Tys} {F F' : Nat → Prop} {w w' : World} {bx bx' bo : Bxs} {θ θ' θo : Nat → Value} {nm : Nm}
structure Rnm (F : Nat → Prop) (w : World) (bo : Bxs) (θo : Nat → Value) (nm : Nm) (F' : Nat → Prop) (bx' : Bxs) (θ' : Nat → Value) : Prop where
  F : ∀ k, F k → F' k
  nm : ∀ n x, bo n = some x → x.ver = 0 ∧ ∃ x', bx' (nm n).1 = some x' ∧ x'.ver = (nm n).2 ∧ x.same x' ∧ θ' (nm n).1 = θo n
mutual
theorem rnm_ok (h : Rnm F w bo θo nm F' bx' θ') (xs : List C) : ∀ (k : Sk) (p : Nat), (k.inst nm xs p).2 = (k.inst nm0 xs p).2 ∧ ∀ v, RelV T F w bo θo (k.inst nm0 xs p).1 v → RelV T F' w bx' θ' (k.inst nm xs p).1 v
  | .un, p => ⟨rfl, fun v _ => .un v⟩
  | .d t, p => ⟨rfl, fun v hv => by
    replace hv : RelV T F w bo θo (.c t (xs.getD p .nil)) v := hv
    cases hv with
    | c t x v hr => exact .c _ _ _ (hr.mv h.F fun _ _ => rfl)⟩
  | .ow n, p => ⟨rfl, fun v hv => by
    replace hv : RelV T F w bo θo (.ow n 0) v := hv
    cases hv with
    | ow _ _ v x hb hve hs hh =>
      obtain ⟨h0, x', h1, h2, h3, h4⟩ := h.nm n x hb
      obtain ⟨t, es, rfl, rfl⟩ := hh h0.symm
      cases x' with
      | arr v' t' es' => simp only [Box.ver] at h2; subst h2; exact .ow _ _ _ _ h1 (Nat.le_refl _) hs fun _ => ⟨t', es', rfl, h4.symm⟩
      | _ => exact h3.elim⟩
  | .mp n, p => ⟨rfl, fun v hv => by
    replace hv : RelV T F w bo θo (.mp n 0) v := hv
    cases hv with
    | mp _ _ v x hb hve hs hh =>
      obtain ⟨h0, x', h1, h2, h3, h4⟩ := h.nm n x hb
      obtain ⟨t, es, rfl, rfl⟩ := hh h0.symm
      cases x' with
      | mp v' t' es' => simp only [Box.ver] at h2; subst h2; exact .mp _ _ _ _ h1 (Nat.le_refl _) hs fun _ => ⟨t', es', rfl, h4.symm⟩
      | _ => exact h3.elim⟩
  | .pt n o, p => ⟨rfl, fun v hv => by
    replace hv : RelV T F w bo θo (.pt n 0 o) v := hv
    cases hv with
    | pt _ _ _ v x hb hve hs hh =>
      obtain ⟨h0, x', h1, h2, h3, h4⟩ := h.nm n x hb
      obtain ⟨t, cells, g, rfl, e1, rfl⟩ := hh h0.symm
      cases x' with
      | var v' t' cells' => simp only [Box.ver] at h2; subst h2; exact .pt _ _ _ _ _ h1 (Nat.le_refl _) hs fun _ => ⟨t', cells', g, rfl, by rw [h4, e1], rfl⟩
      | _ => exact h3.elim⟩
  | .pe n o, p => ⟨rfl, fun v hv => by
    replace hv : RelV T F w bo θo (.pe n 0 (xs.getD p .nil).I o true) v := hv
    cases hv with
    | pe _ _ ix _ nb v x hb hve hs hh =>
      obtain ⟨h0, x', h1, h2, h3, h4⟩ := h.nm n x hb
      obtain ⟨t, es, d, rfl, hd, hc⟩ := hh h0.symm
      cases x' with
      | arr v' t' es' =>
        simp only [Box.ver] at h2; subst h2
        obtain ⟨rfl, hl⟩ := h3
        refine .pe _ _ _ _ _ _ _ h1 (Nat.le_refl _) hs fun _ => ⟨t, es', d, rfl, hd, hc.imp id ?_⟩
        rintro ⟨a, b, g, og, cap, e1, e2⟩
        exact ⟨a, by omega, g, og, cap, by rw [h4, e1, hl], e2⟩
      | _ => exact h3.elim⟩
  | .ag q, p => by
    obtain ⟨h1, h2⟩ := rnms_ok h xs q p
    refine ⟨h1, fun v hv => ?_⟩
    replace hv : RelV T F w bo θo (.ag (Sk.insts nm0 xs q p).1) v := hv
    cases hv with
    | ag l vs hl hr => exact .ag _ _ (by rw [insts_len, hl, insts_len]) (h2 vs hr)
  | .tu q, p => by
    obtain ⟨h1, h2⟩ := rnms_ok h xs q p
    refine ⟨h1, fun v hv => ?_⟩
    replace hv : RelV T F w bo θo (.tu (Sk.insts nm0 xs q p).1) v := hv
    cases hv with
    | tu l vs hl hr => exact .tu _ _ (by rw [insts_len, hl, insts_len]) (h2 vs hr)
  | .fn f q, p => by
    obtain ⟨h1, h2⟩ := rnms_ok h xs q p
    refine ⟨h1, fun v hv => ?_⟩
    replace hv : RelV T F w bo θo (.fn f (Sk.insts nm0 xs q p).1) v := hv
    cases hv with
    | fn _ l vs hl hr => exact .fn _ _ _ (by rw [insts_len, hl, insts_len]) (h2 vs hr)
theorem rnms_ok (h : Rnm F w bo θo nm F' bx' θ') (xs : List C) : ∀ (ks : List Sk) (p : Nat), (Sk.insts nm xs ks p).2 = (Sk.insts nm0 xs ks p).2 ∧
    ∀ vs : List Value, (∀ (i : Nat) (x : V) (v : Value), (Sk.insts nm0 xs ks p).1[i]? = some x → vs[i]? = some v → RelV T F w bo θo x v) → ∀ (i : Nat) (x : V) (v : Value), (Sk.insts nm xs ks p).1[i]? = some x → vs[i]? = some v → RelV T F' w bx' θ' x v
  | [], p => ⟨rfl, fun vs _ i x v hx => by simp [Sk.insts] at hx⟩
  | k :: ks, p => by
    obtain ⟨h1, h2⟩ := rnm_ok h xs k p
    obtain ⟨h3, h4⟩ := rnms_ok h xs ks (k.inst nm xs p).2
    refine ⟨?_, fun vs hr i x v hx hv => ?_⟩
    · show (Sk.insts nm xs ks (k.inst nm xs p).2).2 = (Sk.insts nm0 xs ks (k.inst nm0 xs p).2).2
      rw [h3, h1]
    · cases i with
      | zero =>
        simp [Sk.insts] at hx
        subst hx
        exact h2 v (hr 0 _ v (by simp [Sk.insts]) hv)
      | succ i =>
        cases vs with
        | nil => simp at hv
        | cons u us =>
          refine h4 us (fun j y z hy hz => hr (j + 1) y z ?_ (by simpa using hz)) i x v (by simpa [Sk.insts] using hx) (by simpa using hv)
          simp only [Sk.insts, List.getElem?_cons_succ]
          rw [h1] at hy
          exact hy
end
theorem rnmSl_ok (h : Rnm F w bo θo nm F' bx' θ') (xs : List C) : ∀ (q : List (Nat × Sk)) (p : Nat) (f f' : Slots), (∀ d v, RelV T F w bo θo (f d) v → RelV T F' w bx' θ' (f' d) v) →
    (instSl nm xs q p f').2 = (instSl nm0 xs q p f).2 ∧ ∀ d v, RelV T F w bo θo ((instSl nm0 xs q p f).1 d) v → RelV T F' w bx' θ' ((instSl nm xs q p f').1 d) v
  | [], p, f, f', hf => ⟨rfl, hf⟩
  | (d, k) :: r, p, f, f', hf => by
    obtain ⟨h1, h2⟩ := rnm_ok (T := T) h xs k p
    show (instSl nm xs r (k.inst nm xs p).2 _).2 = (instSl nm0 xs r (k.inst nm0 xs p).2 _).2 ∧ ∀ d' v, RelV T F w bo θo ((instSl nm0 xs r (k.inst nm0 xs p).2 _).1 d') v → RelV T F' w bx' θ' ((instSl nm xs r (k.inst nm xs p).2 _).1 d') v
    rw [h1]
    refine rnmSl_ok h xs r _ _ _ fun d' v hv => ?_
    by_cases hd : d' = d
    · subst hd
      rw [upd_same] at hv ⊢
      exact h2 v hv
    · rw [upd_ne _ _ hd] at hv ⊢
      exact hf d' v hv
mutual
theorem flat_ok (xs : List C) : ∀ (k : Sk) (p : Nat), k.flat = true → ∀ v, RelV T F w bo θo (k.inst nm0 xs p).1 v → RelV T F' w' bx' θ' (k.inst nm xs p).1 v ∧ (k.inst nm xs p).2 = (k.inst nm0 xs p).2
  | .un, p, _, v, _ => ⟨.un v, rfl⟩
  | .d t, p, hk, v, hv => by
    replace hv : RelV T F w bo θo (.c t (xs.getD p .nil)) v := hv
    refine ⟨?_, rfl⟩
    cases hv with
    | c t x v hr =>
      refine .c _ _ _ (hr.flat ?_)
      cases t <;> first | rfl | simp [Sk.flat] at hk
  | .ow n, p, hk, _, _ => by simp [Sk.flat] at hk
  | .mp n, p, hk, _, _ => by simp [Sk.flat] at hk
  | .pt n o, p, hk, _, _ => by simp [Sk.flat] at hk
  | .pe n o, p, hk, _, _ => by simp [Sk.flat] at hk
  | .ag q, p, hk, v, hv => by
    replace hk : Sk.flats q = true := hk
    replace hv : RelV T F w bo θo (.ag (Sk.insts nm0 xs q p).1) v := hv
    cases hv with
    | ag l vs hl hr =>
      obtain ⟨h1, h2⟩ := flats_ok xs q p hk vs (by rw [hl, insts_len]) hr
      exact ⟨.ag _ _ (by rw [insts_len, hl, insts_len]) h1, h2⟩
  | .tu q, p, hk, v, hv => by
    replace hk : Sk.flats q = true := hk
    replace hv : RelV T F w bo θo (.tu (Sk.insts nm0 xs q p).1) v := hv
    cases hv with
    | tu l vs hl hr =>
      obtain ⟨h1, h2⟩ := flats_ok xs q p hk vs (by rw [hl, insts_len]) hr
      exact ⟨.tu _ _ (by rw [insts_len, hl, insts_len]) h1, h2⟩
  | .fn f q, p, hk, _, _ => by simp [Sk.flat] at hk
theorem flats_ok (xs : List C) : ∀ (ks : List Sk) (p : Nat), Sk.flats ks = true → ∀ vs : List Value, vs.length = ks.length → (∀ (i : Nat) (x : V) (v : Value), (Sk.insts nm0 xs ks p).1[i]? = some x → vs[i]? = some v → RelV T F w bo θo x v) →
    (∀ (i : Nat) (x : V) (v : Value), (Sk.insts nm xs ks p).1[i]? = some x → vs[i]? = some v → RelV T F' w' bx' θ' x v) ∧ (Sk.insts nm xs ks p).2 = (Sk.insts nm0 xs ks p).2
  | [], p, _, vs, _, _ => ⟨fun i x v hx => by simp [Sk.insts] at hx, rfl⟩
  | k :: ks, p, hk, [], hl, hr => by simp at hl
  | k :: ks, p, hk, u :: us, hl, hr => by
    simp only [Sk.flats, andS_eq, Bool.and_eq_true] at hk
    obtain ⟨h1, h2⟩ := flat_ok xs k p hk.1 u (hr 0 _ u (by simp [Sk.insts]) rfl)
    obtain ⟨h3, h4⟩ := flats_ok xs ks (k.inst nm0 xs p).2 hk.2 us (by simpa using hl) (fun i x v hx hv => hr (i + 1) x v (by simpa [Sk.insts] using hx) (by simpa using hv))
    refine ⟨fun i x v hx hv => ?_, ?_⟩
    · cases i with
      | zero => simp [Sk.insts] at hx hv; subst hx; subst hv; exact h1
      | succ i =>
        simp only [Sk.insts, List.getElem?_cons_succ] at hx hv
        rw [h2] at hx
        exact h3 i x v hx hv
    · show (Sk.insts nm xs ks (k.inst nm xs p).2).2 = (Sk.insts nm0 xs ks (k.inst nm0 xs p).2).2
      rw [h2, h4]
end
theorem updB_not {f : Bxs} : ∀ {l : List (Nat × Box)} {b : Nat}, ¬ b ∈ wrOf l → updB f l b = f b
  | [], b, _ => rfl
  | (c, x) :: r, b, h => by
    simp only [wrOf, List.mem_cons, not_or] at h
    show updB (upd f c (some x)) r b = f b
    rw [updB_not h.2, upd_ne _ _ h.1]
theorem updB_mem {f : Bxs} : ∀ {l : List (Nat × Box)} {b : Nat} {x : Box}, nodupb (wrOf l) = true → (b, x) ∈ l → updB f l b = some x
  | [], b, x, _, h => by simp at h
  | (c, y) :: r, b, x, hd, h => by
    simp only [wrOf, nodupb, andS_eq, notS_eq, Bool.and_eq_true, Bool.not_eq_true'] at hd
    show updB (upd f c (some y)) r b = some x
    rcases List.mem_cons.1 h with e | h
    · simp only [Prod.mk.injEq] at e
      obtain ⟨rfl, rfl⟩ := e
      rw [updB_not (fun hm => by rw [(memb_iff _ _).2 hm] at hd; simp at hd), upd_same]
    · exact updB_mem hd.2 h
theorem wrOf_mem : ∀ {l : List (Nat × Box)} {b : Nat}, b ∈ wrOf l ↔ ∃ x, (b, x) ∈ l
  | [], b => by simp [wrOf]
  | (c, y) :: r, b => by
    simp only [wrOf, List.mem_cons, wrOf_mem (l := r), Prod.mk.injEq]
    constructor
    · rintro (rfl | ⟨x, hx⟩)
      · exact ⟨y, .inl ⟨rfl, rfl⟩⟩
      · exact ⟨x, .inr hx⟩
    · rintro ⟨x, ⟨rfl, rfl⟩ | hx⟩
      · exact .inl rfl
      · exact .inr ⟨x, hx⟩
theorem wrOf_app (l m : List (Nat × Box)) : wrOf (l ++ m) = wrOf l ++ wrOf m := by induction l with | nil => rfl | cons p r ih => obtain ⟨b, x⟩ := p; simp [wrOf, ih]
def Two (nm : Nm) (xs : List C) (n : Nat) (k : BSk) (x x' : Box) : Prop :=
  x.ver = 0 ∧ x'.ver = (nm n).2 ∧ ((∃ t ks p, k = .var t ks ∧ x = .var 0 t (Sk.insts nm0 xs ks p).1 ∧ x' = .var (nm n).2 t (Sk.insts nm xs ks p).1) ∨ (∃ t es, k = .arr t ∧ x = .arr 0 t es ∧ x' = .arr (nm n).2 t es) ∨ ∃ t es, k = .mp t ∧ x = .mp 0 t es ∧ x' = .mp (nm n).2 t es)
mutual
theorem inst_pos (nm : Nm) (xs : List C) : ∀ (k : Sk) (p : Nat), (k.inst nm xs p).2 = (k.inst nm0 xs p).2
  | .un, _ => rfl
  | .d _, _ => rfl
  | .ow _, _ => rfl
  | .mp _, _ => rfl
  | .pt _ _, _ => rfl
  | .pe _ _, _ => rfl
  | .ag q, p => insts_pos nm xs q p
  | .tu q, p => insts_pos nm xs q p
  | .fn _ q, p => insts_pos nm xs q p
theorem insts_pos (nm : Nm) (xs : List C) : ∀ (ks : List Sk) (p : Nat), (Sk.insts nm xs ks p).2 = (Sk.insts nm0 xs ks p).2
  | [], _ => rfl
  | k :: r, p => by
    show (Sk.insts nm xs r (k.inst nm xs p).2).2 = (Sk.insts nm0 xs r (k.inst nm0 xs p).2).2
    rw [inst_pos nm xs k, insts_pos nm xs r]
end
theorem upsOf_ok (nm : Nm) (xs : List C) : ∀ (q : List (Nat × BSk)) (p : Nat) (f : Bxs), nodupb (wrOf (upsOf nm xs q p)) = true →
    (∀ n, tmHas q n = true → ∃ k x x', (n, k) ∈ q ∧ instBx nm0 xs q p f n = some x ∧ ((nm n).1, x') ∈ upsOf nm xs q p ∧ Two nm xs n k x x') ∧
    (∀ n, ¬ tmHas q n = true → instBx nm0 xs q p f n = f n) ∧
    (∀ b x', (b, x') ∈ upsOf nm xs q p → ∃ n, tmHas q n = true ∧ b = (nm n).1)
  | [], p, f, _ => ⟨fun n h => by simp [tmHas] at h, fun n _ => rfl, fun b x' h => by simp [upsOf] at h⟩
  | (m, bk) :: r, p, f, hd => by
    have key : ∀ (y y' : Box) (p2 : Nat), (instBx nm0 xs ((m, bk) :: r) p f = instBx nm0 xs r p2 (upd f m (some y))) → (upsOf nm xs ((m, bk) :: r) p = ((nm m).1, y') :: upsOf nm xs r p2) → Two nm xs m bk y y' →
        (∀ n, tmHas ((m, bk) :: r) n = true → ∃ k x x', (n, k) ∈ (m, bk) :: r ∧ instBx nm0 xs ((m, bk) :: r) p f n = some x ∧ ((nm n).1, x') ∈ upsOf nm xs ((m, bk) :: r) p ∧ Two nm xs n k x x') ∧
        (∀ n, ¬ tmHas ((m, bk) :: r) n = true → instBx nm0 xs ((m, bk) :: r) p f n = f n) ∧
        (∀ b x', (b, x') ∈ upsOf nm xs ((m, bk) :: r) p → ∃ n, tmHas ((m, bk) :: r) n = true ∧ b = (nm n).1) := by
      intro y y' p2 h1 h2 h3
      rw [h2] at hd
      simp only [wrOf, nodupb, andS_eq, notS_eq, Bool.and_eq_true, Bool.not_eq_true'] at hd
      obtain ⟨i1, i2, i3⟩ := upsOf_ok nm xs r p2 (upd f m (some y)) hd.2
      rw [h1, h2]
      refine ⟨fun n hn => ?_, fun n hn => ?_, fun b x' hm => ?_⟩
      · by_cases hr : tmHas r n = true
        · obtain ⟨k, x, x', q1, q2, q3, q4⟩ := i1 n hr
          exact ⟨k, x, x', List.mem_cons_of_mem _ q1, q2, List.mem_cons_of_mem _ q3, q4⟩
        · have : m = n := ((tmHas_cons _ _ _ _).1 hn).resolve_right hr
          subst this
          exact ⟨bk, y, y', List.mem_cons_self .., by rw [i2 m hr, upd_same], List.mem_cons_self .., h3⟩
      · have hn' := fun h => hn ((tmHas_cons _ _ _ _).2 h)
        rw [i2 n (fun h => hn' (.inr h)), upd_ne _ _ (fun h => hn' (.inl h.symm))]
      · rcases List.mem_cons.1 hm with e | hm
        · simp only [Prod.mk.injEq] at e
          exact ⟨m, (tmHas_cons _ _ _ _).2 (.inl rfl), e.1⟩
        · obtain ⟨n, hn, hb⟩ := i3 b x' hm
          exact ⟨n, (tmHas_cons _ _ _ _).2 (.inr hn), hb⟩
    cases bk with
    | var t ks =>
      refine key (.var 0 t (Sk.insts nm0 xs ks p).1) (.var (nm m).2 t (Sk.insts nm xs ks p).1) (Sk.insts nm xs ks p).2 ?_ rfl ⟨rfl, rfl, .inl ⟨t, ks, p, rfl, rfl, rfl⟩⟩
      show instBx nm0 xs r (Sk.insts nm0 xs ks p).2 _ = _
      rw [insts_pos nm]; rfl
    | arr t => exact key (.arr 0 t (xs.getD p .nil).L) (.arr (nm m).2 t (xs.getD p .nil).L) (p + 1) rfl rfl ⟨rfl, rfl, .inr (.inl ⟨t, _, rfl, rfl, rfl⟩)⟩
    | mp t => exact key (.mp 0 t (xs.getD p .nil).L) (.mp (nm m).2 t (xs.getD p .nil).L) (p + 1) rfl rfl ⟨rfl, rfl, .inr (.inr ⟨t, _, rfl, rfl, rfl⟩)⟩
theorem instSl_pos (nm : Nm) (xs : List C) : ∀ (q : List (Nat × Sk)) (p : Nat) (f f' : Slots), (instSl nm xs q p f).2 = (instSl nm0 xs q p f').2
  | [], p, f, f' => rfl
  | (d, k) :: r, p, f, f' => by
    show (instSl nm xs r (k.inst nm xs p).2 _).2 = (instSl nm0 xs r (k.inst nm0 xs p).2 _).2
    rw [inst_pos nm xs k]
    exact instSl_pos nm xs r _ _ _
theorem deads_ok {bx : Bxs} {out : List (Nat × BSk)} : ∀ {r : Ren}, (∀ n b, r.find n = some (some b) → ¬ tmHas out n = true → ∃ x, (b, Box.dead x) ∈ deads bx out r) ∧
    ∀ b x, (b, x) ∈ deads bx out r → ∃ v, x = .dead v ∧ (∀ y, bx b = some y → y.ver < v)
  | [] => ⟨fun n b h => by simp [Ren.find] at h, fun b x h => by simp [deads] at h⟩
  | (m, none) :: r => by
    obtain ⟨h1, h2⟩ := deads_ok (bx := bx) (out := out) (r := r)
    refine ⟨fun n b h hn => ?_, h2⟩
    rw [find_cons] at h
    split at h
    · simp at h
    · exact h1 n b h hn
  | (m, some c) :: r => by
    obtain ⟨h1, h2⟩ := deads_ok (bx := bx) (out := out) (r := r)
    cases ho : tmHas out m with
    | true =>
      have e : deads bx out ((m, some c) :: r) = deads bx out r := by simp [deads, ho, sif]
      rw [e]
      refine ⟨fun n b h hn => ?_, h2⟩
      rw [find_cons] at h
      split at h
      · rename_i e; subst e; exact absurd ho hn
      · exact h1 n b h hn
    | false =>
      have e : deads bx out ((m, some c) :: r) = (c, .dead ((match bx c with | some x => x.ver | none => 0) + 1)) :: deads bx out r := by
        show sif (tmHas out m) _ _ = _
        rw [ho]; rfl
      rw [e]
      refine ⟨fun n b h hn => ?_, fun b x h => ?_⟩
      · rw [find_cons] at h
        split at h
        · simp only [Option.some.injEq] at h; subst h; exact ⟨_, List.mem_cons_self ..⟩
        · obtain ⟨x, hx⟩ := h1 n b h hn
          exact ⟨x, List.mem_cons_of_mem _ hx⟩
      · rcases List.mem_cons.1 h with e | h
        · simp only [Prod.mk.injEq] at e
          obtain ⟨rfl, rfl⟩ := e
          exact ⟨_, rfl, fun y hy => by rw [hy]; exact Nat.lt_succ_self _⟩
        · exact h2 b x h
end
end Go.Ev
namespace Go.Ev
section
variable {P : Program} {T : Tys} {fr : Fr} {F F' : Nat → Prop} {w w' : World} {bx : Bxs} {θ θ' : Nat → Value}
def WrF (bx : Bxs) (θ : Nat → Value) (r : Ren) : Nat → Prop := fun g => ∃ n b y, r.find n = some (some b) ∧ bx b = some y ∧ y.live = true ∧ blkOf (θ b) = some g
theorem call_frame (hw : WR T fr F w bx θ) {r : Ren} {ups : List (Nat × Box)} (hnd : nodupb (wrOf ups) = true)
    (kos : w'.os = w.os) (ktp : w'.tape = w.tape) (kou : w'.output = w.output) (ksz : w.heap.size ≤ w'.heap.size) (kold : ∀ k, k < w.heap.size → ¬ WrF bx θ r k → w'.heap[k]? = w.heap[k]?)
    (H1 : ∀ b, ¬ b ∈ wrOf ups → θ' b = θ b) (H2 : ∀ n b, r.find n = some (some b) → b ∈ wrOf ups)
    (H3 : ∀ b x, (b, x) ∈ ups → x.live = true → RelB T F' w' (updB bx ups) θ' b x ∧ ∀ g, blkOf (θ' b) = some g → ¬ F' g ∧ g < w'.heap.size ∧ (w.heap.size ≤ g ∨ WrF bx θ r g))
    (H4 : ∀ b x y, (b, x) ∈ ups → bx b = some y → y.ver ≤ x.ver ∧ (y.ver = x.ver → y.same x ∧ θ' b = θ b))
    (H5 : ∀ b b' x x' g, (b, x) ∈ ups → (b', x') ∈ ups → x.live = true → x'.live = true → blkOf (θ' b) = some g → blkOf (θ' b') = some g → b = b')
    (c1 : ∀ k, F k → F' k) (c2 : ∀ k, F' k → F k ∨ w.heap.size ≤ k ∨ WrF bx θ r k) (c3 : ∀ k, F' k → k < w'.heap.size) :
    WR T fr F' w' (updB bx ups) θ' ∧ Mv F w bx θ F' w' (updB bx ups) θ' := by
  have hFw : ∀ k, F k → ¬ WrF bx θ r k := by
    rintro k hk ⟨n, b, y, h1, h2, h3, h4⟩
    exact (hw.out b y k h2 h3 h4).1 hk
  have hold : ∀ b y, ¬ b ∈ wrOf ups → bx b = some y → y.live = true → ∀ g, blkOf (θ b) = some g → ¬ WrF bx θ r g := by
    rintro b y hb hy hl g hg ⟨n, c, z, h1, h2, h3, h4⟩
    have := hw.disj b c y z g hy h2 hl h3 hg h4
    subst this
    exact hb (H2 n b h1)
  have m : Mv F w bx θ F' w' (updB bx ups) θ' := by
    refine ⟨c1, fun k hk => kold k (hw.lt k hk) (hFw k hk), fun b x hx => ?_⟩
    by_cases hb : b ∈ wrOf ups
    · obtain ⟨x', hx'⟩ := wrOf_mem.1 hb
      exact ⟨x', updB_mem hnd hx', H4 b x' x hx' hx⟩
    · exact ⟨x, by rw [updB_not hb]; exact hx, Nat.le_refl _, fun _ => ⟨x.same_refl, H1 b hb⟩⟩
  have hget : ∀ b x, updB bx ups b = some x → (b, x) ∈ ups ∨ (¬ b ∈ wrOf ups ∧ bx b = some x) := by
    intro b x hx
    by_cases hb : b ∈ wrOf ups
    · obtain ⟨x', hx'⟩ := wrOf_mem.1 hb
      rw [updB_mem hnd hx'] at hx
      obtain rfl := Option.some.inj hx
      exact .inl hx'
    · exact .inr ⟨hb, by rw [updB_not hb] at hx; exact hx⟩
  have hwr : ∀ g, WrF bx θ r g → fr.w0.heap.size ≤ g ∨ fr.wr g := by
    rintro g ⟨n, b, y, h1, h2, h3, h4⟩
    exact (hw.out b y g h2 h3 h4).2.2
  refine ⟨⟨?_, ?_, ?_, c3, ?_, fun k hk => c1 k (hw.sub k hk), ?_, ?_⟩, m⟩
  · intro b x hx
    rcases hget b x hx with h | ⟨hb, h⟩
    · cases hl : x.live with
      | true => exact (H3 b x h hl).1
      | false => cases x <;> first | trivial | simp [Box.live] at hl
    · cases hl : x.live with
      | true => exact (hw.box b x h).mv m (H1 b hb) fun g hg => kold g (hw.out b x g h hl hg).2.1 (hold b x hb h hl g hg)
      | false => cases x <;> first | trivial | simp [Box.live] at hl
  · intro b b' x x' g hx hx' hl hl' hg hg'
    rcases hget b x hx with h | ⟨hb, h⟩
    · rcases hget b' x' hx' with h' | ⟨hb', h'⟩
      · exact H5 b b' x x' g h h' hl hl' hg hg'
      · rw [H1 b' hb'] at hg'
        rcases ((H3 b x h hl).2 g hg).2.2 with q | q
        · have := (hw.out b' x' g h' hl' hg').2.1; omega
        · exact absurd q (hold b' x' hb' h' hl' g hg')
    · rw [H1 b hb] at hg
      rcases hget b' x' hx' with h' | ⟨hb', h'⟩
      · rcases ((H3 b' x' h' hl').2 g hg').2.2 with q | q
        · have := (hw.out b x g h hl hg).2.1; omega
        · exact absurd q (hold b x hb h hl g hg)
      · rw [H1 b' hb'] at hg'
        exact hw.disj b b' x x' g h h' hl hl' hg hg'
  · intro b x g hx hl hg
    rcases hget b x hx with h | ⟨hb, h⟩
    · obtain ⟨q1, q2, q3⟩ := (H3 b x h hl).2 g hg
      refine ⟨q1, q2, ?_⟩
      rcases q3 with q | q
      · exact .inl (Nat.le_trans hw.keep.size q)
      · exact hwr g q
    · rw [H1 b hb] at hg
      obtain ⟨q1, q2, q3⟩ := hw.out b x g h hl hg
      refine ⟨fun hF => ?_, by omega, q3⟩
      rcases c2 g hF with q | q | q
      · exact q1 q
      · omega
      · exact hold b x hb h hl g hg q
  · refine hw.keep.next kos ktp kou ksz fun k h1 h2 => kold k (Nat.lt_of_lt_of_le h1 hw.keep.size) fun h => ?_
    rcases hwr k h with q | q
    · omega
    · exact h2 q
  · intro k hk
    rcases c2 k hk with q | q | q
    · exact hw.new k q
    · exact .inr (.inl (Nat.le_trans hw.keep.size q))
    · exact .inr (hwr k q)
  · intro n hn
    obtain ⟨x, h1, h2⟩ := hw.stay n hn
    obtain ⟨y, h3, h4, h5⟩ := m.box n x h1
    exact ⟨y, h3, fun e => by rw [(h5 (by omega)).2]; exact h2 (by omega)⟩
theorem slots_rel {vs : List V} {us : List Value} (hl : us.length = vs.length) (hr : ∀ (i : Nat) (x : V) (v : Value), vs[i]? = some x → us[i]? = some v → RelV T F w bx θ x v) : ∀ d, RelV T F w bx θ (slotsOf vs d) (us.getD d undef) := by
  intro d
  unfold slotsOf
  rw [nth_eq]
  simp only [List.getD_eq_getElem?_getD]
  rcases Nat.lt_or_ge d vs.length with h | h
  · rw [List.getElem?_eq_getElem h, List.getElem?_eq_getElem (by omega)]
    exact hr d _ _ (List.getElem?_eq_getElem h) (List.getElem?_eq_getElem (by omega))
  · rw [List.getElem?_eq_none h, List.getElem?_eq_none (by omega)]
    exact .un _
theorem typed_mem {n : Nat} {k : BSk} : ∀ {l : List (Nat × BSk)}, typed n k l = true → ∀ k', (n, k') ∈ l → bskSame k k' = true
  | [], _, k', h => by simp at h
  | (m, q) :: r, ht, k', h => by
    simp only [typed, andS_eq, orS_eq, notS_eq, Bool.and_eq_true, Bool.or_eq_true, Bool.not_eq_true'] at ht
    rcases List.mem_cons.1 h with e | h
    · simp only [Prod.mk.injEq] at e
      obtain ⟨rfl, rfl⟩ := e
      rcases ht.1 with q | q
      · rw [Nat.beq_refl] at q; simp at q
      · exact q
    · exact typed_mem ht.2 k' h
theorem stayT_mem {inB : List (Nat × BSk)} {ip : List Nat} : ∀ {out : List (Nat × BSk)}, stayT inB ip out = true → ∀ n k k', n ∈ ip → (n, k) ∈ out → (n, k') ∈ inB → bskSame k k' = true
  | [], _, n, k, k', _, h, _ => by simp at h
  | (m, q) :: r, ht, n, k, k', hi, h, hin => by
    simp only [stayT, andS_eq, orS_eq, notS_eq, Bool.and_eq_true, Bool.or_eq_true, Bool.not_eq_true'] at ht
    rcases List.mem_cons.1 h with e | h
    · simp only [Prod.mk.injEq] at e
      obtain ⟨rfl, rfl⟩ := e
      rcases ht.1 with q | q
      · rw [(memb_iff _ _).2 hi] at q; simp at q
      · exact typed_mem q k' hin
    · exact stayT_mem ht.2 n k k' hi h hin
theorem instBx_type (xs : List C) : ∀ (q : List (Nat × BSk)) (p : Nat) (f : Bxs) (n : Nat) (x : Box), tmHas q n = true → instBx nm0 xs q p f n = some x →
    ∃ k, (n, k) ∈ q ∧ ((∃ t ks cells, k = .var t ks ∧ x = .var 0 t cells) ∨ (∃ t es, k = .arr t ∧ x = .arr 0 t es) ∨ ∃ t es, k = .mp t ∧ x = .mp 0 t es)
  | [], p, f, n, x, h, _ => by simp [tmHas] at h
  | (m, bk) :: r, p, f, n, x, h, hx => by
    by_cases hr : tmHas r n = true
    · cases bk with
      | var t ks =>
        obtain ⟨k, h1, h2⟩ := instBx_type xs r _ _ n x hr (show instBx nm0 xs r (Sk.insts nm0 xs ks p).2 _ n = some x from hx)
        exact ⟨k, List.mem_cons_of_mem _ h1, h2⟩
      | arr t =>
        obtain ⟨k, h1, h2⟩ := instBx_type xs r _ _ n x hr (show instBx nm0 xs r (p + 1) _ n = some x from hx)
        exact ⟨k, List.mem_cons_of_mem _ h1, h2⟩
      | mp t =>
        obtain ⟨k, h1, h2⟩ := instBx_type xs r _ _ n x hr (show instBx nm0 xs r (p + 1) _ n = some x from hx)
        exact ⟨k, List.mem_cons_of_mem _ h1, h2⟩
    · have hm : m = n := ((tmHas_cons _ _ _ _).1 h).resolve_right hr
      subst hm
      have hno : ∀ (l : List (Nat × BSk)) (p : Nat) (f : Bxs), ¬ tmHas l m = true → instBx nm0 xs l p f m = f m := by
        intro l
        induction l with
        | nil => intro p f _; rfl
        | cons a r ih =>
          obtain ⟨c, bk⟩ := a
          intro p f hn
          have hn' := fun h => hn ((tmHas_cons _ _ _ _).2 h)
          cases bk with
          | var t ks =>
            show instBx nm0 xs r (Sk.insts nm0 xs ks p).2 _ m = _
            exact (ih _ _ (fun h => hn' (.inr h))).trans (upd_ne f (d := c) _ (fun h => hn' (.inl h.symm)))
          | arr t =>
            show instBx nm0 xs r (p + 1) _ m = _
            exact (ih _ _ (fun h => hn' (.inr h))).trans (upd_ne f (d := c) _ (fun h => hn' (.inl h.symm)))
          | mp t =>
            show instBx nm0 xs r (p + 1) _ m = _
            exact (ih _ _ (fun h => hn' (.inr h))).trans (upd_ne f (d := c) _ (fun h => hn' (.inl h.symm)))
      cases bk with
      | var t ks =>
        replace hx : instBx nm0 xs r (Sk.insts nm0 xs ks p).2 (upd f m (some (.var 0 t (Sk.insts nm0 xs ks p).1))) m = some x := hx
        rw [hno r _ _ hr, upd_same] at hx
        obtain rfl := Option.some.inj hx
        exact ⟨_, List.mem_cons_self .., .inl ⟨t, ks, _, rfl, rfl⟩⟩
      | arr t =>
        replace hx : instBx nm0 xs r (p + 1) (upd f m (some (.arr 0 t (xs.getD p .nil).L))) m = some x := hx
        rw [hno r _ _ hr, upd_same] at hx
        obtain rfl := Option.some.inj hx
        exact ⟨_, List.mem_cons_self .., .inr (.inl ⟨t, _, rfl, rfl⟩)⟩
      | mp t =>
        replace hx : instBx nm0 xs r (p + 1) (upd f m (some (.mp 0 t (xs.getD p .nil).L))) m = some x := hx
        rw [hno r _ _ hr, upd_same] at hx
        obtain rfl := Option.some.inj hx
        exact ⟨_, List.mem_cons_self .., .inr (.inr ⟨t, _, rfl, rfl⟩)⟩
end
end Go.Ev
namespace Go.Ev
section
variable {P : Program} {T : Tys} {fr : Fr} {F : Nat → Prop} {w : World} {bx : Bxs} {θ : Nat → Value}
theorem nodupb_left {l m : List Nat} (h : nodupb (l ++ m) = true) : nodupb l = true := by
  induction l with
  | nil => rfl
  | cons a r ih =>
    simp only [List.cons_append, nodupb, andS_eq, notS_eq, Bool.and_eq_true, Bool.not_eq_true'] at h ⊢
    refine ⟨?_, ih h.2⟩
    cases hm : memb r a with
    | false => rfl
    | true =>
      have : a ∈ r ++ m := List.mem_append_left _ ((memb_iff _ _).1 hm)
      rw [(memb_iff _ _).2 this] at h
      simp at h
theorem upsOf_mem {nm : Nm} {xs : List C} : ∀ {q : List (Nat × BSk)} {p : Nat} {n : Nat}, tmHas q n = true → (nm n).1 ∈ wrOf (upsOf nm xs q p)
  | [], p, n, h => by simp [tmHas] at h
  | (m, k) :: r, p, n, h => by
    rcases (tmHas_cons _ _ _ _).1 h with rfl | h2
    · cases k <;> exact List.mem_cons_self ..
    · cases k <;> exact List.mem_cons_of_mem _ (upsOf_mem h2)
theorem upsOf_inj {nm : Nm} {xs : List C} : ∀ {q : List (Nat × BSk)} {p : Nat}, nodupb (wrOf (upsOf nm xs q p)) = true → ∀ {n n' : Nat}, tmHas q n = true → tmHas q n' = true → (nm n).1 = (nm n').1 → n = n'
  | [], p, hd, n, n', h, _, _ => by simp [tmHas] at h
  | (m, k) :: r, p, hd, n, n', h, h', he => by
    have key : ∀ (p2 : Nat) (y : Box), upsOf nm xs ((m, k) :: r) p = ((nm m).1, y) :: upsOf nm xs r p2 → n = n' := by
      intro p2 y e
      rw [e] at hd
      simp only [wrOf, nodupb, andS_eq, notS_eq, Bool.and_eq_true, Bool.not_eq_true'] at hd
      have hno : ∀ q, tmHas r q = true → (nm q).1 ≠ (nm m).1 := fun q hq he => by
        have := upsOf_mem (nm := nm) (xs := xs) (p := p2) hq
        rw [he, ← memb_iff] at this
        rw [this] at hd; simp at hd
      rcases (tmHas_cons _ _ _ _).1 h with h1 | h1
      · rcases (tmHas_cons _ _ _ _).1 h' with h2 | h2
        · exact h1.symm.trans h2
        · subst h1; exact absurd he.symm (hno _ h2)
      · rcases (tmHas_cons _ _ _ _).1 h' with h2 | h2
        · subst h2; exact absurd he (hno _ h1)
        · exact upsOf_inj hd.2 h1 h2 he
    cases k with
    | var t ks => exact key _ _ rfl
    | arr t => exact key _ _ rfl
    | mp t => exact key _ _ rfl
theorem nodup_val {l : List (Nat × Box)} (h : nodupb (wrOf l) = true) {b : Nat} {x x' : Box} (h1 : (b, x) ∈ l) (h2 : (b, x') ∈ l) : x = x' := by
  have a := updB_mem (f := fun _ => none) h h1
  have b := updB_mem (f := fun _ => none) h h2
  rw [a] at b
  exact Option.some.inj b
open Classical in
noncomputable def thCall (θ θ1 : Nat → Value) (nm : Nm) (q : List (Nat × BSk)) : Nat → Value := fun b => if h : ∃ n, tmHas q n = true ∧ b = (nm n).1 then θ1 h.choose else θ b
theorem thCall_in {θ θ1 : Nat → Value} {nm : Nm} {q : List (Nat × BSk)} {xs : List C} {p n : Nat} (hd : nodupb (wrOf (upsOf nm xs q p)) = true) (hn : tmHas q n = true) : thCall θ θ1 nm q (nm n).1 = θ1 n := by
  have h : ∃ n', tmHas q n' = true ∧ (nm n).1 = (nm n').1 := ⟨n, hn, rfl⟩
  unfold thCall
  rw [dif_pos h, ← upsOf_inj hd hn h.choose_spec.1 h.choose_spec.2]
theorem thCall_out {θ θ1 : Nat → Value} {nm : Nm} {q : List (Nat × BSk)} {xs : List C} {p b : Nat} (h : ¬ b ∈ wrOf (upsOf nm xs q p)) : thCall θ θ1 nm q b = θ b := by
  unfold thCall
  rw [dif_neg]
  rintro ⟨n, hn, rfl⟩
  exact h (upsOf_mem hn)
theorem nmOf_some {ip : List Nat} {r : Ren} {out : List (Nat × BSk)} {d n b : Nat} (hn : tmHas out n = true) (hf : r.find n = some (some b)) : (nmOf ip r out bx d n).1 = b ∧ ∀ y, bx b = some y → (nmOf ip r out bx d n).2 = if n ∈ ip then y.ver else y.ver + 1 := by
  unfold nmOf
  rw [hn, sif_true]
  simp only [hf]
  cases hb : bx b with
  | none => exact ⟨rfl, fun y h => by simp at h⟩
  | some x =>
    refine ⟨rfl, fun y h => ?_⟩
    obtain rfl := Option.some.inj h
    show sif (memb ip n) _ _ = _
    cases hm : memb ip n with
    | true => rw [if_pos ((memb_iff _ _).1 hm)]; rfl
    | false =>
      rw [if_neg (fun h => by rw [(memb_iff _ _).2 h] at hm; simp at hm)]; rfl
theorem nmOf_none {ip : List Nat} {r : Ren} {out : List (Nat × BSk)} {d n : Nat} (hn : tmHas out n = true) (hf : ∀ b, r.find n ≠ some (some b)) : (nmOf ip r out bx d n).1 = callName d n ∧ (nmOf ip r out bx d n).2 = verOf bx (callName d n) := by
  unfold nmOf
  rw [hn, sif_true]
  rcases hr : r.find n with _ | _ | b
  · exact ⟨rfl, rfl⟩
  · exact ⟨rfl, rfl⟩
  · exact absurd hr (hf b)
theorem callF_ok {g : FuncId} {fs : FS} (hX : FSOk P T g fs) (hw : WR T fr F w bx θ) {vs : List V} {args : Array Value} (hl : args.toList.length = vs.length)
    (hr : ∀ (i : Nat) (x : V) (v : Value), vs[i]? = some x → args.toList[i]? = some v → RelV T F w bx θ x v) {d : Nat} {k : Eff → List Nat → R} {r : Out} (h : callF T fs d vs bx k = some r) :
    ∃ e rd, k e rd = some r ∧ Calls P g args w fun en w' => ∃ v, en = .returned v ∧ Aft T fr F w bx θ e v w' := by
  unfold callF at h
  split at h
  · simp at h
  rename_i e he
  cases hb : Nat.beq (len vs) fs.n with
  | false => simp [hb, sif] at he
  | true =>
  rw [hb, sif_true] at he
  rw [len_eq] at hb
  have hn := Nat.eq_of_beq_eq_true hb
  cases hc : andS (orS (isNil e.fz) fs.outT.flat) (andS (stayT fs.inT.bx fs.ip fs.outT.bx) (allHas fs.inT.bx fs.ip)) with
  | false => simp [hc, sif] at h
  | true =>
  rw [hc, sif_true] at h
  simp only [andS_eq, orS_eq, Bool.and_eq_true, Bool.or_eq_true] at hc
  obtain ⟨hfz, hst, hall⟩ := hc
  unfold bindF at h
  split at h
  · rename_i ys hys
    cases hnd : nodupb (wrOf (outUps fs d e.r bx ys)) with
    | false =>
      replace h : sif (nodupb (wrOf (outUps fs d e.r bx ys))) (k ⟨outV fs d e.r bx ys, outUps fs d e.r bx ys⟩ (app (names e.r) (app e.fz (wrOf (outUps fs d e.r bx ys))))) none = some r := h
      simp [hnd, sif] at h
    | true =>
    replace h : sif (nodupb (wrOf (outUps fs d e.r bx ys))) (k ⟨outV fs d e.r bx ys, outUps fs d e.r bx ys⟩ (app (names e.r) (app e.fz (wrOf (outUps fs d e.r bx ys))))) none = some r := h
    rw [hnd, sif_true] at h
    have hinj := tm_ext_ok hw (slots_rel hl hr) he
    have hwc : WR T ⟨w, WrF bx θ e.r, FzF F bx θ e.fz, thOf θ e.r, fs.ip⟩ (FzF F bx θ e.fz) w (fs.inT.inj (rev e.xs [])).bx (thOf θ e.r) := by
      refine ⟨hinj.box, hinj.disj, fun n x g hx hl hg => ?_, FzF_lt hw, ⟨rfl, rfl, rfl, Nat.le_refl _, fun _ _ _ => rfl⟩, fun _ h => h, fun _ h => .inl h, fun n hn => ?_⟩
      · obtain ⟨h1, b, y, q1, q2, q3, q4⟩ := hinj.out n x g hx hl hg
        exact ⟨h1, (hw.out b y g q2 q3 q4).2.1, .inr ⟨n, b, y, q1, q2, q3, q4⟩⟩
      · obtain ⟨x', h1, _⟩ := hinj.has n (allHas_mem hall n hn)
        exact ⟨x', h1, fun _ => rfl⟩
    have hcall := hX.calls w _ _ _ (rev e.xs []) ys args hwc (by simpa [hn] using hl) (fun q _ => by simpa using hinj.sl q) hys
    refine ⟨_, _, h, Calls.mono hcall ?_⟩
    rintro en w' ⟨v, F1, θ1, rfl, hw1, hv1, hkept⟩
    refine ⟨v, rfl, ?_⟩
    clear h hcall hX
    have hpos : (instSl (nmOf fs.ip e.r fs.outT.bx bx d) ys fs.outT.sl 0 fun _ => .un).2 = (instSl nm0 ys fs.outT.sl 0 fun _ => .un).2 := instSl_pos _ _ _ _ _ _
    have hups : outUps fs d e.r bx ys = upsOf (nmOf fs.ip e.r fs.outT.bx bx d) ys fs.outT.bx (instSl nm0 ys fs.outT.sl 0 fun _ => .un).2 ++ deads bx fs.outT.bx e.r := by
      unfold outUps; rw [app_eq, hpos]
    have hbo : (fs.outT.inj ys).bx = instBx nm0 ys fs.outT.bx (instSl nm0 ys fs.outT.sl 0 fun _ => .un).2 fun _ => none := rfl
    show Aft T fr F w bx θ ⟨outV fs d e.r bx ys, outUps fs d e.r bx ys⟩ v w'
    generalize hnm : nmOf fs.ip e.r fs.outT.bx bx d = nm at hups
    generalize hp : (instSl nm0 ys fs.outT.sl 0 fun _ => .un).2 = p at hups hbo
    have hnd' := hnd
    rw [hups, wrOf_app] at hnd'
    have hndA := nodupb_left hnd'
    obtain ⟨U1, U2, U3⟩ := upsOf_ok nm ys fs.outT.bx p (fun _ => none) hndA
    rw [← hbo] at U1 U2
    obtain ⟨D1, D2⟩ := deads_ok (bx := bx) (out := fs.outT.bx) (r := e.r)
    have hin : ∀ b x, (b, x) ∈ outUps fs d e.r bx ys → ((b, x) ∈ upsOf nm ys fs.outT.bx p ∧ ∃ n k y, tmHas fs.outT.bx n = true ∧ b = (nm n).1 ∧ (n, k) ∈ fs.outT.bx ∧ (fs.outT.inj ys).bx n = some y ∧ Two nm ys n k y x) ∨ ∃ v, x = .dead v ∧ ∀ y, bx b = some y → y.ver < v := by
      intro b x hm
      rw [hups] at hm
      rcases List.mem_append.1 hm with hm | hm
      · obtain ⟨n, h1, h2⟩ := U3 b x hm
        obtain ⟨k, y, x', q1, q2, q3, q4⟩ := U1 n h1
        rw [← h2] at q3
        obtain rfl := nodup_val hndA hm q3
        exact .inl ⟨hm, n, k, y, h1, h2, q1, q2, q4⟩
      · exact .inr (D2 b x hm)
    have hmemU : ∀ n, tmHas fs.outT.bx n = true → ∃ k y x, (n, k) ∈ fs.outT.bx ∧ (fs.outT.inj ys).bx n = some y ∧ ((nm n).1, x) ∈ outUps fs d e.r bx ys ∧ Two nm ys n k y x := by
      intro n hn
      obtain ⟨k, y, x', q1, q2, q3, q4⟩ := U1 n hn
      exact ⟨k, y, x', q1, q2, by rw [hups]; exact List.mem_append_left _ q3, q4⟩
    have hin' : ∀ n, tmHas fs.outT.bx n = true → thCall θ θ1 nm fs.outT.bx (nm n).1 = θ1 n := fun n hn => thCall_in hndA hn
    have H1 : ∀ b, ¬ b ∈ wrOf (outUps fs d e.r bx ys) → thCall θ θ1 nm fs.outT.bx b = θ b := by
      intro b hb
      rw [hups, wrOf_app] at hb
      exact thCall_out (fun h => hb (List.mem_append_left _ h))
    have H2 : ∀ n b, e.r.find n = some (some b) → b ∈ wrOf (outUps fs d e.r bx ys) := by
      intro n b hf
      by_cases ho : tmHas fs.outT.bx n = true
      · obtain ⟨k, y, x, _, _, q3, _⟩ := hmemU n ho
        have : (nm n).1 = b := by rw [← hnm]; exact (nmOf_some ho hf).1
        rw [this] at q3
        exact wrOf_mem.2 ⟨x, q3⟩
      · obtain ⟨x, hx⟩ := D1 n b hf ho
        rw [hups, wrOf_app]
        exact List.mem_append_right _ (wrOf_mem.2 ⟨_, hx⟩)
    have H4 : ∀ b x y, (b, x) ∈ outUps fs d e.r bx ys → bx b = some y → y.ver ≤ x.ver ∧ (y.ver = x.ver → y.same x ∧ thCall θ θ1 nm fs.outT.bx b = θ b) := by
      intro b x y hm hy
      rcases hin b x hm with ⟨_, n, kk, z, h1, rfl, h3, h4, h5⟩ | ⟨v, rfl, hv⟩
      · by_cases hex : ∃ b, e.r.find n = some (some b)
        · obtain ⟨b0, hf⟩ := hex
          obtain ⟨g1, g2⟩ := nmOf_some (bx := bx) (ip := fs.ip) (d := d) h1 hf
          rw [hnm] at g1 g2
          rw [g1] at hy
          have g3 := g2 y hy
          have hxv : x.ver = (nm n).2 := h5.2.1
          by_cases hip : n ∈ fs.ip
          · rw [if_pos hip] at g3
            refine ⟨by omega, fun _ => ?_⟩
            have hth : θ1 n = θ b0 := by rw [hkept n hip ⟨z, h4⟩]; simp [thOf, hf]
            refine ⟨?_, by rw [hin' n h1, g1, hth]⟩
            obtain ⟨x1, p1, p2, p3⟩ := hinj.has n (allHas_mem hall n hip)
            obtain ⟨k1, t1, t2⟩ := instBx_type _ _ _ _ n x1 (allHas_mem hall n hip) p1
            have hsame := stayT_mem hst n kk k1 hip h3 t1
            rcases p3 with ⟨b1, y1, r1, r2, r3⟩ | ⟨r1, _⟩
            · rw [hf] at r1
              simp only [Option.some.injEq] at r1
              subst r1
              rw [hy] at r2; obtain rfl := Option.some.inj r2
              have hbx1 := hinj.box n x1 p1
              have hby := hw.box _ _ hy
              have hbz := hw1.box n z h4
              rcases h5.2.2 with ⟨t, ks, p', rfl, rfl, rfl⟩ | ⟨t, es, rfl, rfl, rfl⟩ | ⟨t, es, rfl, rfl, rfl⟩
              · rcases t2 with ⟨t0, ks0, cells0, rfl, rfl⟩ | ⟨t0, es0, rfl, rfl⟩ | ⟨t0, es0, rfl, rfl⟩
                · have := Nat.eq_of_beq_eq_true hsame; subst this
                  cases y with
                  | var v t' cells =>
                    obtain ⟨_, _, _, d1, _, _, _, e1, e2, _⟩ := hbx1
                    obtain ⟨_, _, _, d2, _, _, _, e3, e4, _⟩ := hbz
                    rw [e1] at e3; obtain rfl := Option.some.inj e3
                    replace r3 : cells.length = cells0.length := r3
                    show cells.length = _
                    rw [insts_len] at e4 ⊢
                    omega
                  | _ => exact r3.elim
                · simp [bskSame] at hsame
                · simp [bskSame] at hsame
              · rcases t2 with ⟨t0, ks0, cells0, rfl, rfl⟩ | ⟨t0, es0, rfl, rfl⟩ | ⟨t0, es0, rfl, rfl⟩
                · simp [bskSame] at hsame
                · have := Nat.eq_of_beq_eq_true hsame; subst this
                  cases y with
                  | arr v t' es' =>
                    obtain ⟨rfl, r4⟩ := r3
                    obtain ⟨_, A1, c1, _, e1, _⟩ := hby
                    obtain ⟨_, A2, c2, _, e2, _⟩ := hbz
                    rw [hth, e1] at e2
                    simp only [Value.slice.injEq] at e2
                    exact ⟨rfl, e2.2.1⟩
                  | _ => exact r3.elim
                · simp [bskSame] at hsame
              · rcases t2 with ⟨t0, ks0, cells0, rfl, rfl⟩ | ⟨t0, es0, rfl, rfl⟩ | ⟨t0, es0, rfl, rfl⟩
                · simp [bskSame] at hsame
                · simp [bskSame] at hsame
                · have := Nat.eq_of_beq_eq_true hsame; subst this
                  cases y with
                  | mp v t' es' => exact r3
                  | _ => exact r3.elim
            · rw [hf] at r1; simp at r1
          · rw [if_neg hip] at g3
            exact ⟨by omega, fun h => by omega⟩
        · obtain ⟨g1, g2⟩ := nmOf_none (bx := bx) (ip := fs.ip) (d := d) h1 (fun b hb => hex ⟨b, hb⟩)
          rw [hnm] at g1 g2
          have hxv : x.ver = (nm n).2 := h5.2.1
          rw [g1] at hy
          have := lt_verOf hy
          exact ⟨by omega, fun h => by omega⟩
      · have := hv y hy
        exact ⟨Nat.le_of_lt this, fun h => by simp only [Box.ver] at h this; omega⟩
    have H5 : ∀ b b' x x' g, (b, x) ∈ outUps fs d e.r bx ys → (b', x') ∈ outUps fs d e.r bx ys → x.live = true → x'.live = true → blkOf (thCall θ θ1 nm fs.outT.bx b) = some g → blkOf (thCall θ θ1 nm fs.outT.bx b') = some g → b = b' := by
      intro b b' x x' g hm hm' hlv hlv' hg hg'
      rcases hin b x hm with ⟨_, n, kk, z, h1, rfl, h3, h4, h5⟩ | ⟨v, rfl, hv⟩
      · rcases hin b' x' hm' with ⟨_, n', kk', z', h1', rfl, h3', h4', h5'⟩ | ⟨v, rfl, hv⟩
        · rw [hin' n h1] at hg
          rw [hin' n' h1'] at hg'
          have hz : z.live = true := by rcases h5.2.2 with ⟨t, ks, p', _, rfl, _⟩ | ⟨t, es, _, rfl, _⟩ | ⟨t, es, _, rfl, _⟩ <;> rfl
          have hz' : z'.live = true := by rcases h5'.2.2 with ⟨t, ks, p', _, rfl, _⟩ | ⟨t, es, _, rfl, _⟩ | ⟨t, es, _, rfl, _⟩ <;> rfl
          rw [hw1.disj n n' z z' g h4 h4' hz hz' hg hg']
        · simp [Box.live] at hlv'
      · simp [Box.live] at hlv
    have hk := hw1.keep
    rcases hfz with hfz | hflat
    ·
      have hfz0 : e.fz = [] := by
        cases hz : e.fz with
        | nil => rfl
        | cons => rw [hz] at hfz; simp [isNil] at hfz
      have hFz : ∀ k, FzF F bx θ e.fz k → F k := by
        rintro k (h | ⟨b, x, h1, _⟩)
        · exact h
        · rw [hfz0] at h1; simp at h1
      have hRn : Rnm F1 w' (fs.outT.inj ys).bx θ1 nm F1 (updB bx (outUps fs d e.r bx ys)) (thCall θ θ1 nm fs.outT.bx) := by
        refine ⟨fun _ h => h, fun n x hx => ?_⟩
        have ho : tmHas fs.outT.bx n = true := by
          by_cases ho : tmHas fs.outT.bx n = true
          · exact ho
          · rw [U2 n ho] at hx; simp at hx
        obtain ⟨kk, y, x', q1, q2, q3, q4⟩ := hmemU n ho
        rw [hx] at q2; obtain rfl := Option.some.inj q2
        refine ⟨q4.1, x', updB_mem hnd q3, q4.2.1, ?_, hin' n ho⟩
        rcases q4.2.2 with ⟨t, ks, p', _, rfl, rfl⟩ | ⟨t, es, _, rfl, rfl⟩ | ⟨t, es, _, rfl, rfl⟩
        · show List.length _ = List.length _
          rw [insts_len, insts_len]
        · exact ⟨rfl, rfl⟩
        · rfl
      have hframe := call_frame (F' := F1) (w' := w') (θ' := thCall θ θ1 nm fs.outT.bx) hw hnd hk.os hk.tape hk.output hk.size hk.old H1 H2
        (fun b x hm hlv => by
          rcases hin b x hm with ⟨_, n, kk, z, h1, rfl, h3, h4, h5⟩ | ⟨v, rfl, hv⟩
          · rw [hin' n h1]
            have hz : z.live = true := by rcases h5.2.2 with ⟨t, ks, p', _, rfl, _⟩ | ⟨t, es, _, rfl, _⟩ | ⟨t, es, _, rfl, _⟩ <;> rfl
            refine ⟨?_, fun g hg => hw1.out n z g h4 hz hg⟩
            have hbz := hw1.box n z h4
            rcases h5.2.2 with ⟨t, ks, p', _, rfl, rfl⟩ | ⟨t, es, _, rfl, rfl⟩ | ⟨t, es, _, rfl, rfl⟩
            · obtain ⟨g, cs, te, dd, q1, q2, q3, q4, q5, q6⟩ := hbz
              rw [insts_len] at q3 q5
              refine ⟨g, cs, te, dd, by rw [hin' n h1]; exact q1, q2, by rw [insts_len]; exact q3, q4, by rw [insts_len]; exact q5, fun i y u a1 a2 => ?_⟩
              exact (rnms_ok hRn ys ks p').2 cs.toList (fun i y u b1 b2 => q6 i y u b1 (by simpa using b2)) i y u a1 (by simpa using a2)
            · obtain ⟨dd, A, cap, q1, q2, q3⟩ := hbz
              exact ⟨dd, A, cap, q1, by rw [hin' n h1]; exact q2, q3⟩
            · obtain ⟨q, arr, clk, dd, ct, q1, q2⟩ := hbz
              exact ⟨q, arr, clk, dd, ct, by rw [hin' n h1]; exact q1, q2⟩
          · simp [Box.live] at hlv) H4 H5 (fun k hk => hw1.sub k (.inl hk)) (fun k hk => (hw1.new k hk).imp (hFz k) id) hw1.lt
      refine ⟨F1, _, hframe.1, hframe.2, ?_⟩
      have := (rnmSl_ok hRn ys fs.outT.sl 0 (fun _ => .un) (fun _ => .un) (fun d v _ => .un v)).2 0 v hv1
      show RelV T F1 w' _ _ (outV fs d e.r bx ys) v
      unfold outV
      rw [hnm]
      exact this
    ·
      simp only [Tm.flat, andS_eq, Bool.and_eq_true] at hflat
      have hbx0 : fs.outT.bx = [] := by
        have := hflat.1
        split at this
        · assumption
        · simp at this
      have hframe := call_frame (F' := F) (w' := w') (θ' := thCall θ θ1 nm fs.outT.bx) hw hnd hk.os hk.tape hk.output hk.size hk.old H1 H2
        (fun b x hm hlv => by
          rcases hin b x hm with ⟨_, n, kk, z, h1, rfl, h3, h4, h5⟩ | ⟨v, rfl, hv⟩
          · rw [hbx0] at h1; simp [tmHas] at h1
          · simp [Box.live] at hlv) H4 H5 (fun k hk => hk) (fun k hk => .inl hk) (fun k hkk => Nat.lt_of_lt_of_le (hw.lt k hkk) hk.size)
      refine ⟨F, _, hframe.1, hframe.2, ?_⟩
      show RelV T F w' _ _ (outV fs d e.r bx ys) v
      unfold outV
      rw [hnm]
      have hfl := hflat.2
      split at hfl
      · rename_i d0 kk hsl
        rw [hsl]
        have hv2 : RelV T F1 w' (fs.outT.inj ys).bx θ1 ((instSl nm0 ys fs.outT.sl 0 fun _ => .un).1 0) v := hv1
        rw [hsl] at hv2
        show RelV T F w' _ _ (upd (fun _ => V.un) d0 (kk.inst nm ys 0).1 0) v
        replace hv2 : RelV T F1 w' (fs.outT.inj ys).bx θ1 (upd (fun _ => V.un) d0 (kk.inst nm0 ys 0).1 0) v := hv2
        by_cases hd : 0 = d0
        · subst hd
          rw [upd_same] at hv2 ⊢
          exact (flat_ok ys kk 0 hfl v hv2).1
        · rw [upd_ne _ _ hd]
          exact .un v
      · simp at hfl
  · simp at h
end
end Go.Ev
namespace Go.Ev
section
variable {P : Program} {X : Cx} {fr : Fr} {F : Nat → Prop} {w : World} {bx : Bxs} {θ : Nat → Value}
theorem ptArg_ok {T : Tys} {t : TypeId} {v : V} {u : Value} (h : RelV T F w bx θ v u) : RelV T F w bx θ (ptArg T t v) u := by
  unfold ptArg
  split
  · rename_i cts cs
    split
    · rename_i e cts' n ht
      split
      · rename_i d hd
        cases hc : cteqs cts d.cts with
        | false => exact h
        | true =>
          rw [sif_true]
          have := cteqs_eq hc
          subst this
          cases h with
          | fa _ _ _ g o cv hF hlen hcc hr => exact .c _ _ _ (.pt e d cs g o cv hd hF hlen hcc hr)
      · exact h
    · exact h
  · exact h
theorem ptArgs_ok {T : Tys} : ∀ (ts : List TypeId) {vs : List V} {us : List Value}, (us.length = vs.length ∧ ∀ (i : Nat) (y : V) (u : Value), vs[i]? = some y → us[i]? = some u → RelV T F w bx θ y u) →
    us.length = (ptArgs T ts vs).length ∧ ∀ (i : Nat) (y : V) (u : Value), (ptArgs T ts vs)[i]? = some y → us[i]? = some u → RelV T F w bx θ y u
  | [], vs, us, h => by cases vs <;> exact h
  | t :: ts, [], us, h => h
  | t :: ts, v :: vs, [], h => by simp at h
  | t :: ts, v :: vs, u :: us, h => by
    obtain ⟨h1, h2⟩ := h
    obtain ⟨a, b⟩ := ptArgs_ok ts (vs := vs) (us := us) ⟨by simpa using h1, fun i y u q1 q2 => h2 (i + 1) y u (by simpa using q1) (by simpa using q2)⟩
    refine ⟨by simp [ptArgs, ← a], fun i y u' q1 q2 => ?_⟩
    cases i with
    | zero =>
      simp [ptArgs] at q1 q2
      subst q1; subst q2
      exact ptArg_ok (h2 0 v u rfl rfl)
    | succ i => exact b i y u' (by simpa [ptArgs] using q1) (by simpa using q2)
theorem callV_ok (hX : Env P X) (hw : WR X.T fr F w bx θ) {ρ : Slots} {a : Act} (ho : ∀ x, RelV X.T F w bx θ (opnd ρ x) (a.eval x)) {o : Oper} {k : Eff → List Nat → R} {r : Out} {c : Call} {f : Operand}
    (hop : o.op = .call c) (hc : c.callee = .value f) (h : evalCall X o.dst ρ c bx k = some r) : Good P X.T fr F w bx θ o a k r := by
  obtain ⟨dst, op, type, pos, after, guard⟩ := o
  obtain ⟨callee, args, argTypes⟩ := c
  simp only at hop hc
  subst hc
  subst hop
  replace h : (match opnd ρ f with
    | .fn g caps => (do let fs ← opt (X.Φ g dst); callF X.T fs (dstOf dst) (app (ptArgs X.T argTypes.toList (opnds ρ args.toList)) caps) : M Eff)
    | _ => M.fail) bx k = some r := h
  have hf := ho f
  generalize opnd ρ f = cz at h hf
  cases cz with
  | fn g caps =>
    replace h : (do let fs ← opt (X.Φ g dst); callF X.T fs (dstOf dst) (app (ptArgs X.T argTypes.toList (opnds ρ args.toList)) caps) : M Eff) bx k = some r := h
    rw [bnd] at h; obtain ⟨fs, hfs, hk⟩ := opt_inv h
    have hok := hX.Φ _ _ _ hfs
    rw [app_eq] at hk
    generalize hv : a.eval f = v at hf
    cases hf with
    | fn _ l us hl hr =>
      obtain ⟨h1, h2⟩ := ptArgs_ok argTypes.toList (opnds_ok ho args.toList)
      have e1 : (args.map a.eval ++ us.toArray).toList = args.toList.map a.eval ++ us := by simp
      obtain ⟨e, rd, g1, g2⟩ := callF_ok hok hw (args := args.map a.eval ++ us.toArray) (vs := ptArgs X.T argTypes.toList (opnds ρ args.toList) ++ caps) (by rw [e1, List.length_append, List.length_append, h1, hl])
        (fun i x v a1 a2 => by
          rw [e1] at a2
          rw [List.getElem?_append] at a1 a2
          rw [h1] at a2
          split at a1
          · rename_i hi; rw [if_pos hi] at a2; exact h2 i x v a1 a2
          · rename_i hi; rw [if_neg hi] at a2; exact hr _ x v a1 a2) hk
      refine ⟨e, _, g1, OpR.enter (f := g) (args := args.map a.eval ++ us.toArray) (w' := w) ?_ g2⟩
      obtain ⟨fn, cc, q1, q2, q3⟩ := hok.fn
      simp only [beq_eq_false_iff_ne, ne_eq] at q3
      simp [execOp, resolve, hv, Deferred.ofValue, invoke, callFunc, q1, q2, q3]
  | _ => exact (failE (bx := bx) (k := k) h).elim
theorem evalOp_good (hX : Env P X) (hw : WR X.T fr F w bx θ) {ρ : Slots} {a : Act} (ho : ∀ x, RelV X.T F w bx θ (opnd ρ x) (a.eval x)) {o : Oper} {k : Eff → List Nat → R} {r : Out}
    (h : evalOp X o.dst ρ o.op bx k = some r) : Good P X.T fr F w bx θ o a k r :=
  evalOp_ok hX hw ho (fun c f h1 h2 h3 => callV_ok hX hw ho h1 h2 h3) h
def Loc {α : Type} (m : M α) : Prop := ∀ (bx : Bxs) (k : α → List Nat → R) (r : Out), m bx k = some r → ∃ a rd, k a rd = some r ∧ ∀ bx' : Bxs, (∀ b, b ∈ rd → bx' b = bx b) → ∀ k', m bx' k' = k' a rd
theorem Loc.ret {α : Type} (a : α) : Loc (M.ret a) := fun bx k r h => ⟨a, [], h, fun _ _ _ => rfl⟩
theorem Loc.pure {α : Type} (a : α) : Loc (pure a : M α) := Loc.ret a
theorem Loc.fail {α : Type} : Loc (M.fail : M α) := fun bx k r h => (fail_inv h).elim
theorem Loc.opt {α : Type} (o : Option α) : Loc (opt o) := fun bx k r h => by
  obtain ⟨a, rfl, hk⟩ := opt_inv h
  exact ⟨a, [], hk, fun _ _ _ => rfl⟩
theorem Loc.chk (p : Bool) : Loc (chk p) := fun bx k r h => by
  obtain ⟨rfl, hk⟩ := chk_inv h
  exact ⟨(), [], hk, fun _ _ _ => rfl⟩
theorem Loc.chkS (p : Bool) : Loc (chkS p) := fun bx k r h => by
  obtain ⟨rfl, hk⟩ := chkS_inv h
  exact ⟨(), [], hk, fun _ _ _ => rfl⟩
theorem Loc.rdBox (b : Nat) : Loc (rdBox b) := fun bx k r h => by
  obtain ⟨x, hx, hk⟩ := rdBox_inv h
  exact ⟨x, [b], hk, fun bx' hb k' => by unfold Ev.rdBox; rw [hb b (List.mem_cons_self ..), hx]⟩
theorem Loc.newVer (b : Nat) : Loc (newVer b) := fun bx k r h =>
  ⟨_, [b], h, fun bx' hb k' => by unfold Ev.newVer; rw [hb b (List.mem_cons_self ..)]⟩
theorem Loc.bind {α β : Type} {m : M α} {f : α → M β} (h : Loc m) (hf : ∀ a, Loc (f a)) : Loc (m >>= f) := fun bx k r hk => by
  rw [bnd] at hk
  obtain ⟨a, rd, h1, h2⟩ := h bx _ r hk
  obtain ⟨b, rd', h3, h4⟩ := hf a bx _ r h1
  refine ⟨b, app rd rd', h3, fun bx' hb k' => ?_⟩
  rw [app_eq] at hb
  rw [bnd, h2 bx' (fun b hb' => hb b (List.mem_append_left _ hb')), h4 bx' fun b hb' => hb b (List.mem_append_right _ hb')]
theorem Loc.rv (v : V) : Loc (rv v) := Loc.ret _
theorem Loc.cond {α : Type} {p : Bool} {m m' : M α} (h : Loc m) (h' : Loc m') : Loc (fun bx k => cond p (m bx k) (m' bx k)) := by
  cases p <;> assumption
theorem loc_adrOf (T : Tys) (v : V) : Loc (adrOf T v) := by
  unfold adrOf
  split
  · exact Loc.bind (Loc.opt _) fun _ => Loc.bind (Loc.chk _) fun _ => Loc.ret _
  · exact Loc.ret _
theorem loc_fieldAddr (T : Tys) (s : TypeId) (f : Nat) (x : V) : Loc (fieldAddrV T s f x) := by unfold fieldAddrV; repeat (first | exact Loc.rv _ | exact Loc.ret _ | exact Loc.fail | exact Loc.opt _ | exact Loc.chk _ | exact Loc.chkS _ | exact Loc.rdBox _ | exact Loc.newVer _ | exact Loc.pure _ | refine Loc.bind ?_ (fun _ => ?_) | split)
theorem loc_load (T : Tys) (t : TypeId) (x : V) : Loc (loadV T t x) := by unfold loadV; repeat (first | exact Loc.rv _ | exact Loc.ret _ | exact Loc.fail | exact Loc.opt _ | exact Loc.chk _ | exact Loc.chkS _ | exact Loc.rdBox _ | exact Loc.newVer _ | exact Loc.pure _ | refine Loc.bind ?_ (fun _ => ?_) | split)
theorem loc_store (T : Tys) (t : TypeId) (x y : V) : Loc (storeV T t x y) := by unfold storeV; repeat (first | exact Loc.rv _ | exact Loc.ret _ | exact Loc.fail | exact Loc.opt _ | exact Loc.chk _ | exact Loc.chkS _ | exact Loc.rdBox _ | exact Loc.newVer _ | exact Loc.pure _ | refine Loc.bind ?_ (fun _ => ?_) | split)
theorem loc_indexAddr (T : Tys) (t : TypeId) (x i : V) : Loc (indexAddrV T t x i) := by unfold indexAddrV; repeat (first | exact Loc.rv _ | exact Loc.ret _ | exact Loc.fail | exact Loc.opt _ | exact Loc.chk _ | exact Loc.chkS _ | exact Loc.rdBox _ | exact Loc.newVer _ | exact Loc.pure _ | refine Loc.bind ?_ (fun _ => ?_) | split)
theorem loc_index (T : Tys) (t : TypeId) (x i : V) : Loc (indexV T t x i) := by unfold indexV; repeat (first | exact Loc.rv _ | exact Loc.ret _ | exact Loc.fail | exact Loc.opt _ | exact Loc.chk _ | exact Loc.chkS _ | exact Loc.rdBox _ | exact Loc.newVer _ | exact Loc.pure _ | refine Loc.bind ?_ (fun _ => ?_) | split)
theorem loc_content (e : TypeId) (x : V) : Loc (contentV e x) := by unfold contentV; repeat (first | exact Loc.rv _ | exact Loc.ret _ | exact Loc.fail | exact Loc.opt _ | exact Loc.chk _ | exact Loc.chkS _ | exact Loc.rdBox _ | exact Loc.newVer _ | exact Loc.pure _ | refine Loc.bind ?_ (fun _ => ?_) | split)
theorem loc_len (T : Tys) (t : TypeId) (x : V) : Loc (lenV T t x) := by unfold lenV; repeat (first | exact Loc.rv _ | exact Loc.ret _ | exact Loc.fail | exact Loc.opt _ | exact Loc.chk _ | exact Loc.chkS _ | exact Loc.rdBox _ | exact Loc.newVer _ | exact Loc.pure _ | refine Loc.bind ?_ (fun _ => ?_) | split)
theorem loc_slice (T : Tys) (t : TypeId) (x : V) (lo hi : Option V) : Loc (sliceVs T t x lo hi) := by unfold sliceVs; repeat (first | exact Loc.rv _ | exact Loc.ret _ | exact Loc.fail | exact Loc.opt _ | exact Loc.chk _ | exact Loc.chkS _ | exact Loc.rdBox _ | exact Loc.newVer _ | exact Loc.pure _ | refine Loc.bind ?_ (fun _ => ?_) | split)
theorem loc_nilCheck (T : Tys) (x : V) : Loc (nilCheckV T x) := by unfold nilCheckV; repeat (first | exact Loc.rv _ | exact Loc.ret _ | exact Loc.fail | exact Loc.opt _ | exact Loc.chk _ | exact Loc.chkS _ | exact Loc.rdBox _ | exact Loc.newVer _ | exact Loc.pure _ | refine Loc.bind ?_ (fun _ => ?_) | split)
theorem loc_build (T : Tys) (t : TypeId) (ρ : Slots) (ps : List (Nat × Operand)) : Loc (buildV T t ρ ps) := by unfold buildV; repeat (first | exact Loc.rv _ | exact Loc.ret _ | exact Loc.fail | exact Loc.opt _ | exact Loc.chk _ | exact Loc.chkS _ | exact Loc.rdBox _ | exact Loc.newVer _ | exact Loc.pure _ | refine Loc.bind ?_ (fun _ => ?_) | split)
theorem loc_killC : ∀ l : List V, Loc (killC l)
  | [] => Loc.ret _
  | x :: l => by
    cases x with
    | ow b ver =>
      refine Loc.bind (Loc.rdBox _) fun y => ?_
      split
      · exact Loc.bind (Loc.chkS _) fun _ => Loc.bind (loc_killC l) fun _ => Loc.ret _
      · exact Loc.fail
    | _ => exact loc_killC l
theorem loc_buildSlice (T : Tys) (t : TypeId) (n d : Nat) (ρ : Slots) (ps : List (Nat × Operand)) : Loc (buildSliceV T t n d ρ ps) := by unfold buildSliceV; repeat (first | exact loc_killC _ | exact Loc.rv _ | exact Loc.ret _ | exact Loc.fail | exact Loc.opt _ | exact Loc.chk _ | exact Loc.chkS _ | exact Loc.rdBox _ | exact Loc.newVer _ | exact Loc.pure _ | refine Loc.bind ?_ (fun _ => ?_) | split)
theorem loc_make (T : Tys) (t : TypeId) (d : Nat) (x y : V) : Loc (makeSliceV T t d x y) := by unfold makeSliceV; repeat (first | exact Loc.rv _ | exact Loc.ret _ | exact Loc.fail | exact Loc.opt _ | exact Loc.chk _ | exact Loc.chkS _ | exact Loc.rdBox _ | exact Loc.newVer _ | exact Loc.pure _ | refine Loc.bind ?_ (fun _ => ?_) | split)
theorem loc_field (T : Tys) (s : TypeId) (f : Nat) (x : V) : Loc (fieldV T s f x) := by unfold fieldV; repeat (first | exact Loc.rv _ | exact Loc.ret _ | exact Loc.fail | exact Loc.opt _ | exact Loc.chk _ | exact Loc.chkS _ | exact Loc.rdBox _ | exact Loc.newVer _ | exact Loc.pure _ | refine Loc.bind ?_ (fun _ => ?_) | split)
theorem loc_append (T : Tys) (t : TypeId) (d : Nat) (s x : V) : Loc (appendV T t d s x) := by
  unfold appendV
  refine Loc.bind (Loc.opt _) fun _ => Loc.bind (Loc.opt _) fun _ => Loc.bind (Loc.chkS _) fun _ => Loc.bind (loc_content _ _) fun _ => ?_
  repeat (first | exact Loc.rv _ | exact Loc.ret _ | exact Loc.fail | exact Loc.opt _ | exact Loc.chk _ | exact Loc.chkS _ | exact Loc.rdBox _ | exact Loc.newVer _ | exact Loc.pure _ | refine Loc.bind ?_ (fun _ => ?_) | split)
theorem loc_convert (T : Tys) (s d : TypeId) (x : V) : Loc (convertV T s d x) := by unfold convertV; repeat (first | exact Loc.rv _ | exact Loc.ret _ | exact Loc.fail | exact Loc.opt _ | exact Loc.chk _ | exact Loc.chkS _ | exact Loc.rdBox _ | exact Loc.newVer _ | exact Loc.pure _ | refine Loc.bind ?_ (fun _ => ?_) | split)
theorem loc_mm (mx : Bool) : ∀ (l : List V) (v : V), Loc (mmV mx v l)
  | [], v => by
    have : mmV mx v [] = rv v := by cases v <;> rfl
    rw [this]; exact Loc.rv _
  | y :: r, v => by
    have other : (mmV mx v (y :: r) = M.fail) ∨ ∃ k x k' x', v = .c (.int k) x ∧ y = .c (.int k') x' := by
      cases v with
      | c t x => cases t with
        | int k => cases y with
          | c t' x' => cases t' with
            | int k' => exact .inr ⟨k, x, k', x', rfl, rfl⟩
            | _ => exact .inl rfl
          | _ => exact .inl rfl
        | _ => exact .inl (by cases y <;> first | rfl | (rename_i t2 c2; cases t2 <;> rfl))
      | _ => exact .inl (by cases y <;> first | rfl | (rename_i t2 c2; cases t2 <;> rfl))
    rcases other with h | ⟨k, x, k', x', rfl, rfl⟩
    · rw [h]; exact Loc.fail
    · exact Loc.bind (Loc.chkS _) fun _ => loc_mm mx r _
theorem loc_bin (T : Tys) (op : BinOp) (t : TypeId) (x y : V) : Loc (binB T op t x y) := by unfold binB; repeat (first | exact Loc.rv _ | exact Loc.ret _ | exact Loc.fail | exact Loc.opt _ | exact Loc.chk _ | exact Loc.chkS _ | exact Loc.rdBox _ | exact Loc.newVer _ | exact Loc.pure _ | refine Loc.bind ?_ (fun _ => ?_) | split)
theorem loc_pick (x : C) (a b : V) : Loc (pickV x a b) := by
  unfold pickV
  cases asC a with
  | none => exact Loc.cond (Loc.rv _) (Loc.rv _)
  | some p => cases asC b with
    | none => exact Loc.cond (Loc.rv _) (Loc.rv _)
    | some q => exact Loc.bind (Loc.chkS _) fun _ => Loc.rv _
end
end Go.Ev
namespace Go.Ev
section
variable {T : Tys} {bx bx' : Bxs}
structure Ag (bx bx' : Bxs) (e : Ex) : Prop where
  r : ∀ n b, e.r.find n = some (some b) → bx' b = bx b
  fz : ∀ b, b ∈ e.fz → bx' b = bx b
theorem Ag.le {e e' : Ex} (h : e.le e') (a : Ag bx bx' e') : Ag bx bx' e := ⟨fun n b hf => a.r n b (h.r _ _ hf), fun b hb => a.fz b (h.fz b hb)⟩
theorem liveArr_ag {b ver : Nat} (h : bx' b = bx b) : liveArr bx' b ver = liveArr bx b ver := by unfold liveArr; rw [h]
theorem lendV_loc {t : CT} {v : V} {c : C} {f : List Nat} (h : lendV bx t v = some (c, f)) (ha : ∀ b, b ∈ f → bx' b = bx b) : lendV bx' t v = some (c, f) := by
  cases v with
  | ow b ver =>
    cases t with
    | sl t =>
      replace h : (match liveArr bx b ver with | some (t', es) => sif (Nat.beq t t') (some (C.l es, [b])) none | none => none) = some (c, f) := h
      have hf : f = [b] := by
        split at h
        · rename_i t' es hl
          cases ht : Nat.beq t t' with
          | false => rw [ht, sif_false] at h; simp at h
          | true => rw [ht, sif_true] at h; simp at h; exact h.2.symm
        · simp at h
      subst hf
      show (match liveArr bx' b ver with | some (t', es) => sif (Nat.beq t t') (some (C.l es, [b])) none | none => none) = _
      rw [liveArr_ag (ha b (by simp))]
      exact h
    | _ => exact absurd (show (none : Option (C × List Nat)) = some (c, f) from h) (by simp)
  | _ => cases t <;> exact h
theorem lend_loc : ∀ {cts : List CT} {cells : List V} {cs : List C} {f : List Nat}, lend bx cts cells = some (cs, f) → (∀ b, b ∈ f → bx' b = bx b) → lend bx' cts cells = some (cs, f)
  | [], [], cs, f, h, _ => h
  | [], _ :: _, cs, f, h, _ => h
  | _ :: _, [], cs, f, h, _ => h
  | t :: ts, v :: vs, cs, f, h, ha => by
    replace h : (match lendV bx t v with
      | some (x, f) => match lend bx ts vs with
        | some (xs, g) => some (x :: xs, app f g)
        | none => none
      | none => none) = some (cs, f) := h
    split at h
    · rename_i x f1 h1
      split at h
      · rename_i xs g h2
        simp only [Option.some.injEq, Prod.mk.injEq] at h
        obtain ⟨rfl, rfl⟩ := h
        rw [app_eq] at ha
        have e1 := lendV_loc h1 fun b hb => ha b (List.mem_append_left _ hb)
        have e2 := lend_loc h2 fun b hb => ha b (List.mem_append_right _ hb)
        show (match lendV bx' t v with
          | some (x, f) => match lend bx' ts vs with
            | some (xs, g) => some (x :: xs, app f g)
            | none => none
          | none => none) = _
        rw [e1]
        show (match lend bx' ts vs with
            | some (xs, g) => some (x :: xs, app f1 g)
            | none => none) = _
        rw [e2]
      · simp at h
    · simp at h
mutual
theorem ext_loc : ∀ (k : Sk) (v : V) (e e' : Ex), k.ext T bx v e = some e' → e.le e' ∧ ∀ bx' : Bxs, Ag bx bx' e' → k.ext T bx' v e = some e'
  | .un, v, e, e', h => by
    replace h : some e = some e' := by cases v <;> exact h
    simp only [Option.some.injEq] at h
    subst h
    exact ⟨Ex.le_refl _, fun _ _ => by cases v <;> rfl⟩
  | .d t, v, e, e', h => by
    have nope : ∀ {P : Prop}, (none : Option Ex) = some e' → P := fun h => absurd h (by simp)
    cases v with
    | c t' x =>
      replace h : sif (cteq t t') (some ⟨x :: e.xs, e.r, e.fz⟩) none = some e' := by cases t <;> exact h
      refine ⟨?_, fun bx' _ => by cases t <;> exact h⟩
      cases hc : cteq t t' with
      | false => simp [hc, sif] at h
      | true =>
        simp [hc, sif] at h
        subst h; exact e.push _
    | nl => cases t with
      | sl t =>
        refine ⟨?_, fun bx' _ => h⟩
        replace h : some (⟨.l [] :: e.xs, e.r, e.fz⟩ : Ex) = some e' := h
        simp only [Option.some.injEq] at h
        subst h; exact e.push _
      | _ => exact nope h
    | np => cases t with
      | pt t =>
        refine ⟨?_, fun bx' _ => h⟩
        replace h : some (⟨.nil :: e.xs, e.r, e.fz⟩ : Ex) = some e' := h
        simp only [Option.some.injEq] at h
        subst h; exact e.push _
      | _ => exact nope h
    | vw b ver lo hi => cases t with
      | sl t =>
        replace h : (match liveArr bx b ver with
          | some (t', es) => sif (Nat.beq t t') (some (⟨.l ((es.take hi.toNat).drop lo.toNat) :: e.xs, e.r, b :: e.fz⟩ : Ex)) none
          | none => none) = some e' := h
        have hle : ∃ x, e' = ⟨x :: e.xs, e.r, b :: e.fz⟩ := by
          split at h
          · rename_i t' es hl
            cases ht : Nat.beq t t' with
            | false => simp [ht, sif] at h
            | true => simp [ht, sif] at h; exact ⟨_, h.symm⟩
          · simp at h
        obtain ⟨x, rfl⟩ := hle
        refine ⟨e.pushF _ _, fun bx' ha => ?_⟩
        show (match liveArr bx' b ver with
          | some (t', es) => sif (Nat.beq t t') (some (⟨.l ((es.take hi.toNat).drop lo.toNat) :: e.xs, e.r, b :: e.fz⟩ : Ex)) none
          | none => none) = _
        rw [liveArr_ag (ha.fz b (List.mem_cons_self ..))]
        exact h
      | _ => exact nope h
    | pt b ver off => cases t with
      | pt t => cases off with
        | succ off => exact nope h
        | zero =>
          replace h : (match bx b with
            | some (.var v t' cells) => sif (andS (Nat.beq t t') (Nat.beq v ver)) (match tget T t with
              | some td => match lend bx td.cts cells with
                | some (cs, f) => some (⟨.p cs :: e.xs, e.r, b :: app f e.fz⟩ : Ex)
                | none => none
              | none => none) none
            | _ => none) = some e' := h
          have key : ∃ v t' cells td cs f, bx b = some (.var v t' cells) ∧ andS (Nat.beq t t') (Nat.beq v ver) = true ∧ tget T t = some td ∧ lend bx td.cts cells = some (cs, f) ∧ e' = ⟨.p cs :: e.xs, e.r, b :: app f e.fz⟩ := by
            split at h
            · rename_i v t' cells hb
              cases hq : andS (Nat.beq t t') (Nat.beq v ver) with
              | false => rw [hq, sif_false] at h; simp at h
              | true =>
                rw [hq, sif_true] at h
                split at h
                · rename_i td htd
                  split at h
                  · rename_i cs f hcs
                    simp only [Option.some.injEq] at h
                    exact ⟨v, t', cells, td, cs, f, hb, hq, htd, hcs, h.symm⟩
                  · simp at h
                · simp at h
            · simp at h
          obtain ⟨v, t', cells, td, cs, f, q1, q2, q3, q4, rfl⟩ := key
          refine ⟨e.pushL _ _ _, fun bx' ha => ?_⟩
          have hb' : bx' b = some (.var v t' cells) := by rw [ha.fz b (List.mem_cons_self ..)]; exact q1
          have hl' : lend bx' td.cts cells = some (cs, f) := lend_loc q4 fun c hc => ha.fz c (List.mem_cons_of_mem _ (by rw [app_eq]; exact List.mem_append_left _ hc))
          show (match bx' b with
            | some (.var v t' cells) => sif (andS (Nat.beq t t') (Nat.beq v ver)) (match tget T t with
              | some td => match lend bx' td.cts cells with
                | some (cs, f) => some (⟨.p cs :: e.xs, e.r, b :: app f e.fz⟩ : Ex)
                | none => none
              | none => none) none
            | _ => none) = _
          rw [hb']
          show sif (andS (Nat.beq t t') (Nat.beq v ver)) (match tget T t with
              | some td => match lend bx' td.cts cells with
                | some (cs, f) => some (⟨.p cs :: e.xs, e.r, b :: app f e.fz⟩ : Ex)
                | none => none
              | none => none) none = _
          rw [q2, sif_true, q3]
          show (match lend bx' td.cts cells with
                | some (cs, f) => some (⟨.p cs :: e.xs, e.r, b :: app f e.fz⟩ : Ex)
                | none => none) = _
          rw [hl']
      | _ => cases off <;> exact nope h
    | pe b ver ix off nb => cases t with
      | pt t => cases off with
        | succ off => exact nope h
        | zero =>
          replace h : (match liveArr bx b ver with
            | some (t', es) => sif (Nat.beq t t') (some (⟨sif nb (cond (decide (0 ≤ ix)) (.p (es.getD ix.toNat [])) .nil) (.p (es.getD ix.toNat [])) :: e.xs, e.r, b :: e.fz⟩ : Ex)) none
            | none => none) = some e' := h
          have hle : ∃ x, e' = ⟨x :: e.xs, e.r, b :: e.fz⟩ := by
            split at h
            · rename_i t' es hl
              cases ht : Nat.beq t t' with
              | false => rw [ht, sif_false] at h; simp at h
              | true =>
                rw [ht, sif_true] at h
                simp only [Option.some.injEq] at h
                exact ⟨_, h.symm⟩
            · simp at h
          obtain ⟨x, rfl⟩ := hle
          refine ⟨e.pushF _ _, fun bx' ha => ?_⟩
          show (match liveArr bx' b ver with
            | some (t', es) => sif (Nat.beq t t') (some (⟨sif nb (cond (decide (0 ≤ ix)) (.p (es.getD ix.toNat [])) .nil) (.p (es.getD ix.toNat [])) :: e.xs, e.r, b :: e.fz⟩ : Ex)) none
            | none => none) = _
          rw [liveArr_ag (ha.fz b (List.mem_cons_self ..))]
          exact h
      | _ => cases off <;> exact nope h
    | fa cts cs off => cases t with
      | pt t => cases off with
        | succ off => exact nope h
        | zero =>
          refine ⟨?_, fun bx' _ => h⟩
          replace h : (match tget T t with
            | some d => sif (cteqs cts d.cts) (some (⟨.p cs :: e.xs, e.r, e.fz⟩ : Ex)) none
            | none => none) = some e' := h
          split at h
          · rename_i d hd
            cases hq : cteqs cts d.cts with
            | false => simp [hq, sif] at h
            | true =>
              rw [hq, sif_true] at h
              simp only [Option.some.injEq] at h
              subst h; exact e.push _
          · simp at h
      | _ => cases off <;> exact nope h
    | ow b ver => cases t with
      | sl t =>
        replace h : (match liveArr bx b ver with
          | some (t', es) => sif (Nat.beq t t') (some (⟨.l es :: e.xs, e.r, b :: e.fz⟩ : Ex)) none
          | none => none) = some e' := h
        have hle : ∃ x, e' = ⟨x :: e.xs, e.r, b :: e.fz⟩ := by
          split at h
          · rename_i t' es hl
            cases ht : Nat.beq t t' with
            | false => simp [ht, sif] at h
            | true => simp [ht, sif] at h; exact ⟨_, h.symm⟩
          · simp at h
        obtain ⟨x, rfl⟩ := hle
        refine ⟨e.pushF _ _, fun bx' ha => ?_⟩
        show (match liveArr bx' b ver with
          | some (t', es) => sif (Nat.beq t t') (some (⟨.l es :: e.xs, e.r, b :: e.fz⟩ : Ex)) none
          | none => none) = _
        rw [liveArr_ag (ha.fz b (List.mem_cons_self ..))]
        exact h
      | _ => exact nope h
    | _ => cases t <;> exact nope h
  | .ow n, v, e, e', h => by
    have nope : ∀ {P : Prop}, (none : Option Ex) = some e' → P := fun h => absurd h (by simp)
    cases v with
    | ow b ver =>
      replace h : (match liveArr bx b ver with
        | some _ => e.put n (some b)
        | none => none) = some e' := h
      have h2 : e.put n (some b) = some e' := by
        split at h
        · exact h
        · simp at h
      obtain ⟨p1, p2, p3, p4⟩ := put_ok h2
      refine ⟨p1, fun bx' ha => ?_⟩
      show (match liveArr bx' b ver with
        | some _ => e.put n (some b)
        | none => none) = some e'
      rw [liveArr_ag (ha.r n b p2)]
      exact h
    | nl =>
      replace h : e.put n none = some e' := h
      exact ⟨(put_ok h).1, fun bx' _ => h⟩
    | _ => exact nope h
  | .mp n, v, e, e', h => by
    have nope : ∀ {P : Prop}, (none : Option Ex) = some e' → P := fun h => absurd h (by simp)
    cases v with
    | mp b ver =>
      replace h : (match bx b with
        | some (.mp v _ _) => sif (Nat.beq v ver) (e.put n (some b)) none
        | _ => none) = some e' := h
      have h2 : e.put n (some b) = some e' := by
        split at h
        · rename_i v' t' es' _
          cases hc : Nat.beq v' ver with
          | false => simp [hc, sif] at h
          | true => rw [hc, sif_true] at h; exact h
        · simp at h
      obtain ⟨p1, p2, p3, p4⟩ := put_ok h2
      refine ⟨p1, fun bx' ha => ?_⟩
      show (match bx' b with
        | some (.mp v _ _) => sif (Nat.beq v ver) (e.put n (some b)) none
        | _ => none) = some e'
      rw [ha.r n b p2]
      exact h
    | _ => exact nope h
  | .pt n o, v, e, e', h => by
    have nope : ∀ {P : Prop}, (none : Option Ex) = some e' → P := fun h => absurd h (by simp)
    cases v with
    | pt b ver o' =>
      replace h : (match bx b with
        | some (.var v _ _) => sif (andS (Nat.beq o o') (Nat.beq v ver)) (e.put n (some b)) none
        | _ => none) = some e' := h
      have h2 : e.put n (some b) = some e' := by
        split at h
        · rename_i v' t' cells' _
          cases hc : andS (Nat.beq o o') (Nat.beq v' ver) with
          | false => simp [hc, sif] at h
          | true => rw [hc, sif_true] at h; exact h
        · simp at h
      obtain ⟨p1, p2, p3, p4⟩ := put_ok h2
      refine ⟨p1, fun bx' ha => ?_⟩
      show (match bx' b with
        | some (.var v _ _) => sif (andS (Nat.beq o o') (Nat.beq v ver)) (e.put n (some b)) none
        | _ => none) = some e'
      rw [ha.r n b p2]
      exact h
    | _ => exact nope h
  | .pe n o, v, e, e', h => by
    have nope : ∀ {P : Prop}, (none : Option Ex) = some e' → P := fun h => absurd h (by simp)
    cases v with
    | pe b ver ix o' nb =>
      replace h : (match liveArr bx b ver with
        | some _ => sif (Nat.beq o o') (Ex.put ⟨.i ix :: e.xs, e.r, e.fz⟩ n (some b)) none
        | none => none) = some e' := h
      have h2 : Ex.put ⟨.i ix :: e.xs, e.r, e.fz⟩ n (some b) = some e' := by
        split at h
        · cases hc : Nat.beq o o' with
          | false => simp [hc, sif] at h
          | true => rw [hc, sif_true] at h; exact h
        · simp at h
      obtain ⟨p1, p2, p3, p4⟩ := put_ok h2
      refine ⟨(e.push _).le_trans p1, fun bx' ha => ?_⟩
      show (match liveArr bx' b ver with
        | some _ => sif (Nat.beq o o') (Ex.put ⟨.i ix :: e.xs, e.r, e.fz⟩ n (some b)) none
        | none => none) = some e'
      rw [liveArr_ag (ha.r n b p2)]
      exact h
    | np =>
      replace h : (match e.r.find n with
        | some (some b) => match bx b with
          | some (.arr _ _ _) => some (⟨.i (-1) :: e.xs, e.r, e.fz⟩ : Ex)
          | _ => none
        | _ => none) = some e' := h
      cases hfd : e.r.find n with
      | none => simp [hfd] at h
      | some ob => cases ob with
        | none => simp [hfd] at h
        | some b =>
          rw [hfd] at h
          have h2 : some (⟨.i (-1) :: e.xs, e.r, e.fz⟩ : Ex) = some e' := by
            replace h : (match bx b with
              | some (.arr _ _ _) => some (⟨.i (-1) :: e.xs, e.r, e.fz⟩ : Ex)
              | _ => none) = some e' := h
            split at h
            · exact h
            · simp at h
          have h3 := Option.some.inj h2
          subst h3
          refine ⟨e.push _, fun bx' ha => ?_⟩
          show (match e.r.find n with
            | some (some b) => match bx' b with
              | some (.arr _ _ _) => some (⟨.i (-1) :: e.xs, e.r, e.fz⟩ : Ex)
              | _ => none
            | _ => none) = some _
          rw [hfd]
          show (match bx' b with
              | some (.arr _ _ _) => some (⟨.i (-1) :: e.xs, e.r, e.fz⟩ : Ex)
              | _ => none) = some _
          rw [ha.r n b hfd]
          exact h
    | _ => exact nope h
  | .ag q, v, e, e', h => by
    cases v with
    | ag vs => exact exts_loc q vs e e' h
    | _ => exact absurd (show (none : Option Ex) = some e' from h) (by simp)
  | .tu q, v, e, e', h => by
    cases v with
    | tu vs => exact exts_loc q vs e e' h
    | _ => exact absurd (show (none : Option Ex) = some e' from h) (by simp)
  | .fn f q, v, e, e', h => by
    cases v with
    | fn f' vs =>
      replace h : sif (Nat.beq f f') (Sk.exts T bx q vs e) none = some e' := h
      cases hc : Nat.beq f f' with
      | false => simp [hc, sif] at h
      | true =>
        rw [hc, sif_true] at h
        obtain ⟨h1, h2⟩ := exts_loc q vs e e' h
        refine ⟨h1, fun bx' ha => ?_⟩
        show sif (Nat.beq f f') (Sk.exts T bx' q vs e) none = some e'
        rw [hc, sif_true]
        exact h2 bx' ha
    | _ => exact absurd (show (none : Option Ex) = some e' from h) (by simp)
theorem exts_loc : ∀ (ks : List Sk) (vs : List V) (e e' : Ex), Sk.exts T bx ks vs e = some e' → e.le e' ∧ ∀ bx' : Bxs, Ag bx bx' e' → Sk.exts T bx' ks vs e = some e'
  | [], [], e, e', h => by
    refine ⟨?_, fun bx' _ => h⟩
    replace h : some e = some e' := h
    simp only [Option.some.injEq] at h
    subst h
    exact Ex.le_refl _
  | [], _ :: _, e, e', h => absurd (show (none : Option Ex) = some e' from h) (by simp)
  | _ :: _, [], e, e', h => absurd (show (none : Option Ex) = some e' from h) (by simp)
  | k :: ks, v :: vs, e, e', h => by
    replace h : (match k.ext T bx v e with
      | some e1 => Sk.exts T bx ks vs e1
      | none => none) = some e' := h
    split at h
    · rename_i e1 h1
      obtain ⟨a1, a2⟩ := ext_loc k v e e1 h1
      obtain ⟨b1, b2⟩ := exts_loc ks vs e1 e' h
      refine ⟨a1.le_trans b1, fun bx' ha => ?_⟩
      show (match k.ext T bx' v e with
        | some e1 => Sk.exts T bx' ks vs e1
        | none => none) = some e'
      rw [a2 bx' (ha.le b1)]
      exact b2 bx' ha
    · simp at h
end
theorem extSl_loc {ρ : Slots} : ∀ (q : List (Nat × Sk)) (e e' : Ex), extSl T ⟨ρ, bx⟩ q e = some e' → e.le e' ∧ ∀ bx' : Bxs, Ag bx bx' e' → extSl T ⟨ρ, bx'⟩ q e = some e'
  | [], e, e', h => by
    refine ⟨?_, fun bx' _ => h⟩
    replace h : some e = some e' := h
    simp only [Option.some.injEq] at h
    subst h
    exact Ex.le_refl _
  | (d, k) :: r, e, e', h => by
    replace h : (match k.ext T bx (ρ d) e with
      | some e1 => extSl T ⟨ρ, bx⟩ r e1
      | none => none) = some e' := h
    split at h
    · rename_i e1 h1
      obtain ⟨a1, a2⟩ := ext_loc k _ e e1 h1
      obtain ⟨b1, b2⟩ := extSl_loc r e1 e' h
      refine ⟨a1.le_trans b1, fun bx' ha => ?_⟩
      show (match k.ext T bx' (ρ d) e with
        | some e1 => extSl T ⟨ρ, bx'⟩ r e1
        | none => none) = some e'
      rw [a2 bx' (ha.le b1)]
      exact b2 bx' ha
    · simp at h
theorem extBx_loc : ∀ (q : List (Nat × BSk)) (e e' : Ex), extBx T bx q e = some e' → e.le e' ∧ ∀ bx' : Bxs, Ag bx bx' e' → extBx T bx' q e = some e'
  | [], e, e', h => by
    refine ⟨?_, fun bx' _ => h⟩
    replace h : some e = some e' := h
    simp only [Option.some.injEq] at h
    subst h
    exact Ex.le_refl _
  | (n, .var t cells) :: r, e, e', h => by
    replace h : (match e.r.find n with
      | some (some b) => match bx b with
        | some (.var _ t' vs) => match sif (Nat.beq t t') (Sk.exts T bx cells vs e) none with
          | some e' => extBx T bx r e'
          | none => none
        | _ => none
      | _ => none) = some e' := h
    split at h
    · rename_i b hb
      split at h
      · rename_i v t' vs hbb
        split at h
        · rename_i e1 h1
          cases hc : Nat.beq t t' with
          | false => simp [hc, sif] at h1
          | true =>
            rw [hc, sif_true] at h1
            obtain ⟨a1, a2⟩ := exts_loc cells vs e e1 h1
            obtain ⟨b1, b2⟩ := extBx_loc r e1 e' h
            refine ⟨a1.le_trans b1, fun bx' ha => ?_⟩
            show (match e.r.find n with
              | some (some b) => match bx' b with
                | some (.var _ t' vs) => match sif (Nat.beq t t') (Sk.exts T bx' cells vs e) none with
                  | some e' => extBx T bx' r e'
                  | none => none
                | _ => none
              | _ => none) = some e'
            have hbe : bx' b = bx b := ha.r n b ((a1.le_trans b1).r _ _ hb)
            simp only [hb, hbe, hbb, hc, sif_true]
            rw [a2 bx' (ha.le b1)]
            exact b2 bx' ha
        · simp at h
      · simp at h
    · simp at h
  | (n, .arr t) :: r, e, e', h => by
    replace h : (match e.r.find n with
      | some (some b) => match bx b with
        | some (.arr _ t' es) => sif (Nat.beq t t') (extBx T bx r ⟨.l es :: e.xs, e.r, e.fz⟩) none
        | _ => none
      | some none => extBx T bx r ⟨.l [] :: e.xs, e.r, e.fz⟩
      | none => none) = some e' := h
    split at h
    · rename_i b hb
      split at h
      · rename_i v t' es hbb
        cases hc : Nat.beq t t' with
        | false => simp [hc, sif] at h
        | true =>
          rw [hc, sif_true] at h
          obtain ⟨b1, b2⟩ := extBx_loc r _ e' h
          refine ⟨(e.push _).le_trans b1, fun bx' ha => ?_⟩
          show (match e.r.find n with
            | some (some b) => match bx' b with
              | some (.arr _ t' es) => sif (Nat.beq t t') (extBx T bx' r ⟨.l es :: e.xs, e.r, e.fz⟩) none
              | _ => none
            | some none => extBx T bx' r ⟨.l [] :: e.xs, e.r, e.fz⟩
            | none => none) = some e'
          have hbe : bx' b = bx b := ha.r n b (((e.push _).le_trans b1).r _ _ hb)
          simp only [hb, hbe, hbb, hc, sif_true]
          exact b2 bx' ha
      · simp at h
    · rename_i hb
      obtain ⟨b1, b2⟩ := extBx_loc r _ e' h
      refine ⟨(e.push _).le_trans b1, fun bx' ha => ?_⟩
      show (match e.r.find n with
        | some (some b) => match bx' b with
          | some (.arr _ t' es) => sif (Nat.beq t t') (extBx T bx' r ⟨.l es :: e.xs, e.r, e.fz⟩) none
          | _ => none
        | some none => extBx T bx' r ⟨.l [] :: e.xs, e.r, e.fz⟩
        | none => none) = some e'
      simp only [hb]
      exact b2 bx' ha
    · simp at h
  | (n, .mp t) :: r, e, e', h => by
    replace h : (match e.r.find n with
      | some (some b) => match bx b with
        | some (.mp _ t' es) => sif (Nat.beq t t') (extBx T bx r ⟨.l es :: e.xs, e.r, e.fz⟩) none
        | _ => none
      | _ => none) = some e' := h
    split at h
    · rename_i b hb
      split at h
      · rename_i v t' es hbb
        cases hc : Nat.beq t t' with
        | false => simp [hc, sif] at h
        | true =>
          rw [hc, sif_true] at h
          obtain ⟨b1, b2⟩ := extBx_loc r _ e' h
          refine ⟨(e.push _).le_trans b1, fun bx' ha => ?_⟩
          show (match e.r.find n with
            | some (some b) => match bx' b with
              | some (.mp _ t' es) => sif (Nat.beq t t') (extBx T bx' r ⟨.l es :: e.xs, e.r, e.fz⟩) none
              | _ => none
            | _ => none) = some e'
          have hbe : bx' b = bx b := ha.r n b (((e.push _).le_trans b1).r _ _ hb)
          simp only [hb, hbe, hbb, hc, sif_true]
          exact b2 bx' ha
      · simp at h
    · simp at h
theorem tm_ext_loc {T : Tys} {t : Tm} {r0 : Ren} {ρ : Slots} {e : Ex} (h : t.ext T r0 ⟨ρ, bx⟩ = some e) {bx' : Bxs} (ha : ∀ b, b ∈ names e.r ∨ b ∈ e.fz → bx' b = bx b) : t.ext T r0 ⟨ρ, bx'⟩ = some e := by
  unfold Tm.ext at h ⊢
  split at h
  · rename_i e1 h1
    split at h
    · rename_i e2 h2
      have hee : e2 = e := by
        cases hc : andS (andS (bxT T t.bx) (andS (slNamed t.bx t.sl) (bxNamed t.bx t.bx))) (andS (nodupb (names e2.r)) (fzOk e2.r e2.fz)) with
        | false => simp [hc, sif] at h
        | true => rw [hc, sif_true] at h; exact Option.some.inj h
      subst hee
      have hag : Ag bx bx' e2 := ⟨fun n b hf => ha b (.inl (find_mem hf)), fun b hb => ha b (.inr hb)⟩
      have a := (extSl_loc t.sl _ e1 h1)
      have b := (extBx_loc t.bx e1 e2 h2)
      rw [a.2 bx' (hag.le b.1)]
      replace h2 : extBx T bx' t.bx e1 = some e2 := b.2 bx' hag
      simp only
      rw [h2]
      exact h
    · simp at h
  · simp at h
theorem deads_ag {out : List (Nat × BSk)} : ∀ {r : Ren}, (∀ b, b ∈ names r → bx' b = bx b) → deads bx' out r = deads bx out r
  | [], _ => rfl
  | (n, none) :: r, h => deads_ag (r := r) h
  | (n, some b) :: r, h => by
    have h1 := deads_ag (out := out) (r := r) (fun c hc => h c (List.mem_cons_of_mem _ hc))
    have h2 := h b (List.mem_cons_self ..)
    show sif (tmHas out n) _ _ = sif (tmHas out n) _ _
    rw [h1, h2]
theorem nmOf_ag {ip : List Nat} {r : Ren} {out : List (Nat × BSk)} {d : Nat} (h : ∀ b, b ∈ names r → bx' b = bx b) (h2 : ∀ n, tmHas out n = true → (∀ b, r.find n ≠ some (some b)) → bx' (callName d n) = bx (callName d n)) :
    nmOf ip r out bx' d = nmOf ip r out bx d := by
  funext n
  unfold nmOf
  cases ho : tmHas out n with
  | false => rfl
  | true =>
    rw [sif_true, sif_true]
    rcases hr : r.find n with _ | _ | b
    · simp only [h2 n ho (fun b hb => by rw [hr] at hb; simp at hb)]
    · simp only [h2 n ho (fun b hb => by rw [hr] at hb; simp at hb)]
    · simp only [h b (find_mem hr)]
theorem loc_callF (T : Tys) (fs : FS) (d : Nat) (vs : List V) : Loc (callF T fs d vs) := by
  intro bx k r h
  unfold callF at h
  split at h
  · simp at h
  rename_i e he
  cases hb : Nat.beq (len vs) fs.n with
  | false => simp [hb, sif] at he
  | true =>
  rw [hb, sif_true] at he
  cases hc : andS (orS (isNil e.fz) fs.outT.flat) (andS (stayT fs.inT.bx fs.ip fs.outT.bx) (allHas fs.inT.bx fs.ip)) with
  | false => simp [hc, sif] at h
  | true =>
  rw [hc, sif_true] at h
  unfold bindF at h
  split at h
  · rename_i ys hys
    replace h : sif (nodupb (wrOf (outUps fs d e.r bx ys))) (k ⟨outV fs d e.r bx ys, outUps fs d e.r bx ys⟩ (app (names e.r) (app e.fz (wrOf (outUps fs d e.r bx ys))))) none = some r := h
    cases hnd : nodupb (wrOf (outUps fs d e.r bx ys)) with
    | false => simp [hnd, sif] at h
    | true =>
    rw [hnd, sif_true] at h
    refine ⟨_, _, h, fun bx' ha k' => ?_⟩
    rw [app_eq, app_eq] at ha
    have hnames : ∀ b, b ∈ names e.r → bx' b = bx b := fun b hb => ha b (List.mem_append_left _ hb)
    have hext := tm_ext_loc he (bx' := bx') (fun b hb => hb.elim (hnames b) fun hb => ha b (List.mem_append_right _ (List.mem_append_left _ hb)))
    have hnm : nmOf fs.ip e.r fs.outT.bx bx' d = nmOf fs.ip e.r fs.outT.bx bx d := nmOf_ag hnames fun n ho hf => by
      refine ha _ (List.mem_append_right _ (List.mem_append_right _ ?_))
      unfold outUps
      rw [app_eq, wrOf_app]
      refine List.mem_append_left _ ?_
      have := upsOf_mem (nm := nmOf fs.ip e.r fs.outT.bx bx d) (xs := ys) (p := (instSl (nmOf fs.ip e.r fs.outT.bx bx d) ys fs.outT.sl 0 fun _ => .un).2) ho
      rw [(nmOf_none ho hf).1] at this
      exact this
    have hups : outUps fs d e.r bx' ys = outUps fs d e.r bx ys := by unfold outUps; rw [hnm, deads_ag hnames]
    have hov : outV fs d e.r bx' ys = outV fs d e.r bx ys := by unfold outV; rw [hnm]
    unfold callF
    rw [hb, sif_true, hext]
    simp only
    rw [hc, sif_true, hys]
    show sif (nodupb (wrOf (outUps fs d e.r bx' ys))) _ _ = _
    rw [hups, hov, hnd, sif_true]
  · simp at h
end
end Go.Ev
namespace Go.Ev
theorem opnds_congr {ρ ρ' : Slots} : ∀ {l : List Operand}, (∀ x, x ∈ l → opnd ρ x = opnd ρ' x) → opnds ρ l = opnds ρ' l
  | [], _ => rfl
  | x :: r, h => by
    show opnd ρ x :: opnds ρ r = opnd ρ' x :: opnds ρ' r
    rw [h x (List.mem_cons_self ..), opnds_congr fun y hy => h y (List.mem_cons_of_mem _ hy)]
theorem fillV_congr {T : Tys} {fs : List (Nat × TypeId)} {ρ ρ' : Slots} : ∀ {ps : List (Nat × Operand)} {cs : List V}, (∀ x, x ∈ ps.map (·.2) → opnd ρ x = opnd ρ' x) → fillV T fs ρ ps cs = fillV T fs ρ' ps cs
  | [], cs, _ => rfl
  | (i, x) :: r, cs, h => by
    have e := h x (by simp)
    simp only [fillV, e]
    split
    · split
      · rw [fillV_congr fun y hy => h y (by simp at hy ⊢; exact .inr hy)]
      · rfl
    · rfl
theorem killE_congr {ρ ρ' : Slots} : ∀ {ps : List (Nat × Operand)}, (∀ x, x ∈ ps.map (·.2) → opnd ρ x = opnd ρ' x) → killE ρ ps = killE ρ' ps
  | [], h => rfl
  | (i, x) :: r, h => by
    simp only [killE]
    rw [h x (by simp), killE_congr fun y hy => h y (by simp at hy ⊢; exact .inr hy)]
theorem thawS_opnd (K : List KE) {ρ ρ' : Slots} {x : Operand} (h : opnd ρ x = opnd ρ' x) : opnd (thawS K ρ) x = opnd (thawS K ρ') x := by
  cases x with
  | tmp d =>
    show thawS K ρ d = thawS K ρ' d
    rw [thawS_get, thawS_get]
    exact congrArg _ h
  | const v => rfl
  | func f => rfl
  | global g => rfl
theorem fillE_congr {cts : List CT} {ρ ρ' : Slots} : ∀ {ps : List (Nat × Operand)} {es : List (List C)}, (∀ x, x ∈ ps.map (·.2) → opnd ρ x = opnd ρ' x) → fillE cts ρ ps es = fillE cts ρ' ps es
  | [], es, _ => rfl
  | (i, x) :: r, es, h => by
    have e := h x (by simp)
    simp only [fillE, e]
    split
    · rw [fillE_congr fun y hy => h y (by simp at hy ⊢; exact .inr hy)]
    · rfl
theorem evalOp_congr (X : Cx) (dst : Option Tmp) {ρ ρ' : Slots} (op : Op) (h : ∀ x, x ∈ op.operands.toList → opnd ρ x = opnd ρ' x) : evalOp X dst ρ op = evalOp X dst ρ' op := by
  cases op with
  | pick c a b =>
    simp only [Op.operands] at h
    simp only [evalOp]
    rw [h c (by simp), h a (by simp), h b (by simp)]
  | build t ps =>
    simp only [Op.operands] at h
    simp only [evalOp, buildV]
    congr 1; funext d
    split
    · congr 1; funext _
      rw [fillV_congr fun x hx => h x (by simpa using hx)]
    · rfl
  | buildSlice t n ps =>
    simp only [Op.operands] at h
    simp only [evalOp, buildSliceV]
    congr 1; funext d
    congr 1; funext d
    rw [killE_congr fun x hx => h x (by simpa using hx)]
    congr 1; funext K
    rw [fillE_congr fun x hx => thawS_opnd K (h x (by simpa using hx))]
  | makeFunc fn first caps =>
    simp only [Op.operands] at h
    cases fn with
    | func f =>
      simp only [evalOp]
      rw [opnds_congr fun x hx => h x (by simp at hx ⊢; exact .inr hx)]
    | _ => rfl
  | slice t x lo hi mx =>
    simp only [Op.operands] at h
    simp only [evalOp]
    have e1 := h x (by simp)
    have e2 : oopnd ρ lo = oopnd ρ' lo := by
      cases lo with
      | none => rfl
      | some y => show some _ = some _; rw [h y (by simp)]
    have e3 : oopnd ρ hi = oopnd ρ' hi := by
      cases hi with
      | none => rfl
      | some y => show some _ = some _; rw [h y (by simp)]
    rw [e1, e2, e3]
  | call c =>
    obtain ⟨callee, args, argTypes⟩ := c
    simp only [Op.operands, Call.operands] at h
    cases callee with
    | value f =>
      simp only [evalOp, evalCall]
      rw [h f (by simp), opnds_congr (l := args.toList) fun x hx => h x (by simp at hx ⊢; exact .inr hx)]
    | invoke _ _ => rfl
    | builtin b =>
      have ha : ∀ x, x ∈ args.toList → opnd ρ x = opnd ρ' x := fun x hx => h x (by simpa using hx)
      simp only [evalOp, evalCall]
      cases b with
      | len =>
        simp only
        rcases hx : args.toList with _ | ⟨x, _ | ⟨y, l⟩⟩
        · rfl
        · have e1 := ha x (by simp [hx])
          rcases argTypes.toList with _ | ⟨t, _ | ⟨t', l'⟩⟩
          · rfl
          · show lenV X.T t (opnd ρ x) = lenV X.T t (opnd ρ' x)
            rw [e1]
          · rfl
        · rfl
      | clear =>
        simp only
        rcases hx : args.toList with _ | ⟨x, _ | ⟨y, l⟩⟩
        · rfl
        · have e1 := ha x (by simp [hx])
          rcases argTypes.toList with _ | ⟨t, _ | ⟨t', l'⟩⟩
          · rfl
          · show clearV X.T t (opnd ρ x) = clearV X.T t (opnd ρ' x)
            rw [e1]
          · rfl
        · rfl
      | append =>
        simp only
        rcases hx : args.toList with _ | ⟨x, _ | ⟨y, _ | ⟨z, l⟩⟩⟩
        · rfl
        · rfl
        · have e1 := ha x (by simp [hx])
          have e2 := ha y (by simp [hx])
          rcases argTypes.toList with _ | ⟨t, _ | ⟨t', _ | ⟨t'', l'⟩⟩⟩
          · rfl
          · rfl
          · show (do chkS (Nat.beq t t'); appendV X.T t (dstOf dst) (opnd ρ x) (opnd ρ y) : M Eff) = (do chkS (Nat.beq t t'); appendV X.T t (dstOf dst) (opnd ρ' x) (opnd ρ' y) : M Eff)
            rw [e1, e2]
          · rfl
        · rfl
      | min => simp only; rw [opnds_congr ha]
      | max => simp only; rw [opnds_congr ha]
      | _ => rfl
  | unOp op t x =>
    simp only [Op.operands] at h
    simp only [evalOp]
    rw [h x (by simp)]
  | extract x i =>
    simp only [Op.operands] at h
    simp only [evalOp]
    rw [h x (by simp)]
  | alloc t => rfl
  | box t x => simp only [Op.operands] at h; simp only [evalOp]; rw [h x (by simp)]
  | move x => simp only [Op.operands] at h; simp only [evalOp]; rw [h x (by simp)]
  | assign x => simp only [Op.operands] at h; simp only [evalOp]; rw [h x (by simp)]
  | load t x => simp only [Op.operands] at h; simp only [evalOp]; rw [h x (by simp)]
  | store t x y => simp only [Op.operands] at h; simp only [evalOp]; rw [h x (by simp), h y (by simp)]
  | nilCheck x => simp only [Op.operands] at h; simp only [evalOp]; rw [h x (by simp)]
  | binOp op t x y e => simp only [Op.operands] at h; simp only [evalOp]; rw [h x (by simp), h y (by simp)]
  | convert s d x => simp only [Op.operands] at h; simp only [evalOp]; rw [h x (by simp)]
  | makeSlice t x y => simp only [Op.operands] at h; simp only [evalOp]; rw [h x (by simp), h y (by simp)]
  | fieldAddr s x f => simp only [Op.operands] at h; simp only [evalOp]; rw [h x (by simp)]
  | field s x f => simp only [Op.operands] at h; simp only [evalOp]; rw [h x (by simp)]
  | indexAddr t x y => simp only [Op.operands] at h; simp only [evalOp]; rw [h x (by simp), h y (by simp)]
  | index t x y => simp only [Op.operands] at h; simp only [evalOp]; rw [h x (by simp), h y (by simp)]
  | makeMap t c => cases c <;> rfl
  | lookup t x y ok => simp only [Op.operands] at h; simp only [evalOp]; rw [h x (by simp), h y (by simp)]
  | mapUpdate t x y z => simp only [Op.operands] at h; simp only [evalOp]; rw [h x (by simp), h y (by simp), h z (by simp)]
  | _ => rfl
theorem loc_evalCall (X : Cx) (dst : Option Tmp) (ρ : Slots) (c : Call) : Loc (evalCall X dst ρ c) := by
  unfold evalCall
  split
  · split
    · exact loc_len _ _ _
    · exact Loc.fail
  · split
    · exact Loc.bind (Loc.chkS _) fun _ => loc_append _ _ _ _ _
    · exact Loc.fail
  · split
    · unfold clearV
      refine Loc.bind (Loc.opt _) fun _ => Loc.bind (Loc.opt _) fun _ => ?_
      split
      · refine Loc.bind (Loc.rdBox _) fun _ => ?_
        split
        · exact Loc.bind (Loc.chkS _) fun _ => Loc.ret _
        · exact Loc.fail
      · exact Loc.fail
    · exact Loc.fail
  · split
    · exact loc_mm _ _ _
    · exact Loc.fail
  · split
    · exact loc_mm _ _ _
    · exact Loc.fail
  · split
    · exact Loc.bind (Loc.opt _) fun _ => loc_callF _ _ _ _
    · exact Loc.fail
  · exact Loc.fail
theorem loc_evalOp (X : Cx) (dst : Option Tmp) (ρ : Slots) (op : Op) : Loc (evalOp X dst ρ op) := by
  cases op with
  | pick c a b =>
    simp only [evalOp]
    split
    · exact loc_pick _ _ _
    · exact Loc.fail
  | build t ps => exact loc_build _ _ _ _
  | buildSlice t n ps => exact loc_buildSlice _ _ _ _ _ _
  | load t x => exact Loc.bind (loc_adrOf _ _) fun _ => loc_load _ _ _
  | store t x y => exact loc_store _ _ _ _
  | nilCheck x => exact loc_nilCheck _ _
  | binOp op t x y e =>
    simp only [evalOp]
    unfold binOpV
    split
    · unfold eqAg
      refine Loc.bind (Loc.chkS _) fun _ => Loc.bind (Loc.opt _) fun _ => Loc.bind (Loc.opt _) fun _ => ?_
      split
      · exact Loc.rv _
      · exact Loc.rv _
      · exact Loc.fail
    · exact loc_bin _ _ _ _ _
  | unOp op t x => simp only [evalOp]; repeat (first | exact Loc.rv _ | exact Loc.ret _ | exact Loc.fail | exact Loc.opt _ | exact Loc.chk _ | exact Loc.chkS _ | exact Loc.rdBox _ | exact Loc.newVer _ | exact Loc.pure _ | refine Loc.bind ?_ (fun _ => ?_) | split)
  | convert s d x => exact loc_convert _ _ _ _
  | makeFunc fn first caps => cases fn <;> first | exact Loc.fail | exact Loc.bind (Loc.chkS _) fun _ => Loc.rv _
  | makeSlice t x y => exact loc_make _ _ _ _ _
  | slice t x lo hi mx => exact Loc.bind (Loc.chkS _) fun _ => loc_slice _ _ _ _ _
  | fieldAddr s x f => exact Loc.bind (loc_adrOf _ _) fun _ => loc_fieldAddr _ _ _ _
  | field s x f => exact loc_field _ _ _ _
  | indexAddr t x y => exact loc_indexAddr _ _ _ _
  | index t x y => exact loc_index _ _ _ _
  | makeMap t c =>
    cases c with
    | some c => exact Loc.fail
    | none => exact Loc.bind (Loc.opt _) fun _ => Loc.bind (Loc.opt _) fun _ => Loc.bind (Loc.opt _) fun _ => Loc.bind (Loc.newVer _) fun _ => Loc.ret _
  | lookup t x y ok =>
    simp only [evalOp]
    unfold lookupV
    split
    · refine Loc.bind (Loc.opt _) fun _ => Loc.bind (Loc.opt _) fun _ => Loc.bind (Loc.opt _) fun _ => Loc.bind (Loc.rdBox _) fun _ => ?_
      split
      · exact Loc.bind (Loc.chkS _) fun _ => Loc.rv _
      · exact Loc.fail
    · exact Loc.fail
  | mapUpdate t x y z =>
    simp only [evalOp]
    unfold mapUpdateV
    split
    · refine Loc.bind (Loc.opt _) fun _ => Loc.bind (Loc.opt _) fun _ => Loc.bind (Loc.opt _) fun _ => Loc.bind (Loc.rdBox _) fun _ => ?_
      split
      · exact Loc.bind (Loc.chkS _) fun _ => Loc.ret _
      · exact Loc.fail
    · exact Loc.fail
  | extract x i =>
    simp only [evalOp]
    split
    · exact Loc.bind (Loc.opt _) fun _ => Loc.rv _
    · exact Loc.fail
  | call c => exact loc_evalCall _ _ _ _
  | alloc t => exact Loc.bind (Loc.opt _) fun _ => Loc.bind (Loc.newVer _) fun _ => Loc.ret _
  | box t x => exact Loc.bind (Loc.opt _) fun _ => Loc.bind (Loc.newVer _) fun _ => Loc.bind (Loc.chkS _) fun _ => Loc.bind (Loc.chkS _) fun _ => Loc.ret _
  | move x => exact Loc.rv _
  | assign x => exact Loc.rv _
  | _ => exact Loc.fail
end Go.Ev
namespace Go.Ev
inductive StepN (X : Cx) (ops : List Oper) (o : Oper) (σ : St) (v : V) (up : List (Nat × Box)) (lg : Lg) : Prop
  | plain (e : Eff) (rd : List Nat) (hg : guardOf ops o = none) (h : ∀ k, evalOp X o.dst σ.sl o.op σ.bx k = k e rd) (hv : v = normB e.v) (hu : up = e.up) (hl : lg = ⟨rd, wrOf e.up⟩)
  | yes (gd : Nat) (want : Bool) (e : Eff) (rd : List Nat) (hg : guardOf ops o = some (some gd, want)) (hs : σ.sl gd = .c .bool (.b want)) (h : ∀ k, evalOp X o.dst σ.sl o.op σ.bx k = k e rd) (hv : v = normB e.v) (hu : up = e.up) (hl : lg = ⟨rd, wrOf e.up⟩)
  | no (gd : Nat) (want : Bool) (hg : guardOf ops o = some (some gd, want)) (hs : σ.sl gd = .c .bool (.b (!want)) ∨ σ.sl gd = .ud) (hv : v = .ud) (hu : up = []) (hl : lg = ⟨[], []⟩)
def St.step (σ : St) (o : Oper) (v : V) (up : List (Nat × Box)) : St := ⟨putS σ.sl o.dst v, updB σ.bx up⟩
theorem evalOp_all {X : Cx} {dst : Option Tmp} {ρ : Slots} {op : Op} {bx : Bxs} {k : Eff → List Nat → R} {r : Out} (h : evalOp X dst ρ op bx k = some r) :
    ∃ e rd, k e rd = some r ∧ ∀ k', evalOp X dst ρ op bx k' = k' e rd := by
  obtain ⟨e, rd, h1, h2⟩ := loc_evalOp X dst ρ op bx k r h
  exact ⟨e, rd, h1, fun k' => h2 bx (fun _ _ => rfl) k'⟩
theorem StepN.wr {X : Cx} {ops : List Oper} {o : Oper} {σ : St} {v : V} {up : List (Nat × Box)} {lg : Lg} (h : StepN X ops o σ v up lg) : lg.wr = wrOf up := by
  cases h with
  | plain e rd hg h hv hu hl => rw [hl, hu]
  | yes gd want e rd hg hs h hv hu hl => rw [hl, hu]
  | no gd want hg hs hv hu hl => rw [hl, hu]; rfl
theorem lookTmps_mem {l : List Operand} {t : Nat} (h : Operand.tmp t ∈ l) : t ∈ lookTmps l := by
  induction l with
  | nil => simp at h
  | cons x r ih =>
    cases h with
    | head => exact List.mem_cons_self ..
    | tail _ h =>
      have := ih h
      cases x <;> simp only [lookTmps] <;> first | exact List.mem_cons_of_mem _ this | exact this
theorem StepN.at {X : Cx} {ops : List Oper} {o : Oper} {σ σ2 : St} {v : V} {up : List (Nat × Box)} {lg : Lg} (h : StepN X ops o σ v up lg) (hs : ∀ d, d ∈ looks ops o → σ2.sl d = σ.sl d) (hb : ∀ b, b ∈ lg.rd → σ2.bx b = σ.bx b) :
    StepN X ops o σ2 v up lg := by
  have hev : ∀ (e : Eff) (rd : List Nat), lg = ⟨rd, wrOf e.up⟩ → (∀ k, evalOp X o.dst σ.sl o.op σ.bx k = k e rd) → ∀ k, evalOp X o.dst σ2.sl o.op σ2.bx k = k e rd := by
    intro e rd hl h k
    have hc : evalOp X o.dst σ2.sl o.op = evalOp X o.dst σ.sl o.op := evalOp_congr X o.dst o.op fun x hx => by
      cases x with
      | tmp t => exact hs t (by unfold looks; rw [app_eq]; exact List.mem_append_left _ (lookTmps_mem hx))
      | _ => rfl
    rw [hc]
    have h1 := h fun e' rd' => some (.ret [])
    obtain ⟨e2, rd2, g1, g2⟩ := loc_evalOp X o.dst σ.sl o.op σ.bx _ _ h1
    have h3 : ∀ k : Eff → List Nat → R, k e rd = k e2 rd2 := fun k => by rw [← h k, g2 σ.bx (fun _ _ => rfl) k]
    have hbx : ∀ b, b ∈ rd2 → σ2.bx b = σ.bx b := by
      have key : rd = rd2 := by
        open Classical in
        have := h3 fun _ l => if l = rd2 then some (.ret []) else none
        simp only [if_true] at this
        by_cases hh : rd = rd2
        · exact hh
        · rw [if_neg hh] at this; simp at this
      intro b hb'
      rw [← key] at hb'
      exact hb b (by rw [hl]; exact hb')
    rw [g2 σ2.bx hbx k, h3 k]
  have hgd : ∀ gd want, guardOf ops o = some (some gd, want) → σ2.sl gd = σ.sl gd := fun gd want hg => hs gd (by unfold looks; rw [hg, app_eq]; exact List.mem_append_right _ (List.mem_cons_self ..))
  cases h with
  | plain e rd hg h hv hu hl => exact .plain e rd hg (hev e rd hl h) hv hu hl
  | yes gd want e rd hg hs' h hv hu hl => exact .yes gd want e rd hg (by rw [hgd gd want hg]; exact hs') (hev e rd hl h) hv hu hl
  | no gd want hg hs' hv hu hl => exact .no gd want hg (by rw [hgd gd want hg]; exact hs') hv hu hl
theorem meets_false {a b : List Nat} (h : meets a b = false) : ∀ x, x ∈ a → ¬ x ∈ b := by
  induction a with
  | nil => intro x hx; simp at hx
  | cons y r ih =>
    simp only [meets, orS_eq, Bool.or_eq_false_iff] at h
    intro x hx hb
    rcases List.mem_cons.1 hx with rfl | hx
    · rw [(memb_iff _ _).2 hb] at h; simp at h
    · exact ih h.2 x hx hb
theorem putS_ne {f : Slots} {d : Option Tmp} {v : V} {k : Nat} (h : d ≠ some k) : putS f d v k = f k := by
  cases d with
  | none => rfl
  | some d => exact upd_ne _ _ (fun e => h (by rw [e]))
theorem putS_comm {f : Slots} {d d' : Option Tmp} {v v' : V} (h : ∀ k, d = some k → d' ≠ some k) : putS (putS f d v) d' v' = putS (putS f d' v') d v := by
  funext k
  cases d with
  | none => rfl
  | some d => cases d' with
    | none => rfl
    | some d' =>
      have hne : d ≠ d' := fun e => h d rfl (by rw [e])
      show upd (upd f d v) d' v' k = upd (upd f d' v') d v k
      simp only [upd_apply]
      split
      · rename_i e; subst e; rw [if_neg (Ne.symm hne)]
      · rfl
theorem updB_get : ∀ {l : List (Nat × Box)} {f f' : Bxs} {b : Nat}, f b = f' b → updB f l b = updB f' l b
  | [], f, f', b, h => h
  | (c, x) :: r, f, f', b, h => by
    show updB (upd f c (some x)) r b = updB (upd f' c (some x)) r b
    refine updB_get ?_
    simp only [upd_apply]
    split <;> first | rfl | exact h
theorem updB_mem' : ∀ {l : List (Nat × Box)} {f f' : Bxs} {b : Nat}, b ∈ wrOf l → updB f l b = updB f' l b
  | [], f, f', b, h => by simp [wrOf] at h
  | (c, x) :: r, f, f', b, h => by
    show updB (upd f c (some x)) r b = updB (upd f' c (some x)) r b
    by_cases hb : b ∈ wrOf r
    · exact updB_mem' hb
    · have : b = c := by
        simp only [wrOf, List.mem_cons] at h
        exact h.resolve_right hb
      subst this
      exact updB_get (by simp only [upd_same])
theorem updB_comm {f : Bxs} {l m : List (Nat × Box)} (h : ∀ b, b ∈ wrOf l → ¬ b ∈ wrOf m) : updB (updB f l) m = updB (updB f m) l := by
  funext b
  by_cases h1 : b ∈ wrOf l
  · rw [updB_not (h b h1)]
    exact updB_mem' h1
  · by_cases h2 : b ∈ wrOf m
    · rw [updB_not (l := l) h1]
      exact updB_mem' h2
    · rw [updB_not h2, updB_not h1, updB_not h1, updB_not h2]
theorem apartS_spec {ops : List Oper} {x y : Oper} (h : apartS ops x y = true) : (∀ d, x.dst = some d → ¬ d ∈ looks ops y) ∧ (∀ d, x.dst = some d → y.dst ≠ some d) ∧ ∀ d, y.dst = some d → ¬ d ∈ looks ops x := by
  have nm : ∀ {l : List Nat} {d : Nat}, notS (memb l d) = true → ¬ d ∈ l := fun h hm => by rw [(memb_iff _ _).2 hm] at h; simp [notS] at h
  unfold apartS at h
  simp only [andS_eq, Bool.and_eq_true] at h
  refine ⟨fun d hd => ?_, fun d hd => ?_, fun d hd => ?_⟩
  · have h1 := h.1
    rw [hd] at h1
    simp only [Bool.and_eq_true] at h1
    exact nm h1.1
  · have h1 := h.1
    rw [hd] at h1
    simp only [Bool.and_eq_true] at h1
    intro hy
    have h2 := h1.2
    rw [hy] at h2
    simp only [Nat.beq_refl, notS] at h2
    simp at h2
  · have h1 := h.2
    rw [hd] at h1
    exact nm h1
theorem swap {X : Cx} {ops : List Oper} {q o : Oper} {σ : St} {vq vo : V} {uq uo : List (Nat × Box)} {h g : Lg} (h1 : StepN X ops q σ vq uq h) (h2 : StepN X ops o (σ.step q vq uq) vo uo g) (ha : apartS ops q o = true) (hc : Lg.clash h g = false) :
    StepN X ops o σ vo uo g ∧ StepN X ops q (σ.step o vo uo) vq uq h ∧ (σ.step o vo uo).step q vq uq = (σ.step q vq uq).step o vo uo := by
  obtain ⟨a1, a2, a3⟩ := apartS_spec ha
  simp only [Lg.clash, orS_eq, Bool.or_eq_false_iff] at hc
  obtain ⟨c1, c2, c3⟩ := hc
  have c1 := meets_false c1
  have c2 := meets_false c2
  have c3 := meets_false c3
  rw [h1.wr] at c1 c2
  rw [h2.wr] at c2 c3
  refine ⟨h2.at (fun d hd => ?_) (fun b hb => ?_), h1.at (fun d hd => ?_) (fun b hb => ?_), ?_⟩
  · exact (putS_ne (fun e => a1 d e hd)).symm
  · exact (updB_not (fun e => c1 b e hb)).symm
  · exact putS_ne (fun e => a3 d e hd)
  · exact updB_not (fun e => c3 b e hb)
  · unfold St.step
    rw [putS_comm a2, updB_comm c2]
inductive Chain (X : Cx) (ops : List Oper) : St → List (Nat × Oper × Lg) → St → Prop
  | nil (σ : St) : Chain X ops σ [] σ
  | cons {σ σ' : St} {i : Nat} {o : Oper} {lg : Lg} {v : V} {up : List (Nat × Box)} {L : List (Nat × Oper × Lg)} (hd : dstOk X.n o.dst = true) (h : StepN X ops o σ v up lg) (hr : Chain X ops (σ.step o v up) L σ') : Chain X ops σ ((i, o, lg) :: L) σ'
theorem bubble {X : Cx} {ops : List Oper} {i : Nat} {o : Oper} {g : Lg} {post : List (Nat × Oper × Lg)} {σ' : St} : ∀ (pre : List (Nat × Oper × Lg)) (σ : St), Chain X ops σ (pre ++ (i, o, g) :: post) σ' →
    (∀ j q h, (j, q, h) ∈ pre → apartS ops q o = true ∧ Lg.clash h g = false) → Chain X ops σ ((i, o, g) :: (pre ++ post)) σ'
  | [], σ, hc, _ => hc
  | (j, q, h) :: pre, σ, hc, ha => by
    cases hc with
    | cons hd hs hr =>
      have hb := bubble pre _ hr fun j q h hm => ha j q h (List.mem_cons_of_mem _ hm)
      obtain ⟨x1, x2⟩ := ha j q h (List.mem_cons_self ..)
      cases hb with
      | cons hd2 hs2 hr2 =>
        obtain ⟨s1, s2, s3⟩ := swap hs hs2 x1 x2
        refine .cons hd2 s1 (.cons hd s2 ?_)
        rw [s3]
        exact hr2
end Go.Ev
namespace Go.Ev
theorem logOk_get {ops : List Oper} {an : List Nat} {o : Oper} {g : Lg} : ∀ {l : List (Oper × Lg)} {j0 : Nat}, logOk ops an o g l j0 = true → ∀ (j : Nat) (q : Oper) (h : Lg), l[j]? = some (q, h) → memb an (j0 + j) = true ∨ (apartS ops q o = true ∧ Lg.clash h g = false)
  | [], j0, _, j, q, h, hj => by simp at hj
  | (q', h') :: r, j0, hl, j, q, h, hj => by
    simp only [logOk, andS_eq, orS_eq, notS_eq, Bool.and_eq_true, Bool.or_eq_true, Bool.not_eq_true'] at hl
    cases j with
    | zero => simp at hj; obtain ⟨rfl, rfl⟩ := hj; exact hl.1
    | succ j =>
      have := logOk_get hl.2 j q h (by simpa using hj)
      rw [show j0 + (j + 1) = j0 + 1 + j from by omega]
      exact this
def Proper (n : Nat) (ops : List Oper) (σ : St) : Prop := ∀ j q d x, j < n → ops[j]? = some q → q.dst = some d → σ.sl d = .c .bool x → ∃ v, x = .b v
theorem normB_proper {v : V} {x : C} (h : normB v = .c .bool x) : ∃ b, x = .b b := by
  cases v with
  | c t y => cases t with
    | bool =>
      simp only [normB, V.c.injEq, true_and] at h
      exact ⟨_, h.symm⟩
    | _ => simp [normB] at h
  | _ => simp [normB] at h
theorem Proper.step {n : Nat} {ops : List Oper} {σ : St} {o : Oper} {v : V} {up : List (Nat × Box)} (h : Proper n ops σ) (ho : ops[n]? = some o) (hv : ∀ x, v = .c .bool x → ∃ b, x = .b b) : Proper (n + 1) ops (σ.step o v up) := by
  intro j q d x hj hq hd hx
  by_cases he : o.dst = some d
  · have : (σ.step o v up).sl d = v := by show putS σ.sl o.dst v d = v; rw [he]; exact upd_same _ _ _
    rw [this] at hx
    exact hv x hx
  · have : (σ.step o v up).sl d = σ.sl d := putS_ne he
    rw [this] at hx
    have hjn : j ≠ n := by
      rintro rfl
      rw [ho] at hq
      obtain rfl := Option.some.inj hq
      exact he hd
    exact h j q d x (by omega) hq hd hx
theorem upd_self {f : Slots} {d : Nat} {v : V} (h : f d = v) : upd f d v = f := by
  funext k
  rw [upd_apply]
  split
  · rename_i e; rw [e, h]
  · rfl
structure Run (X : Cx) (draw : Bool) (ops : List Oper) (an : List (List Nat)) (κ : St → R) (r : Out) (rem : List Oper) (lg : List (Oper × Lg)) (σ : St) : Prop where
  ex : ∃ (L : List (Nat × Oper × Lg)) (σ' : St), Chain X ops σ L σ' ∧ κ σ' = some r ∧ L.map (fun p => (p.1, p.2.1)) = (rem.zipIdx lg.length).map (fun p => (p.2, p.1)) ∧
    (draw = true → ∀ (p : Nat) (i : Nat) (o : Oper) (g : Lg), L[p]? = some (i, o, g) → ∀ (j : Nat) (q : Oper) (h : Lg), (lg ++ L.map (·.2))[j]? = some (q, h) → j < lg.length + p → memb (nth [] an i) j = true ∨ (apartS ops q o = true ∧ Lg.clash h g = false))
theorem runOps_chain {X : Cx} {draw : Bool} {ops : List Oper} {an : List (List Nat)} {κ : St → R} {r : Out} : ∀ (rem : List Oper) (lg : List (Oper × Lg)) (σ : St), (∀ (i : Nat) (o : Oper), rem[i]? = some o → ops[lg.length + i]? = some o) → Proper lg.length ops σ →
    runOps X draw ops an κ rem lg σ = some r → Run X draw ops an κ r rem lg σ
  | [], lg, σ, _, _, h => ⟨[], σ, .nil σ, h, rfl, fun _ p i o g hp => by simp at hp⟩
  | o :: rem, lg, σ, hrem, hpr, h => by
    have ho : ops[lg.length]? = some o := hrem 0 o rfl
    cases hd : andS (dstOk X.n o.dst) (gBefore (len lg) o) with
    | false =>
      simp only [runOps, hd, sif] at h
      simp at h
    | true =>
    have hd' := hd
    simp only [andS_eq, Bool.and_eq_true, len_eq] at hd'
    have key : ∀ (v : V) (up : List (Nat × Box)) (g : Lg), StepN X ops o σ v up g → (∀ x, v = .c .bool x → ∃ b, x = .b b) → orS (notS draw) (logOk ops (nth [] an (len lg)) o g lg 0) = true →
        runOps X draw ops an κ rem (app lg [(o, g)]) (σ.step o v up) = some r → Run X draw ops an κ r (o :: rem) lg σ := by
      intro v up g hs hv hlog hrun
      rw [app_eq] at hrun
      have hlen : (lg ++ [(o, g)]).length = lg.length + 1 := by simp
      obtain ⟨⟨L, σ', c1, c2, c3, c4⟩⟩ := runOps_chain rem (lg ++ [(o, g)]) (σ.step o v up) (fun i q hq => by
        rw [hlen, show lg.length + 1 + i = lg.length + (i + 1) from by omega]
        exact hrem (i + 1) q (by simpa using hq)) (by rw [hlen]; exact hpr.step ho hv) hrun
      refine ⟨(lg.length, o, g) :: L, σ', .cons hd'.1 hs c1, c2, ?_, fun hdr p i q' g' hp j q h hj hjl => ?_⟩
      · rw [hlen] at c3
        simp [List.zipIdx_cons, c3]
      · cases p with
        | zero =>
          simp only [List.getElem?_cons_zero, Option.some.injEq, Prod.mk.injEq] at hp
          obtain ⟨rfl, rfl, rfl⟩ := hp
          rw [hdr] at hlog
          simp only [orS_eq, notS_eq, Bool.not_true, Bool.false_or, len_eq] at hlog
          rw [List.getElem?_append_left (by omega)] at hj
          have := logOk_get hlog j q h hj
          simpa using this
        | succ p =>
          have e : lg ++ ((lg.length, o, g) :: L).map (·.2) = lg ++ [(o, g)] ++ L.map (·.2) := by simp
          rw [e] at hj
          exact c4 hdr p i q' g' (by simpa using hp) j q h hj (by rw [hlen]; omega)
    simp only [runOps, hd, sif_true] at h
    have fin : ∀ (e : Eff) (rd : List Nat) (ρ : Slots), ρ = σ.sl → (∀ k, evalOp X o.dst σ.sl o.op σ.bx k = k e rd) → StepN X ops o σ (normB e.v) e.up ⟨rd, wrOf e.up⟩ →
        (sif (orS (notS draw) (logOk ops (nth [] an (len lg)) o ⟨rd, wrOf e.up⟩ lg 0))
          (e.v.force fun v => forceB e.up fun up => runOps X draw ops an κ rem (app lg [(o, ⟨rd, wrOf e.up⟩)]) (applyE ⟨ρ, σ.bx⟩ o.dst ⟨normB v, up⟩)) none) = some r → Run X draw ops an κ r (o :: rem) lg σ := by
      intro e rd ρ hρ hall hs h
      cases hl : orS (notS draw) (logOk ops (nth [] an (len lg)) o ⟨rd, wrOf e.up⟩ lg 0) with
      | false => simp [hl, sif] at h
      | true =>
        rw [hl, sif_true, force_eq, forceB_eq] at h
        subst hρ
        exact key _ _ _ hs (fun x hx => normB_proper hx) hl h
    split at h
    · rename_i hg
      obtain ⟨e, rd, h1, h2⟩ := evalOp_all h
      exact fin e rd σ.sl rfl h2 (.plain e rd hg h2 rfl rfl rfl) h1
    · rename_i gd want hg
      have hprop : ∀ x, σ.sl gd = .c .bool x → ∃ v, x = .b v := by
        intro x hx
        unfold guardOf at hg
        split at hg
        · simp at hg
        · rename_i gi want' hgu
          simp only [Option.some.injEq, Prod.mk.injEq] at hg
          obtain ⟨hq, rfl⟩ := hg
          have hlt : gi < lg.length := by
            have := hd'.2
            simp only [gBefore, hgu] at this
            simp [Nat.blt] at this
            omega
          rw [nth?_eq] at hq
          split at hq
          · rename_i q hqq
            exact hpr gi q gd x hlt hqq hq hx
          · simp at hq
      split at h
      · rename_i x hx
        obtain ⟨v, rfl⟩ := hprop x hx
        have hcond : (sif want v (!v)) = (v == want) := by cases want <;> cases v <;> rfl
        replace h : cond (sif want v (!v))
          (evalOp X o.dst (upd σ.sl gd (.c .bool (.b want))) o.op σ.bx fun e rd =>
            sif (orS (notS draw) (logOk ops (nth [] an (len lg)) o ⟨rd, wrOf e.up⟩ lg 0))
              (e.v.force fun v => forceB e.up fun up => runOps X draw ops an κ rem (app lg [(o, ⟨rd, wrOf e.up⟩)]) (applyE ⟨upd σ.sl gd (.c .bool (.b want)), σ.bx⟩ o.dst ⟨normB v, up⟩)) none)
          (sif (orS (notS draw) (logOk ops (nth [] an (len lg)) o ⟨[], []⟩ lg 0))
            (runOps X draw ops an κ rem (app lg [(o, ⟨[], []⟩)]) ⟨putS (upd σ.sl gd (.c .bool (.b (notS want)))) o.dst .ud, σ.bx⟩) none) = some r := h
        rw [hcond] at h
        by_cases hvw : v = want
        · subst hvw
          rw [show (v == v) = true from beq_self_eq_true v] at h
          simp only [cond_true] at h
          rw [upd_self hx] at h
          obtain ⟨e, rd, h1, h2⟩ := evalOp_all h
          exact fin e rd σ.sl rfl h2 (.yes gd v e rd hg hx h2 rfl rfl rfl) h1
        · rw [show (v == want) = false from by simpa using hvw] at h
          simp only [cond_false] at h
          have hv' : v = !want := by cases v <;> cases want <;> simp_all
          rw [notS_eq want, ← hv', upd_self hx] at h
          cases hl : orS (notS draw) (logOk ops (nth [] an (len lg)) o ⟨[], []⟩ lg 0) with
          | false => simp [hl, sif] at h
          | true =>
            rw [hl, sif_true] at h
            exact key .ud [] ⟨[], []⟩ (.no gd want hg (.inl (by rw [hx, hv'])) rfl rfl rfl) (fun x hx => by simp at hx) hl h
      · rename_i hx
        cases hl : orS (notS draw) (logOk ops (nth [] an (len lg)) o ⟨[], []⟩ lg 0) with
        | false => simp [hl, sif] at h
        | true =>
          rw [hl, sif_true] at h
          exact key .ud [] ⟨[], []⟩ (.no gd want hg (.inr hx) rfl rfl rfl) (fun x hx => by simp at hx) hl h
      · simp at h
    · simp at h
section
variable {P : Program} {X : Cx} {fr : Fr}
theorem normB_ok {T : Tys} {F : Nat → Prop} {w : World} {bx : Bxs} {θ : Nat → Value} {x : V} {v : Value} (h : RelV T F w bx θ x v) : RelV T F w bx θ (normB x) v := by
  cases x with
  | c t y => cases t with
    | bool =>
      cases h with
      | c t y v hr => cases hr with
        | bool b => exact .c _ _ _ (.bool b)
    | _ => exact h
  | _ => exact h
theorem put_getD {a : Act} {dst : Option Tmp} {v : Value} {n : Nat} (hn : a.tmps.size = n) (hd : dstOk n dst = true) (k : Nat) : (a.put dst v).tmps.getD k undef = if dst = some k then v else a.tmps.getD k undef := by
  cases dst with
  | none => simp [Act.put]
  | some d =>
    have hlt : d < a.tmps.size := by rw [hn]; exact Nat.le_of_ble_eq_true hd
    simp only [Act.put, Array.getD_eq_getD_getElem?, Option.some.injEq]
    rw [Array.getElem?_setIfInBounds]
    split
    · rename_i e; subst e; simp [hlt]
    · rfl
theorem put_size (a : Act) (dst : Option Tmp) (v : Value) : (a.put dst v).tmps.size = a.tmps.size := by cases dst <;> simp [Act.put]
theorem put_defers (a : Act) (dst : Option Tmp) (v : Value) : (a.put dst v).defers = a.defers := by cases dst <;> rfl
theorem putS_get {f : Slots} {d : Option Tmp} {v : V} (k : Nat) : putS f d v k = if d = some k then v else f k := by
  cases d with
  | none => simp [putS]
  | some d =>
    show upd f d v k = _
    rw [upd_apply]
    by_cases h : k = d
    · subst h; simp
    · rw [if_neg h, if_neg (fun e => h (Option.some.inj e).symm)]
theorem sim_step {T : Tys} {F : Nat → Prop} {w w' : World} {θ : Nat → Value} {σ : St} {a : Act} {n : Nat} {o : Oper} {e : Eff} {v : Value} {x : V} (hs : SlR T F w σ.bx θ n σ.sl a) (hd : dstOk n o.dst = true)
    (h : Aft T fr F w σ.bx θ e v w') (hx : ∀ F' θ', RelV T F' w' (updB σ.bx e.up) θ' e.v v → RelV T F' w' (updB σ.bx e.up) θ' x v) : Sim T fr n (σ.step o x e.up) (a.put o.dst v) w' := by
  obtain ⟨F', θ', h1, h2, h3⟩ := h
  refine ⟨F', θ', h1, ⟨fun k => ?_, by rw [put_size]; exact hs.n, by rw [put_defers]; exact hs.defers⟩⟩
  rw [put_getD hs.n hd]
  show RelV T F' w' (updB σ.bx e.up) θ' (putS σ.sl o.dst x k) _
  rw [putS_get]
  split
  · exact hx _ _ h3
  · exact (hs.sl k).mv h2
theorem yielded_of {ops : List Oper} {a : Act} {g : Nat} {gd : Nat} (hq : (match nth? ops g with | some q => q.dst | none => none) = some gd) : yielded ops.toArray a.tmps g = match a.tmps[gd]? with | some (.bool b) => some b | _ => none := by
  unfold yielded
  rw [nth?_eq] at hq
  split at hq
  · rename_i q hqq
    simp [hqq, hq]
    cases a.tmps[gd]? with
    | none => rfl
    | some u => cases u <;> rfl
  · simp at hq
theorem bool_at {a : Act} {gd : Nat} {v : Bool} (h : a.tmps.getD gd undef = .bool v) : a.tmps[gd]? = some (.bool v) := by
  rw [Array.getD_eq_getD_getElem?] at h
  cases hh : a.tmps[gd]? with
  | none => rw [hh] at h; simp [undef] at h
  | some u => rw [hh] at h; simp at h; rw [h]
theorem step_ok (hX : Env P X) {ops : List Oper} {i : Nat} {o : Oper} {σ : St} {v : V} {up : List (Nat × Box)} {lg : Lg} {a : Act} {w : World} (hi : ops[i]? = some o) (hd : dstOk X.n o.dst = true) (h : StepN X ops o σ v up lg) (hs : Sim X.T fr X.n σ a w)
    {K : Act → World → Prop} {Q : Exit → Act → World → Prop} (hK : ∀ a' w', Sim X.T fr X.n (σ.step o v up) a' w' → K a' w') : wpOp P ops.toArray Q i K a w := by
  unfold wpOp
  have hi' : ops.toArray[i]? = some o := by simpa using hi
  rw [hi']
  simp only
  obtain ⟨F, θ, hw, hsl⟩ := hs
  have run : ∀ (e : Eff) (rd : List Nat), (∀ k, evalOp X o.dst σ.sl o.op σ.bx k = k e rd) → v = normB e.v → up = e.up → o.wp P a w K Q := by
    intro e rd hall hv hu
    have h1 := hall fun e rd => some (.ret [])
    have ho := opnd_ok (ρ := σ.sl) (a := a) hsl.sl
    have open_ : ∀ (p : Eff → List Nat → Prop), p e rd → True := fun _ _ => trivial
    obtain ⟨e2, rd2, g1, g2⟩ := evalOp_good (k := fun e' rd' => open Classical in if e' = e ∧ rd' = rd then some (.ret []) else none) (r := .ret []) hX hw ho (by rw [hall]; simp)
    have he : e2 = e := by
      open Classical in
      by_cases hh : e2 = e ∧ rd2 = rd
      · exact hh.1
      · simp only [hh, if_false] at g1; simp at g1
    subst he
    refine g2 K Q fun u w' hA => hK _ _ ?_
    rw [hv, hu]
    exact sim_step hsl hd hA fun F' θ' hr => normB_ok hr
  cases h with
  | plain e rd hg hall hv hu hl =>
    have hwant : Region.wanted o (yielded ops.toArray a.tmps) = true := by
      unfold guardOf at hg
      unfold Region.wanted
      split at hg
      · rename_i hgu; rw [hgu]
      · simp at hg
    rw [if_pos hwant]
    exact .inl (run e rd hall hv hu)
  | yes gd want e rd hg hsg hall hv hu hl =>
    have hwant : Region.wanted o (yielded ops.toArray a.tmps) = true := by
      unfold guardOf at hg
      unfold Region.wanted
      split at hg
      · simp at hg
      · rename_i g want' hgu
        simp only [Option.some.injEq, Prod.mk.injEq] at hg
        obtain ⟨hq, rfl⟩ := hg
        rw [hgu]
        simp only
        rw [yielded_of hq]
        have hr := hsl.sl gd
        rw [hsg] at hr
        rw [bool_at (bool_ok hr)]
        simp [C.B]
    rw [if_pos hwant]
    exact .inl (run e rd hall hv hu)
  | no gd want hg hsg hv hu hl =>
    have hwant : ¬ Region.wanted o (yielded ops.toArray a.tmps) = true := by
      unfold guardOf at hg
      unfold Region.wanted
      split at hg
      · simp at hg
      · rename_i g want' hgu
        simp only [Option.some.injEq, Prod.mk.injEq] at hg
        obtain ⟨hq, rfl⟩ := hg
        rw [hgu]
        simp only
        rw [yielded_of hq]
        have hr := hsl.sl gd
        rcases hsg with hsg | hsg
        · rw [hsg] at hr
          rw [bool_at (bool_ok hr)]
          cases want' <;> simp [C.B]
        · rw [hsg] at hr
          generalize hz : a.tmps.getD gd undef = z at hr
          cases hr
          rw [Array.getD_eq_getD_getElem?] at hz
          cases hh : a.tmps[gd]? with
          | none => simp
          | some u => rw [hh] at hz; simp at hz; subst hz; simp [undef]
    rw [if_neg hwant]
    refine hK _ _ ?_
    rw [hv, hu]
    exact sim_step (e := ⟨.ud, []⟩) hsl hd (Aft.same hw .ud) fun F' θ' hr => hr
theorem chain_ok (hX : Env P X) {ops : List Oper} {Q : Exit → Act → World → Prop} {σ' : St} : ∀ (L : List (Nat × Oper × Lg)) (σ : St) (a : Act) (w : World), Chain X ops σ L σ' → (∀ i o g, (i, o, g) ∈ L → ops[i]? = some o) → Sim X.T fr X.n σ a w →
    (∀ a' w', Sim X.T fr X.n σ' a' w' → Q .normal a' w') → wpOps P ops.toArray Q (L.map (·.1)) a w
  | [], σ, a, w, hc, _, hs, hQ => by
    cases hc
    exact hQ a w hs
  | (i, o, g) :: L, σ, a, w, hc, hi, hs, hQ => by
    cases hc with
    | cons hd h hr =>
      show wpOps P ops.toArray Q (i :: L.map (·.1)) a w
      rw [wpOps_cons]
      exact step_ok hX (hi i o g (List.mem_cons_self ..)) hd h hs fun a' w' hs' => chain_ok hX L _ a' w' hr (fun i o g hm => hi i o g (List.mem_cons_of_mem _ hm)) hs' hQ
end
end Go.Ev
namespace Go.Ev
theorem uniR_mem {j : Nat} : ∀ {l m : List Nat}, j ∈ uniR l m → j ∈ l ∨ j ∈ m
  | [], m, h => .inr h
  | a :: r, m, h => by
    replace h : j ∈ sif (memb m a) (uniR r m) (a :: uniR r m) := h
    cases hm : memb m a with
    | true => rw [hm, sif_true] at h; exact (uniR_mem h).imp (List.mem_cons_of_mem _) id
    | false =>
      rw [hm, sif_false] at h
      rcases List.mem_cons.1 h with rfl | h
      · exact .inl (List.mem_cons_self ..)
      · exact (uniR_mem h).imp (List.mem_cons_of_mem _) id
theorem uni_mem {j : Nat} {l m : List Nat} (h : j ∈ uni l m) : j ∈ l ∨ j ∈ m := by
  unfold uni at h
  split at h
  · exact .inl h
  · exact uniR_mem h
theorem foldl_mem {acc : List (List Nat)} {j : Nat} : ∀ (l : List Edge) (s : List Nat), j ∈ l.foldl (fun s e => sif (bindsE e) (sif (memb s e.on) s (e.on :: uni (nth [] acc e.on) s)) s) s → j ∈ s ∨ ∃ e, e ∈ l ∧ bindsE e = true ∧ (j = e.on ∨ j ∈ nth [] acc e.on)
  | [], s, h => .inl h
  | e :: r, s, h => by
    rcases foldl_mem r _ h with h | ⟨e', h1, h2⟩
    · replace h : j ∈ sif (bindsE e) (sif (memb s e.on) s (e.on :: uni (nth [] acc e.on) s)) s := h
      cases hb : bindsE e with
      | false => rw [hb, sif_false] at h; exact .inl h
      | true =>
        rw [hb, sif_true] at h
        cases hm : memb s e.on with
        | true => rw [hm, sif_true] at h; exact .inl h
        | false =>
          rw [hm, sif_false] at h
          rcases List.mem_cons.1 h with h | h
          · exact .inr ⟨e, List.mem_cons_self .., hb, .inl h⟩
          · rcases uni_mem h with h | h
            · exact .inr ⟨e, List.mem_cons_self .., hb, .inr h⟩
            · exact .inl h
    · exact .inr ⟨e', List.mem_cons_of_mem _ h1, h2⟩
theorem anc_spec : ∀ (l : List Oper) (acc : List (List Nat)), (∀ i, i < acc.length → (anc l acc)[i]? = acc[i]?) ∧
    ∀ (i : Nat) (o : Oper), l[i]? = some o → ∀ j, j ∈ nth [] (anc l acc) (acc.length + i) → ∃ e, e ∈ o.after.toList ∧ bindsE e = true ∧ (j = e.on ∨ j ∈ nth [] (anc l acc) e.on)
  | [], acc => ⟨fun i _ => rfl, fun i o h => by simp at h⟩
  | o :: r, acc => by
    have e0 : ∃ x, x = o.after.toList.foldl (fun s e => sif (bindsE e) (sif (memb s e.on) s (e.on :: uni (nth [] acc e.on) s)) s) [] := ⟨_, rfl⟩
    obtain ⟨x, hx⟩ := e0
    have e1 : anc (o :: r) acc = anc r (acc ++ [x]) := by
      show anc r (app acc [_]) = _
      rw [app_eq, ← hx]
    obtain ⟨h1, h2⟩ := anc_spec r (acc ++ [x])
    have hlen : (acc ++ [x]).length = acc.length + 1 := by simp
    rw [e1]
    refine ⟨fun i hi => ?_, fun i q hq j hj => ?_⟩
    · rw [h1 i (by omega), List.getElem?_append_left hi]
    · cases i with
      | zero =>
        simp at hq; subst hq
        rw [Nat.add_zero, nth_eq, List.getD_eq_getElem?_getD, h1 acc.length (by omega), List.getElem?_append_right (Nat.le_refl _)] at hj
        simp at hj
        rw [hx] at hj
        rcases foldl_mem _ _ hj with h | ⟨e, a1, a2, a3⟩
        · simp at h
        · refine ⟨e, a1, a2, a3.imp id fun hm => ?_⟩
          rw [nth_eq, List.getD_eq_getElem?_getD] at hm ⊢
          by_cases hlt : e.on < acc.length
          · rw [h1 e.on (by omega), List.getElem?_append_left hlt]; exact hm
          · rw [List.getElem?_eq_none (by omega)] at hm; simp at hm
      | succ i =>
        have := h2 i q (by simpa using hq) j (by rw [hlen, show acc.length + 1 + i = acc.length + (i + 1) from by omega]; exact hj)
        exact this
theorem edgesB_spec : ∀ {l : List Oper} {n : Nat}, edgesB l n = true → ∀ (i : Nat) (o : Oper), l[i]? = some o → ∀ e, e ∈ o.after.toList → bindsE e = true → e.on < n + i
  | [], n, _, i, o, h, _, _, _ => by simp at h
  | q :: r, n, h, i, o, ho, e, he, hb => by
    simp only [edgesB, andS_eq, Bool.and_eq_true] at h
    cases i with
    | zero =>
      simp at ho; subst ho
      have key : ∀ {l : List Edge}, allb (edgeBack n) l = true → ∀ e, e ∈ l → edgeBack n e = true := by
        intro l
        induction l with
        | nil => intro _ e he; simp at he
        | cons y r ih =>
          intro hl e he
          simp only [allb, andS_eq, Bool.and_eq_true] at hl
          rcases List.mem_cons.1 he with rfl | he
          · exact hl.1
          · exact ih hl.2 e he
      have := key h.1 e he
      simp only [edgeBack, orS_eq, notS_eq, hb, Bool.not_true, Bool.false_or] at this
      exact Nat.le_of_ble_eq_true this
    | succ i =>
      have := edgesB_spec h.2 i o (by simpa using ho) e he hb
      omega
section
variable {P : Program} {X : Cx} {fr : Fr}
structure Inv (ops : List Oper) (listed : Array Bool) (L : List (Nat × Oper × Lg)) : Prop where
  size : listed.size = ops.length
  mem : ∀ i o g, (i, o, g) ∈ L → ops[i]? = some o ∧ listed.getD i false = false
  all : ∀ i, i < ops.length → listed.getD i false = false → ∃ o g, (i, o, g) ∈ L
  sorted : L.Pairwise fun a b => a.1 < b.1
  ind : L.Pairwise fun a b => memb (nth [] (anc ops []) b.1) a.1 = true ∨ (apartS ops a.2.1 b.2.1 = true ∧ Lg.clash a.2.2 b.2.2 = false)
  closed : ∀ i o, listed.getD i false = true → ops[i]? = some o → ∀ e, e ∈ o.after.toList → bindsE e = true → listed.getD e.on false = true
theorem ready_iff {ops : List Oper} {listed : Array Bool} (hsz : listed.size = ops.length) (i : Nat) : i ∈ Region.ready .any ops.toArray listed ↔ ∃ o, ops[i]? = some o ∧ listed.getD i false = false ∧ ∀ e, e ∈ o.after.toList → bindsE e = true → listed.getD e.on false = true := by
  unfold Region.ready
  simp only [List.mem_filter, List.mem_range, List.size_toArray, Bool.and_eq_true, Bool.not_eq_true']
  constructor
  · rintro ⟨h1, h2, h3⟩
    have ho : ops[i]? = some ops[i] := List.getElem?_eq_getElem h1
    refine ⟨_, ho, ?_, fun e he hb => ?_⟩
    · simp only [Array.getD_eq_getD_getElem?] at h2 ⊢
      rw [Array.getElem?_eq_getElem (by omega)] at h2 ⊢
      simpa using h2
    · rw [show ops.toArray[i]? = some ops[i] from by simpa using ho] at h3
      simp only [Option.map_some, Option.getD_some] at h3
      rw [← Array.all_toList, List.all_eq_true] at h3
      have := h3 e he
      unfold bindsE at hb
      rw [hb] at this
      simpa using this
  · rintro ⟨o, ho, h2, h3⟩
    have h1 : i < ops.length := (List.getElem?_eq_some_iff.1 ho).1
    refine ⟨h1, ?_, ?_⟩
    · simp only [Array.getD_eq_getD_getElem?] at h2 ⊢
      rw [Array.getElem?_eq_getElem (by omega)] at h2 ⊢
      simpa using h2
    · rw [show ops.toArray[i]? = some o from by simpa using ho]
      simp only [Option.map_some, Option.getD_some]
      rw [← Array.all_toList, List.all_eq_true]
      intro e he
      cases hb : Region.binds .any e with
      | false => rfl
      | true =>
        have := h3 e he hb
        simpa using this
theorem anc_listed {ops : List Oper} {listed : Array Bool} (hB : edgesB ops 0 = true) (hcl : ∀ i o, listed.getD i false = true → ops[i]? = some o → ∀ e, e ∈ o.after.toList → bindsE e = true → listed.getD e.on false = true) :
    ∀ (n m : Nat), m ≤ n → listed.getD m false = true → ∀ j, j ∈ nth [] (anc ops []) m → listed.getD j false = true := by
  intro n
  induction n with
  | zero =>
    intro m hm hl j hj
    cases ho : ops[m]? with
    | none =>
      have : (anc ops [])[m]? = none := by
        have key : ∀ (l : List Oper) (acc : List (List Nat)), (anc l acc).length = acc.length + l.length := by
          intro l
          induction l with
          | nil => intro acc; rfl
          | cons o r ih => intro acc; show (anc r (app acc [_])).length = _; rw [ih, app_eq]; simp; omega
        rw [List.getElem?_eq_none_iff, key]
        rw [List.getElem?_eq_none_iff] at ho
        simpa using ho
      rw [nth_eq, List.getD_eq_getElem?_getD, this] at hj
      simp at hj
    | some o =>
      obtain ⟨e, h1, h2, h3⟩ := (anc_spec ops []).2 m o ho j (by simpa using hj)
      have := edgesB_spec hB m o ho e h1 h2
      omega
  | succ n ih =>
    intro m hm hl j hj
    cases ho : ops[m]? with
    | none =>
      have : (anc ops [])[m]? = none := by
        have key : ∀ (l : List Oper) (acc : List (List Nat)), (anc l acc).length = acc.length + l.length := by
          intro l
          induction l with
          | nil => intro acc; rfl
          | cons o r ih => intro acc; show (anc r (app acc [_])).length = _; rw [ih, app_eq]; simp; omega
        rw [List.getElem?_eq_none_iff, key]
        rw [List.getElem?_eq_none_iff] at ho
        simpa using ho
      rw [nth_eq, List.getD_eq_getElem?_getD, this] at hj
      simp at hj
    | some o =>
      obtain ⟨e, h1, h2, h3⟩ := (anc_spec ops []).2 m o ho j (by simpa using hj)
      have hlt := edgesB_spec hB m o ho e h1 h2
      have hle := hcl m o hl ho e h1 h2
      rcases h3 with rfl | h3
      · exact hle
      · exact ih e.on (by omega) hle j h3
theorem any_ok (hX : Env P X) {ops : List Oper} {Q : Exit → Act → World → Prop} {σ' : St} (hB : edgesB ops 0 = true) (hQ : ∀ a' w', Sim X.T fr X.n σ' a' w' → Q .normal a' w') :
    ∀ (fuel : Nat) (listed : Array Bool) (L : List (Nat × Oper × Lg)) (σ : St) (a : Act) (w : World), Inv ops listed L → L.length ≤ fuel → Chain X ops σ L σ' → Sim X.T fr X.n σ a w → wpAny P .any ops.toArray Q fuel listed a w := by
  intro fuel
  induction fuel with
  | zero =>
    intro listed L σ a w hI hlen hc hs
    have : L = [] := List.eq_nil_of_length_eq_zero (by omega)
    subst this
    cases hc
    refine ⟨?_, hQ a w hs⟩
    cases hr : Region.ready .any ops.toArray listed with
    | nil => rfl
    | cons i t =>
      have : i ∈ Region.ready .any ops.toArray listed := by rw [hr]; exact List.mem_cons_self ..
      obtain ⟨o, h1, h2, _⟩ := (ready_iff hI.size i).1 this
      obtain ⟨o', g, hm⟩ := hI.all i (List.getElem?_eq_some_iff.1 h1).1 h2
      simp at hm
  | succ fuel ih =>
    intro listed L σ a w hI hlen hc hs
    refine ⟨fun hr => ?_, fun i hi => ?_⟩
    · cases L with
      | nil => cases hc; exact hQ a w hs
      | cons p L =>
        obtain ⟨i, o, g⟩ := p
        exfalso
        obtain ⟨h1, h2⟩ := hI.mem i o g (List.mem_cons_self ..)
        have : i ∈ Region.ready .any ops.toArray listed := by
          refine (ready_iff hI.size i).2 ⟨o, h1, h2, fun e he hb => ?_⟩
          have hlt := edgesB_spec hB i o h1 e he hb
          cases hl : listed.getD e.on false with
          | true => rfl
          | false =>
            obtain ⟨o', g', hm⟩ := hI.all e.on (by have := (List.getElem?_eq_some_iff.1 h1).1; omega) hl
            rcases List.mem_cons.1 hm with heq | hm
            · simp only [Prod.mk.injEq] at heq; omega
            · have := (List.pairwise_cons.1 hI.sorted).1 _ hm
              simp only at this
              omega
        rw [hr] at this
        simp at this
    · obtain ⟨o, h1, h2, h3⟩ := (ready_iff hI.size i).1 hi
      obtain ⟨o', g, hm⟩ := hI.all i (List.getElem?_eq_some_iff.1 h1).1 h2
      have ho := (hI.mem i o' g hm).1
      rw [h1] at ho; obtain rfl := Option.some.inj ho
      obtain ⟨pre, post, rfl⟩ := List.append_of_mem hm
      have hpre : ∀ j q h, (j, q, h) ∈ pre → apartS ops q o = true ∧ Lg.clash h g = false := by
        intro j q h hj
        have hind := (List.pairwise_append.1 hI.ind).2.2 (j, q, h) hj (i, o, g) (List.mem_cons_self ..)
        refine hind.resolve_left fun hmb => ?_
        have hjun := (hI.mem j q h (List.mem_append_left _ hj)).2
        have : listed.getD j false = true := by
          obtain ⟨e, e1, e2, e3⟩ := (anc_spec ops []).2 i o h1 j (by simpa using (memb_iff _ _).1 hmb)
          have hle := h3 e e1 e2
          rcases e3 with rfl | e3
          · exact hle
          · exact anc_listed hB hI.closed e.on e.on (Nat.le_refl _) hle j e3
        rw [this] at hjun; simp at hjun
      have hb := bubble pre σ hc hpre
      cases hb with
      | cons hd hstep hr =>
        refine step_ok hX h1 hd hstep hs fun a' w' hs' => ?_
        refine ih _ (pre ++ post) _ a' w' ?_ (by simp at hlen ⊢; omega) hr hs'
        have hil : i < listed.size := by rw [hI.size]; exact (List.getElem?_eq_some_iff.1 h1).1
        have hset : ∀ k, (listed.setIfInBounds i true).getD k false = if k = i then true else listed.getD k false := by
          intro k
          simp only [Array.getD_eq_getD_getElem?, Array.getElem?_setIfInBounds]
          by_cases hk : k = i
          · subst hk; simp [hil]
          · rw [if_neg (Ne.symm hk), if_neg hk]
        have hsub : List.Sublist (pre ++ post) (pre ++ (i, o, g) :: post) := List.Sublist.append_left (List.sublist_cons_self ..) _
        have hne : ∀ p, p ∈ pre ++ post → p.1 ≠ i := by
          intro p hp
          have hs := List.pairwise_append.1 hI.sorted
          rcases List.mem_append.1 hp with hp | hp
          · have := hs.2.2 p hp (i, o, g) (List.mem_cons_self ..); simp only at this; omega
          · have := (List.pairwise_cons.1 hs.2.1).1 p hp; simp only at this; omega
        refine ⟨by simpa using hI.size, fun k q h hk => ?_, fun k hk hl => ?_, hI.sorted.sublist hsub, hI.ind.sublist hsub, fun k q hl hq e he hbe => ?_⟩
        · have := hI.mem k q h (hsub.subset hk)
          refine ⟨this.1, ?_⟩
          rw [hset, if_neg (hne _ hk)]
          exact this.2
        · rw [hset] at hl
          split at hl
          · simp at hl
          · rename_i hki
            obtain ⟨q, h, hm⟩ := hI.all k hk hl
            refine ⟨q, h, ?_⟩
            rcases List.mem_append.1 hm with hm | hm
            · exact List.mem_append_left _ hm
            · rcases List.mem_cons.1 hm with he | hm
              · simp only [Prod.mk.injEq] at he; exact absurd he.1 hki
              · exact List.mem_append_right _ hm
        · rw [hset]
          split
          · rfl
          · rw [hset] at hl
            split at hl
            · rename_i hki
              subst hki
              rw [h1] at hq; obtain rfl := Option.some.inj hq
              exact h3 e he hbe
            · exact hI.closed k q hl hq e he hbe
end
end Go.Ev
namespace Go.Ev
section
variable {T : Tys} {fr : Fr} {F : Nat → Prop} {w : World} {bx : Bxs} {θ : Nat → Value} {bs : List Nat}
def frzB (T : Tys) (bx : Bxs) (bs : List Nat) : Bxs := fun b => match bx b with | some x => some (sif (memb bs b) (.dead (x.ver + 1)) (x.frz T bx bs)) | none => none
theorem frzs_get (T : Tys) (bx : Bxs) (bs : List Nat) : ∀ (l : List V) (i : Nat), (V.frzs T bx bs l)[i]? = (l[i]?).map (V.frz T bx bs)
  | [], i => by simp [V.frzs]
  | v :: r, 0 => by simp [V.frzs]
  | v :: r, i + 1 => by simp [V.frzs, frzs_get T bx bs r i]
theorem frzs_len (T : Tys) (bx : Bxs) (bs : List Nat) (l : List V) : (V.frzs T bx bs l).length = l.length := by
  induction l with
  | nil => rfl
  | cons v r ih => simp [V.frzs, ih]
theorem frzB_out {b : Nat} {x : Box} (h : bx b = some x) (hb : memb bs b = false) : frzB T bx bs b = some (x.frz T bx bs) := by
  unfold frzB; rw [h]; simp only; rw [hb, sif_false]
theorem frzB_in {b : Nat} {x : Box} (h : bx b = some x) (hb : memb bs b = true) : frzB T bx bs b = some (.dead (x.ver + 1)) := by
  unfold frzB; rw [h]; simp only; rw [hb, sif_true]
theorem frz_ver (x : Box) : (x.frz T bx bs).ver = x.ver := by cases x <;> rfl
theorem part_rel (hw : WR T fr F w bx θ) {F' : Nat → Prop} {b ver : Nat} {lo hi : Int} {t : TypeId} {es : List (List C)} {v : Value} (hy : bx b = some (.arr ver t es)) (hx : RelV T F w bx θ (.vw b ver lo hi) v) (hF : ∀ k, F k → F' k) (hg : ∀ g, blkOf (θ b) = some g → F' g) :
    RelC T F' w (.sl t) (.l ((es.take hi.toNat).drop lo.toNat)) v := by
  obtain ⟨_, d, A', c', hd', h0, hlh, hhi, rfl, hcc, hblk, _⟩ := vw_now hx hy (Nat.beq_refl _)
  have hsl := part_len h0 hlh hhi
  rcases Int.lt_or_eq_of_le hlh with hlt | rfl
  · obtain ⟨g, og, e2, rfl⟩ := hblk hlt
    obtain ⟨A, cap, us, hth, hul, hrw, hA⟩ := arr_rows (hw.box b _ hy) hd'
    rw [← hsl]
    have hp := hrw.part lo.toNat hi.toNat
    refine .sl t d _ g (og + lo.toNat * d.cts.length) c' (fun i j => ((us.take (hi.toNat * d.cts.length)).drop (lo.toNat * d.cts.length)).getD (i * d.cts.length + j) undef) hd' (hg g (by rw [e2]; rfl)) (by omega) hp.len (fun i c j x a1 a2 => ?_) (fun i c j x ct a1 a2 a3 => ?_)
    · rcases hA with ⟨rfl, rfl, rfl⟩ | ⟨g', o', cs, rfl, h1, h2, h3, rfl⟩
      · simp at hhi; omega
      · rw [hth] at e2
        simp only [Value.slice.injEq, Option.some.injEq, Addr.mk.injEq, true_and] at e2
        obtain ⟨⟨rfl, rfl, _⟩, _⟩ := e2
        have hi' : i < (hi - lo).toNat := by rw [← hsl]; exact (List.getElem?_eq_some_iff.1 a1).1
        have hj : j < d.cts.length := by rw [← hp.len i c a1]; exact (List.getElem?_eq_some_iff.1 a2).1
        have q1 : lo.toNat * d.cts.length + (i * d.cts.length + j) < hi.toNat * d.cts.length := by
          have := idx_lt (show lo.toNat + i < hi.toNat by omega) hj
          rw [Nat.add_mul] at this; omega
        have q2 : hi.toNat * d.cts.length ≤ es.length * d.cts.length := Nat.mul_le_mul_right _ (by omega)
        have q3 : es.length * d.cts.length ≤ cap * d.cts.length := Nat.mul_le_mul_right _ h3.1
        have q4 : o' + (lo.toNat * d.cts.length + (i * d.cts.length + j)) < cs.size := by omega
        simp only [List.getD_eq_getElem?_getD, List.getElem?_drop, List.getElem?_take]
        rw [if_pos q1, if_pos (by omega), Nat.add_assoc]
        simp [World.cell?, h1, q4]
    · clear hA
      have hi' : i < (hi - lo).toNat := by rw [← hsl]; exact (List.getElem?_eq_some_iff.1 a1).1
      have hj : j < d.cts.length := (List.getElem?_eq_some_iff.1 a3).1
      have q1 : lo.toNat * d.cts.length + (i * d.cts.length + j) < hi.toNat * d.cts.length := by
        have := idx_lt (show lo.toNat + i < hi.toNat by omega) hj
        rw [Nat.add_mul] at this; omega
      have q2 : hi.toNat * d.cts.length ≤ es.length * d.cts.length := Nat.mul_le_mul_right _ (by omega)
      have hlen : i * d.cts.length + j < ((us.take (hi.toNat * d.cts.length)).drop (lo.toNat * d.cts.length)).length := by
        rw [List.length_drop, List.length_take, hul]; omega
      refine (hp.rel i c j x ct _ a1 a2 a3 ?_).mv hF fun _ _ => rfl
      rw [List.getD_eq_getElem?_getD, List.getElem?_eq_getElem hlen]; rfl
  · have : ((es.take lo.toNat).drop lo.toNat) = [] := by simp
    rw [this]
    have : (lo - lo).toNat = 0 := by omega
    rw [this]
    exact .sl0 _ _ _
theorem membs_mem : ∀ {f : List Nat}, membs bs f = true → ∀ c, c ∈ f → memb bs c = true
  | b :: r, h, c, hc => by
    simp only [membs, andS_eq, Bool.and_eq_true] at h
    rcases List.mem_cons.1 hc with rfl | hc
    · exact h.1
    · exact membs_mem h.2 c hc
theorem frzV_ok (hw : WR T fr F w bx θ) {x : V} {v : Value} (h : RelV T F w bx θ x v) : RelV T (FzF F bx θ bs) w (frzB T bx bs) θ (x.frz T bx bs) v := by
  have hin : ∀ {b : Nat} {y : Box}, memb bs b = true → bx b = some y → y.live = true → ∀ g, blkOf (θ b) = some g → FzF F bx θ bs g := fun hb hy hl g hg => .inr ⟨_, _, (memb_iff _ _).1 hb, hy, hl, hg⟩
  induction h with
  | un v => exact .un v
  | ud => exact .ud
  | c t x v hr => exact .c t x v (hr.mv (fun _ h => .inl h) fun _ _ => rfl)
  | nl => exact .nl
  | np => exact .np
  | ow b ver v y hb hv hs hh =>
    show RelV T _ w _ θ (sif (memb bs b) (match bx b with
      | some (.arr v t es) => sif (Nat.beq v ver) (.c (.sl t) (.l es)) .un
      | _ => .un) (.ow b ver)) v
    cases hm : memb bs b with
    | true =>
      rw [sif_true, hb]
      cases y with
      | arr v' t es =>
        simp only
        cases hc : Nat.beq v' ver with
        | false => exact .un _
        | true =>
          rw [sif_true]
          obtain ⟨_, rfl⟩ := ow_now (T := T) (F := F) (w := w) (.ow b ver v _ hb hv hs hh) hb hc
          exact .c _ _ _ (freeze_arr (hw.box b _ hb) (fun _ h => .inl h) (hin hm hb rfl))
      | _ => exact .un _
    | false =>
      rw [sif_false]
      refine .ow b ver v _ (frzB_out hb hm) (by rw [frz_ver]; exact hv) hs fun e => ?_
      rw [frz_ver] at e
      obtain ⟨t, es, rfl, hvv⟩ := hh e
      exact ⟨t, es, rfl, hvv⟩
  | vw b ver lo hi v y hb hv hs hh =>
    show RelV T _ w _ θ (sif (memb bs b) (match bx b with
      | some (.arr v t es) => sif (Nat.beq v ver) (.c (.sl t) (.l ((es.take hi.toNat).drop lo.toNat))) .un
      | _ => .un) (.vw b ver lo hi)) v
    cases hm : memb bs b with
    | true =>
      rw [sif_true, hb]
      cases y with
      | arr v' t es =>
        simp only
        cases hc : Nat.beq v' ver with
        | false => exact .un _
        | true =>
          rw [sif_true]
          have := Nat.eq_of_beq_eq_true hc; subst this
          exact .c _ _ _ (part_rel hw hb (.vw b v' lo hi v _ hb hv hs hh) (fun _ h => .inl h) (hin hm hb rfl))
      | _ => exact .un _
    | false =>
      rw [sif_false]
      refine .vw b ver lo hi v _ (frzB_out hb hm) (by rw [frz_ver]; exact hv) hs fun e => ?_
      rw [frz_ver] at e
      obtain ⟨t, es, d, A, c, rfl, hrest⟩ := hh e
      exact ⟨t, es, d, A, c, rfl, hrest⟩
  | mp b ver v y hb hv hs hh =>
    show RelV T _ w _ θ (sif (memb bs b) .un (.mp b ver)) v
    cases hm : memb bs b with
    | true => rw [sif_true]; exact .un _
    | false =>
      rw [sif_false]
      refine .mp b ver v _ (frzB_out hb hm) (by rw [frz_ver]; exact hv) hs fun e => ?_
      rw [frz_ver] at e
      obtain ⟨t, es, rfl, hvv⟩ := hh e
      exact ⟨t, es, rfl, hvv⟩
  | pt b ver off v y hb hv hs hh =>
    show RelV T _ w _ θ (sif (memb bs b) (match bx b with
      | some (.var v t cells) => sif (Nat.beq v ver) (match tget T t with
        | some d => match lend bx d.cts cells with
          | some (cs, f) => sif (membs bs f) (match (generalizing := false) off with | 0 => .c (.pt t) (.p cs) | off => .fa d.cts cs off) .un
          | none => .un
        | none => .un) .un
      | _ => .un) (.pt b ver off)) v
    cases hm : memb bs b with
    | true =>
      rw [sif_true, hb]
      cases y with
      | var v' t cells =>
        simp only
        cases hc : Nat.beq v' ver with
        | false => exact .un _
        | true =>
          rw [sif_true]
          have := Nat.eq_of_beq_eq_true hc; subst this
          cases htd : tget T t with
          | none => exact .un _
          | some td =>
            simp only
            cases hcs : lend bx td.cts cells with
            | none => exact .un _
            | some q =>
              obtain ⟨cs, f⟩ := q
              simp only
              cases hmf : membs bs f with
              | false => exact .un _
              | true =>
                rw [sif_true]
                obtain ⟨t2, cells2, g, e3, e4, rfl⟩ := hh rfl
                simp only [Box.var.injEq, true_and] at e3
                obtain ⟨rfl, rfl⟩ := e3
                obtain ⟨g', wcs, ee, d, k1, k2, k3, k4, k5, k6⟩ := hw.box b _ hb
                rw [e4] at k1
                simp only [Value.pointer.injEq, Option.some.injEq, Addr.mk.injEq, true_and] at k1
                obtain ⟨rfl, _⟩ := k1
                rw [htd] at k4
                obtain rfl := Option.some.inj k4
                obtain ⟨l1, l2⟩ := lend_ok (T := T) (F := F) (F' := FzF F bx θ bs) (w := w) (θ := θ) hcs
                have l3 := l2 (fun _ h => .inl h) (fun c hc v t es hbc => freeze_arr (hw.box c _ hbc) (fun _ h => .inl h) (hin (membs_mem hmf c hc) hbc rfl))
                have c1 : ∀ (j : Nat) (c : C), cs[j]? = some c → w.cell? ⟨g, 0 + j, none⟩ = some (wcs.getD j undef) := fun j c hj => by
                  have hj' : j < wcs.size := by rw [k3, k5, ← l1]; exact (List.getElem?_eq_some_iff.1 hj).1
                  simp [World.cell?, k2, hj']
                have c2 : ∀ (j : Nat) (c : C) (ct : CT), cs[j]? = some c → td.cts[j]? = some ct → RelC T (FzF F bx θ bs) w ct c (wcs.getD j undef) := fun j c ct hj hct => by
                  obtain ⟨x, a1, a2⟩ := l3 j c ct hj hct
                  have hj' : j < wcs.size := by rw [k3]; exact (List.getElem?_eq_some_iff.1 a1).1
                  refine a2 _ (k6 j x _ a1 ?_)
                  simp [hj']
                cases off with
                | zero => exact .c _ _ _ (.pt t td cs g 0 _ htd (hin hm hb rfl g (by rw [e4]; rfl)) l1 c1 c2)
                | succ off =>
                  have := RelV.fa (T := T) (F := FzF F bx θ bs) (w := w) (bx := frzB T bx bs) (θ := θ) td.cts cs (off + 1) g 0 (fun j => wcs.getD j undef) (hin hm hb rfl g (by rw [e4]; rfl)) l1 c1 c2
                  rwa [Nat.zero_add] at this
      | _ => exact .un _
    | false =>
      rw [sif_false]
      refine .pt b ver off v _ (frzB_out hb hm) (by rw [frz_ver]; exact hv) hs fun e => ?_
      rw [frz_ver] at e
      obtain ⟨t, cells, g, rfl, h1, h2⟩ := hh e
      exact ⟨t, _, g, rfl, h1, h2⟩
  | pe b ver ix off nb v y hb hv hs hh =>
    show RelV T _ w _ θ (sif (memb bs b) (match bx b with
      | some (.arr v t es) => sif (andS (Nat.beq v ver) (notS nb)) (match tget T t with | some d => .fa d.cts (es.getD ix.toNat []) off | none => .un) .un
      | _ => .un) (.pe b ver ix off nb)) v
    cases hm : memb bs b with
    | true =>
      rw [sif_true, hb]
      cases y with
      | arr v' t es =>
        simp only
        cases hc : andS (Nat.beq v' ver) (notS nb) with
        | false => exact .un _
        | true =>
          rw [sif_true]
          simp only [andS_eq, notS_eq, Bool.and_eq_true, Bool.not_eq_true'] at hc
          obtain ⟨rfl, d, hd, hp⟩ := pe_now (F := F) (w := w) (.pe b ver ix off nb v _ hb hv hs hh) hb hc.1
          rw [hd]
          simp only
          rcases hp with ⟨h1, _⟩ | ⟨h0, hlt, g, og, cap, h2, rfl⟩
          · rw [hc.2] at h1; simp at h1
          · obtain ⟨A, cap', us, hth, hul, hrw, hA⟩ := arr_rows (hw.box b _ hb) hd
            have hn : ix.toNat < es.length := by omega
            have hnn : es[ix.toNat]? = some es[ix.toNat] := List.getElem?_eq_getElem hn
            have hgd : es.getD ix.toNat [] = es[ix.toNat] := by rw [List.getD_eq_getElem?_getD, hnn]; rfl
            have hrl := hrw.len _ _ hnn
            rw [hgd]
            rcases hA with ⟨rfl, rfl, rfl⟩ | ⟨g', o', cs, rfl, q1, q2, q3, rfl⟩
            · simp at hn
            · rw [hth] at h2
              simp only [Value.slice.injEq, Option.some.injEq, Addr.mk.injEq, true_and] at h2
              obtain ⟨⟨rfl, rfl, _⟩, _⟩ := h2
              have hlt' : ∀ j, j < d.cts.length → ix.toNat * d.cts.length + j < es.length * d.cts.length := fun j hj => idx_lt hn hj
              have q4 : o' + es.length * d.cts.length ≤ cs.size := by rw [q2]; exact Nat.add_le_add_left (Nat.mul_le_mul_right _ q3.1) o'
              rw [← Nat.add_assoc]
              refine .fa d.cts es[ix.toNat] off g' (o' + ix.toNat * d.cts.length) (fun j => cs.getD (o' + (ix.toNat * d.cts.length + j)) undef) (hin hm hb rfl g' (by rw [hth]; rfl)) hrl (fun j c hc => ?_) (fun j c t' hc ht => ?_)
              · have hj : j < d.cts.length := by rw [← hrl]; exact (List.getElem?_eq_some_iff.1 hc).1
                have := hlt' j hj
                simp [World.cell?, q1, Array.getD, Nat.add_assoc, show o' + (ix.toNat * d.cts.length + j) < cs.size by omega]
              · have hj : j < d.cts.length := (List.getElem?_eq_some_iff.1 ht).1
                have := hlt' j hj
                refine (hrw.rel _ _ j c t' _ hnn hc ht ?_).mv (fun _ h => .inl h) fun _ _ => rfl
                rw [List.getElem?_take_of_lt this, List.getElem?_drop]
                simp [Array.getD, show o' + (ix.toNat * d.cts.length + j) < cs.size by omega]
      | _ => exact .un _
    | false =>
      rw [sif_false]
      refine .pe b ver ix off nb v _ (frzB_out hb hm) (by rw [frz_ver]; exact hv) hs fun e => ?_
      rw [frz_ver] at e
      obtain ⟨t, es, d, rfl, hrest⟩ := hh e
      exact ⟨t, es, d, rfl, hrest⟩
  | fa cts cs off g o cv hF hlen hc hr => exact .fa cts cs off g o cv (.inl hF) hlen hc fun j c t h1 h2 => (hr j c t h1 h2).mv (fun _ h => .inl h) fun _ _ => rfl
  | ag l vs hl h ih =>
    refine .ag _ vs (by rw [frzs_len]; exact hl) fun i x v h1 h2 => ?_
    rw [frzs_get] at h1
    obtain ⟨y, hy, rfl⟩ := Option.map_eq_some_iff.1 h1
    exact ih i y v hy h2
  | tu l vs hl h ih =>
    refine .tu _ vs (by rw [frzs_len]; exact hl) fun i x v h1 h2 => ?_
    rw [frzs_get] at h1
    obtain ⟨y, hy, rfl⟩ := Option.map_eq_some_iff.1 h1
    exact ih i y v hy h2
  | fn f l vs hl h ih =>
    refine .fn f _ vs (by rw [frzs_len]; exact hl) fun i x v h1 h2 => ?_
    rw [frzs_get] at h1
    obtain ⟨y, hy, rfl⟩ := Option.map_eq_some_iff.1 h1
    exact ih i y v hy h2
theorem frz_ok {n : Nat} {σ : St} {a : Act} (bs : List Nat) (h : Sim T fr n σ a w) : Sim T fr n (σ.frz T bs) a w := by
  obtain ⟨F, θ, hw, hs⟩ := h
  have hb : (σ.frz T bs).bx = frzB T σ.bx bs := rfl
  have hget : ∀ b y, frzB T σ.bx bs b = some y → ∃ x, σ.bx b = some x ∧ ((memb bs b = true ∧ y = .dead (x.ver + 1)) ∨ (memb bs b = false ∧ y = x.frz T σ.bx bs)) := by
    intro b y hy
    unfold frzB at hy
    cases hx : σ.bx b with
    | none => rw [hx] at hy; simp at hy
    | some x =>
      rw [hx] at hy
      simp only [Option.some.injEq] at hy
      cases hm : memb bs b with
      | true => rw [hm, sif_true] at hy; exact ⟨x, rfl, .inl ⟨rfl, hy.symm⟩⟩
      | false => rw [hm, sif_false] at hy; exact ⟨x, rfl, .inr ⟨rfl, hy.symm⟩⟩
  have hlive : ∀ b y, frzB T σ.bx bs b = some y → y.live = true → ∃ x, σ.bx b = some x ∧ x.live = true ∧ memb bs b = false := by
    intro b y hy hl
    obtain ⟨x, hx, ⟨hm, rfl⟩ | ⟨hm, rfl⟩⟩ := hget b y hy
    · simp [Box.live] at hl
    · exact ⟨x, hx, by cases x <;> simp_all [Box.live, Box.frz], hm⟩
  refine ⟨FzF F σ.bx θ bs, θ, ⟨?_, ?_, ?_, FzF_lt hw, hw.keep, fun k hk => .inl (hw.sub k hk), FzF_new hw, ?_⟩, ⟨fun k => ?_, hs.n, hs.defers⟩⟩
  · intro b y hy
    obtain ⟨x, hx, ⟨hm, rfl⟩ | ⟨hm, rfl⟩⟩ := hget b y hy
    · trivial
    · have hbx := hw.box b x hx
      cases x with
      | var ver t cells =>
        obtain ⟨g, cs, e, d, q1, q2, q3, q4, q5, q6⟩ := hbx
        refine ⟨g, cs, e, d, q1, q2, by rw [frzs_len]; exact q3, q4, by rw [frzs_len]; exact q5, fun i z v h1 h2 => ?_⟩
        rw [frzs_get] at h1
        obtain ⟨u, hu, rfl⟩ := Option.map_eq_some_iff.1 h1
        exact frzV_ok hw (q6 i u v hu h2)
      | arr ver t es =>
        obtain ⟨d, A, cap, q1, q2, q3, q4⟩ := hbx
        refine ⟨d, A, cap, q1, q2, q3, q4.imp id ?_⟩
        rintro ⟨g, o, cs, g1, g2, g3, g4, g5⟩
        exact ⟨g, o, cs, g1, g2, g3, g4, fun i c j x ct v a1 a2 a3 a4 => (g5 i c j x ct v a1 a2 a3 a4).mv (fun _ h => .inl h) fun _ _ => rfl⟩
      | mp ver t es => exact hbx
      | dead v => trivial
  · intro b b' y y' g hy hy' hl hl' hg hg'
    obtain ⟨x, h1, h2, _⟩ := hlive b y hy hl
    obtain ⟨x', h1', h2', _⟩ := hlive b' y' hy' hl'
    exact hw.disj b b' x x' g h1 h1' h2 h2' hg hg'
  · intro b y g hy hl hg
    obtain ⟨x, h1, h2, h3⟩ := hlive b y hy hl
    obtain ⟨q1, q2⟩ := hw.out b x g h1 h2 hg
    refine ⟨?_, q2⟩
    rintro (h | ⟨c, z, c1, c2, c3, c4⟩)
    · exact q1 h
    · have := hw.disj b c x z g h1 c2 h2 c3 hg c4
      subst this
      rw [(memb_iff _ _).2 c1] at h3
      simp at h3
  · intro n hn
    obtain ⟨x, h1, h2⟩ := hw.stay n hn
    cases hm : memb bs n with
    | true => exact ⟨_, frzB_in h1 hm, fun e => by simp [Box.ver] at e⟩
    | false => exact ⟨_, frzB_out h1 hm, fun e => h2 (by rw [frz_ver] at e; exact e)⟩
  · exact frzV_ok hw (hs.sl k)
theorem cutAt_ok {n : Nat} {σ : St} {a : Act} {d b v : Nat} {lo hi : Int} {t : TypeId} {es : List (List C)} (hsl : σ.sl d = .vw b v lo hi) (hbx : σ.bx b = some (.arr v t es)) (hlo : lo = 0 ∨ lo < hi) (h : Sim T fr n σ a w) :
    Sim T fr n ⟨upd σ.sl d (.ow b (v + 1)), upd σ.bx b (some (.arr (v + 1) t ((es.take hi.toNat).drop lo.toNat)))⟩ a w := by
  obtain ⟨F, θ, hw, hs⟩ := h
  have hx := hs.sl d
  rw [hsl] at hx
  obtain ⟨hput, hva⟩ := cutW_ok hx hbx hlo hw
  refine ⟨F, _, hput.1, ⟨fun k => ?_, hs.n, hs.defers⟩⟩
  by_cases hk : k = d
  · subst hk
    show RelV T F w (upd σ.bx b _) _ (upd σ.sl k _ k) _
    rw [upd_same]
    exact .ow b (v + 1) _ _ (upd_same _ _ _) (Nat.le_refl _) hva fun _ => ⟨t, _, rfl, (upd_same _ _ _).symm⟩
  · show RelV T F w (upd σ.bx b _) _ (upd σ.sl d _ k) _
    rw [upd_ne _ _ hk]
    exact (hs.sl k).mv hput.2
theorem cutAtC_ok {n : Nat} {σ : St} {a : Act} {m i b v vw : Nat} {lo hi : Int} {t tw : TypeId} {es : List (List C)} {cells : List V} (hm : σ.bx m = some (.var vw tw cells)) (hci : cells[i]? = some (.vw b v lo hi)) (hbx : σ.bx b = some (.arr v t es)) (hlo : lo = 0 ∨ lo < hi) (h : Sim T fr n σ a w) :
    Sim T fr n ⟨σ.sl, upd (upd σ.bx b (some (.arr (v + 1) t ((es.take hi.toNat).drop lo.toNat)))) m (some (.var vw tw (cells.set i (.ow b (v + 1)))))⟩ a w := by
  obtain ⟨F, θ, hw, hs⟩ := h
  have hmb : m ≠ b := by rintro rfl; rw [hm] at hbx; simp at hbx
  obtain ⟨g, cs, e, dt, q1, q2, q3, q4, q5, q6⟩ := hw.box m _ hm
  have hil : i < cells.length := (List.getElem?_eq_some_iff.1 hci).1
  have hcs : cs[i]? = some (cs[i]'(by omega)) := Array.getElem?_eq_getElem (by omega)
  have hx := q6 i _ _ hci hcs
  obtain ⟨hput, hva⟩ := cutW_ok hx hbx hlo hw
  have hm' : (upd σ.bx b (some (.arr (v + 1) t ((es.take hi.toNat).drop lo.toNat)))) m = some (.var vw tw cells) := by rw [upd_ne _ _ hmb]; exact hm
  have hthm : (upd θ b (cs[i]'(by omega))) m = θ m := upd_ne _ _ hmb
  have hput2 := hput.1.put m (.var vw tw (cells.set i (.ow b (v + 1)))) (θ m) w (fun z hz => by
      rw [hm'] at hz; obtain rfl := Option.some.inj hz
      exact .inr ⟨rfl, by simp [Box.same], hthm.symm⟩) (fun q hq => .inl rfl) (Nat.le_refl _) rfl rfl rfl
    (fun q hq => .inr ⟨_, hm', rfl, by rw [hthm]; exact hq⟩) (fun mv => by
      refine ⟨g, cs, e, dt, by rw [upd_same]; exact q1, q2, by rw [List.length_set]; exact q3, q4, by rw [List.length_set]; exact q5, fun k x u hk hu => ?_⟩
      rw [List.getElem?_set] at hk
      split at hk
      · rename_i e
        subst e
        obtain rfl := Option.some.inj hk
        rw [hcs] at hu
        obtain rfl := Option.some.inj hu
        exact (RelV.ow b (v + 1) _ _ (upd_same _ _ _) (Nat.le_refl _) hva fun _ => ⟨t, _, rfl, (upd_same _ _ _).symm⟩).mv mv
      · exact ((q6 k x u hk hu).mv hput.2).mv mv)
  exact ⟨F, _, hput2.1, ⟨fun k => ((hs.sl k).mv hput.2).mv hput2.2, hs.n, hs.defers⟩⟩
theorem cutC_ok {n : Nat} {σ : St} {a : Act} (m i : Nat) (hc : σ.cutCOk m i = true) (h : Sim T fr n σ a w) : Sim T fr n (σ.cutC m i) a w := by
  unfold St.cutC
  unfold St.cutCOk at hc
  split
  · rename_i vw tw cells hm
    rw [hm] at hc
    simp only at hc
    split
    · rename_i b ver lo hi hci
      rw [hci] at hc
      simp only at hc
      rw [nth?_eq] at hci
      split
      · rename_i v t es hbx
        cases hv : Nat.beq v ver with
        | false => exact h
        | true =>
          have e := Nat.eq_of_beq_eq_true hv
          subst e
          rw [sif_true]
          split
          · have := cutAtC_ok hm hci hbx (.inl rfl) h
            simpa [setS_eq] using this
          · rename_i hne
            have := cutAtC_ok hm hci hbx (by
              split at hc
              · exact (hne rfl).elim
              · exact .inr (by simpa using hc)) h
            simpa [setS_eq] using this
      · exact h
    · exact h
  · exact h
theorem cut_ok {n : Nat} {σ : St} {a : Act} (d : Nat) (hc : σ.cutOk d = true) (h : Sim T fr n σ a w) : Sim T fr n (σ.cut d) a w := by
  unfold St.cut
  unfold St.cutOk at hc
  split
  · rename_i b ver lo hi hsl
    rw [hsl] at hc
    simp only at hc
    split
    · rename_i v t es hbx
      cases hv : Nat.beq v ver with
      | false => exact h
      | true =>
        have e := Nat.eq_of_beq_eq_true hv
        subst e
        rw [sif_true]
        split
        · have := cutAt_ok hsl hbx (.inl rfl) h
          simpa using this
        · rename_i hne
          refine cutAt_ok hsl hbx ?_ h
          split at hc
          · exact (hne rfl).elim
          · exact .inr (by simpa using hc)
    · exact h
  · exact h
end
end Go.Ev
namespace Go.Ev
section
variable {P : Program} {X : Cx} {fr : Fr}
theorem sim_same {T : Tys} {n : Nat} {σ : St} {a : Act} {w w' : World} (h : Sim T fr n σ a w) (hh : w'.heap = w.heap) (hos : w'.os = w.os) (htp : w'.tape = w.tape) (hou : w'.output = w.output) : Sim T fr n σ a w' := by
  obtain ⟨F, θ, hw, hs⟩ := h
  have m : Mv F w σ.bx θ F w' σ.bx θ := ⟨fun _ h => h, fun k _ => by rw [hh], fun b x hx => ⟨x, hx, Nat.le_refl _, fun _ => ⟨x.same_refl, rfl⟩⟩⟩
  refine ⟨F, θ, ⟨fun b x hx => (hw.box b x hx).mv m rfl fun g _ => by rw [hh], hw.disj, fun b x g h1 h2 h3 => by rw [hh]; exact hw.out b x g h1 h2 h3, fun k hk => by rw [hh]; exact hw.lt k hk,
    hw.keep.next hos htp hou (by rw [hh]; exact Nat.le_refl _) fun k _ _ => by rw [hh], hw.sub, hw.new, hw.stay⟩, ⟨fun k => (hs.sl k).mv m, hs.n, hs.defers⟩⟩
theorem region_ok (hX : Env P X) {id : Nat} {ops : Array Oper} {draw : Bool} {κ : St → R} {σ : St} {r : Out} {a : Act} {w : World} {Q : Exit → Act → World → Prop}
    (h : sif (orS (notS draw) (edgesB ops.toList 0)) (runOps X draw ops.toList (sif draw (anc ops.toList []) []) κ ops.toList [] σ) none = some r) (hs : Sim X.T fr X.n σ a w)
    (hκ : ∀ σ' a' w', κ σ' = some r → Sim X.T fr X.n σ' a' w' → Q .normal a' w') : (Code.region id ops draw).wp P Q a w := by
  cases hB : orS (notS draw) (edgesB ops.toList 0) with
  | false => rw [hB, sif_false] at h; simp at h
  | true =>
    rw [hB, sif_true] at h
    obtain ⟨⟨L, σ', c1, c2, c3, c4⟩⟩ := runOps_chain ops.toList [] σ (fun i o ho => by simpa using ho) (fun j q d x hj => by simp at hj) h
    simp only [List.length_nil] at c3
    have hget : ∀ (p i : Nat) (o : Oper) (g : Lg), L[p]? = some (i, o, g) → i = p ∧ ops.toList[p]? = some o := by
      intro p i o g hp
      have h1 : (L.map fun p => (p.1, p.2.1))[p]? = some (i, o) := by simp [hp]
      rw [c3] at h1
      simp only [List.getElem?_map, Option.map_eq_some_iff] at h1
      obtain ⟨⟨o', i'⟩, h2, h3⟩ := h1
      simp only [Prod.mk.injEq] at h3
      obtain ⟨rfl, rfl⟩ := h3
      rw [List.getElem?_zipIdx] at h2
      obtain ⟨z, hz, he⟩ := Option.map_eq_some_iff.1 h2
      simp only [Prod.mk.injEq] at he
      obtain ⟨rfl, rfl⟩ := he
      exact ⟨by omega, hz⟩
    have hlen : L.length = ops.size := by
      have := congrArg List.length c3
      simpa using this
    have hmem : ∀ i o g, (i, o, g) ∈ L → ops.toList[i]? = some o := by
      intro i o g hm
      obtain ⟨p, hp, he⟩ := List.mem_iff_getElem.1 hm
      obtain ⟨rfl, h2⟩ := hget p i o g (by rw [List.getElem?_eq_getElem hp, he])
      exact h2
    cases draw with
    | false =>
      refine wp_region ?_
      have := chain_ok hX (Q := Q) L σ a w c1 hmem hs fun a' w' hs' => hκ σ' a' w' c2 hs'
      have e : L.map (·.1) = List.range ops.size := by
        refine List.ext_getElem? fun p => ?_
        rw [List.getElem?_map]
        rcases Nat.lt_or_ge p L.length with hp | hp
        · have hp' := List.getElem?_eq_getElem hp
          obtain ⟨h1, h2⟩ := hget p _ _ _ hp'
          rw [hp', List.getElem?_range (by omega)]
          exact congrArg some h1
        · rw [List.getElem?_eq_none hp, List.getElem?_eq_none (by simp; omega)]; rfl
      rw [e] at this
      simpa using this
    | true =>
      refine wp_region_any hX.mixed ?_
      have hB' : edgesB ops.toList 0 = true := by simpa [orS_eq, notS_eq] using hB
      have hs' : Sim X.T fr X.n σ a { w with drawn := w.drawn + 1 } := sim_same hs rfl rfl rfl rfl
      have hI : Inv ops.toList (Array.replicate ops.size false) L := by
        refine ⟨by simp, fun i o g hm => ⟨hmem i o g hm, ?_⟩, fun i hi _ => ?_, ?_, ?_, fun i o hl => ?_⟩
        · have := (List.getElem?_eq_some_iff.1 (hmem i o g hm)).1
          simp at this
          simp [Array.getD, this]
        · have hi' : i < L.length := by rw [hlen]; simpa using hi
          have hp' := List.getElem?_eq_getElem hi'
          obtain ⟨h1, h2⟩ := hget i _ _ _ hp'
          refine ⟨L[i].2.1, L[i].2.2, ?_⟩
          have hm := List.getElem_mem hi'
          have e : L[i] = (i, L[i].2.1, L[i].2.2) := Prod.ext h1 rfl
          rw [e] at hm
          exact hm
        · refine List.pairwise_iff_getElem.2 fun p q hp hq hpq => ?_
          have h1 : L[p].1 = p := (hget p _ _ _ (List.getElem?_eq_getElem hp)).1
          have h2 : L[q].1 = q := (hget q _ _ _ (List.getElem?_eq_getElem hq)).1
          omega
        · refine List.pairwise_iff_getElem.2 fun p q hp hq hpq => ?_
          have h1 : L[p].1 = p := (hget p _ _ _ (List.getElem?_eq_getElem hp)).1
          have h2 := c4 rfl q L[q].1 L[q].2.1 L[q].2.2 (List.getElem?_eq_getElem hq) p L[p].2.1 L[p].2.2 (by simp [hp]) (by simpa using hpq)
          rw [h1]
          exact h2
        · by_cases hi : i < ops.size
          · simp [Array.getD, hi] at hl
          · simp [Array.getD, hi] at hl
      have := any_ok hX (Q := Q) hB' (fun a' w' hs'' => hκ σ' a' w' c2 hs'') ops.size _ L σ a _ hI (by omega) c1 hs'
      simpa using this
def Snd (P : Program) (X : Cx) (fr : Fr) (J : Jn) (c : Code) (m : Ann → (St → R) → St → R) : Prop :=
  ∀ (n : Ann) (κ : St → R) (σ : St) (r : Out) (Q : Exit → Act → World → Prop) (a : Act) (w : World), m n κ σ = some r → Sim X.T fr X.n σ a w →
    (∀ σ' a' w', κ σ' = some r → Sim X.T fr X.n σ' a' w' → Q .normal a' w') →
    (∀ id t xs a' w', jget J id = some t → r = .brk id xs → Sim X.T fr X.n (t.inj xs) a' w' → Q (.exit id) a' w') →
    (∀ σ' a' w', retD X σ' = some r → Sim X.T fr X.n σ' a' w' → Q .ret a' w') → c.wp P Q a w
theorem injSl_eq {β : Type} (xs : List C) : ∀ (q : List (Nat × Sk)) (p : Nat) (f : Slots) (k : Slots → Nat → β), injSl xs q p f k = k (instSl nm0 xs q p f).1 (instSl nm0 xs q p f).2
  | [], p, f, k => rfl
  | (d, s) :: r, p, f, k => by
    show (s.inst nm0 xs p).1.force _ = _
    rw [force_eq, injSl_eq xs r]
    rfl
theorem injBx_eq {β : Type} (xs : List C) : ∀ (q : List (Nat × BSk)) (p : Nat) (f : Bxs) (k : Bxs → β), injBx xs q p f k = k (instBx nm0 xs q p f)
  | [], p, f, k => rfl
  | (b, .var t cells) :: r, p, f, k => by
    show V.forces _ _ = _
    rw [forces_eq, injBx_eq xs r]
    rfl
  | (b, .arr t) :: r, p, f, k => by
    show injBx xs r _ _ k = _
    rw [injBx_eq xs r]
    rfl
  | (b, .mp t) :: r, p, f, k => by
    show injBx xs r _ _ k = _
    rw [injBx_eq xs r]
    rfl
theorem injK_eq {β : Type} (t : Tm) (xs : List C) (k : St → β) : t.injK xs k = k (t.inj xs) := by
  unfold Tm.injK
  rw [injSl_eq, injBx_eq]
  rfl
theorem retD_form {σ : St} {r : Out} (h : retD X σ = some r) : ∃ ys, r = .ret ys := by
  unfold retD at h
  split at h
  · cases hc : andS (ipOk σ.bx X.ip) (allHas X.inT.bx X.ip) with
    | false => rw [hc, sif_false] at h; simp at h
    | true =>
      rw [hc, sif_true] at h
      split at h
      · rename_i e _
        cases hz : isNil e.fz with
        | false => rw [hz, sif_false] at h; simp at h
        | true => rw [hz, sif_true] at h; exact ⟨_, (Option.some.inj h).symm⟩
      · simp at h
  · simp at h
theorem wrap_snd {J : Jn} {c : Code} {f : Ann → (St → R) → St → R} (hst : fr.st = X.ip) (hf : Snd P X fr J c f) : Snd P X fr J c (wrap X f) := by
  intro n
  induction n with
  | frz bs x ih =>
    intro κ σ r Q a w h hs h1 h2 h3
    exact ih κ (σ.frz X.T bs) r Q a w h (frz_ok bs hs) h1 h2 h3
  | cut d x ih =>
    intro κ σ r Q a w h hs h1 h2 h3
    replace h : cond (σ.cutOk d) (wrap X f x κ (σ.cut d)) none = some r := h
    cases hc : σ.cutOk d with
    | false => rw [hc] at h; simp at h
    | true => rw [hc] at h; exact ih κ (σ.cut d) r Q a w h (cut_ok d hc hs) h1 h2 h3
  | cutc m i x ih =>
    intro κ σ r Q a w h hs h1 h2 h3
    replace h : cond (σ.cutCOk m i) (wrap X f x κ (σ.cutC m i)) none = some r := h
    cases hc : σ.cutCOk m i with
    | false => rw [hc] at h; simp at h
    | true => rw [hc] at h; exact ih κ (σ.cutC m i) r Q a w h (cutC_ok m i hc hs) h1 h2 h3
  | join t x ih =>
    intro κ σ r Q a w h hs h1 h2 h3
    replace h : bindNrm (wrap X f x (fun σ' => outD X t σ' .nrm) σ) (fun xs => t.injK xs κ) = some r := h
    cases hr1 : wrap X f x (fun σ' => outD X t σ' .nrm) σ with
    | none => rw [hr1] at h; simp [bindNrm] at h
    | some r1 =>
      rw [hr1] at h
      refine ih _ σ r1 Q a w hr1 hs (fun σ' a' w' hk hs' => ?_) (fun id t' xs a' w' hj he hs' => ?_) (fun σ' a' w' hk hs' => ?_)
      · obtain ⟨xs, rfl, hs''⟩ := outD_ok hst hk hs'
        replace h : t.injK xs κ = some r := h
        rw [injK_eq] at h
        exact h1 _ a' w' h hs''
      · subst he
        have e : r = .brk id xs := (Option.some.inj h).symm
        exact h2 id t' xs a' w' hj e hs'
      · obtain ⟨ys, rfl⟩ := retD_form hk
        have e : r = .ret ys := (Option.some.inj h).symm
        rw [← e] at hk
        exact h3 σ' a' w' hk hs'
  | leaf => exact hf .leaf
  | seq x y _ _ => exact hf (.seq x y)
  | cond x y _ _ => exact hf (.cond x y)
  | block t x _ => exact hf (.block t x)
  | loop t x _ => exact hf (.loop t x)
  | skip x _ => exact hf (.skip x)
theorem jget_del (id : Nat) : ∀ (J : Jn), jget (jdel id J) id = none ∧ ∀ k t, jget (jdel id J) k = some t → jget J k = some t
  | [] => ⟨rfl, fun k t h => h⟩
  | (m, u) :: r => by
    obtain ⟨h1, h2⟩ := jget_del id r
    cases hb : Nat.beq m id with
    | true =>
      have e : jdel id ((m, u) :: r) = jdel id r := by show sif (Nat.beq m id) _ _ = _; rw [hb]; rfl
      rw [e]
      refine ⟨h1, fun k t hk => ?_⟩
      have hmk : Nat.beq m k = false := by
        cases hmk : Nat.beq m k with
        | false => rfl
        | true =>
          have a1 := Nat.eq_of_beq_eq_true hb
          have a2 := Nat.eq_of_beq_eq_true hmk
          subst a1; subst a2
          rw [h1] at hk; simp at hk
      show sif (Nat.beq m k) _ _ = _
      rw [hmk]
      exact h2 k t hk
    | false =>
      have e : jdel id ((m, u) :: r) = (m, u) :: jdel id r := by show sif (Nat.beq m id) _ _ = _; rw [hb]; rfl
      rw [e]
      refine ⟨?_, fun k t hk => ?_⟩
      · show sif (Nat.beq m id) _ _ = _
        rw [hb]; exact h1
      · replace hk : sif (Nat.beq m k) (some u) (jget (jdel id r) k) = some t := hk
        show sif (Nat.beq m k) (some u) (jget r k) = some t
        cases hmk : Nat.beq m k with
        | true => rw [hmk] at hk; exact hk
        | false => rw [hmk] at hk; exact h2 k t hk
theorem lim_some {body : List C → R} {xs : List C} {r : Out} (h : lim body xs = some r) : ∃ k, iter body k xs = some r := by
  unfold lim at h
  split at h
  · exact ⟨_, h⟩
  · simp at h
theorem ev_snd (hX : Env P X) (hst : fr.st = X.ip) : ∀ (c : Code) (J : Jn), Snd P X fr J c (ev X c J) := by
  intro c
  induction c with
  | skip =>
    intro J
    refine wrap_snd hst ?_
    intro n κ σ r Q a w h hs h1 h2 h3
    exact wp_skip (h1 σ a w h hs)
  | region id ops draw =>
    intro J
    refine wrap_snd hst ?_
    intro n κ σ r Q a w h hs h1 h2 h3
    exact region_ok hX h hs h1
  | seq x y ihx ihy =>
    intro J
    refine wrap_snd hst ?_
    intro n κ σ r Q a w h hs h1 h2 h3
    have key : ∀ n1 n2, ev X x J n1 (fun σ => ev X y J n2 κ σ) σ = some r → (Code.seq x y).wp P Q a w := by
      intro n1 n2 h
      refine wp_seq (ihx J n1 _ σ r _ a w h hs (fun σ' a' w' hk hs' => ?_) h2 h3)
      exact ihy J n2 κ σ' r Q a' w' hk hs' h1 h2 h3
    cases n with
    | seq n1 n2 => exact key n1 n2 h
    | _ => exact key _ _ h
  | cond q x y ihx ihy =>
    intro J
    refine wrap_snd hst ?_
    intro n κ σ r Q a w h hs h1 h2 h3
    have hv : RelV X.T _ _ _ _ (opnd σ.sl q) (a.eval q) := opnd_ok hs.ex.choose_spec.choose_spec.2.sl q
    dsimp only at h
    generalize ho : opnd σ.sl q = oq at h hv
    cases oq with
    | c t z => cases t with
      | bool =>
        have hb := bool_ok hv
        have key : ∀ n1 n2, cond z.B (ev X x J n1 κ σ) (ev X y J n2 κ σ) = some r → (Code.cond q x y).wp P Q a w := by
          intro n1 n2 h
          refine wp_cond_split hb (fun ht => ?_) (fun hf => ?_)
          · rw [ht] at h; exact ihx J n1 κ σ r Q a w h hs h1 h2 h3
          · rw [hf] at h; exact ihy J n2 κ σ r Q a w h hs h1 h2 h3
        cases n with
        | cond n1 n2 => exact key n1 n2 h
        | _ => exact key _ _ h
      | _ => exact absurd (show (none : R) = some r from h) (by simp)
    | _ => exact absurd (show (none : R) = some r from h) (by simp)
  | block id x ih =>
    intro J
    refine wrap_snd hst ?_
    intro n κ σ r Q a w h hs h1 h2 h3
    have key : ∀ n1, ev X x (jdel id J) n1 κ σ = some r → (Code.block id x).wp P Q a w := by
      intro n1 h
      refine wp_block (ih (jdel id J) n1 κ σ r _ a w h hs h1 (fun id' t xs a' w' hj he hs' => ?_) h3)
      obtain ⟨d1, d2⟩ := jget_del id J
      show if id' = id then _ else _
      by_cases hid : id' = id
      · subst hid; rw [d1] at hj; simp at hj
      · rw [if_neg hid]; exact h2 id' t xs a' w' (d2 _ _ hj) he hs'
    cases n with
    | block t n1 =>
      replace h : bindBlk id (ev X x ((id, t) :: J) n1 (fun σ' => outD X t σ' (.brk id)) σ) (fun xs => t.injK xs κ) = some r := h
      cases hr1 : ev X x ((id, t) :: J) n1 (fun σ' => outD X t σ' (.brk id)) σ with
      | none => rw [hr1] at h; simp [bindBlk] at h
      | some r1 =>
        rw [hr1] at h
        have hbrk : ∀ xs a' w', r1 = .brk id xs → Sim X.T fr X.n (t.inj xs) a' w' → Q .normal a' w' := by
          intro xs a' w' he hs'
          subst he
          replace h : sif (Nat.beq id id) (t.injK xs κ) (some (.brk id xs)) = some r := h
          rw [Nat.beq_refl, sif_true, injK_eq] at h
          exact h1 _ a' w' h hs'
        refine wp_block (ih ((id, t) :: J) n1 _ σ r1 _ a w hr1 hs (fun σ' a' w' hk hs' => ?_) (fun id' t' xs a' w' hj he hs' => ?_) (fun σ' a' w' hk hs' => ?_))
        · obtain ⟨xs, he, hs''⟩ := outD_ok hst hk hs'
          exact hbrk xs a' w' he hs''
        · show if id' = id then _ else _
          by_cases hid : id' = id
          · subst hid
            replace hj : sif (Nat.beq id' id') (some t) (jget J id') = some t' := hj
            rw [Nat.beq_refl, sif_true] at hj
            obtain rfl := Option.some.inj hj
            rw [if_pos rfl]
            exact hbrk xs a' w' he hs'
          · rw [if_neg hid]
            have hb1 : Nat.beq id id' = false := by
              cases hb : Nat.beq id id' with
              | false => rfl
              | true => exact absurd (Nat.eq_of_beq_eq_true hb).symm hid
            have hb2 : Nat.beq id' id = false := by
              cases hb : Nat.beq id' id with
              | false => rfl
              | true => exact absurd (Nat.eq_of_beq_eq_true hb) hid
            replace hj : sif (Nat.beq id id') (some t) (jget J id') = some t' := hj
            rw [hb1, sif_false] at hj
            subst he
            replace h : sif (Nat.beq id' id) (t.injK xs κ) (some (.brk id' xs)) = some r := h
            rw [hb2, sif_false] at h
            exact h2 id' t' xs a' w' hj (Option.some.inj h).symm hs'
        · obtain ⟨ys, rfl⟩ := retD_form hk
          have e : r = .ret ys := (Option.some.inj h).symm
          rw [← e] at hk
          exact h3 σ' a' w' hk hs'
    | skip n1 => exact key n1 h
    | _ => exact key _ h
  | loop x ih =>
    intro J
    refine wrap_snd hst ?_
    intro n κ σ r Q a w h hs h1 h2 h3
    cases n with
    | loop t n1 =>
      replace h : sif (joinOk X t σ) (match t.data X.T (idRen X.ip) σ with
        | some xs => lim (fun xs => t.injK xs (ev X x J n1 fun σ' => outD X t σ' .again)) xs
        | none => none) none = some r := h
      cases hj : joinOk X t σ with
      | false => rw [hj, sif_false] at h; simp at h
      | true =>
        rw [hj, sif_true] at h
        split at h
        · rename_i xs hxs
          have h0 : outD X t σ .again = some (.again xs) := by unfold outD; rw [hj, sif_true, hxs]
          obtain ⟨xs', he, hs0⟩ := outD_ok hst h0 hs
          simp only [Out.again.injEq] at he
          subst he
          obtain ⟨k, hk⟩ := lim_some h
          refine wp_loop_rounds k ?_
          have rounds : ∀ (k : Nat) (xs : List C) (a : Act) (w : World), iter (fun xs => t.injK xs (ev X x J n1 fun σ' => outD X t σ' .again)) k xs = some r → Sim X.T fr X.n (t.inj xs) a w → Code.rounds P x Q k a w := by
            intro k
            induction k with
            | zero => intro xs a w hk _; simp [iter] at hk
            | succ k ihk =>
              intro xs a w hk hs
              show x.wp P (Exit.then (Code.rounds P x Q k) Q) a w
              simp only [iter] at hk
              rw [injK_eq] at hk
              cases hr1 : ev X x J n1 (fun σ' => outD X t σ' .again) (t.inj xs) with
              | none => rw [hr1] at hk; simp at hk
              | some r1 =>
                rw [hr1] at hk
                refine ih J n1 _ _ r1 _ a w hr1 hs (fun σ' a' w' hk' hs' => ?_) (fun id' t' ys a' w' hj he hs' => ?_) (fun σ' a' w' hk' hs' => ?_)
                · obtain ⟨ys, rfl, hs''⟩ := outD_ok hst hk' hs'
                  exact ihk ys a' w' hk hs''
                · subst he
                  exact h2 id' t' ys a' w' hj (Option.some.inj hk).symm hs'
                · obtain ⟨ys, rfl⟩ := retD_form hk'
                  have e : r = .ret ys := (Option.some.inj hk).symm
                  rw [← e] at hk'
                  exact h3 σ' a' w' hk' hs'
          exact rounds k _ a w hk hs0
        · simp at h
    | _ => exact absurd (show (none : R) = some r from h) (by simp)
  | exit id =>
    intro J
    refine wrap_snd hst ?_
    intro n κ σ r Q a w h hs h1 h2 h3
    replace h : (match jget J id with
      | some t => outD X t σ (.brk id)
      | none => none) = some r := h
    split at h
    · rename_i t hj
      obtain ⟨xs, he, hs'⟩ := outD_ok hst h hs
      exact wp_exit (h2 id t xs a w hj he hs')
    · simp at h
  | ret =>
    intro J
    refine wrap_snd hst ?_
    intro n κ σ r Q a w h hs h1 h2 h3
    exact wp_ret (h3 σ a w h hs)
  | _ =>
    intro J n κ σ r Q a w h
    exact absurd (show (none : R) = some r from h) (by simp)
end
end Go.Ev
namespace Go.Ev
section
variable {P : Program} {T : Tys} {X : Cx} {fr : Fr} {F : Nat → Prop} {w : World} {θ : Nat → Value}
def oneRes (tmps : Array Value) : ResultVar → Sem Value
  | .tmp t => pure (tmps.getD t undef)
  | .cell a t => do loadVar t (← asAddr (tmps.getD a undef))
theorem resOne_ok (hT : TOk P T) {σ : St} {n : Nat} {a : Act} (hw : WR T fr F w σ.bx θ) (hs : SlR T F w σ.bx θ n σ.sl a) {q : ResultVar} {v : V} (h : resOne T σ q = some v) :
    ∃ u, (oneRes a.tmps q).run P w = .ok u w ∧ RelV T F w σ.bx θ v u := by
  cases q with
  | tmp t =>
    simp only [resOne, Option.some.injEq] at h
    subst h
    exact ⟨_, by simp [oneRes], hs.sl t⟩
  | cell b t =>
    simp only [resOne] at h
    split at h
    · rename_i d b' ver off hd hb
      have hv := hs.sl b
      rw [hb] at hv
      split at h
      · rename_i v' t' cells hbx
        cases hc : andS (Nat.beq v' ver) (Nat.ble (off + len d.cts) (len cells)) with
        | false => rw [hc, sif_false] at h; simp at h
        | true =>
          rw [hc, sif_true] at h
          simp only [andS_eq, Bool.and_eq_true, len_eq] at hc
          obtain ⟨g, hth, hvv, rfl⟩ := pt_now hv hbx hc.1
          obtain ⟨g', cs, e, d', q1, q2, q3, q4, q5, q6⟩ := hw.box b' _ hbx
          rw [hth] at q1
          simp only [Value.pointer.injEq, Option.some.injEq, Addr.mk.injEq, and_true] at q1
          subst q1
          have hle := Nat.le_of_ble_eq_true hc.2
          rw [tak_eq, drp_eq, len_eq] at h
          have ht := tget_ok hT hd
          have hl : ((cs.toList.drop off).take d.cts.length).length = d.cts.length := by
            rw [List.length_take, List.length_drop]; simp; omega
          have hl2 : ((cells.drop off).take d.cts.length).length = d.cts.length := by
            rw [List.length_take, List.length_drop]; omega
          have hrun := ht.run_loadVar (w := w) (g := g) (o := off) hl (fun j u hj => by
            rw [List.getElem?_take] at hj
            split at hj
            · rw [List.getElem?_drop] at hj
              simp [World.cell?, q2]; simpa using hj
            · simp at hj)
          refine ⟨_, ?_, mkV_ok ht h (by rw [hl, hl2]) (fun i x u h1 h2 => ?_)⟩
          · simp [oneRes, hvv, asAddr, hrun]
          · rw [List.getElem?_take] at h1 h2
            split at h1
            · rename_i hi
              rw [if_pos hi] at h2
              rw [List.getElem?_drop] at h1 h2
              exact q6 _ x u h1 (by simpa using h2)
            · simp at h1
      · simp at h
    · simp at h
theorem resAll_ok (hT : TOk P T) {σ : St} {n : Nat} {a : Act} (hw : WR T fr F w σ.bx θ) (hs : SlR T F w σ.bx θ n σ.sl a) : ∀ (qs : List ResultVar) (vs : List V), resAll T σ qs = some vs →
    ∃ us : List Value, (qs.mapM (oneRes a.tmps)).run P w = .ok us w ∧ us.length = vs.length ∧ ∀ (i : Nat) (x : V) (v : Value), vs[i]? = some x → us[i]? = some v → RelV T F w σ.bx θ x v
  | [], vs, h => by
    simp only [resAll, Option.some.injEq] at h
    subst h
    exact ⟨[], by simp, rfl, fun i x v h => by simp at h⟩
  | q :: r, vs, h => by
    simp only [resAll] at h
    split at h
    · rename_i v hv
      split at h
      · rename_i vs' hvs
        simp only [Option.some.injEq] at h
        subst h
        obtain ⟨u, h1, h2⟩ := resOne_ok (P := P) hT hw hs hv
        obtain ⟨us, h3, h4, h5⟩ := resAll_ok hT hw hs r vs' hvs
        refine ⟨u :: us, by simp [List.mapM_cons, h1, h3], by simp [h4], fun i x z a1 a2 => ?_⟩
        cases i with
        | zero => simp at a1 a2; subst a1; subst a2; exact h2
        | succ i => exact h5 i x z (by simpa using a1) (by simpa using a2)
      · simp at h
    · simp at h
theorem resV_ok (hT : TOk P T) {σ : St} {n : Nat} {a : Act} (hw : WR T fr F w σ.bx θ) (hs : SlR T F w σ.bx θ n σ.sl a) {fn : Func} {v : V} (h : resV T σ fn.results.toList = some v) :
    ∃ u, (results fn a.tmps).run P w = .ok u w ∧ RelV T F w σ.bx θ v u := by
  unfold resV at h
  have key : ∀ vs, resAll T σ fn.results.toList = some vs → ∃ us : List Value, (results fn a.tmps).run P w = .ok (if h : us.toArray.size = 1 then us.toArray[0] else .tuple us.toArray) w ∧ us.length = vs.length ∧ ∀ (i : Nat) (x : V) (v : Value), vs[i]? = some x → us[i]? = some v → RelV T F w σ.bx θ x v := by
    intro vs hvs
    obtain ⟨us, h1, h2, h3⟩ := resAll_ok (P := P) hT hw hs _ vs hvs
    refine ⟨us, ?_, h2, h3⟩
    have e : results fn a.tmps = (do let vs ← fn.results.mapM (oneRes a.tmps); pure (if h : vs.size = 1 then vs[0] else .tuple vs)) := by
      unfold results
      congr 1
    rw [e]
    simp [Array.mapM_eq_mapM_toList, h1]
  split at h
  · rename_i x hx
    simp only [Option.some.injEq] at h
    subst h
    obtain ⟨us, h1, h2, h3⟩ := key _ hx
    match us, h2 with
    | [u], _ => exact ⟨u, by simpa using h1, h3 0 _ u rfl rfl⟩
  · rename_i vs hne hx
    simp only [Option.some.injEq] at h
    subst h
    obtain ⟨us, h1, h2, h3⟩ := key _ hx
    have hl : ¬ us.length = 1 := by
      intro hl
      match vs, (h2.symm.trans hl) with
      | [x], _ => exact hne x rfl
    exact ⟨.tuple us.toArray, by simpa [hl] using h1, .tu _ us h2 h3⟩
  · simp at h
theorem FSOk.of_ev (hX : Env P X) {f : FuncId} {fn : Func} {c : Code} {fs : FS} {an : Ann} (hf : P.funcs[f]? = some fn) (hb : fn.body = some c) (hname : (fn.name == "runtime.NumGoroutine") = false)
    (hn : fn.ntmps = X.n) (hres : fn.results.toList = X.res) (hin : X.inT = fs.inT) (hout : X.outT = fs.outT) (hip : X.ip = fs.ip) (hle : fs.n ≤ fn.ntmps) (hsl : ∀ xs k, fs.n ≤ k → (fs.inT.inj xs).sl k = .un)
    (hF : ∀ xs ys, fs.F xs = some ys → evF X c an xs = some ys) : FSOk P X.T f fs := by
  refine ⟨⟨fn, c, hf, hb, hname⟩, ?_⟩
  intro w wr F0 θ xs ys args hw hsz hr hys
  refine calls_of_wp hf hb ?_
  have hev := hF xs ys hys
  unfold evF at hev
  rw [hin, injK_eq] at hev
  have hr1 : ev X c [] an (fun σ => retD X σ) (fs.inT.inj xs) = some (.ret ys) := by
    unfold finR at hev
    split at hev
    · rename_i ys' h; rw [h]; simp only [Option.some.injEq] at hev; rw [hev]
    · simp at hev
  have hs : Sim X.T ⟨w, wr, F0, θ, fs.ip⟩ X.n (fs.inT.inj xs) { tmps := args ++ Array.replicate (fn.ntmps - args.size) undef, defers := [] } w := by
    refine ⟨F0, θ, hw, ⟨fun k => ?_, by simp; omega, rfl⟩⟩
    by_cases hk : k < fs.n
    · have := hr k hk
      have e : (args ++ Array.replicate (fn.ntmps - args.size) undef).getD k undef = args.getD k undef := by
        simp only [Array.getD_eq_getD_getElem?]
        rw [Array.getElem?_append_left (by omega)]
      show RelV _ _ _ _ _ _ ((args ++ Array.replicate (fn.ntmps - args.size) undef).getD k undef)
      rw [e]
      exact this
    · rw [hsl xs k (by omega)]; exact .un _
  have hfin : ∀ (σ' : St) (a' : Act) (w' : World), retD X σ' = some (.ret ys) → Sim X.T ⟨w, wr, F0, θ, fs.ip⟩ X.n σ' a' w' → a'.defers = [] ∧ ∃ v, (results fn a'.tmps).run P w' = .ok v w' ∧ ∃ v' F1 θ1, Ending.returned v = .returned v' ∧ WR X.T ⟨w, wr, F0, θ, []⟩ F1 w' (fs.outT.inj ys).bx θ1 ∧ RelV X.T F1 w' (fs.outT.inj ys).bx θ1 ((fs.outT.inj ys).sl 0) v' ∧
      ∀ n, n ∈ fs.ip → (∃ x, (fs.outT.inj ys).bx n = some x) → θ1 n = θ n := by
    intro σ' a' w' hret hsim
    obtain ⟨F, θ', hw', hs'⟩ := hsim
    refine ⟨hs'.defers, ?_⟩
    unfold retD at hret
    split at hret
    · rename_i v hv
      cases hc : andS (ipOk σ'.bx X.ip) (allHas X.inT.bx X.ip) with
      | false => rw [hc, sif_false] at hret; simp at hret
      | true =>
        rw [hc, sif_true] at hret
        simp only [andS_eq, Bool.and_eq_true] at hc
        split at hret
        · rename_i e he
          cases hz : isNil e.fz with
          | false => rw [hz, sif_false] at hret; simp at hret
          | true =>
            rw [hz, sif_true] at hret
            simp only [Option.some.injEq, Out.ret.injEq] at hret
            obtain ⟨u, hu, hru⟩ := resV_ok (P := P) (fn := fn) hX.T hw' hs' (by rw [hres]; exact hv)
            have hval : ∀ d, RelV X.T F w' σ'.bx θ' (upd (fun _ => V.un) 0 v d) (if d = 0 then u else undef) := by
              intro d
              by_cases hd : d = 0
              · subst hd; rw [upd_same, if_pos rfl]; exact hru
              · rw [upd_ne _ _ hd]; exact .un _
            have hi := tm_ext_ok hw' hval he
            have hle' := ext_le hw' hval he
            rw [hret] at hi
            rw [hout] at hi he
            refine ⟨u, hu, u, _, _, rfl, hi.wr hw' (st := []) (fun n hn => by simp at hn), ?_, fun n hn hx => ?_⟩
            · have := hi.sl 0; simpa using this
            · rw [hip, hin] at hc
              have hf' := hle' n _ (find_idRen (l := X.ip) (by rw [hip]; exact hn))
              obtain ⟨x, q1, q2⟩ := hw'.stay n hn
              obtain ⟨y, q3, q4⟩ := ipOk_mem hc.1 n hn
              rw [q1] at q3; obtain rfl := Option.some.inj q3
              show thOf θ' e.r n = θ n
              simp only [thOf, hf']
              exact q2 q4
        · simp at hret
    · simp at hret
  refine ev_snd hX (fr := ⟨w, wr, F0, θ, fs.ip⟩) hip.symm c [] an _ _ (.ret ys) _ _ w hr1 hs (fun σ' a' w' h1 h2 => ?_) (fun id t xs a' w' h => by simp [jget] at h) (fun σ' a' w' h1 h2 => ?_)
  · exact hfin σ' a' w' h1 h2
  · exact hfin σ' a' w' h1 h2
end
end Go.Ev
namespace Go.Ev
def isZero : CT → Value → Bool
  | .int k, .int k' n => andS (ikeq k k') (match n with | .ofNat 0 => true | _ => false)
  | .bool, .bool b => notS b
  | .str, .string s => match s with | ⟨⟨[]⟩⟩ => true | _ => false
  | .sl _, .slice none 0 0 => true
  | .pt _, .pointer none => true
  | .fn, .nilFunc => true
  | _, _ => false
theorem isZero_ok {c : CT} {v : Value} (h : isZero c v = true) : v = zeroVal c := by
  unfold isZero at h
  split at h
  · rename_i k k' n
    simp only [andS_eq, Bool.and_eq_true] at h
    have := ikeq_eq h.1; subst this
    have h2 := h.2
    split at h2
    · rfl
    · simp at h2
  · rename_i b; cases b <;> simp [notS] at h ⊢; rfl
  · split at h
    · rfl
    · simp at h
  · rfl
  · rfl
  · rfl
  · simp at h
def zerosB : List CT → List Value → Bool
  | [], [] => true
  | c :: cs, v :: vs => andS (isZero c v) (zerosB cs vs)
  | _, _ => false
theorem zerosB_ok : ∀ {cs : List CT} {vs : List Value}, zerosB cs vs = true → vs = cs.map zeroVal
  | [], [], _ => rfl
  | [], _ :: _, h => by simp [zerosB] at h
  | _ :: _, [], h => by simp [zerosB] at h
  | c :: cs, v :: vs, h => by
    simp only [zerosB, andS_eq, Bool.and_eq_true] at h
    rw [isZero_ok h.1, zerosB_ok h.2]; rfl
def zeroB (d : TD) (v : Value) : Bool := match d.agg with
  | true => match v with | .agg cs => zerosB d.cts cs.toList | _ => false
  | false => match d.cts with | [t] => isZero t v | _ => false
theorem zeroB_ok {d : TD} {v : Value} (h : zeroB d v = true) : v = zeroOf d := by
  unfold zeroB at h
  unfold zeroOf
  split at h
  · rename_i ha
    rw [ha, if_pos rfl]
    split at h
    · rw [← zerosB_ok h]
    · simp at h
  · rename_i ha
    rw [ha, if_neg (by simp)]
    split at h
    · rename_i t ht
      rw [ht]
      exact isZero_ok h
    · simp at h
def ctsEq : List CT → List CT → Bool
  | [], [] => true
  | a :: r, b :: s => andS (cteq a b) (ctsEq r s)
  | _, _ => false
theorem ctsEq_ok : ∀ {a b : List CT}, ctsEq a b = true → a = b
  | [], [], _ => rfl
  | [], _ :: _, h => by simp [ctsEq] at h
  | _ :: _, [], h => by simp [ctsEq] at h
  | x :: r, y :: s, h => by
    simp only [ctsEq, andS_eq, Bool.and_eq_true] at h
    rw [cteq_eq h.1, ctsEq_ok h.2]
def fsEq : List (Nat × TypeId) → List (Nat × TypeId) → Bool
  | [], [] => true
  | (a, b) :: r, (c, d) :: s => andS (Nat.beq a c) (andS (Nat.beq b d) (fsEq r s))
  | _, _ => false
theorem fsEq_ok : ∀ {a b : List (Nat × TypeId)}, fsEq a b = true → a = b
  | [], [], _ => rfl
  | [], _ :: _, h => by simp [fsEq] at h
  | _ :: _, [], h => by simp [fsEq] at h
  | (x, x') :: r, (y, y') :: s, h => by
    simp only [fsEq, andS_eq, Bool.and_eq_true] at h
    rw [Nat.eq_of_beq_eq_true h.1, Nat.eq_of_beq_eq_true h.2.1, fsEq_ok h.2.2]
def dvEq : DV → DV → Bool
  | .bool, .bool => true | .int k, .int k' => ikeq k k' | .str, .str => true | .sl e, .sl e' => Nat.beq e e' | .pt e, .pt e' => Nat.beq e e' | .st f, .st f' => fsEq f f' | .fn, .fn => true | _, _ => false
theorem dvEq_ok {a b : DV} (h : dvEq a b = true) : a = b := by
  unfold dvEq at h
  split at h
  · rfl
  · rw [ikeq_eq h]
  · rfl
  · rw [Nat.eq_of_beq_eq_true h]
  · rw [Nat.eq_of_beq_eq_true h]
  · rw [fsEq_ok h]
  · rfl
  · simp at h
def fldB (T : Tys) (cts : List CT) : List (Nat × TypeId) → Bool
  | [] => true
  | (o, f) :: r => andS (match tget T f with | some df => ctsEq (tak (len df.cts) (drp o cts)) df.cts | none => true) (fldB T cts r)
theorem fldB_ok {T : Tys} {cts : List CT} : ∀ {fs : List (Nat × TypeId)}, fldB T cts fs = true → ∀ o f, (o, f) ∈ fs → ∀ df, tget T f = some df → (cts.drop o).take df.cts.length = df.cts
  | [], _, o, f, h, _, _ => by simp at h
  | (o', f') :: r, h, o, f, hm, df, hd => by
    simp only [fldB, andS_eq, Bool.and_eq_true] at h
    rcases List.mem_cons.1 hm with e | hm
    · simp only [Prod.mk.injEq] at e
      obtain ⟨rfl, rfl⟩ := e
      have h1 := h.1
      rw [hd] at h1
      have := ctsEq_ok h1
      rw [tak_eq, drp_eq, len_eq] at this
      exact this
    · exact fldB_ok h.2 o f hm df hd
def leafB (T : Tys) (d : TD) : Bool := match d.dv with
  | .bool => ctsEq d.cts [.bool] | .int k => ctsEq d.cts [.int k] | .str => ctsEq d.cts [.str] | .sl e => ctsEq d.cts [.sl e] | .pt e => ctsEq d.cts [.pt e] | .fn => ctsEq d.cts [.fn]
  | .st fs => fldB T d.cts fs
  | .other => false
def tyB (P : Program) (T : Tys) (t : TypeId) (d : TD) : Bool :=
  match P.info? t, P.underlying t with
  | some i, some u => andS (match i.zero with | some z => zeroB d z | none => false) (andS (Nat.beq i.size (len d.cts)) (andS (Nat.beq i.bytes d.bytes) (andS (dvEq (viewDesc u) d.dv) (andS (Nat.blt 0 (len d.cts)) (leafB T d)))))
  | _, _ => false
theorem tyB_ok {P : Program} {T : Tys} {t : TypeId} {d : TD} (h : tyB P T t d = true) : TyOk P T t d := by
  unfold tyB at h
  split at h
  · rename_i i u hi hu
    simp only [andS_eq, Bool.and_eq_true] at h
    obtain ⟨h1, h2, h3, h4, h5, h6⟩ := h
    have h2 := Nat.eq_of_beq_eq_true h2
    have h5 := Nat.le_of_ble_eq_true h5
    rw [len_eq] at h2 h5
    refine ⟨⟨i, hi, ?_, h2, Nat.eq_of_beq_eq_true h3⟩, ⟨u, hu, dvEq_ok h4⟩, h5, ?_⟩
    · split at h1
      · rename_i z hz; rw [hz, zeroB_ok h1]
      · simp at h1
    · unfold leafB at h6
      cases hd : d.dv with
      | st fs => rw [hd] at h6; exact fldB_ok h6
      | other => rw [hd] at h6; simp at h6
      | _ => rw [hd] at h6; exact ctsEq_ok h6
  · simp at h
def tysB (P : Program) (T : Tys) : List (Nat × TD) → Bool
  | [] => true
  | (t, d) :: r => andS (andS (tyB P T t d) (match d.dv with | .sl e => (P.info? e).isSome | _ => true)) (tysB P T r)
theorem tget_mem {t : Nat} {d : TD} : ∀ {T : Tys}, tget T t = some d → (t, d) ∈ T
  | [], h => by simp [tget] at h
  | (n, d') :: r, h => by
    replace h : sif (Nat.beq n t) (some d') (tget r t) = some d := h
    cases hb : Nat.beq n t with
    | true =>
      rw [hb, sif_true] at h
      rw [Option.some.inj h, Nat.eq_of_beq_eq_true hb]
      exact List.mem_cons_self ..
    | false => rw [hb, sif_false] at h; exact List.mem_cons_of_mem _ (tget_mem h)
theorem tysB_ok {P : Program} {T : Tys} (h : tysB P T T = true) : TOk P T ∧ ∀ t e, elemOf? T t = some e → (P.info? e).isSome = true := by
  have key : ∀ {l : List (Nat × TD)}, tysB P T l = true → ∀ t d, (t, d) ∈ l → tyB P T t d = true ∧ (match d.dv with | .sl e => (P.info? e).isSome | _ => true) = true := by
    intro l
    induction l with
    | nil => intro _ t d h; simp at h
    | cons p r ih =>
      obtain ⟨t', d'⟩ := p
      intro h t d hm
      simp only [tysB, andS_eq, Bool.and_eq_true] at h
      rcases List.mem_cons.1 hm with e | hm
      · simp only [Prod.mk.injEq] at e; obtain ⟨rfl, rfl⟩ := e; exact h.1
      · exact ih h.2 t d hm
  refine ⟨fun t d hd => tyB_ok (key h t d (tget_mem hd)).1, fun t e he => ?_⟩
  unfold elemOf? at he
  split at he
  · rename_i e' cts b hd
    simp only [Option.some.injEq] at he
    subst he
    exact (key h t _ (tget_mem hd)).2
  · simp at he
def leafIsB (P : Program) (f : TypeId) : CT → Bool
  | .int k => match P.underlying f with | some (.int k') => ikeq k' k | _ => false
  | .bool => match P.underlying f with | some .bool => true | _ => false
  | .str => match P.underlying f with | some .string => true | _ => false
  | _ => false
theorem leafIsB_ok {P : Program} {f : TypeId} {ct : CT} (h : leafIsB P f ct = true) : leafIs P f ct := by
  cases ct with
  | int k =>
    simp only [leafIsB] at h
    split at h
    · rename_i k' hu; simp only [leafIs]; rw [hu, ikeq_eq h]
    · simp at h
  | bool =>
    simp only [leafIsB] at h
    split at h
    · rename_i hu; exact hu
    · simp at h
  | str =>
    simp only [leafIsB] at h
    split at h
    · rename_i hu; exact hu
    · simp at h
  | _ => simp [leafIsB] at h
def fieldsB (P : Program) : List Field → List CT → Nat → Bool
  | [], [], _ => true
  | f :: fs, ct :: cts, j => andS (notS (f.name == "_")) (andS (Nat.beq f.offset j) (andS (leafIsB P f.type ct) (fieldsB P fs cts (j + 1))))
  | _, _, _ => false
theorem fieldsB_ok {P : Program} : ∀ {fs : List Field} {cts : List CT} {j : Nat}, fieldsB P fs cts j = true → fs.length = cts.length ∧ ∀ (i : Nat) (f : Field) (ct : CT), fs[i]? = some f → cts[i]? = some ct → f.name ≠ "_" ∧ f.offset = j + i ∧ leafIs P f.type ct
  | [], [], j, _ => ⟨rfl, fun i f ct h => by simp at h⟩
  | [], _ :: _, j, h => by simp [fieldsB] at h
  | _ :: _, [], j, h => by simp [fieldsB] at h
  | f :: fs, ct :: cts, j, h => by
    simp only [fieldsB, andS_eq, notS_eq, Bool.and_eq_true] at h
    obtain ⟨h1, h2, h3, h4⟩ := h
    obtain ⟨a, b⟩ := fieldsB_ok h4
    refine ⟨by simp [a], fun i g c hg hc => ?_⟩
    cases i with
    | zero =>
      simp only [List.getElem?_cons_zero, Option.some.injEq] at hg hc
      subst hg; subst hc
      refine ⟨fun e => ?_, by simpa using Nat.eq_of_beq_eq_true h2, leafIsB_ok h3⟩
      rw [e] at h1
      simp at h1
    | succ i =>
      obtain ⟨c1, c2, c3⟩ := b i g c (by simpa using hg) (by simpa using hc)
      exact ⟨c1, by omega, c3⟩
def eqB (P : Program) (T : Tys) (t : TypeId) : Bool :=
  match P.underlying t, tget T t with
  | some (.struct fs), some d => andS (notS (P.stoodInHeld t)) (andS (notS (P.eqGuardType P.depth t)) (fieldsB P fs.toList d.cts 0))
  | _, _ => false
theorem eqB_ok {P : Program} {T : Tys} {t : TypeId} (h : eqB P T t = true) : EqOk P T t := by
  unfold eqB at h
  split at h
  · rename_i fs d hu hd
    simp only [andS_eq, notS_eq, Bool.and_eq_true, Bool.not_eq_true'] at h
    have hf : P.fieldsOf t = fs := by simp [Program.fieldsOf, hu]
    refine ⟨by rw [hf]; exact hu, h.1, h.2.1, fun d' hd' => ?_⟩
    rw [hd] at hd'
    obtain rfl := Option.some.inj hd'
    obtain ⟨a, b⟩ := fieldsB_ok h.2.2
    rw [hf]
    exact ⟨a, fun i f ct h1 h2 => by have := b i f ct h1 h2; simpa using this⟩
  · simp at h
def eqsB (P : Program) (T : Tys) : List Nat → Bool | [] => true | t :: r => andS (eqB P T t) (eqsB P T r)
theorem eqsB_ok {P : Program} {T : Tys} : ∀ {l : List Nat}, eqsB P T l = true → ∀ t, memb l t = true → EqOk P T t
  | [], _, t, h => by simp [memb] at h
  | a :: r, h, t, hm => by
    simp only [eqsB, andS_eq, Bool.and_eq_true] at h
    rw [memb_iff] at hm
    rcases List.mem_cons.1 hm with rfl | hm
    · exact eqB_ok h.1
    · exact eqsB_ok h.2 t ((memb_iff _ _).2 hm)
end Go.Ev
