/- Proved here: the law FnStewAsks of the given program answers true at every input, and leaves the input as it was; no condition. This text: lemmas on the way (an evaluator of the program's code, sound once for all; the functions it prints; plain proofs on these). -/
import Derived.Test.YtpfjmhaknhnamaaP1
import Derived.Test.YtpfjmhaknhnamaaChecked
import Derived.WalkKit
import Derived.Lib.Walk
import Derived.Lib.SliceRun
import Derived.Lib.JoinLaws
import Derived.Lib.AppendZerosOnto
import Derived.Lib.Overlaps
import Derived.Laws.Externs
import Derived.Laws.IdiomCopy
import Derived.Laws.CopyRow
import Derived.Shelf.RegionOpenPlain
set_option linter.all false
set_option autoImplicit false
namespace Go.Ev
@[simp] theorem C.I_i (n : Int) : (C.i n).I = n := rfl
@[simp] theorem C.B_b (x : Bool) : (C.b x).B = x := rfl
@[simp] theorem C.S_s (x : ByteArray) : (C.s x).S = x := rfl
@[simp] theorem C.L_l (x : List (List C)) : (C.l x).L = x := rfl
@[simp] theorem C.P_p (x : List C) : (C.p x).P = x := rfl
@[simp] theorem C.isP_p (x : List C) : (C.p x).isP = true := rfl
@[simp] theorem C.isP_nil : C.nil.isP = false := rfl
@[simp] theorem C.L_nil : C.nil.L = [] := rfl
@[simp] theorem finR_ret (ys : List C) : finR (some (.ret ys)) = some ys := rfl
@[simp] theorem bindF_some (ys : List C) (K : List C → R) : bindF (some ys) K = K ys := rfl
@[simp] theorem bindNrm_nrm (xs : List C) (K : List C → R) : bindNrm (some (.nrm xs)) K = K xs := rfl
@[simp] theorem bindNrm_ret (xs : List C) (K : List C → R) : bindNrm (some (.ret xs)) K = some (.ret xs) := rfl
@[simp] theorem bindNrm_brk (i : Nat) (xs : List C) (K : List C → R) : bindNrm (some (.brk i xs)) K = some (.brk i xs) := rfl
@[simp] theorem bindNrm_again (xs : List C) (K : List C → R) : bindNrm (some (.again xs)) K = some (.again xs) := rfl
@[simp] theorem bindBlk_ret (i : Nat) (xs : List C) (K : List C → R) : bindBlk i (some (.ret xs)) K = some (.ret xs) := rfl
@[simp] theorem bindBlk_again (i : Nat) (xs : List C) (K : List C → R) : bindBlk i (some (.again xs)) K = some (.again xs) := rfl
@[simp] theorem bindBlk_nrm (i : Nat) (xs : List C) (K : List C → R) : bindBlk i (some (.nrm xs)) K = some (.nrm xs) := rfl
theorem bindBlk_brk (i j : Nat) (xs : List C) (K : List C → R) : bindBlk i (some (.brk j xs)) K = if j = i then K xs else some (.brk j xs) := by
  show sif (Nat.beq j i) (K xs) (some (.brk j xs)) = _
  by_cases h : j = i
  · subst h; rw [Nat.beq_refl, sif_true, if_pos rfl]
  · have : Nat.beq j i = false := by
      cases hb : Nat.beq j i with
      | false => rfl
      | true => exact absurd (Nat.eq_of_beq_eq_true hb) h
    rw [this, sif_false, if_neg h]
@[simp] theorem bindBlk_self (i : Nat) (xs : List C) (K : List C → R) : bindBlk i (some (.brk i xs)) K = K xs := by rw [bindBlk_brk, if_pos rfl]
attribute [simp] nils
attribute [simp] rows
@[simp] theorem Int_toNat_nat (n : Nat) : ((n : Int)).toNat = n := Int.toNat_natCast n
theorem jA {α : Type} {a : α} {us vs : List α} : a :: us ++ vs = a :: (us ++ vs) := rfl
theorem jB {α : Type} (us : List α) : [] ++ us = us := rfl
theorem jC {α : Type} {x : α} {xs : List α} {d : α} : (x :: xs).getD 0 d = x := List.getD_cons_zero
theorem jD {α : Type} {x : α} {xs : List α} {n : Nat} {d : α} : (x :: xs).getD (n + 1) d = xs.getD n d := List.getD_cons_succ
theorem jE (n : Int) : (C.i n).I = n := rfl
theorem jF (x : Bool) : (C.b x).B = x := rfl
theorem jG (x : ByteArray) : (C.s x).S = x := rfl
theorem jH (x : List (List C)) : (C.l x).L = x := rfl
theorem jI (ys : List C) (K : List C → R) : bindF (some ys) K = K ys := rfl
theorem jJ (xs : List C) (K : List C → R) : bindNrm (some (.nrm xs)) K = K xs := rfl
theorem jK (xs : List C) (K : List C → R) : bindNrm (some (.ret xs)) K = some (.ret xs) := rfl
theorem jL (xs : List C) (K : List C → R) : bindNrm (some (.again xs)) K = some (.again xs) := rfl
theorem jM (i : Nat) (xs : List C) (K : List C → R) : bindNrm (some (.brk i xs)) K = some (.brk i xs) := rfl
theorem jN (i : Nat) (xs : List C) (K : List C → R) : bindBlk i (some (.brk i xs)) K = K xs := bindBlk_self i xs K
theorem jO (i : Nat) (xs : List C) (K : List C → R) : bindBlk i (some (.ret xs)) K = some (.ret xs) := rfl
theorem jP (i : Nat) (xs : List C) (K : List C → R) : bindBlk i (some (.again xs)) K = some (.again xs) := rfl
theorem jQ (i : Nat) (xs : List C) (K : List C → R) : bindBlk i (some (.nrm xs)) K = some (.nrm xs) := rfl
theorem jR {α : Type} (a b : α) : (bif true then a else b) = a := rfl
theorem jS {α : Type} (a b : α) : (bif false then a else b) = b := rfl
theorem jT (h : Decidable True) : decide True = true := decide_true h
theorem jU (h : Decidable False) : decide False = false := decide_false h
theorem jV (ys : List C) : finR (some (.ret ys)) = some ys := rfl
theorem jW {α β : Type} {us : List α} (f : α → β) : (List.map f us).length = us.length := List.length_map f
theorem jX (n : Nat) : 0 ≤ (n : Int) := Int.natCast_nonneg n
theorem jY (n : Nat) : ((n : Int)).toNat = n := Int.toNat_natCast n
theorem jZ : (!true) = false := rfl
theorem ja : (!false) = true := rfl
theorem jb {α : Type} {a : α} : [a].length = 1 := rfl
theorem jc {α : Type} : ([] : List α).length = 0 := rfl
theorem jd (n : Nat) : 0 + n = n := Nat.zero_add n
theorem apL : (∀ (f : C → R) xs, ap1 f xs = f (xs.getD 0 .nil)) ∧
 (∀ (f : C → C → R) xs, ap2 f xs = f (xs.getD 0 .nil) (xs.getD 1 .nil)) ∧
 (∀ (f : C → C → C → R) xs, ap3 f xs = f (xs.getD 0 .nil) (xs.getD 1 .nil) (xs.getD 2 .nil)) ∧
 (∀ (f : C → C → C → C → R) xs, ap4 f xs = f (xs.getD 0 .nil) (xs.getD 1 .nil) (xs.getD 2 .nil) (xs.getD 3 .nil)) ∧
 (∀ (f : C → C → C → C → C → R) xs, ap5 f xs = f (xs.getD 0 .nil) (xs.getD 1 .nil) (xs.getD 2 .nil) (xs.getD 3 .nil) (xs.getD 4 .nil)) ∧
 (∀ (f : C → C → C → C → C → C → R) xs, ap6 f xs = f (xs.getD 0 .nil) (xs.getD 1 .nil) (xs.getD 2 .nil) (xs.getD 3 .nil) (xs.getD 4 .nil) (xs.getD 5 .nil)) ∧
 (∀ (f : C → C → C → C → C → C → C → R) xs, ap7 f xs = f (xs.getD 0 .nil) (xs.getD 1 .nil) (xs.getD 2 .nil) (xs.getD 3 .nil) (xs.getD 4 .nil) (xs.getD 5 .nil) (xs.getD 6 .nil)) ∧
 (∀ (f : C → C → C → C → C → C → C → C → R) xs, ap8 f xs = f (xs.getD 0 .nil) (xs.getD 1 .nil) (xs.getD 2 .nil) (xs.getD 3 .nil) (xs.getD 4 .nil) (xs.getD 5 .nil) (xs.getD 6 .nil) (xs.getD 7 .nil)) ∧
 (∀ (f : C → C → C → C → C → C → C → C → C → R) xs, ap9 f xs = f (xs.getD 0 .nil) (xs.getD 1 .nil) (xs.getD 2 .nil) (xs.getD 3 .nil) (xs.getD 4 .nil) (xs.getD 5 .nil) (xs.getD 6 .nil) (xs.getD 7 .nil) (xs.getD 8 .nil)) ∧
 (∀ (f : C → C → C → C → C → C → C → C → C → C → R) xs, ap10 f xs = f (xs.getD 0 .nil) (xs.getD 1 .nil) (xs.getD 2 .nil) (xs.getD 3 .nil) (xs.getD 4 .nil) (xs.getD 5 .nil) (xs.getD 6 .nil) (xs.getD 7 .nil) (xs.getD 8 .nil) (xs.getD 9 .nil)) ∧
 (∀ (f : C → C → C → C → C → C → C → C → C → C → C → R) xs, ap11 f xs = f (xs.getD 0 .nil) (xs.getD 1 .nil) (xs.getD 2 .nil) (xs.getD 3 .nil) (xs.getD 4 .nil) (xs.getD 5 .nil) (xs.getD 6 .nil) (xs.getD 7 .nil) (xs.getD 8 .nil) (xs.getD 9 .nil) (xs.getD 10 .nil)) ∧
 (∀ (f : C → C → C → C → C → C → C → C → C → C → C → C → R) xs, ap12 f xs = f (xs.getD 0 .nil) (xs.getD 1 .nil) (xs.getD 2 .nil) (xs.getD 3 .nil) (xs.getD 4 .nil) (xs.getD 5 .nil) (xs.getD 6 .nil) (xs.getD 7 .nil) (xs.getD 8 .nil) (xs.getD 9 .nil) (xs.getD 10 .nil) (xs.getD 11 .nil)) ∧
 (∀ (f : C → C → C → C → C → C → C → C → C → C → C → C → C → R) xs, ap13 f xs = f (xs.getD 0 .nil) (xs.getD 1 .nil) (xs.getD 2 .nil) (xs.getD 3 .nil) (xs.getD 4 .nil) (xs.getD 5 .nil) (xs.getD 6 .nil) (xs.getD 7 .nil) (xs.getD 8 .nil) (xs.getD 9 .nil) (xs.getD 10 .nil) (xs.getD 11 .nil) (xs.getD 12 .nil)) ∧
 (∀ (f : C → C → C → C → C → C → C → C → C → C → C → C → C → C → R) xs, ap14 f xs = f (xs.getD 0 .nil) (xs.getD 1 .nil) (xs.getD 2 .nil) (xs.getD 3 .nil) (xs.getD 4 .nil) (xs.getD 5 .nil) (xs.getD 6 .nil) (xs.getD 7 .nil) (xs.getD 8 .nil) (xs.getD 9 .nil) (xs.getD 10 .nil) (xs.getD 11 .nil) (xs.getD 12 .nil) (xs.getD 13 .nil)) ∧
 (∀ (f : C → C → C → C → C → C → C → C → C → C → C → C → C → C → C → R) xs, ap15 f xs = f (xs.getD 0 .nil) (xs.getD 1 .nil) (xs.getD 2 .nil) (xs.getD 3 .nil) (xs.getD 4 .nil) (xs.getD 5 .nil) (xs.getD 6 .nil) (xs.getD 7 .nil) (xs.getD 8 .nil) (xs.getD 9 .nil) (xs.getD 10 .nil) (xs.getD 11 .nil) (xs.getD 12 .nil) (xs.getD 13 .nil) (xs.getD 14 .nil)) ∧
 (∀ (f : C → C → C → C → C → C → C → C → C → C → C → C → C → C → C → C → R) xs, ap16 f xs = f (xs.getD 0 .nil) (xs.getD 1 .nil) (xs.getD 2 .nil) (xs.getD 3 .nil) (xs.getD 4 .nil) (xs.getD 5 .nil) (xs.getD 6 .nil) (xs.getD 7 .nil) (xs.getD 8 .nil) (xs.getD 9 .nil) (xs.getD 10 .nil) (xs.getD 11 .nil) (xs.getD 12 .nil) (xs.getD 13 .nil) (xs.getD 14 .nil) (xs.getD 15 .nil)) ∧
 (∀ (f : C → C → C → C → C → C → C → C → C → C → C → C → C → C → C → C → C → R) xs, ap17 f xs = f (xs.getD 0 .nil) (xs.getD 1 .nil) (xs.getD 2 .nil) (xs.getD 3 .nil) (xs.getD 4 .nil) (xs.getD 5 .nil) (xs.getD 6 .nil) (xs.getD 7 .nil) (xs.getD 8 .nil) (xs.getD 9 .nil) (xs.getD 10 .nil) (xs.getD 11 .nil) (xs.getD 12 .nil) (xs.getD 13 .nil) (xs.getD 14 .nil) (xs.getD 15 .nil) (xs.getD 16 .nil)) ∧
 (∀ (f : C → C → C → C → C → C → C → C → C → C → C → C → C → C → C → C → C → C → R) xs, ap18 f xs = f (xs.getD 0 .nil) (xs.getD 1 .nil) (xs.getD 2 .nil) (xs.getD 3 .nil) (xs.getD 4 .nil) (xs.getD 5 .nil) (xs.getD 6 .nil) (xs.getD 7 .nil) (xs.getD 8 .nil) (xs.getD 9 .nil) (xs.getD 10 .nil) (xs.getD 11 .nil) (xs.getD 12 .nil) (xs.getD 13 .nil) (xs.getD 14 .nil) (xs.getD 15 .nil) (xs.getD 16 .nil) (xs.getD 17 .nil)) ∧
 (∀ (f : C → C → C → C → C → C → C → C → C → C → C → C → C → C → C → C → C → C → C → R) xs, ap19 f xs = f (xs.getD 0 .nil) (xs.getD 1 .nil) (xs.getD 2 .nil) (xs.getD 3 .nil) (xs.getD 4 .nil) (xs.getD 5 .nil) (xs.getD 6 .nil) (xs.getD 7 .nil) (xs.getD 8 .nil) (xs.getD 9 .nil) (xs.getD 10 .nil) (xs.getD 11 .nil) (xs.getD 12 .nil) (xs.getD 13 .nil) (xs.getD 14 .nil) (xs.getD 15 .nil) (xs.getD 16 .nil) (xs.getD 17 .nil) (xs.getD 18 .nil)) ∧
 (∀ (f : C → C → C → C → C → C → C → C → C → C → C → C → C → C → C → C → C → C → C → C → R) xs, ap20 f xs = f (xs.getD 0 .nil) (xs.getD 1 .nil) (xs.getD 2 .nil) (xs.getD 3 .nil) (xs.getD 4 .nil) (xs.getD 5 .nil) (xs.getD 6 .nil) (xs.getD 7 .nil) (xs.getD 8 .nil) (xs.getD 9 .nil) (xs.getD 10 .nil) (xs.getD 11 .nil) (xs.getD 12 .nil) (xs.getD 13 .nil) (xs.getD 14 .nil) (xs.getD 15 .nil) (xs.getD 16 .nil) (xs.getD 17 .nil) (xs.getD 18 .nil) (xs.getD 19 .nil)) ∧
 (∀ (f : C → C → C → C → C → C → C → C → C → C → C → C → C → C → C → C → C → C → C → C → C → R) xs, ap21 f xs = f (xs.getD 0 .nil) (xs.getD 1 .nil) (xs.getD 2 .nil) (xs.getD 3 .nil) (xs.getD 4 .nil) (xs.getD 5 .nil) (xs.getD 6 .nil) (xs.getD 7 .nil) (xs.getD 8 .nil) (xs.getD 9 .nil) (xs.getD 10 .nil) (xs.getD 11 .nil) (xs.getD 12 .nil) (xs.getD 13 .nil) (xs.getD 14 .nil) (xs.getD 15 .nil) (xs.getD 16 .nil) (xs.getD 17 .nil) (xs.getD 18 .nil) (xs.getD 19 .nil) (xs.getD 20 .nil)) ∧
 (∀ (f : C → C → C → C → C → C → C → C → C → C → C → C → C → C → C → C → C → C → C → C → C → C → R) xs, ap22 f xs = f (xs.getD 0 .nil) (xs.getD 1 .nil) (xs.getD 2 .nil) (xs.getD 3 .nil) (xs.getD 4 .nil) (xs.getD 5 .nil) (xs.getD 6 .nil) (xs.getD 7 .nil) (xs.getD 8 .nil) (xs.getD 9 .nil) (xs.getD 10 .nil) (xs.getD 11 .nil) (xs.getD 12 .nil) (xs.getD 13 .nil) (xs.getD 14 .nil) (xs.getD 15 .nil) (xs.getD 16 .nil) (xs.getD 17 .nil) (xs.getD 18 .nil) (xs.getD 19 .nil) (xs.getD 20 .nil) (xs.getD 21 .nil)) ∧
 (∀ (f : C → C → C → C → C → C → C → C → C → C → C → C → C → C → C → C → C → C → C → C → C → C → C → R) xs, ap23 f xs = f (xs.getD 0 .nil) (xs.getD 1 .nil) (xs.getD 2 .nil) (xs.getD 3 .nil) (xs.getD 4 .nil) (xs.getD 5 .nil) (xs.getD 6 .nil) (xs.getD 7 .nil) (xs.getD 8 .nil) (xs.getD 9 .nil) (xs.getD 10 .nil) (xs.getD 11 .nil) (xs.getD 12 .nil) (xs.getD 13 .nil) (xs.getD 14 .nil) (xs.getD 15 .nil) (xs.getD 16 .nil) (xs.getD 17 .nil) (xs.getD 18 .nil) (xs.getD 19 .nil) (xs.getD 20 .nil) (xs.getD 21 .nil) (xs.getD 22 .nil)) ∧
 (∀ (f : C → C → C → C → C → C → C → C → C → C → C → C → C → C → C → C → C → C → C → C → C → C → C → C → R) xs, ap24 f xs = f (xs.getD 0 .nil) (xs.getD 1 .nil) (xs.getD 2 .nil) (xs.getD 3 .nil) (xs.getD 4 .nil) (xs.getD 5 .nil) (xs.getD 6 .nil) (xs.getD 7 .nil) (xs.getD 8 .nil) (xs.getD 9 .nil) (xs.getD 10 .nil) (xs.getD 11 .nil) (xs.getD 12 .nil) (xs.getD 13 .nil) (xs.getD 14 .nil) (xs.getD 15 .nil) (xs.getD 16 .nil) (xs.getD 17 .nil) (xs.getD 18 .nil) (xs.getD 19 .nil) (xs.getD 20 .nil) (xs.getD 21 .nil) (xs.getD 22 .nil) (xs.getD 23 .nil)) ∧
 (∀ (f : C → C → C → C → C → C → C → C → C → C → C → C → C → C → C → C → C → C → C → C → C → C → C → C → C → R) xs, ap25 f xs = f (xs.getD 0 .nil) (xs.getD 1 .nil) (xs.getD 2 .nil) (xs.getD 3 .nil) (xs.getD 4 .nil) (xs.getD 5 .nil) (xs.getD 6 .nil) (xs.getD 7 .nil) (xs.getD 8 .nil) (xs.getD 9 .nil) (xs.getD 10 .nil) (xs.getD 11 .nil) (xs.getD 12 .nil) (xs.getD 13 .nil) (xs.getD 14 .nil) (xs.getD 15 .nil) (xs.getD 16 .nil) (xs.getD 17 .nil) (xs.getD 18 .nil) (xs.getD 19 .nil) (xs.getD 20 .nil) (xs.getD 21 .nil) (xs.getD 22 .nil) (xs.getD 23 .nil) (xs.getD 24 .nil)) ∧
 (∀ (f : C → C → C → C → C → C → C → C → C → C → C → C → C → C → C → C → C → C → C → C → C → C → C → C → C → C → R) xs, ap26 f xs = f (xs.getD 0 .nil) (xs.getD 1 .nil) (xs.getD 2 .nil) (xs.getD 3 .nil) (xs.getD 4 .nil) (xs.getD 5 .nil) (xs.getD 6 .nil) (xs.getD 7 .nil) (xs.getD 8 .nil) (xs.getD 9 .nil) (xs.getD 10 .nil) (xs.getD 11 .nil) (xs.getD 12 .nil) (xs.getD 13 .nil) (xs.getD 14 .nil) (xs.getD 15 .nil) (xs.getD 16 .nil) (xs.getD 17 .nil) (xs.getD 18 .nil) (xs.getD 19 .nil) (xs.getD 20 .nil) (xs.getD 21 .nil) (xs.getD 22 .nil) (xs.getD 23 .nil) (xs.getD 24 .nil) (xs.getD 25 .nil)) ∧
 (∀ (f : C → C → C → C → C → C → C → C → C → C → C → C → C → C → C → C → C → C → C → C → C → C → C → C → C → C → C → R) xs, ap27 f xs = f (xs.getD 0 .nil) (xs.getD 1 .nil) (xs.getD 2 .nil) (xs.getD 3 .nil) (xs.getD 4 .nil) (xs.getD 5 .nil) (xs.getD 6 .nil) (xs.getD 7 .nil) (xs.getD 8 .nil) (xs.getD 9 .nil) (xs.getD 10 .nil) (xs.getD 11 .nil) (xs.getD 12 .nil) (xs.getD 13 .nil) (xs.getD 14 .nil) (xs.getD 15 .nil) (xs.getD 16 .nil) (xs.getD 17 .nil) (xs.getD 18 .nil) (xs.getD 19 .nil) (xs.getD 20 .nil) (xs.getD 21 .nil) (xs.getD 22 .nil) (xs.getD 23 .nil) (xs.getD 24 .nil) (xs.getD 25 .nil) (xs.getD 26 .nil)) ∧
 (∀ (f : C → C → C → C → C → C → C → C → C → C → C → C → C → C → C → C → C → C → C → C → C → C → C → C → C → C → C → C → R) xs, ap28 f xs = f (xs.getD 0 .nil) (xs.getD 1 .nil) (xs.getD 2 .nil) (xs.getD 3 .nil) (xs.getD 4 .nil) (xs.getD 5 .nil) (xs.getD 6 .nil) (xs.getD 7 .nil) (xs.getD 8 .nil) (xs.getD 9 .nil) (xs.getD 10 .nil) (xs.getD 11 .nil) (xs.getD 12 .nil) (xs.getD 13 .nil) (xs.getD 14 .nil) (xs.getD 15 .nil) (xs.getD 16 .nil) (xs.getD 17 .nil) (xs.getD 18 .nil) (xs.getD 19 .nil) (xs.getD 20 .nil) (xs.getD 21 .nil) (xs.getD 22 .nil) (xs.getD 23 .nil) (xs.getD 24 .nil) (xs.getD 25 .nil) (xs.getD 26 .nil) (xs.getD 27 .nil)) ∧
 (∀ (f : C → C → C → C → C → C → C → C → C → C → C → C → C → C → C → C → C → C → C → C → C → C → C → C → C → C → C → C → C → R) xs, ap29 f xs = f (xs.getD 0 .nil) (xs.getD 1 .nil) (xs.getD 2 .nil) (xs.getD 3 .nil) (xs.getD 4 .nil) (xs.getD 5 .nil) (xs.getD 6 .nil) (xs.getD 7 .nil) (xs.getD 8 .nil) (xs.getD 9 .nil) (xs.getD 10 .nil) (xs.getD 11 .nil) (xs.getD 12 .nil) (xs.getD 13 .nil) (xs.getD 14 .nil) (xs.getD 15 .nil) (xs.getD 16 .nil) (xs.getD 17 .nil) (xs.getD 18 .nil) (xs.getD 19 .nil) (xs.getD 20 .nil) (xs.getD 21 .nil) (xs.getD 22 .nil) (xs.getD 23 .nil) (xs.getD 24 .nil) (xs.getD 25 .nil) (xs.getD 26 .nil) (xs.getD 27 .nil) (xs.getD 28 .nil)) ∧
 (∀ (f : C → C → C → C → C → C → C → C → C → C → C → C → C → C → C → C → C → C → C → C → C → C → C → C → C → C → C → C → C → C → R) xs, ap30 f xs = f (xs.getD 0 .nil) (xs.getD 1 .nil) (xs.getD 2 .nil) (xs.getD 3 .nil) (xs.getD 4 .nil) (xs.getD 5 .nil) (xs.getD 6 .nil) (xs.getD 7 .nil) (xs.getD 8 .nil) (xs.getD 9 .nil) (xs.getD 10 .nil) (xs.getD 11 .nil) (xs.getD 12 .nil) (xs.getD 13 .nil) (xs.getD 14 .nil) (xs.getD 15 .nil) (xs.getD 16 .nil) (xs.getD 17 .nil) (xs.getD 18 .nil) (xs.getD 19 .nil) (xs.getD 20 .nil) (xs.getD 21 .nil) (xs.getD 22 .nil) (xs.getD 23 .nil) (xs.getD 24 .nil) (xs.getD 25 .nil) (xs.getD 26 .nil) (xs.getD 27 .nil) (xs.getD 28 .nil) (xs.getD 29 .nil)) ∧
 (∀ (f : C → C → C → C → C → C → C → C → C → C → C → C → C → C → C → C → C → C → C → C → C → C → C → C → C → C → C → C → C → C → C → R) xs, ap31 f xs = f (xs.getD 0 .nil) (xs.getD 1 .nil) (xs.getD 2 .nil) (xs.getD 3 .nil) (xs.getD 4 .nil) (xs.getD 5 .nil) (xs.getD 6 .nil) (xs.getD 7 .nil) (xs.getD 8 .nil) (xs.getD 9 .nil) (xs.getD 10 .nil) (xs.getD 11 .nil) (xs.getD 12 .nil) (xs.getD 13 .nil) (xs.getD 14 .nil) (xs.getD 15 .nil) (xs.getD 16 .nil) (xs.getD 17 .nil) (xs.getD 18 .nil) (xs.getD 19 .nil) (xs.getD 20 .nil) (xs.getD 21 .nil) (xs.getD 22 .nil) (xs.getD 23 .nil) (xs.getD 24 .nil) (xs.getD 25 .nil) (xs.getD 26 .nil) (xs.getD 27 .nil) (xs.getD 28 .nil) (xs.getD 29 .nil) (xs.getD 30 .nil)) ∧
 (∀ (f : C → C → C → C → C → C → C → C → C → C → C → C → C → C → C → C → C → C → C → C → C → C → C → C → C → C → C → C → C → C → C → C → R) xs, ap32 f xs = f (xs.getD 0 .nil) (xs.getD 1 .nil) (xs.getD 2 .nil) (xs.getD 3 .nil) (xs.getD 4 .nil) (xs.getD 5 .nil) (xs.getD 6 .nil) (xs.getD 7 .nil) (xs.getD 8 .nil) (xs.getD 9 .nil) (xs.getD 10 .nil) (xs.getD 11 .nil) (xs.getD 12 .nil) (xs.getD 13 .nil) (xs.getD 14 .nil) (xs.getD 15 .nil) (xs.getD 16 .nil) (xs.getD 17 .nil) (xs.getD 18 .nil) (xs.getD 19 .nil) (xs.getD 20 .nil) (xs.getD 21 .nil) (xs.getD 22 .nil) (xs.getD 23 .nil) (xs.getD 24 .nil) (xs.getD 25 .nil) (xs.getD 26 .nil) (xs.getD 27 .nil) (xs.getD 28 .nil) (xs.getD 29 .nil) (xs.getD 30 .nil) (xs.getD 31 .nil)) ∧
 (∀ (f : C → C → C → C → C → C → C → C → C → C → C → C → C → C → C → C → C → C → C → C → C → C → C → C → C → C → C → C → C → C → C → C → C → R) xs, ap33 f xs = f (xs.getD 0 .nil) (xs.getD 1 .nil) (xs.getD 2 .nil) (xs.getD 3 .nil) (xs.getD 4 .nil) (xs.getD 5 .nil) (xs.getD 6 .nil) (xs.getD 7 .nil) (xs.getD 8 .nil) (xs.getD 9 .nil) (xs.getD 10 .nil) (xs.getD 11 .nil) (xs.getD 12 .nil) (xs.getD 13 .nil) (xs.getD 14 .nil) (xs.getD 15 .nil) (xs.getD 16 .nil) (xs.getD 17 .nil) (xs.getD 18 .nil) (xs.getD 19 .nil) (xs.getD 20 .nil) (xs.getD 21 .nil) (xs.getD 22 .nil) (xs.getD 23 .nil) (xs.getD 24 .nil) (xs.getD 25 .nil) (xs.getD 26 .nil) (xs.getD 27 .nil) (xs.getD 28 .nil) (xs.getD 29 .nil) (xs.getD 30 .nil) (xs.getD 31 .nil) (xs.getD 32 .nil)) ∧
 (∀ (f : C → C → C → C → C → C → C → C → C → C → C → C → C → C → C → C → C → C → C → C → C → C → C → C → C → C → C → C → C → C → C → C → C → C → R) xs, ap34 f xs = f (xs.getD 0 .nil) (xs.getD 1 .nil) (xs.getD 2 .nil) (xs.getD 3 .nil) (xs.getD 4 .nil) (xs.getD 5 .nil) (xs.getD 6 .nil) (xs.getD 7 .nil) (xs.getD 8 .nil) (xs.getD 9 .nil) (xs.getD 10 .nil) (xs.getD 11 .nil) (xs.getD 12 .nil) (xs.getD 13 .nil) (xs.getD 14 .nil) (xs.getD 15 .nil) (xs.getD 16 .nil) (xs.getD 17 .nil) (xs.getD 18 .nil) (xs.getD 19 .nil) (xs.getD 20 .nil) (xs.getD 21 .nil) (xs.getD 22 .nil) (xs.getD 23 .nil) (xs.getD 24 .nil) (xs.getD 25 .nil) (xs.getD 26 .nil) (xs.getD 27 .nil) (xs.getD 28 .nil) (xs.getD 29 .nil) (xs.getD 30 .nil) (xs.getD 31 .nil) (xs.getD 32 .nil) (xs.getD 33 .nil)) ∧
 (∀ (f : C → C → C → C → C → C → C → C → C → C → C → C → C → C → C → C → C → C → C → C → C → C → C → C → C → C → C → C → C → C → C → C → C → C → C → R) xs, ap35 f xs = f (xs.getD 0 .nil) (xs.getD 1 .nil) (xs.getD 2 .nil) (xs.getD 3 .nil) (xs.getD 4 .nil) (xs.getD 5 .nil) (xs.getD 6 .nil) (xs.getD 7 .nil) (xs.getD 8 .nil) (xs.getD 9 .nil) (xs.getD 10 .nil) (xs.getD 11 .nil) (xs.getD 12 .nil) (xs.getD 13 .nil) (xs.getD 14 .nil) (xs.getD 15 .nil) (xs.getD 16 .nil) (xs.getD 17 .nil) (xs.getD 18 .nil) (xs.getD 19 .nil) (xs.getD 20 .nil) (xs.getD 21 .nil) (xs.getD 22 .nil) (xs.getD 23 .nil) (xs.getD 24 .nil) (xs.getD 25 .nil) (xs.getD 26 .nil) (xs.getD 27 .nil) (xs.getD 28 .nil) (xs.getD 29 .nil) (xs.getD 30 .nil) (xs.getD 31 .nil) (xs.getD 32 .nil) (xs.getD 33 .nil) (xs.getD 34 .nil)) ∧
 (∀ (f : C → C → C → C → C → C → C → C → C → C → C → C → C → C → C → C → C → C → C → C → C → C → C → C → C → C → C → C → C → C → C → C → C → C → C → C → R) xs, ap36 f xs = f (xs.getD 0 .nil) (xs.getD 1 .nil) (xs.getD 2 .nil) (xs.getD 3 .nil) (xs.getD 4 .nil) (xs.getD 5 .nil) (xs.getD 6 .nil) (xs.getD 7 .nil) (xs.getD 8 .nil) (xs.getD 9 .nil) (xs.getD 10 .nil) (xs.getD 11 .nil) (xs.getD 12 .nil) (xs.getD 13 .nil) (xs.getD 14 .nil) (xs.getD 15 .nil) (xs.getD 16 .nil) (xs.getD 17 .nil) (xs.getD 18 .nil) (xs.getD 19 .nil) (xs.getD 20 .nil) (xs.getD 21 .nil) (xs.getD 22 .nil) (xs.getD 23 .nil) (xs.getD 24 .nil) (xs.getD 25 .nil) (xs.getD 26 .nil) (xs.getD 27 .nil) (xs.getD 28 .nil) (xs.getD 29 .nil) (xs.getD 30 .nil) (xs.getD 31 .nil) (xs.getD 32 .nil) (xs.getD 33 .nil) (xs.getD 34 .nil) (xs.getD 35 .nil)) ∧
 (∀ (f : C → C → C → C → C → C → C → C → C → C → C → C → C → C → C → C → C → C → C → C → C → C → C → C → C → C → C → C → C → C → C → C → C → C → C → C → C → R) xs, ap37 f xs = f (xs.getD 0 .nil) (xs.getD 1 .nil) (xs.getD 2 .nil) (xs.getD 3 .nil) (xs.getD 4 .nil) (xs.getD 5 .nil) (xs.getD 6 .nil) (xs.getD 7 .nil) (xs.getD 8 .nil) (xs.getD 9 .nil) (xs.getD 10 .nil) (xs.getD 11 .nil) (xs.getD 12 .nil) (xs.getD 13 .nil) (xs.getD 14 .nil) (xs.getD 15 .nil) (xs.getD 16 .nil) (xs.getD 17 .nil) (xs.getD 18 .nil) (xs.getD 19 .nil) (xs.getD 20 .nil) (xs.getD 21 .nil) (xs.getD 22 .nil) (xs.getD 23 .nil) (xs.getD 24 .nil) (xs.getD 25 .nil) (xs.getD 26 .nil) (xs.getD 27 .nil) (xs.getD 28 .nil) (xs.getD 29 .nil) (xs.getD 30 .nil) (xs.getD 31 .nil) (xs.getD 32 .nil) (xs.getD 33 .nil) (xs.getD 34 .nil) (xs.getD 35 .nil) (xs.getD 36 .nil)) ∧
 (∀ (f : C → C → C → C → C → C → C → C → C → C → C → C → C → C → C → C → C → C → C → C → C → C → C → C → C → C → C → C → C → C → C → C → C → C → C → C → C → C → R) xs, ap38 f xs = f (xs.getD 0 .nil) (xs.getD 1 .nil) (xs.getD 2 .nil) (xs.getD 3 .nil) (xs.getD 4 .nil) (xs.getD 5 .nil) (xs.getD 6 .nil) (xs.getD 7 .nil) (xs.getD 8 .nil) (xs.getD 9 .nil) (xs.getD 10 .nil) (xs.getD 11 .nil) (xs.getD 12 .nil) (xs.getD 13 .nil) (xs.getD 14 .nil) (xs.getD 15 .nil) (xs.getD 16 .nil) (xs.getD 17 .nil) (xs.getD 18 .nil) (xs.getD 19 .nil) (xs.getD 20 .nil) (xs.getD 21 .nil) (xs.getD 22 .nil) (xs.getD 23 .nil) (xs.getD 24 .nil) (xs.getD 25 .nil) (xs.getD 26 .nil) (xs.getD 27 .nil) (xs.getD 28 .nil) (xs.getD 29 .nil) (xs.getD 30 .nil) (xs.getD 31 .nil) (xs.getD 32 .nil) (xs.getD 33 .nil) (xs.getD 34 .nil) (xs.getD 35 .nil) (xs.getD 36 .nil) (xs.getD 37 .nil)) ∧
 (∀ (f : C → C → C → C → C → C → C → C → C → C → C → C → C → C → C → C → C → C → C → C → C → C → C → C → C → C → C → C → C → C → C → C → C → C → C → C → C → C → C → R) xs, ap39 f xs = f (xs.getD 0 .nil) (xs.getD 1 .nil) (xs.getD 2 .nil) (xs.getD 3 .nil) (xs.getD 4 .nil) (xs.getD 5 .nil) (xs.getD 6 .nil) (xs.getD 7 .nil) (xs.getD 8 .nil) (xs.getD 9 .nil) (xs.getD 10 .nil) (xs.getD 11 .nil) (xs.getD 12 .nil) (xs.getD 13 .nil) (xs.getD 14 .nil) (xs.getD 15 .nil) (xs.getD 16 .nil) (xs.getD 17 .nil) (xs.getD 18 .nil) (xs.getD 19 .nil) (xs.getD 20 .nil) (xs.getD 21 .nil) (xs.getD 22 .nil) (xs.getD 23 .nil) (xs.getD 24 .nil) (xs.getD 25 .nil) (xs.getD 26 .nil) (xs.getD 27 .nil) (xs.getD 28 .nil) (xs.getD 29 .nil) (xs.getD 30 .nil) (xs.getD 31 .nil) (xs.getD 32 .nil) (xs.getD 33 .nil) (xs.getD 34 .nil) (xs.getD 35 .nil) (xs.getD 36 .nil) (xs.getD 37 .nil) (xs.getD 38 .nil)) ∧
 (∀ (f : C → C → C → C → C → C → C → C → C → C → C → C → C → C → C → C → C → C → C → C → C → C → C → C → C → C → C → C → C → C → C → C → C → C → C → C → C → C → C → C → R) xs, ap40 f xs = f (xs.getD 0 .nil) (xs.getD 1 .nil) (xs.getD 2 .nil) (xs.getD 3 .nil) (xs.getD 4 .nil) (xs.getD 5 .nil) (xs.getD 6 .nil) (xs.getD 7 .nil) (xs.getD 8 .nil) (xs.getD 9 .nil) (xs.getD 10 .nil) (xs.getD 11 .nil) (xs.getD 12 .nil) (xs.getD 13 .nil) (xs.getD 14 .nil) (xs.getD 15 .nil) (xs.getD 16 .nil) (xs.getD 17 .nil) (xs.getD 18 .nil) (xs.getD 19 .nil) (xs.getD 20 .nil) (xs.getD 21 .nil) (xs.getD 22 .nil) (xs.getD 23 .nil) (xs.getD 24 .nil) (xs.getD 25 .nil) (xs.getD 26 .nil) (xs.getD 27 .nil) (xs.getD 28 .nil) (xs.getD 29 .nil) (xs.getD 30 .nil) (xs.getD 31 .nil) (xs.getD 32 .nil) (xs.getD 33 .nil) (xs.getD 34 .nil) (xs.getD 35 .nil) (xs.getD 36 .nil) (xs.getD 37 .nil) (xs.getD 38 .nil) (xs.getD 39 .nil)) :=
 ⟨fun _ _ => rfl, fun _ _ => rfl, fun _ _ => rfl, fun _ _ => rfl, fun _ _ => rfl, fun _ _ => rfl, fun _ _ => rfl, fun _ _ => rfl, fun _ _ => rfl, fun _ _ => rfl, fun _ _ => rfl, fun _ _ => rfl, fun _ _ => rfl, fun _ _ => rfl, fun _ _ => rfl, fun _ _ => rfl, fun _ _ => rfl, fun _ _ => rfl, fun _ _ => rfl, fun _ _ => rfl, fun _ _ => rfl, fun _ _ => rfl, fun _ _ => rfl, fun _ _ => rfl, fun _ _ => rfl, fun _ _ => rfl, fun _ _ => rfl, fun _ _ => rfl, fun _ _ => rfl, fun _ _ => rfl, fun _ _ => rfl, fun _ _ => rfl, fun _ _ => rfl, fun _ _ => rfl, fun _ _ => rfl, fun _ _ => rfl, fun _ _ => rfl, fun _ _ => rfl, fun _ _ => rfl, fun _ _ => rfl⟩
attribute [simp] apL
theorem BB : (∀ {α : Type} {a : α} {us vs : List α}, a :: us ++ vs = a :: (us ++ vs)) ∧
 (∀ {α : Type} (us : List α), [] ++ us = us) ∧
 (∀ {α : Type} {x : α} {xs : List α} {d : α}, (x :: xs).getD 0 d = x) ∧
 (∀ {α : Type} {x : α} {xs : List α} {n : Nat} {d : α}, (x :: xs).getD (n + 1) d = xs.getD n d) ∧
 (∀ (n : Int), (C.i n).I = n) ∧
 (∀ (x : Bool), (C.b x).B = x) ∧
 (∀ (x : ByteArray), (C.s x).S = x) ∧
 (∀ (x : List (List C)), (C.l x).L = x) ∧
 (∀ (ys : List C) (K : List C → R), bindF (some ys) K = K ys) ∧
 (∀ (xs : List C) (K : List C → R), bindNrm (some (.nrm xs)) K = K xs) ∧
 (∀ (xs : List C) (K : List C → R), bindNrm (some (.ret xs)) K = some (.ret xs)) ∧
 (∀ (xs : List C) (K : List C → R), bindNrm (some (.again xs)) K = some (.again xs)) ∧
 (∀ (i : Nat) (xs : List C) (K : List C → R), bindNrm (some (.brk i xs)) K = some (.brk i xs)) ∧
 (∀ (i : Nat) (xs : List C) (K : List C → R), bindBlk i (some (.brk i xs)) K = K xs) ∧
 (∀ (i : Nat) (xs : List C) (K : List C → R), bindBlk i (some (.ret xs)) K = some (.ret xs)) ∧
 (∀ (i : Nat) (xs : List C) (K : List C → R), bindBlk i (some (.again xs)) K = some (.again xs)) ∧
 (∀ (i : Nat) (xs : List C) (K : List C → R), bindBlk i (some (.nrm xs)) K = some (.nrm xs)) ∧
 (∀ {α : Type} (a b : α), (bif true then a else b) = a) ∧
 (∀ {α : Type} (a b : α), (bif false then a else b) = b) ∧
 (∀ (h : Decidable True), decide True = true) ∧
 (∀ (h : Decidable False), decide False = false) ∧
 (∀ (ys : List C), finR (some (.ret ys)) = some ys) ∧
 (∀ {α β : Type} {us : List α} (f : α → β), (List.map f us).length = us.length) ∧
 (∀ (n : Nat), 0 ≤ (n : Int)) ∧
 (∀ (n : Nat), ((n : Int)).toNat = n) ∧
 ((!true) = false) ∧
 ((!false) = true) ∧
 (∀ {α : Type} {a : α}, [a].length = 1) ∧
 (∀ {α : Type}, ([] : List α).length = 0) ∧
 (∀ (n : Nat), 0 + n = n) ∧
 (∀ o (K : C → R), call1 o K = bindF o fun ys => K (ys.getD 0 .nil)) ∧
 (∀ o (K : C → C → R), call2 o K = bindF o fun ys => K (ys.getD 0 .nil) (ys.getD 1 .nil)) ∧
 (∀ o (K : C → C → C → R), call3 o K = bindF o fun ys => K (ys.getD 0 .nil) (ys.getD 1 .nil) (ys.getD 2 .nil)) ∧
 (∀ o (K : C → C → C → C → R), call4 o K = bindF o fun ys => K (ys.getD 0 .nil) (ys.getD 1 .nil) (ys.getD 2 .nil) (ys.getD 3 .nil)) ∧
 (∀ o (K : C → C → C → C → C → R), call5 o K = bindF o fun ys => K (ys.getD 0 .nil) (ys.getD 1 .nil) (ys.getD 2 .nil) (ys.getD 3 .nil) (ys.getD 4 .nil)) ∧
 (∀ o (K : C → C → C → C → C → C → R), call6 o K = bindF o fun ys => K (ys.getD 0 .nil) (ys.getD 1 .nil) (ys.getD 2 .nil) (ys.getD 3 .nil) (ys.getD 4 .nil) (ys.getD 5 .nil)) ∧
 (∀ o (K : C → C → C → C → C → C → C → R), call7 o K = bindF o fun ys => K (ys.getD 0 .nil) (ys.getD 1 .nil) (ys.getD 2 .nil) (ys.getD 3 .nil) (ys.getD 4 .nil) (ys.getD 5 .nil) (ys.getD 6 .nil)) ∧
 (∀ o (K : C → C → C → C → C → C → C → C → R), call8 o K = bindF o fun ys => K (ys.getD 0 .nil) (ys.getD 1 .nil) (ys.getD 2 .nil) (ys.getD 3 .nil) (ys.getD 4 .nil) (ys.getD 5 .nil) (ys.getD 6 .nil) (ys.getD 7 .nil)) ∧
 (∀ o (K : C → C → C → C → C → C → C → C → C → R), call9 o K = bindF o fun ys => K (ys.getD 0 .nil) (ys.getD 1 .nil) (ys.getD 2 .nil) (ys.getD 3 .nil) (ys.getD 4 .nil) (ys.getD 5 .nil) (ys.getD 6 .nil) (ys.getD 7 .nil) (ys.getD 8 .nil)) ∧
 (∀ o (K : C → C → C → C → C → C → C → C → C → C → R), call10 o K = bindF o fun ys => K (ys.getD 0 .nil) (ys.getD 1 .nil) (ys.getD 2 .nil) (ys.getD 3 .nil) (ys.getD 4 .nil) (ys.getD 5 .nil) (ys.getD 6 .nil) (ys.getD 7 .nil) (ys.getD 8 .nil) (ys.getD 9 .nil)) ∧
 (∀ o (K : C → C → C → C → C → C → C → C → C → C → C → R), call11 o K = bindF o fun ys => K (ys.getD 0 .nil) (ys.getD 1 .nil) (ys.getD 2 .nil) (ys.getD 3 .nil) (ys.getD 4 .nil) (ys.getD 5 .nil) (ys.getD 6 .nil) (ys.getD 7 .nil) (ys.getD 8 .nil) (ys.getD 9 .nil) (ys.getD 10 .nil)) ∧
 (∀ o (K : C → C → C → C → C → C → C → C → C → C → C → C → R), call12 o K = bindF o fun ys => K (ys.getD 0 .nil) (ys.getD 1 .nil) (ys.getD 2 .nil) (ys.getD 3 .nil) (ys.getD 4 .nil) (ys.getD 5 .nil) (ys.getD 6 .nil) (ys.getD 7 .nil) (ys.getD 8 .nil) (ys.getD 9 .nil) (ys.getD 10 .nil) (ys.getD 11 .nil)) ∧
 (∀ o (K : C → C → C → C → C → C → C → C → C → C → C → C → C → R), call13 o K = bindF o fun ys => K (ys.getD 0 .nil) (ys.getD 1 .nil) (ys.getD 2 .nil) (ys.getD 3 .nil) (ys.getD 4 .nil) (ys.getD 5 .nil) (ys.getD 6 .nil) (ys.getD 7 .nil) (ys.getD 8 .nil) (ys.getD 9 .nil) (ys.getD 10 .nil) (ys.getD 11 .nil) (ys.getD 12 .nil)) ∧
 (∀ o (K : C → C → C → C → C → C → C → C → C → C → C → C → C → C → R), call14 o K = bindF o fun ys => K (ys.getD 0 .nil) (ys.getD 1 .nil) (ys.getD 2 .nil) (ys.getD 3 .nil) (ys.getD 4 .nil) (ys.getD 5 .nil) (ys.getD 6 .nil) (ys.getD 7 .nil) (ys.getD 8 .nil) (ys.getD 9 .nil) (ys.getD 10 .nil) (ys.getD 11 .nil) (ys.getD 12 .nil) (ys.getD 13 .nil)) ∧
 (∀ o (K : C → C → C → C → C → C → C → C → C → C → C → C → C → C → C → R), call15 o K = bindF o fun ys => K (ys.getD 0 .nil) (ys.getD 1 .nil) (ys.getD 2 .nil) (ys.getD 3 .nil) (ys.getD 4 .nil) (ys.getD 5 .nil) (ys.getD 6 .nil) (ys.getD 7 .nil) (ys.getD 8 .nil) (ys.getD 9 .nil) (ys.getD 10 .nil) (ys.getD 11 .nil) (ys.getD 12 .nil) (ys.getD 13 .nil) (ys.getD 14 .nil)) ∧
 (∀ o (K : C → C → C → C → C → C → C → C → C → C → C → C → C → C → C → C → R), call16 o K = bindF o fun ys => K (ys.getD 0 .nil) (ys.getD 1 .nil) (ys.getD 2 .nil) (ys.getD 3 .nil) (ys.getD 4 .nil) (ys.getD 5 .nil) (ys.getD 6 .nil) (ys.getD 7 .nil) (ys.getD 8 .nil) (ys.getD 9 .nil) (ys.getD 10 .nil) (ys.getD 11 .nil) (ys.getD 12 .nil) (ys.getD 13 .nil) (ys.getD 14 .nil) (ys.getD 15 .nil)) ∧
 (∀ o (K : C → C → C → C → C → C → C → C → C → C → C → C → C → C → C → C → C → R), call17 o K = bindF o fun ys => K (ys.getD 0 .nil) (ys.getD 1 .nil) (ys.getD 2 .nil) (ys.getD 3 .nil) (ys.getD 4 .nil) (ys.getD 5 .nil) (ys.getD 6 .nil) (ys.getD 7 .nil) (ys.getD 8 .nil) (ys.getD 9 .nil) (ys.getD 10 .nil) (ys.getD 11 .nil) (ys.getD 12 .nil) (ys.getD 13 .nil) (ys.getD 14 .nil) (ys.getD 15 .nil) (ys.getD 16 .nil)) ∧
 (∀ o (K : C → C → C → C → C → C → C → C → C → C → C → C → C → C → C → C → C → C → R), call18 o K = bindF o fun ys => K (ys.getD 0 .nil) (ys.getD 1 .nil) (ys.getD 2 .nil) (ys.getD 3 .nil) (ys.getD 4 .nil) (ys.getD 5 .nil) (ys.getD 6 .nil) (ys.getD 7 .nil) (ys.getD 8 .nil) (ys.getD 9 .nil) (ys.getD 10 .nil) (ys.getD 11 .nil) (ys.getD 12 .nil) (ys.getD 13 .nil) (ys.getD 14 .nil) (ys.getD 15 .nil) (ys.getD 16 .nil) (ys.getD 17 .nil)) ∧
 (∀ o (K : C → C → C → C → C → C → C → C → C → C → C → C → C → C → C → C → C → C → C → R), call19 o K = bindF o fun ys => K (ys.getD 0 .nil) (ys.getD 1 .nil) (ys.getD 2 .nil) (ys.getD 3 .nil) (ys.getD 4 .nil) (ys.getD 5 .nil) (ys.getD 6 .nil) (ys.getD 7 .nil) (ys.getD 8 .nil) (ys.getD 9 .nil) (ys.getD 10 .nil) (ys.getD 11 .nil) (ys.getD 12 .nil) (ys.getD 13 .nil) (ys.getD 14 .nil) (ys.getD 15 .nil) (ys.getD 16 .nil) (ys.getD 17 .nil) (ys.getD 18 .nil)) ∧
 (∀ o (K : C → C → C → C → C → C → C → C → C → C → C → C → C → C → C → C → C → C → C → C → R), call20 o K = bindF o fun ys => K (ys.getD 0 .nil) (ys.getD 1 .nil) (ys.getD 2 .nil) (ys.getD 3 .nil) (ys.getD 4 .nil) (ys.getD 5 .nil) (ys.getD 6 .nil) (ys.getD 7 .nil) (ys.getD 8 .nil) (ys.getD 9 .nil) (ys.getD 10 .nil) (ys.getD 11 .nil) (ys.getD 12 .nil) (ys.getD 13 .nil) (ys.getD 14 .nil) (ys.getD 15 .nil) (ys.getD 16 .nil) (ys.getD 17 .nil) (ys.getD 18 .nil) (ys.getD 19 .nil)) ∧
 (∀ o (K : C → C → C → C → C → C → C → C → C → C → C → C → C → C → C → C → C → C → C → C → C → R), call21 o K = bindF o fun ys => K (ys.getD 0 .nil) (ys.getD 1 .nil) (ys.getD 2 .nil) (ys.getD 3 .nil) (ys.getD 4 .nil) (ys.getD 5 .nil) (ys.getD 6 .nil) (ys.getD 7 .nil) (ys.getD 8 .nil) (ys.getD 9 .nil) (ys.getD 10 .nil) (ys.getD 11 .nil) (ys.getD 12 .nil) (ys.getD 13 .nil) (ys.getD 14 .nil) (ys.getD 15 .nil) (ys.getD 16 .nil) (ys.getD 17 .nil) (ys.getD 18 .nil) (ys.getD 19 .nil) (ys.getD 20 .nil)) ∧
 (∀ o (K : C → C → C → C → C → C → C → C → C → C → C → C → C → C → C → C → C → C → C → C → C → C → R), call22 o K = bindF o fun ys => K (ys.getD 0 .nil) (ys.getD 1 .nil) (ys.getD 2 .nil) (ys.getD 3 .nil) (ys.getD 4 .nil) (ys.getD 5 .nil) (ys.getD 6 .nil) (ys.getD 7 .nil) (ys.getD 8 .nil) (ys.getD 9 .nil) (ys.getD 10 .nil) (ys.getD 11 .nil) (ys.getD 12 .nil) (ys.getD 13 .nil) (ys.getD 14 .nil) (ys.getD 15 .nil) (ys.getD 16 .nil) (ys.getD 17 .nil) (ys.getD 18 .nil) (ys.getD 19 .nil) (ys.getD 20 .nil) (ys.getD 21 .nil)) ∧
 (∀ o (K : C → C → C → C → C → C → C → C → C → C → C → C → C → C → C → C → C → C → C → C → C → C → C → R), call23 o K = bindF o fun ys => K (ys.getD 0 .nil) (ys.getD 1 .nil) (ys.getD 2 .nil) (ys.getD 3 .nil) (ys.getD 4 .nil) (ys.getD 5 .nil) (ys.getD 6 .nil) (ys.getD 7 .nil) (ys.getD 8 .nil) (ys.getD 9 .nil) (ys.getD 10 .nil) (ys.getD 11 .nil) (ys.getD 12 .nil) (ys.getD 13 .nil) (ys.getD 14 .nil) (ys.getD 15 .nil) (ys.getD 16 .nil) (ys.getD 17 .nil) (ys.getD 18 .nil) (ys.getD 19 .nil) (ys.getD 20 .nil) (ys.getD 21 .nil) (ys.getD 22 .nil)) ∧
 (∀ o (K : C → C → C → C → C → C → C → C → C → C → C → C → C → C → C → C → C → C → C → C → C → C → C → C → R), call24 o K = bindF o fun ys => K (ys.getD 0 .nil) (ys.getD 1 .nil) (ys.getD 2 .nil) (ys.getD 3 .nil) (ys.getD 4 .nil) (ys.getD 5 .nil) (ys.getD 6 .nil) (ys.getD 7 .nil) (ys.getD 8 .nil) (ys.getD 9 .nil) (ys.getD 10 .nil) (ys.getD 11 .nil) (ys.getD 12 .nil) (ys.getD 13 .nil) (ys.getD 14 .nil) (ys.getD 15 .nil) (ys.getD 16 .nil) (ys.getD 17 .nil) (ys.getD 18 .nil) (ys.getD 19 .nil) (ys.getD 20 .nil) (ys.getD 21 .nil) (ys.getD 22 .nil) (ys.getD 23 .nil)) ∧
 (∀ (f : C → R) xs, ap1 f xs = f (xs.getD 0 .nil)) ∧
 (∀ (f : C → C → R) xs, ap2 f xs = f (xs.getD 0 .nil) (xs.getD 1 .nil)) ∧
 (∀ (f : C → C → C → R) xs, ap3 f xs = f (xs.getD 0 .nil) (xs.getD 1 .nil) (xs.getD 2 .nil)) ∧
 (∀ (f : C → C → C → C → R) xs, ap4 f xs = f (xs.getD 0 .nil) (xs.getD 1 .nil) (xs.getD 2 .nil) (xs.getD 3 .nil)) ∧
 (∀ (f : C → C → C → C → C → R) xs, ap5 f xs = f (xs.getD 0 .nil) (xs.getD 1 .nil) (xs.getD 2 .nil) (xs.getD 3 .nil) (xs.getD 4 .nil)) ∧
 (∀ (f : C → C → C → C → C → C → R) xs, ap6 f xs = f (xs.getD 0 .nil) (xs.getD 1 .nil) (xs.getD 2 .nil) (xs.getD 3 .nil) (xs.getD 4 .nil) (xs.getD 5 .nil)) ∧
 (∀ (f : C → C → C → C → C → C → C → R) xs, ap7 f xs = f (xs.getD 0 .nil) (xs.getD 1 .nil) (xs.getD 2 .nil) (xs.getD 3 .nil) (xs.getD 4 .nil) (xs.getD 5 .nil) (xs.getD 6 .nil)) ∧
 (∀ (f : C → C → C → C → C → C → C → C → R) xs, ap8 f xs = f (xs.getD 0 .nil) (xs.getD 1 .nil) (xs.getD 2 .nil) (xs.getD 3 .nil) (xs.getD 4 .nil) (xs.getD 5 .nil) (xs.getD 6 .nil) (xs.getD 7 .nil)) ∧
 (∀ (f : C → C → C → C → C → C → C → C → C → R) xs, ap9 f xs = f (xs.getD 0 .nil) (xs.getD 1 .nil) (xs.getD 2 .nil) (xs.getD 3 .nil) (xs.getD 4 .nil) (xs.getD 5 .nil) (xs.getD 6 .nil) (xs.getD 7 .nil) (xs.getD 8 .nil)) ∧
 (∀ (f : C → C → C → C → C → C → C → C → C → C → R) xs, ap10 f xs = f (xs.getD 0 .nil) (xs.getD 1 .nil) (xs.getD 2 .nil) (xs.getD 3 .nil) (xs.getD 4 .nil) (xs.getD 5 .nil) (xs.getD 6 .nil) (xs.getD 7 .nil) (xs.getD 8 .nil) (xs.getD 9 .nil)) ∧
 (∀ (f : C → C → C → C → C → C → C → C → C → C → C → R) xs, ap11 f xs = f (xs.getD 0 .nil) (xs.getD 1 .nil) (xs.getD 2 .nil) (xs.getD 3 .nil) (xs.getD 4 .nil) (xs.getD 5 .nil) (xs.getD 6 .nil) (xs.getD 7 .nil) (xs.getD 8 .nil) (xs.getD 9 .nil) (xs.getD 10 .nil)) ∧
 (∀ (f : C → C → C → C → C → C → C → C → C → C → C → C → R) xs, ap12 f xs = f (xs.getD 0 .nil) (xs.getD 1 .nil) (xs.getD 2 .nil) (xs.getD 3 .nil) (xs.getD 4 .nil) (xs.getD 5 .nil) (xs.getD 6 .nil) (xs.getD 7 .nil) (xs.getD 8 .nil) (xs.getD 9 .nil) (xs.getD 10 .nil) (xs.getD 11 .nil)) ∧
 (∀ (f : C → C → C → C → C → C → C → C → C → C → C → C → C → R) xs, ap13 f xs = f (xs.getD 0 .nil) (xs.getD 1 .nil) (xs.getD 2 .nil) (xs.getD 3 .nil) (xs.getD 4 .nil) (xs.getD 5 .nil) (xs.getD 6 .nil) (xs.getD 7 .nil) (xs.getD 8 .nil) (xs.getD 9 .nil) (xs.getD 10 .nil) (xs.getD 11 .nil) (xs.getD 12 .nil)) ∧
 (∀ (f : C → C → C → C → C → C → C → C → C → C → C → C → C → C → R) xs, ap14 f xs = f (xs.getD 0 .nil) (xs.getD 1 .nil) (xs.getD 2 .nil) (xs.getD 3 .nil) (xs.getD 4 .nil) (xs.getD 5 .nil) (xs.getD 6 .nil) (xs.getD 7 .nil) (xs.getD 8 .nil) (xs.getD 9 .nil) (xs.getD 10 .nil) (xs.getD 11 .nil) (xs.getD 12 .nil) (xs.getD 13 .nil)) ∧
 (∀ (f : C → C → C → C → C → C → C → C → C → C → C → C → C → C → C → R) xs, ap15 f xs = f (xs.getD 0 .nil) (xs.getD 1 .nil) (xs.getD 2 .nil) (xs.getD 3 .nil) (xs.getD 4 .nil) (xs.getD 5 .nil) (xs.getD 6 .nil) (xs.getD 7 .nil) (xs.getD 8 .nil) (xs.getD 9 .nil) (xs.getD 10 .nil) (xs.getD 11 .nil) (xs.getD 12 .nil) (xs.getD 13 .nil) (xs.getD 14 .nil)) ∧
 (∀ (f : C → C → C → C → C → C → C → C → C → C → C → C → C → C → C → C → R) xs, ap16 f xs = f (xs.getD 0 .nil) (xs.getD 1 .nil) (xs.getD 2 .nil) (xs.getD 3 .nil) (xs.getD 4 .nil) (xs.getD 5 .nil) (xs.getD 6 .nil) (xs.getD 7 .nil) (xs.getD 8 .nil) (xs.getD 9 .nil) (xs.getD 10 .nil) (xs.getD 11 .nil) (xs.getD 12 .nil) (xs.getD 13 .nil) (xs.getD 14 .nil) (xs.getD 15 .nil)) ∧
 (∀ (f : C → C → C → C → C → C → C → C → C → C → C → C → C → C → C → C → C → R) xs, ap17 f xs = f (xs.getD 0 .nil) (xs.getD 1 .nil) (xs.getD 2 .nil) (xs.getD 3 .nil) (xs.getD 4 .nil) (xs.getD 5 .nil) (xs.getD 6 .nil) (xs.getD 7 .nil) (xs.getD 8 .nil) (xs.getD 9 .nil) (xs.getD 10 .nil) (xs.getD 11 .nil) (xs.getD 12 .nil) (xs.getD 13 .nil) (xs.getD 14 .nil) (xs.getD 15 .nil) (xs.getD 16 .nil)) ∧
 (∀ (f : C → C → C → C → C → C → C → C → C → C → C → C → C → C → C → C → C → C → R) xs, ap18 f xs = f (xs.getD 0 .nil) (xs.getD 1 .nil) (xs.getD 2 .nil) (xs.getD 3 .nil) (xs.getD 4 .nil) (xs.getD 5 .nil) (xs.getD 6 .nil) (xs.getD 7 .nil) (xs.getD 8 .nil) (xs.getD 9 .nil) (xs.getD 10 .nil) (xs.getD 11 .nil) (xs.getD 12 .nil) (xs.getD 13 .nil) (xs.getD 14 .nil) (xs.getD 15 .nil) (xs.getD 16 .nil) (xs.getD 17 .nil)) ∧
 (∀ (f : C → C → C → C → C → C → C → C → C → C → C → C → C → C → C → C → C → C → C → R) xs, ap19 f xs = f (xs.getD 0 .nil) (xs.getD 1 .nil) (xs.getD 2 .nil) (xs.getD 3 .nil) (xs.getD 4 .nil) (xs.getD 5 .nil) (xs.getD 6 .nil) (xs.getD 7 .nil) (xs.getD 8 .nil) (xs.getD 9 .nil) (xs.getD 10 .nil) (xs.getD 11 .nil) (xs.getD 12 .nil) (xs.getD 13 .nil) (xs.getD 14 .nil) (xs.getD 15 .nil) (xs.getD 16 .nil) (xs.getD 17 .nil) (xs.getD 18 .nil)) ∧
 (∀ (f : C → C → C → C → C → C → C → C → C → C → C → C → C → C → C → C → C → C → C → C → R) xs, ap20 f xs = f (xs.getD 0 .nil) (xs.getD 1 .nil) (xs.getD 2 .nil) (xs.getD 3 .nil) (xs.getD 4 .nil) (xs.getD 5 .nil) (xs.getD 6 .nil) (xs.getD 7 .nil) (xs.getD 8 .nil) (xs.getD 9 .nil) (xs.getD 10 .nil) (xs.getD 11 .nil) (xs.getD 12 .nil) (xs.getD 13 .nil) (xs.getD 14 .nil) (xs.getD 15 .nil) (xs.getD 16 .nil) (xs.getD 17 .nil) (xs.getD 18 .nil) (xs.getD 19 .nil)) ∧
 (∀ (f : C → C → C → C → C → C → C → C → C → C → C → C → C → C → C → C → C → C → C → C → C → R) xs, ap21 f xs = f (xs.getD 0 .nil) (xs.getD 1 .nil) (xs.getD 2 .nil) (xs.getD 3 .nil) (xs.getD 4 .nil) (xs.getD 5 .nil) (xs.getD 6 .nil) (xs.getD 7 .nil) (xs.getD 8 .nil) (xs.getD 9 .nil) (xs.getD 10 .nil) (xs.getD 11 .nil) (xs.getD 12 .nil) (xs.getD 13 .nil) (xs.getD 14 .nil) (xs.getD 15 .nil) (xs.getD 16 .nil) (xs.getD 17 .nil) (xs.getD 18 .nil) (xs.getD 19 .nil) (xs.getD 20 .nil)) ∧
 (∀ (f : C → C → C → C → C → C → C → C → C → C → C → C → C → C → C → C → C → C → C → C → C → C → R) xs, ap22 f xs = f (xs.getD 0 .nil) (xs.getD 1 .nil) (xs.getD 2 .nil) (xs.getD 3 .nil) (xs.getD 4 .nil) (xs.getD 5 .nil) (xs.getD 6 .nil) (xs.getD 7 .nil) (xs.getD 8 .nil) (xs.getD 9 .nil) (xs.getD 10 .nil) (xs.getD 11 .nil) (xs.getD 12 .nil) (xs.getD 13 .nil) (xs.getD 14 .nil) (xs.getD 15 .nil) (xs.getD 16 .nil) (xs.getD 17 .nil) (xs.getD 18 .nil) (xs.getD 19 .nil) (xs.getD 20 .nil) (xs.getD 21 .nil)) ∧
 (∀ (f : C → C → C → C → C → C → C → C → C → C → C → C → C → C → C → C → C → C → C → C → C → C → C → R) xs, ap23 f xs = f (xs.getD 0 .nil) (xs.getD 1 .nil) (xs.getD 2 .nil) (xs.getD 3 .nil) (xs.getD 4 .nil) (xs.getD 5 .nil) (xs.getD 6 .nil) (xs.getD 7 .nil) (xs.getD 8 .nil) (xs.getD 9 .nil) (xs.getD 10 .nil) (xs.getD 11 .nil) (xs.getD 12 .nil) (xs.getD 13 .nil) (xs.getD 14 .nil) (xs.getD 15 .nil) (xs.getD 16 .nil) (xs.getD 17 .nil) (xs.getD 18 .nil) (xs.getD 19 .nil) (xs.getD 20 .nil) (xs.getD 21 .nil) (xs.getD 22 .nil)) ∧
 (∀ (f : C → C → C → C → C → C → C → C → C → C → C → C → C → C → C → C → C → C → C → C → C → C → C → C → R) xs, ap24 f xs = f (xs.getD 0 .nil) (xs.getD 1 .nil) (xs.getD 2 .nil) (xs.getD 3 .nil) (xs.getD 4 .nil) (xs.getD 5 .nil) (xs.getD 6 .nil) (xs.getD 7 .nil) (xs.getD 8 .nil) (xs.getD 9 .nil) (xs.getD 10 .nil) (xs.getD 11 .nil) (xs.getD 12 .nil) (xs.getD 13 .nil) (xs.getD 14 .nil) (xs.getD 15 .nil) (xs.getD 16 .nil) (xs.getD 17 .nil) (xs.getD 18 .nil) (xs.getD 19 .nil) (xs.getD 20 .nil) (xs.getD 21 .nil) (xs.getD 22 .nil) (xs.getD 23 .nil)) ∧
 (∀ (f : C → C → C → C → C → C → C → C → C → C → C → C → C → C → C → C → C → C → C → C → C → C → C → C → C → R) xs, ap25 f xs = f (xs.getD 0 .nil) (xs.getD 1 .nil) (xs.getD 2 .nil) (xs.getD 3 .nil) (xs.getD 4 .nil) (xs.getD 5 .nil) (xs.getD 6 .nil) (xs.getD 7 .nil) (xs.getD 8 .nil) (xs.getD 9 .nil) (xs.getD 10 .nil) (xs.getD 11 .nil) (xs.getD 12 .nil) (xs.getD 13 .nil) (xs.getD 14 .nil) (xs.getD 15 .nil) (xs.getD 16 .nil) (xs.getD 17 .nil) (xs.getD 18 .nil) (xs.getD 19 .nil) (xs.getD 20 .nil) (xs.getD 21 .nil) (xs.getD 22 .nil) (xs.getD 23 .nil) (xs.getD 24 .nil)) ∧
 (∀ (f : C → C → C → C → C → C → C → C → C → C → C → C → C → C → C → C → C → C → C → C → C → C → C → C → C → C → R) xs, ap26 f xs = f (xs.getD 0 .nil) (xs.getD 1 .nil) (xs.getD 2 .nil) (xs.getD 3 .nil) (xs.getD 4 .nil) (xs.getD 5 .nil) (xs.getD 6 .nil) (xs.getD 7 .nil) (xs.getD 8 .nil) (xs.getD 9 .nil) (xs.getD 10 .nil) (xs.getD 11 .nil) (xs.getD 12 .nil) (xs.getD 13 .nil) (xs.getD 14 .nil) (xs.getD 15 .nil) (xs.getD 16 .nil) (xs.getD 17 .nil) (xs.getD 18 .nil) (xs.getD 19 .nil) (xs.getD 20 .nil) (xs.getD 21 .nil) (xs.getD 22 .nil) (xs.getD 23 .nil) (xs.getD 24 .nil) (xs.getD 25 .nil)) ∧
 (∀ (f : C → C → C → C → C → C → C → C → C → C → C → C → C → C → C → C → C → C → C → C → C → C → C → C → C → C → C → R) xs, ap27 f xs = f (xs.getD 0 .nil) (xs.getD 1 .nil) (xs.getD 2 .nil) (xs.getD 3 .nil) (xs.getD 4 .nil) (xs.getD 5 .nil) (xs.getD 6 .nil) (xs.getD 7 .nil) (xs.getD 8 .nil) (xs.getD 9 .nil) (xs.getD 10 .nil) (xs.getD 11 .nil) (xs.getD 12 .nil) (xs.getD 13 .nil) (xs.getD 14 .nil) (xs.getD 15 .nil) (xs.getD 16 .nil) (xs.getD 17 .nil) (xs.getD 18 .nil) (xs.getD 19 .nil) (xs.getD 20 .nil) (xs.getD 21 .nil) (xs.getD 22 .nil) (xs.getD 23 .nil) (xs.getD 24 .nil) (xs.getD 25 .nil) (xs.getD 26 .nil)) ∧
 (∀ (f : C → C → C → C → C → C → C → C → C → C → C → C → C → C → C → C → C → C → C → C → C → C → C → C → C → C → C → C → R) xs, ap28 f xs = f (xs.getD 0 .nil) (xs.getD 1 .nil) (xs.getD 2 .nil) (xs.getD 3 .nil) (xs.getD 4 .nil) (xs.getD 5 .nil) (xs.getD 6 .nil) (xs.getD 7 .nil) (xs.getD 8 .nil) (xs.getD 9 .nil) (xs.getD 10 .nil) (xs.getD 11 .nil) (xs.getD 12 .nil) (xs.getD 13 .nil) (xs.getD 14 .nil) (xs.getD 15 .nil) (xs.getD 16 .nil) (xs.getD 17 .nil) (xs.getD 18 .nil) (xs.getD 19 .nil) (xs.getD 20 .nil) (xs.getD 21 .nil) (xs.getD 22 .nil) (xs.getD 23 .nil) (xs.getD 24 .nil) (xs.getD 25 .nil) (xs.getD 26 .nil) (xs.getD 27 .nil)) ∧
 (∀ (f : C → C → C → C → C → C → C → C → C → C → C → C → C → C → C → C → C → C → C → C → C → C → C → C → C → C → C → C → C → R) xs, ap29 f xs = f (xs.getD 0 .nil) (xs.getD 1 .nil) (xs.getD 2 .nil) (xs.getD 3 .nil) (xs.getD 4 .nil) (xs.getD 5 .nil) (xs.getD 6 .nil) (xs.getD 7 .nil) (xs.getD 8 .nil) (xs.getD 9 .nil) (xs.getD 10 .nil) (xs.getD 11 .nil) (xs.getD 12 .nil) (xs.getD 13 .nil) (xs.getD 14 .nil) (xs.getD 15 .nil) (xs.getD 16 .nil) (xs.getD 17 .nil) (xs.getD 18 .nil) (xs.getD 19 .nil) (xs.getD 20 .nil) (xs.getD 21 .nil) (xs.getD 22 .nil) (xs.getD 23 .nil) (xs.getD 24 .nil) (xs.getD 25 .nil) (xs.getD 26 .nil) (xs.getD 27 .nil) (xs.getD 28 .nil)) ∧
 (∀ (f : C → C → C → C → C → C → C → C → C → C → C → C → C → C → C → C → C → C → C → C → C → C → C → C → C → C → C → C → C → C → R) xs, ap30 f xs = f (xs.getD 0 .nil) (xs.getD 1 .nil) (xs.getD 2 .nil) (xs.getD 3 .nil) (xs.getD 4 .nil) (xs.getD 5 .nil) (xs.getD 6 .nil) (xs.getD 7 .nil) (xs.getD 8 .nil) (xs.getD 9 .nil) (xs.getD 10 .nil) (xs.getD 11 .nil) (xs.getD 12 .nil) (xs.getD 13 .nil) (xs.getD 14 .nil) (xs.getD 15 .nil) (xs.getD 16 .nil) (xs.getD 17 .nil) (xs.getD 18 .nil) (xs.getD 19 .nil) (xs.getD 20 .nil) (xs.getD 21 .nil) (xs.getD 22 .nil) (xs.getD 23 .nil) (xs.getD 24 .nil) (xs.getD 25 .nil) (xs.getD 26 .nil) (xs.getD 27 .nil) (xs.getD 28 .nil) (xs.getD 29 .nil)) ∧
 (∀ (f : C → C → C → C → C → C → C → C → C → C → C → C → C → C → C → C → C → C → C → C → C → C → C → C → C → C → C → C → C → C → C → R) xs, ap31 f xs = f (xs.getD 0 .nil) (xs.getD 1 .nil) (xs.getD 2 .nil) (xs.getD 3 .nil) (xs.getD 4 .nil) (xs.getD 5 .nil) (xs.getD 6 .nil) (xs.getD 7 .nil) (xs.getD 8 .nil) (xs.getD 9 .nil) (xs.getD 10 .nil) (xs.getD 11 .nil) (xs.getD 12 .nil) (xs.getD 13 .nil) (xs.getD 14 .nil) (xs.getD 15 .nil) (xs.getD 16 .nil) (xs.getD 17 .nil) (xs.getD 18 .nil) (xs.getD 19 .nil) (xs.getD 20 .nil) (xs.getD 21 .nil) (xs.getD 22 .nil) (xs.getD 23 .nil) (xs.getD 24 .nil) (xs.getD 25 .nil) (xs.getD 26 .nil) (xs.getD 27 .nil) (xs.getD 28 .nil) (xs.getD 29 .nil) (xs.getD 30 .nil)) ∧
 (∀ (f : C → C → C → C → C → C → C → C → C → C → C → C → C → C → C → C → C → C → C → C → C → C → C → C → C → C → C → C → C → C → C → C → R) xs, ap32 f xs = f (xs.getD 0 .nil) (xs.getD 1 .nil) (xs.getD 2 .nil) (xs.getD 3 .nil) (xs.getD 4 .nil) (xs.getD 5 .nil) (xs.getD 6 .nil) (xs.getD 7 .nil) (xs.getD 8 .nil) (xs.getD 9 .nil) (xs.getD 10 .nil) (xs.getD 11 .nil) (xs.getD 12 .nil) (xs.getD 13 .nil) (xs.getD 14 .nil) (xs.getD 15 .nil) (xs.getD 16 .nil) (xs.getD 17 .nil) (xs.getD 18 .nil) (xs.getD 19 .nil) (xs.getD 20 .nil) (xs.getD 21 .nil) (xs.getD 22 .nil) (xs.getD 23 .nil) (xs.getD 24 .nil) (xs.getD 25 .nil) (xs.getD 26 .nil) (xs.getD 27 .nil) (xs.getD 28 .nil) (xs.getD 29 .nil) (xs.getD 30 .nil) (xs.getD 31 .nil)) ∧
 (∀ (f : C → C → C → C → C → C → C → C → C → C → C → C → C → C → C → C → C → C → C → C → C → C → C → C → C → C → C → C → C → C → C → C → C → R) xs, ap33 f xs = f (xs.getD 0 .nil) (xs.getD 1 .nil) (xs.getD 2 .nil) (xs.getD 3 .nil) (xs.getD 4 .nil) (xs.getD 5 .nil) (xs.getD 6 .nil) (xs.getD 7 .nil) (xs.getD 8 .nil) (xs.getD 9 .nil) (xs.getD 10 .nil) (xs.getD 11 .nil) (xs.getD 12 .nil) (xs.getD 13 .nil) (xs.getD 14 .nil) (xs.getD 15 .nil) (xs.getD 16 .nil) (xs.getD 17 .nil) (xs.getD 18 .nil) (xs.getD 19 .nil) (xs.getD 20 .nil) (xs.getD 21 .nil) (xs.getD 22 .nil) (xs.getD 23 .nil) (xs.getD 24 .nil) (xs.getD 25 .nil) (xs.getD 26 .nil) (xs.getD 27 .nil) (xs.getD 28 .nil) (xs.getD 29 .nil) (xs.getD 30 .nil) (xs.getD 31 .nil) (xs.getD 32 .nil)) ∧
 (∀ (f : C → C → C → C → C → C → C → C → C → C → C → C → C → C → C → C → C → C → C → C → C → C → C → C → C → C → C → C → C → C → C → C → C → C → R) xs, ap34 f xs = f (xs.getD 0 .nil) (xs.getD 1 .nil) (xs.getD 2 .nil) (xs.getD 3 .nil) (xs.getD 4 .nil) (xs.getD 5 .nil) (xs.getD 6 .nil) (xs.getD 7 .nil) (xs.getD 8 .nil) (xs.getD 9 .nil) (xs.getD 10 .nil) (xs.getD 11 .nil) (xs.getD 12 .nil) (xs.getD 13 .nil) (xs.getD 14 .nil) (xs.getD 15 .nil) (xs.getD 16 .nil) (xs.getD 17 .nil) (xs.getD 18 .nil) (xs.getD 19 .nil) (xs.getD 20 .nil) (xs.getD 21 .nil) (xs.getD 22 .nil) (xs.getD 23 .nil) (xs.getD 24 .nil) (xs.getD 25 .nil) (xs.getD 26 .nil) (xs.getD 27 .nil) (xs.getD 28 .nil) (xs.getD 29 .nil) (xs.getD 30 .nil) (xs.getD 31 .nil) (xs.getD 32 .nil) (xs.getD 33 .nil)) ∧
 (∀ (f : C → C → C → C → C → C → C → C → C → C → C → C → C → C → C → C → C → C → C → C → C → C → C → C → C → C → C → C → C → C → C → C → C → C → C → R) xs, ap35 f xs = f (xs.getD 0 .nil) (xs.getD 1 .nil) (xs.getD 2 .nil) (xs.getD 3 .nil) (xs.getD 4 .nil) (xs.getD 5 .nil) (xs.getD 6 .nil) (xs.getD 7 .nil) (xs.getD 8 .nil) (xs.getD 9 .nil) (xs.getD 10 .nil) (xs.getD 11 .nil) (xs.getD 12 .nil) (xs.getD 13 .nil) (xs.getD 14 .nil) (xs.getD 15 .nil) (xs.getD 16 .nil) (xs.getD 17 .nil) (xs.getD 18 .nil) (xs.getD 19 .nil) (xs.getD 20 .nil) (xs.getD 21 .nil) (xs.getD 22 .nil) (xs.getD 23 .nil) (xs.getD 24 .nil) (xs.getD 25 .nil) (xs.getD 26 .nil) (xs.getD 27 .nil) (xs.getD 28 .nil) (xs.getD 29 .nil) (xs.getD 30 .nil) (xs.getD 31 .nil) (xs.getD 32 .nil) (xs.getD 33 .nil) (xs.getD 34 .nil)) ∧
 (∀ (f : C → C → C → C → C → C → C → C → C → C → C → C → C → C → C → C → C → C → C → C → C → C → C → C → C → C → C → C → C → C → C → C → C → C → C → C → R) xs, ap36 f xs = f (xs.getD 0 .nil) (xs.getD 1 .nil) (xs.getD 2 .nil) (xs.getD 3 .nil) (xs.getD 4 .nil) (xs.getD 5 .nil) (xs.getD 6 .nil) (xs.getD 7 .nil) (xs.getD 8 .nil) (xs.getD 9 .nil) (xs.getD 10 .nil) (xs.getD 11 .nil) (xs.getD 12 .nil) (xs.getD 13 .nil) (xs.getD 14 .nil) (xs.getD 15 .nil) (xs.getD 16 .nil) (xs.getD 17 .nil) (xs.getD 18 .nil) (xs.getD 19 .nil) (xs.getD 20 .nil) (xs.getD 21 .nil) (xs.getD 22 .nil) (xs.getD 23 .nil) (xs.getD 24 .nil) (xs.getD 25 .nil) (xs.getD 26 .nil) (xs.getD 27 .nil) (xs.getD 28 .nil) (xs.getD 29 .nil) (xs.getD 30 .nil) (xs.getD 31 .nil) (xs.getD 32 .nil) (xs.getD 33 .nil) (xs.getD 34 .nil) (xs.getD 35 .nil)) ∧
 (∀ (f : C → C → C → C → C → C → C → C → C → C → C → C → C → C → C → C → C → C → C → C → C → C → C → C → C → C → C → C → C → C → C → C → C → C → C → C → C → R) xs, ap37 f xs = f (xs.getD 0 .nil) (xs.getD 1 .nil) (xs.getD 2 .nil) (xs.getD 3 .nil) (xs.getD 4 .nil) (xs.getD 5 .nil) (xs.getD 6 .nil) (xs.getD 7 .nil) (xs.getD 8 .nil) (xs.getD 9 .nil) (xs.getD 10 .nil) (xs.getD 11 .nil) (xs.getD 12 .nil) (xs.getD 13 .nil) (xs.getD 14 .nil) (xs.getD 15 .nil) (xs.getD 16 .nil) (xs.getD 17 .nil) (xs.getD 18 .nil) (xs.getD 19 .nil) (xs.getD 20 .nil) (xs.getD 21 .nil) (xs.getD 22 .nil) (xs.getD 23 .nil) (xs.getD 24 .nil) (xs.getD 25 .nil) (xs.getD 26 .nil) (xs.getD 27 .nil) (xs.getD 28 .nil) (xs.getD 29 .nil) (xs.getD 30 .nil) (xs.getD 31 .nil) (xs.getD 32 .nil) (xs.getD 33 .nil) (xs.getD 34 .nil) (xs.getD 35 .nil) (xs.getD 36 .nil)) ∧
 (∀ (f : C → C → C → C → C → C → C → C → C → C → C → C → C → C → C → C → C → C → C → C → C → C → C → C → C → C → C → C → C → C → C → C → C → C → C → C → C → C → R) xs, ap38 f xs = f (xs.getD 0 .nil) (xs.getD 1 .nil) (xs.getD 2 .nil) (xs.getD 3 .nil) (xs.getD 4 .nil) (xs.getD 5 .nil) (xs.getD 6 .nil) (xs.getD 7 .nil) (xs.getD 8 .nil) (xs.getD 9 .nil) (xs.getD 10 .nil) (xs.getD 11 .nil) (xs.getD 12 .nil) (xs.getD 13 .nil) (xs.getD 14 .nil) (xs.getD 15 .nil) (xs.getD 16 .nil) (xs.getD 17 .nil) (xs.getD 18 .nil) (xs.getD 19 .nil) (xs.getD 20 .nil) (xs.getD 21 .nil) (xs.getD 22 .nil) (xs.getD 23 .nil) (xs.getD 24 .nil) (xs.getD 25 .nil) (xs.getD 26 .nil) (xs.getD 27 .nil) (xs.getD 28 .nil) (xs.getD 29 .nil) (xs.getD 30 .nil) (xs.getD 31 .nil) (xs.getD 32 .nil) (xs.getD 33 .nil) (xs.getD 34 .nil) (xs.getD 35 .nil) (xs.getD 36 .nil) (xs.getD 37 .nil)) ∧
 (∀ (f : C → C → C → C → C → C → C → C → C → C → C → C → C → C → C → C → C → C → C → C → C → C → C → C → C → C → C → C → C → C → C → C → C → C → C → C → C → C → C → R) xs, ap39 f xs = f (xs.getD 0 .nil) (xs.getD 1 .nil) (xs.getD 2 .nil) (xs.getD 3 .nil) (xs.getD 4 .nil) (xs.getD 5 .nil) (xs.getD 6 .nil) (xs.getD 7 .nil) (xs.getD 8 .nil) (xs.getD 9 .nil) (xs.getD 10 .nil) (xs.getD 11 .nil) (xs.getD 12 .nil) (xs.getD 13 .nil) (xs.getD 14 .nil) (xs.getD 15 .nil) (xs.getD 16 .nil) (xs.getD 17 .nil) (xs.getD 18 .nil) (xs.getD 19 .nil) (xs.getD 20 .nil) (xs.getD 21 .nil) (xs.getD 22 .nil) (xs.getD 23 .nil) (xs.getD 24 .nil) (xs.getD 25 .nil) (xs.getD 26 .nil) (xs.getD 27 .nil) (xs.getD 28 .nil) (xs.getD 29 .nil) (xs.getD 30 .nil) (xs.getD 31 .nil) (xs.getD 32 .nil) (xs.getD 33 .nil) (xs.getD 34 .nil) (xs.getD 35 .nil) (xs.getD 36 .nil) (xs.getD 37 .nil) (xs.getD 38 .nil)) ∧
 (∀ (f : C → C → C → C → C → C → C → C → C → C → C → C → C → C → C → C → C → C → C → C → C → C → C → C → C → C → C → C → C → C → C → C → C → C → C → C → C → C → C → C → R) xs, ap40 f xs = f (xs.getD 0 .nil) (xs.getD 1 .nil) (xs.getD 2 .nil) (xs.getD 3 .nil) (xs.getD 4 .nil) (xs.getD 5 .nil) (xs.getD 6 .nil) (xs.getD 7 .nil) (xs.getD 8 .nil) (xs.getD 9 .nil) (xs.getD 10 .nil) (xs.getD 11 .nil) (xs.getD 12 .nil) (xs.getD 13 .nil) (xs.getD 14 .nil) (xs.getD 15 .nil) (xs.getD 16 .nil) (xs.getD 17 .nil) (xs.getD 18 .nil) (xs.getD 19 .nil) (xs.getD 20 .nil) (xs.getD 21 .nil) (xs.getD 22 .nil) (xs.getD 23 .nil) (xs.getD 24 .nil) (xs.getD 25 .nil) (xs.getD 26 .nil) (xs.getD 27 .nil) (xs.getD 28 .nil) (xs.getD 29 .nil) (xs.getD 30 .nil) (xs.getD 31 .nil) (xs.getD 32 .nil) (xs.getD 33 .nil) (xs.getD 34 .nil) (xs.getD 35 .nil) (xs.getD 36 .nil) (xs.getD 37 .nil) (xs.getD 38 .nil) (xs.getD 39 .nil)) :=
 ⟨fun {_} {_} {_} {_} => jA, fun {_} _ => jB _, fun {_} {_} {_} {_} => jC, fun {_} {_} {_} {_} {_} => jD, fun _ => jE _, fun _ => jF _, fun _ => jG _, fun _ => jH _, fun _ _ => jI _ _, fun _ _ => jJ _ _, fun _ _ => jK _ _, fun _ _ => jL _ _, fun _ _ _ => jM _ _ _, fun _ _ _ => jN _ _ _, fun _ _ _ => jO _ _ _, fun _ _ _ => jP _ _ _, fun _ _ _ => jQ _ _ _, fun {_} _ _ => jR _ _, fun {_} _ _ => jS _ _, fun _ => jT _, fun _ => jU _, fun _ => jV _, fun {_} {_} {_} _ => jW _, fun _ => jX _, fun _ => jY _, jZ, ja, fun {_} {_} => jb, fun {_} => jc, fun _ => jd _, fun _ _ => rfl, fun _ _ => rfl, fun _ _ => rfl, fun _ _ => rfl, fun _ _ => rfl, fun _ _ => rfl, fun _ _ => rfl, fun _ _ => rfl, fun _ _ => rfl, fun _ _ => rfl, fun _ _ => rfl, fun _ _ => rfl, fun _ _ => rfl, fun _ _ => rfl, fun _ _ => rfl, fun _ _ => rfl, fun _ _ => rfl, fun _ _ => rfl, fun _ _ => rfl, fun _ _ => rfl, fun _ _ => rfl, fun _ _ => rfl, fun _ _ => rfl, fun _ _ => rfl, fun _ _ => rfl, fun _ _ => rfl, fun _ _ => rfl, fun _ _ => rfl, fun _ _ => rfl, fun _ _ => rfl, fun _ _ => rfl, fun _ _ => rfl, fun _ _ => rfl, fun _ _ => rfl, fun _ _ => rfl, fun _ _ => rfl, fun _ _ => rfl, fun _ _ => rfl, fun _ _ => rfl, fun _ _ => rfl, fun _ _ => rfl, fun _ _ => rfl, fun _ _ => rfl, fun _ _ => rfl, fun _ _ => rfl, fun _ _ => rfl, fun _ _ => rfl, fun _ _ => rfl, fun _ _ => rfl, fun _ _ => rfl, fun _ _ => rfl, fun _ _ => rfl, fun _ _ => rfl, fun _ _ => rfl, fun _ _ => rfl, fun _ _ => rfl, fun _ _ => rfl, fun _ _ => rfl, fun _ _ => rfl, fun _ _ => rfl, fun _ _ => rfl, fun _ _ => rfl, fun _ _ => rfl, fun _ _ => rfl⟩
theorem iter_mono {body : List C → R} : ∀ {k m : Nat} {xs : List C} {o : Out}, k ≤ m → iter body k xs = some o → iter body m xs = some o
  | 0, _, xs, o, _, h => by simp [iter] at h
  | k + 1, 0, xs, o, hk, h => by omega
  | k + 1, m + 1, xs, o, hk, h => by
    simp only [iter] at h ⊢
    split
    · rename_i ys hb
      rw [hb] at h
      exact iter_mono (by omega) h
    · rename_i hb
      split at h
      · rename_i ys hb'; exact absurd hb' (hb ys)
      · exact h
theorem lim_of_iter {body : List C → R} {k : Nat} {xs : List C} {o : Out} (h : iter body k xs = some o) : lim body xs = some o := by
  have hex : ∃ k, (iter body k xs).isSome := ⟨k, by rw [h]; rfl⟩
  unfold lim
  rw [dif_pos hex]
  have hs := Classical.choose_spec hex
  obtain ⟨o', ho'⟩ := Option.isSome_iff_exists.1 hs
  rw [ho']
  rcases Nat.le_total k (Classical.choose hex) with hle | hle
  · rw [iter_mono hle h] at ho'; exact ho'.symm
  · rw [iter_mono hle ho'] at h; exact h
theorem lim_again {body : List C → R} {xs ys : List C} (h : body xs = some (.again ys)) : lim body xs = lim body ys := by
  have key : ∀ k, iter body (k + 1) xs = iter body k ys := fun k => by simp only [iter, h]
  cases hr : lim body ys with
  | some o =>
    obtain ⟨k, hk⟩ := lim_some hr
    exact lim_of_iter (k := k + 1) (by rw [key]; exact hk)
  | none =>
    cases hl : lim body xs with
    | none => rfl
    | some o =>
      obtain ⟨k, hk⟩ := lim_some hl
      cases k with
      | zero => simp [iter] at hk
      | succ k => rw [key] at hk; rw [lim_of_iter hk] at hr; simp at hr
theorem lim_ret {body : List C → R} {xs ys : List C} (h : body xs = some (.ret ys)) : lim body xs = some (.ret ys) := lim_of_iter (k := 1) (by simp only [iter, h])
theorem lim_brk {body : List C → R} {xs ys : List C} {i : Nat} (h : body xs = some (.brk i ys)) : lim body xs = some (.brk i ys) := lim_of_iter (k := 1) (by simp only [iter, h])
theorem w64_of {n : Int} (h1 : -9223372036854775808 ≤ n) (h2 : n ≤ 9223372036854775807) : w64 n = n := by
  show (if (true && decide (n % 18446744073709551616 ≥ 9223372036854775808)) = true then n % 18446744073709551616 - 18446744073709551616 else n % 18446744073709551616) = n
  split
  · rename_i h; simp only [Bool.true_and, decide_eq_true_eq] at h; omega
  · rename_i h; simp only [Bool.true_and, decide_eq_true_eq] at h; omega
theorem getD_map_lt {α β : Type} (f : α → β) {l : List α} {i : Nat} (h : i < l.length) (d : β) : (l.map f).getD i d = f l[i] := by
  rw [List.getD_eq_getElem?_getD, List.getElem?_map, List.getElem?_eq_getElem h]; rfl
def loopL {α σ : Type} (f : Nat → α → σ → σ ⊕ Out) (fin : σ → Out) : List α → Nat → σ → Out
  | [], _, a => fin a
  | x :: r, i, a => match f i x a with
    | .inl b => loopL f fin r (i + 1) b
    | .inr o => o
def Out.stops : Out → Prop | .again _ => False | _ => True
theorem lim_stop {body : List C → R} {xs : List C} {o : Out} (h : body xs = some o) (ho : o.stops) : lim body xs = some o := by
  cases o with
  | ret ys => exact lim_ret h
  | brk i ys => exact lim_brk h
  | nrm ys => exact lim_of_iter (k := 1) (by simp only [iter, h])
  | again ys => exact ho.elim
def StepOk {σ : Type} (body : List C → R) (S : Nat → σ → List C) (Inv : Nat → σ → Prop) (i : Nat) (a : σ) : σ ⊕ Out → Prop
  | .inl b => body (S i a) = some (.again (S (i + 1) b)) ∧ Inv (i + 1) b
  | .inr o => body (S i a) = some o ∧ o.stops
theorem lim_list {α σ : Type} {l : List α} {body : List C → R} {S : Nat → σ → List C} (Inv : Nat → σ → Prop) (f : Nat → α → σ → σ ⊕ Out) (fin : σ → Out)
    (hstep : ∀ (i : Nat) (a : σ) (h : i < l.length), Inv i a → StepOk body S Inv i a (f i l[i] a))
    (hend : ∀ a, Inv l.length a → body (S l.length a) = some (fin a) ∧ (fin a).stops) :
    ∀ (n i : Nat) (a : σ), n + i = l.length → Inv i a → lim body (S i a) = some (loopL f fin (l.drop i) i a)
  | 0, i, a, hn, ha => by
    have : i = l.length := by omega
    subst this
    obtain ⟨h1, h2⟩ := hend a ha
    rw [lim_stop h1 h2, List.drop_length]; rfl
  | n + 1, i, a, hn, ha => by
    have hi : i < l.length := by omega
    have hs := hstep i a hi ha
    rw [List.drop_eq_getElem_cons hi]
    show _ = some (match f i l[i] a with
      | .inl b => loopL f fin (l.drop (i + 1)) (i + 1) b
      | .inr o => o)
    cases hf : f i l[i] a with
    | inl b =>
      rw [hf] at hs
      rw [lim_again hs.1]
      exact lim_list Inv f fin hstep hend n (i + 1) b (by omega) hs.2
    | inr o =>
      rw [hf] at hs
      exact lim_stop hs.1 hs.2
end Go.Ev
set_option maxRecDepth 100000
namespace Go.Ev
open Go.Proofs
def zi : Sk := .d (.int .i64)
def zt : Sk := .d .str
def zo : Sk := .d .bool
def zl (n : Nat) : Sk := .d (.sl n)
def z0 : BSk := .var 27 [zi, (zl 48), (zl 58), (zl 55)]
def z1 : BSk := .var 38 [zt, zi, zi, zi, zi, zo, (zl 79), zo]
def z2 : Sk := (.ag [zi, (zl 48), (zl 58), (zl 55)])
def z3 : BSk := .var 48 [zt, zi, zo, zi, zi, zi, zi, zi, zi, zi, zi, zi, zi]
def z4 : BSk := .var 27 [zi, (.ow 2001), (.ow 2002), (.ow 2003)]
def z5 : BSk := .var 27 [zi, (.ow 1138400), (.ow 1138401), (.ow 1138402)]
def z6 : Sk := (.ag [zt, zi, zo, zi, zi, zi, zi, zi, zi, zi, zi, zi, zi])
def z7 : BSk := .var 63 [(zl 5), zi]
def z8 : BSk := .var 115 [zi, zt, zi, zo, zi, zi, zi, zi, zi, zi, zi, zi, zi, zi, zt, zi, zo]
def z9 : Sk := (.ag [zt, zi, zi, zi, zi, zo, (zl 79), zo])
def z10 : BSk := .var 100 [(zl 27), zi, (zl 48), (zl 58), (zl 55)]
def z11 : BSk := .var 70 [zi, zi, zi, zi, zi]
def z12 : BSk := .var 58 [zt, zi, zi, zi, zi, zo, zt]
def z13 : BSk := .var 27 [zi, (.ow 371640), (.ow 371641), (.ow 371642)]
def z14 : Sk := (.ag [zt, zi, zi, zi, zi, zo, zt])
def z15 : BSk := .var 46 [(.d (.pt 48))]
def z16 : BSk := .var 38 [zt, zi, zi, zi, zi, zo, (.ow 2001), zo]
def z17 : Sk := (.ag [(zl 27), zi, (zl 48), (zl 58), (zl 55)])
def z18 : BSk := .var 100 [(.ow 1017000), zi, (.ow 1017001), (.ow 1017002), (.ow 1017003)]
def z19 : BSk := .var 27 [zi, (.ow 1062500), (.ow 1062501), (.ow 1062502)]
def z20 : BSk := .var 38 [zt, zi, zi, zi, zi, zo, (.ow 1231400), zo]
def z21 : BSk := .var 38 [zt, zi, zi, zi, zi, zo, (.ow 1231401), zo]
def z22 : BSk := .var 100 [(.ow 1180400), zi, (.ow 1180401), (.ow 1180402), (.ow 1180403)]
def z23 : Sk := (.ag [zi, (.ow 3000), (.ow 3001), (.ow 3002)])
def z24 : Sk := (.ag [zi, zt, zi, zo, zi, zi, zi, zi, zi, zi, zi, zi, zi, zi, zt, zi, zo])
def T0 : Tys := [(1, ⟨.fn, [.fn], 8⟩),
  (2, ⟨(.int .i64), [(.int .i64)], 8⟩),
  (3, ⟨(.int .i64), [(.int .i64)], 8⟩),
  (4, ⟨.bool, [.bool], 1⟩),
  (5, ⟨(.int .u8), [(.int .u8)], 1⟩),
  (6, ⟨(.int .u8), [(.int .u8)], 1⟩),
  (7, ⟨(.st [(0, 2), (1, 3), (2, 4), (3, 6)]), [(.int .i64), (.int .i64), .bool, (.int .u8)], 24⟩),
  (8, ⟨(.st [(0, 2), (1, 3), (2, 4), (3, 6)]), [(.int .i64), (.int .i64), .bool, (.int .u8)], 24⟩),
  (9, ⟨.str, [.str], 16⟩),
  (10, ⟨.str, [.str], 16⟩),
  (11, ⟨.str, [.str], 16⟩),
  (12, ⟨(.int .u64), [(.int .u64)], 8⟩),
  (13, ⟨(.st [(0, 9), (1, 12)]), [.str, (.int .u64)], 24⟩),
  (14, ⟨(.st [(0, 9), (1, 12)]), [.str, (.int .u64)], 24⟩),
  (15, ⟨(.pt 137), [(.pt 137)], 8⟩),
  (16, ⟨(.pt 140), [(.pt 140)], 8⟩),
  (17, ⟨(.pt 150), [(.pt 150)], 8⟩),
  (18, ⟨(.st [(0, 17)]), [(.pt 150)], 8⟩),
  (19, ⟨(.st [(0, 17)]), [(.pt 150)], 8⟩),
  (21, ⟨(.int .i32), [(.int .i32)], 4⟩),
  (22, ⟨(.sl 5), [(.sl 5)], 24⟩),
  (23, ⟨(.sl 48), [(.sl 48)], 24⟩),
  (24, ⟨(.sl 58), [(.sl 58)], 24⟩),
  (25, ⟨(.sl 55), [(.sl 55)], 24⟩),
  (26, ⟨(.st [(0, 3), (1, 23), (2, 24), (3, 25)]), [(.int .i64), (.sl 48), (.sl 58), (.sl 55)], 80⟩),
  (27, ⟨(.st [(0, 3), (1, 23), (2, 24), (3, 25)]), [(.int .i64), (.sl 48), (.sl 58), (.sl 55)], 80⟩),
  (29, ⟨.fn, [.fn], 8⟩),
  (30, ⟨(.sl 38), [(.sl 38)], 24⟩),
  (31, ⟨.fn, [.fn], 8⟩),
  (32, ⟨.fn, [.fn], 8⟩),
  (33, ⟨.fn, [.fn], 8⟩),
  (35, ⟨.fn, [.fn], 8⟩),
  (36, ⟨(.sl 79), [(.sl 79)], 24⟩),
  (37, ⟨(.st [(0, 9), (1, 3), (2, 3), (3, 3), (4, 3), (5, 4), (6, 36), (7, 4)]), [.str, (.int .i64), (.int .i64), (.int .i64), (.int .i64), .bool, (.sl 79), .bool], 88⟩),
  (38, ⟨(.st [(0, 9), (1, 3), (2, 3), (3, 3), (4, 3), (5, 4), (6, 36), (7, 4)]), [.str, (.int .i64), (.int .i64), (.int .i64), (.int .i64), .bool, (.sl 79), .bool], 88⟩),
  (39, ⟨.fn, [.fn], 8⟩),
  (40, ⟨(.pt 63), [(.pt 63)], 8⟩),
  (41, ⟨.fn, [.fn], 8⟩),
  (42, ⟨.fn, [.fn], 8⟩),
  (43, ⟨.fn, [.fn], 8⟩),
  (45, ⟨.fn, [.fn], 8⟩),
  (46, ⟨(.pt 48), [(.pt 48)], 8⟩),
  (47, ⟨(.st [(0, 9), (1, 3), (2, 4), (3, 3), (4, 3), (5, 3), (6, 3), (7, 3), (8, 3), (9, 3), (10, 3), (11, 3), (12, 3)]), [.str, (.int .i64), .bool, (.int .i64), (.int .i64), (.int .i64), (.int .i64), (.int .i64), (.int .i64), (.int .i64), (.int .i64), (.int .i64), (.int .i64)], 112⟩),
  (48, ⟨(.st [(0, 9), (1, 3), (2, 4), (3, 3), (4, 3), (5, 3), (6, 3), (7, 3), (8, 3), (9, 3), (10, 3), (11, 3), (12, 3)]), [.str, (.int .i64), .bool, (.int .i64), (.int .i64), (.int .i64), (.int .i64), (.int .i64), (.int .i64), (.int .i64), (.int .i64), (.int .i64), (.int .i64)], 112⟩),
  (49, ⟨.fn, [.fn], 8⟩),
  (50, ⟨.fn, [.fn], 8⟩),
  (51, ⟨.fn, [.fn], 8⟩),
  (52, ⟨.fn, [.fn], 8⟩),
  (53, ⟨.fn, [.fn], 8⟩),
  (54, ⟨(.st [(0, 9), (1, 4)]), [.str, .bool], 24⟩),
  (55, ⟨(.st [(0, 9), (1, 4)]), [.str, .bool], 24⟩),
  (56, ⟨.fn, [.fn], 8⟩),
  (57, ⟨(.st [(0, 9), (1, 3), (2, 3), (3, 3), (4, 3), (5, 4), (6, 9)]), [.str, (.int .i64), (.int .i64), (.int .i64), (.int .i64), .bool, .str], 72⟩),
  (58, ⟨(.st [(0, 9), (1, 3), (2, 3), (3, 3), (4, 3), (5, 4), (6, 9)]), [.str, (.int .i64), (.int .i64), (.int .i64), (.int .i64), .bool, .str], 72⟩),
  (59, ⟨.fn, [.fn], 8⟩),
  (60, ⟨.fn, [.fn], 8⟩),
  (61, ⟨.fn, [.fn], 8⟩),
  (62, ⟨(.st [(0, 22), (1, 3)]), [(.sl 5), (.int .i64)], 32⟩),
  (63, ⟨(.st [(0, 22), (1, 3)]), [(.sl 5), (.int .i64)], 32⟩),
  (64, ⟨.fn, [.fn], 8⟩),
  (65, ⟨.fn, [.fn], 8⟩),
  (66, ⟨(.pt 55), [(.pt 55)], 8⟩),
  (67, ⟨.fn, [.fn], 8⟩),
  (68, ⟨(.pt 27), [(.pt 27)], 8⟩),
  (69, ⟨(.st [(0, 3), (1, 3), (2, 3), (3, 3), (4, 3)]), [(.int .i64), (.int .i64), (.int .i64), (.int .i64), (.int .i64)], 40⟩),
  (70, ⟨(.st [(0, 3), (1, 3), (2, 3), (3, 3), (4, 3)]), [(.int .i64), (.int .i64), (.int .i64), (.int .i64), (.int .i64)], 40⟩),
  (71, ⟨.fn, [.fn], 8⟩),
  (72, ⟨.fn, [.fn], 8⟩),
  (73, ⟨.fn, [.fn], 8⟩),
  (74, ⟨.fn, [.fn], 8⟩),
  (75, ⟨.fn, [.fn], 8⟩),
  (76, ⟨(.pt 58), [(.pt 58)], 8⟩),
  (77, ⟨.fn, [.fn], 8⟩),
  (78, ⟨(.st [(0, 3), (1, 3)]), [(.int .i64), (.int .i64)], 16⟩),
  (79, ⟨(.st [(0, 3), (1, 3)]), [(.int .i64), (.int .i64)], 16⟩),
  (80, ⟨.fn, [.fn], 8⟩),
  (81, ⟨.fn, [.fn], 8⟩),
  (82, ⟨.fn, [.fn], 8⟩),
  (83, ⟨.fn, [.fn], 8⟩),
  (84, ⟨.fn, [.fn], 8⟩),
  (85, ⟨.fn, [.fn], 8⟩),
  (86, ⟨(.sl 3), [(.sl 3)], 24⟩),
  (87, ⟨.fn, [.fn], 8⟩),
  (88, ⟨.fn, [.fn], 8⟩),
  (89, ⟨.fn, [.fn], 8⟩),
  (90, ⟨.fn, [.fn], 8⟩),
  (91, ⟨.fn, [.fn], 8⟩),
  (92, ⟨.fn, [.fn], 8⟩),
  (93, ⟨.fn, [.fn], 8⟩),
  (94, ⟨.fn, [.fn], 8⟩),
  (95, ⟨.fn, [.fn], 8⟩),
  (96, ⟨.fn, [.fn], 8⟩),
  (97, ⟨.fn, [.fn], 8⟩),
  (98, ⟨(.sl 27), [(.sl 27)], 24⟩),
  (99, ⟨(.st [(0, 98), (1, 27)]), [(.sl 27), (.int .i64), (.sl 48), (.sl 58), (.sl 55)], 104⟩),
  (100, ⟨(.st [(0, 98), (1, 27)]), [(.sl 27), (.int .i64), (.sl 48), (.sl 58), (.sl 55)], 104⟩),
  (101, ⟨.fn, [.fn], 8⟩),
  (102, ⟨(.sl 9), [(.sl 9)], 24⟩),
  (103, ⟨.fn, [.fn], 8⟩),
  (104, ⟨.fn, [.fn], 8⟩),
  (105, ⟨.fn, [.fn], 8⟩),
  (106, ⟨.fn, [.fn], 8⟩),
  (107, ⟨.fn, [.fn], 8⟩),
  (108, ⟨.fn, [.fn], 8⟩),
  (109, ⟨.fn, [.fn], 8⟩),
  (110, ⟨.fn, [.fn], 8⟩),
  (111, ⟨.fn, [.fn], 8⟩),
  (113, ⟨.fn, [.fn], 8⟩),
  (114, ⟨(.st [(0, 3), (1, 48), (14, 9), (15, 3), (16, 4)]), [(.int .i64), .str, (.int .i64), .bool, (.int .i64), (.int .i64), (.int .i64), (.int .i64), (.int .i64), (.int .i64), (.int .i64), (.int .i64), (.int .i64), (.int .i64), .str, (.int .i64), .bool], 152⟩),
  (115, ⟨(.st [(0, 3), (1, 48), (14, 9), (15, 3), (16, 4)]), [(.int .i64), .str, (.int .i64), .bool, (.int .i64), (.int .i64), (.int .i64), (.int .i64), (.int .i64), (.int .i64), (.int .i64), (.int .i64), (.int .i64), (.int .i64), .str, (.int .i64), .bool], 152⟩),
  (116, ⟨(.st [(0, 3), (1, 3), (2, 115)]), [(.int .i64), (.int .i64), (.int .i64), .str, (.int .i64), .bool, (.int .i64), (.int .i64), (.int .i64), (.int .i64), (.int .i64), (.int .i64), (.int .i64), (.int .i64), (.int .i64), (.int .i64), .str, (.int .i64), .bool], 168⟩),
  (117, ⟨(.st [(0, 3), (1, 3), (2, 115)]), [(.int .i64), (.int .i64), (.int .i64), .str, (.int .i64), .bool, (.int .i64), (.int .i64), (.int .i64), (.int .i64), (.int .i64), (.int .i64), (.int .i64), (.int .i64), (.int .i64), (.int .i64), .str, (.int .i64), .bool], 168⟩),
  (118, ⟨.fn, [.fn], 8⟩),
  (119, ⟨.fn, [.fn], 8⟩),
  (120, ⟨.fn, [.fn], 8⟩),
  (121, ⟨.fn, [.fn], 8⟩),
  (122, ⟨.fn, [.fn], 8⟩),
  (123, ⟨.fn, [.fn], 8⟩),
  (124, ⟨.fn, [.fn], 8⟩),
  (125, ⟨.fn, [.fn], 8⟩),
  (126, ⟨.fn, [.fn], 8⟩),
  (127, ⟨.fn, [.fn], 8⟩),
  (128, ⟨.fn, [.fn], 8⟩),
  (129, ⟨.fn, [.fn], 8⟩),
  (130, ⟨.fn, [.fn], 8⟩),
  (131, ⟨.fn, [.fn], 8⟩),
  (132, ⟨.fn, [.fn], 8⟩),
  (133, ⟨.fn, [.fn], 8⟩),
  (134, ⟨.fn, [.fn], 8⟩),
  (135, ⟨.fn, [.fn], 8⟩),
  (136, ⟨(.st [(0, 17), (1, 17), (2, 17), (3, 9)]), [(.pt 150), (.pt 150), (.pt 150), .str], 40⟩),
  (137, ⟨(.st [(0, 17), (1, 17), (2, 17), (3, 9)]), [(.pt 150), (.pt 150), (.pt 150), .str], 40⟩),
  (141, ⟨.fn, [.fn], 8⟩),
  (142, ⟨(.int .u32), [(.int .u32)], 4⟩),
  (143, ⟨(.int .u8), [(.int .u8)], 1⟩),
  (144, ⟨(.int .u8), [(.int .u8)], 1⟩),
  (145, ⟨.fn, [.fn], 8⟩),
  (146, ⟨(.pt 5), [(.pt 5)], 8⟩),
  (147, ⟨(.int .i32), [(.int .i32)], 4⟩),
  (148, ⟨(.int .i32), [(.int .i32)], 4⟩),
  (149, ⟨(.st [(0, 12), (1, 12), (2, 142), (3, 143), (4, 5), (5, 5), (6, 144), (7, 145), (8, 146), (9, 147), (10, 148)]), [(.int .u64), (.int .u64), (.int .u32), (.int .u8), (.int .u8), (.int .u8), (.int .u8), .fn, (.pt 5), (.int .i32), (.int .i32)], 48⟩),
  (150, ⟨(.st [(0, 12), (1, 12), (2, 142), (3, 143), (4, 5), (5, 5), (6, 144), (7, 145), (8, 146), (9, 147), (10, 148)]), [(.int .u64), (.int .u64), (.int .u32), (.int .u8), (.int .u8), (.int .u8), (.int .u8), .fn, (.pt 5), (.int .i32), (.int .i32)], 48⟩)]
def eqT0 : List Nat := [79]
theorem base0 : Base Try.checked.prog T0 eqT0 := Base.of (by kernel_rfl) (by kernel_rfl) (by kernel_rfl)
end Go.Ev
namespace Go.Ev
open Go.Proofs Go.RowKit Go.Lib
section
variable {P : Program}
theorem wp_copy_runK (w : World) {o : Oper} {a : Act} {K : Act → World → Prop} {Q : Exit → Act → World → Prop} (d s : Operand) (t t' : TypeId)
    (ho : o.op = .call { callee := .builtin .copy, args := #[d, s], argTypes := #[t, t'] }) (v u : Value) (hd : a.eval d = v) (hs : a.eval s = u) {v' : Value} {w' : World}
    (hr : (Builtin.copy_ #[t, t'] o.type #[v, u]).run P w = .ok v' w') (h : K (a.put o.dst v') w') : o.wp P a w K Q := by
  unfold Oper.wp execOp
  simp only [ho, resolve, invoke, builtin, Sem.run_bind, Sem.run_pure, Result.andThen_ok, List.map_toArray, List.map_cons, List.map_nil, hd, hs, hr]
  exact h
theorem wpList_copy_runK (w : World) {ops : Array Oper} {rest : List Oper} {o : Oper} {a : Act} {Q : Exit → Act → World → Prop} (hgd : o.guard = none) (d s : Operand) (t t' : TypeId)
    (ho : o.op = .call { callee := .builtin .copy, args := #[d, s], argTypes := #[t, t'] }) (v u : Value) (hd : a.eval d = v) (hs : a.eval s = u) {v' : Value} {w' : World}
    (hr : (Builtin.copy_ #[t, t'] o.type #[v, u]).run P w = .ok v' w') (h : wpList P ops Q rest (a.put o.dst v') w') : wpList P ops Q (o :: rest) a w :=
  wpList_plain hgd fun _ hK => wp_copy_runK w d s t t' ho v u hd hs hr (hK _ _ h)
theorem step_copy_runK {ops : Array Oper} {o : Oper} {a : Act} {w : World} {K : Act → World → Prop} {Q : Exit → Act → World → Prop} {E : Prop}
    (hg : o.guard = none) (d x : Operand) (dT sT : TypeId) (hop : o.op = Op.call { callee := Callee.builtin Builtin.copy, args := #[d, x], argTypes := #[dT, sT] })
    (v u : Value) (hd : a.eval d = v) (hx : a.eval x = u) {v' : Value} {w' : World} (hr : (Builtin.copy_ #[dT, sT] o.type #[v, u]).run P w = .ok v' w') (hK : K (a.put o.dst v') w') :
    if Region.wanted o (yielded ops a.tmps) = true then Oper.wp P o a w K Q else E := by
  have hw : Region.wanted o (yielded ops a.tmps) = true := by simp [Region.wanted, hg]
  rw [if_pos hw]
  unfold Oper.wp
  simp [execOp, hop, resolve, invoke, builtin, hd, hx, hr, Result.andThen]
  exact hK
theorem run_copy_rows (w : World) (dT sT ty elem : TypeId) (i : TypeInfo) (g o dLen dCap : Nat) (a : Addr) (sLen sCap : Nat) (cur : Array Value) (t : TypeId) (cs : List Value)
    (hu : P.underlying dT = some (.slice elem)) (hi : P.info? elem = some i) (hg : w.heap[g]? = some (.cells cur t (0, 0))) (hn : cs.length = Nat.min sLen dLen * i.size)
    (hsrc : ∀ j v, cs[j]? = some v → w.cell? (a.add j) = some v) (hfit : o + cs.length ≤ cur.size) (h1 : ∀ v ∈ cs, v.oneCell' = true) :
    (Builtin.copy_ #[dT, sT] ty #[.slice (some ⟨g, o, none⟩) dLen dCap, .slice (some a) sLen sCap]).run P w =
      .ok (goInt (Nat.min sLen dLen)) (w.setRow g (cur.toList.take o ++ cs ++ cur.toList.drop (o + cs.length)).toArray) := by
  have hl := run_firstCells_some (P := P) w i.size (Nat.min sLen dLen) a sLen sCap cs hn hsrc
  have hst := run_storeCells_at P g o t cs 0 cur w hg (by simpa using hfit) h1
  simp only [Nat.add_zero] at hst
  simp [Builtin.copy_, run_underlying hu, Builtin.lenOf, sizeOf, typeInfo, hi, hl, hst]
end
theorem info58 : (Try.prog.info? 58).map (fun i => (i.zero, i.size, i.bytes)) = some (some (Value.agg #[.string ByteArray.empty, .int .i64 0, .int .i64 0, .int .i64 0, .int .i64 0, .bool false, .string ByteArray.empty]), 7, 72) := by kernel_rfl
theorem hov57 (w : World) (g gv off m vc lb cb : Nat) (cs csv : Array Value) (hne : gv ≠ g) (hg : w.heap[g]? = some (.cells cs 58 (0, 0))) (hgv : w.heap[gv]? = some (.cells csv 58 (0, 0))) (h0 : cs.size ≠ 0) :
    (callFunc 69 #[.slice (some ⟨gv, 0, none⟩) m vc, .slice (some ⟨g, off, none⟩) lb cb]).run Try.prog w = .ok (.value (.bool false)) w := by
  have hz : ∀ w, (Go.sizeOf 58).run Try.prog w = .ok 7 w := by
    intro w
    obtain ⟨i0, hi0, h0⟩ := Option.map_eq_some_iff.1 info58
    have hs : i0.size = 7 := (Prod.mk.inj (Prod.mk.inj h0).2).1
    simp [Go.sizeOf, typeInfo, hi0, hs]
  have hsa : w.shape? gv = some (58, csv.size) := by simp [World.shape?, hgv]
  have hsb : w.shape? g = some (58, cs.size) := by simp [World.shape?, hg]
  rw [run_callFunc_extern Try.func69 (by kernel_rfl) (by kernel_rfl) (by kernel_rfl) (e := Extern.SlicesOverlaps.overlaps #[24, 24] #[4]) (by kernel_rfl),
    Lib.run_overlaps_apart w 24 4 58 Try.underlying24 7 hz ⟨gv, 0, none⟩ ⟨g, off, none⟩ m vc lb cb hne 58 58 csv.size cs.size hsa hsb h0 (by simp [World.frozen?, hgv]) (by simp [World.frozen?, hgv])]
  rfl
theorem shift_list {α : Type} {cs vs : List α} {n i c d : Nat} (hi : i < n) (hc : cs.length = c * d) (hroom : n + 1 ≤ c) (hv : vs.length = d) :
    let seg := (cs.take (n * d)).drop (i * d)
    let r1 := cs.take ((i + 1) * d) ++ seg ++ cs.drop ((i + 1) * d + seg.length)
    let r2 := r1.take (i * d) ++ vs ++ r1.drop (i * d + vs.length)
    seg.length = (n - i) * d ∧ (i + 1) * d + seg.length ≤ cs.length ∧ r1.length = cs.length ∧ i * d + vs.length ≤ r1.length ∧ r2.length = cs.length ∧ r2.take ((n + 1) * d) = cs.take (i * d) ++ vs ++ seg := by
  intro seg r1 r2
  have m1 : (i + 1) * d = i * d + d := Nat.succ_mul i d
  have m2 : (n + 1) * d = n * d + d := Nat.succ_mul n d
  have m3 : (n - i) * d = n * d - i * d := Nat.sub_mul n i d
  have m4 : (n + 1) * d ≤ c * d := Nat.mul_le_mul_right d hroom
  have m5 : (i + 1) * d ≤ n * d := Nat.mul_le_mul_right d hi
  have s1 : seg.length = (n - i) * d := by simp only [seg, List.length_drop, List.length_take]; omega
  have s2 : (i + 1) * d + seg.length ≤ cs.length := by omega
  have s3 : r1.length = cs.length := by simp only [r1, List.length_append, List.length_take, List.length_drop]; omega
  have s4 : i * d + vs.length ≤ r1.length := by omega
  have s5 : r2.length = cs.length := by simp only [r2, List.length_append, List.length_take, List.length_drop]; omega
  refine ⟨s1, s2, s3, s4, s5, ?_⟩
  have t1 : r1.take (i * d) = cs.take (i * d) := by
    simp only [r1]
    rw [List.append_assoc, List.take_append_of_le_length (by simp; omega), List.take_take]
    congr 1; omega
  have t2 : r1.drop (i * d + vs.length) = seg ++ cs.drop ((i + 1) * d + seg.length) := by
    simp only [r1]
    rw [List.append_assoc, List.drop_append_of_le_length (by simp; omega), List.drop_take]
    have : (i + 1) * d - (i * d + vs.length) = 0 := by omega
    rw [this]; simp
  simp only [r2]
  rw [t1, t2, ← List.append_assoc, List.take_append_of_le_length (by simp; omega), List.take_of_length_le (by simp; omega)]
set_option maxHeartbeats 4000000 in
set_option maxRecDepth 100000 in
theorem ins_shift (g n c i gv cv : Nat) (cs csv : Array Value) (w : World) (hi : i < n) (hroom : n + 1 ≤ c) (hc63 : c ≤ 9223372036854775807) (hne : gv ≠ g)
    (hg : w.heap[g]? = some (.cells cs 58 (0, 0))) (hcs : cs.size = c * 7) (hgv : w.heap[gv]? = some (.cells csv 58 (0, 0))) (hcv : csv.size = cv * 7) (h1v : 1 ≤ cv)
    (h1 : ∀ v ∈ cs.toList.take (n * 7), v.oneCell' = true) (h1' : ∀ v ∈ csv.toList.take 7, v.oneCell' = true) :
    Calls Try.prog 57 #[.slice (some ⟨g, 0, none⟩) n c, .int .i64 i, .slice (some ⟨gv, 0, none⟩) 1 cv] w fun e w' =>
      e = .returned (.slice (some ⟨g, 0, none⟩) (n + 1) c) ∧ ∃ cs', w' = w.drew.setRow g cs' ∧ cs'.size = cs.size ∧ cs'.toList.take ((n + 1) * 7) = cs.toList.take (i * 7) ++ csv.toList.take 7 ++ (cs.toList.take (n * 7)).drop (i * 7) := by
  have hu24 := Try.underlying24
  have mixed : Try.prog.follows .mixedOrders = true := base0.mixed
  have hu3 := Try.underlying3
  have hz1 : ¬ ((i : Int) = (n : Int)) := by omega
  have hw1 : IntKind.i64.wrap ((i : Int) + 1) = (i : Int) + 1 := by rw [IntKind.wrap_i64]; omega
  obtain ⟨i0, hi0, h00⟩ := Option.map_eq_some_iff.1 info58
  have hs0 : i0.size = 7 := (Prod.mk.inj (Prod.mk.inj h00).2).1
  have hvl : (csv.toList.take 7).length = 7 := by simp; omega
  obtain ⟨p1, p2, p3, p4, p5, p6⟩ := shift_list (cs := cs.toList) (vs := csv.toList.take 7) (n := n) (i := i) (c := c) (d := 7) hi (by simpa using hcs) hroom hvl
  have hov := fun lb cb => hov57 w g gv ((i + 1) * 7) 1 cv lb cb cs csv hne hg hgv (by omega)
  generalize hseg : (cs.toList.take (n * 7)).drop (i * 7) = seg at *
  have hgd : w.drew.heap[g]? = some (.cells cs 58 (0, 0)) := hg
  have hcp1 : ∀ ty dc sc, (Builtin.copy_ #[24, 24] ty #[.slice (some ⟨g, (i + 1) * 7, none⟩) (n - i) dc, .slice (some ⟨g, i * 7, none⟩) (n + 1 - i) sc]).run Try.prog w.drew = .ok (goInt (Nat.min (n + 1 - i) (n - i))) (w.drew.setRow g (cs.toList.take ((i + 1) * 7) ++ seg ++ cs.toList.drop ((i + 1) * 7 + seg.length)).toArray) := fun ty dc sc => by
    refine run_copy_rows w.drew 24 24 ty 58 i0 g ((i + 1) * 7) (n - i) dc ⟨g, i * 7, none⟩ (n + 1 - i) sc cs 58 seg Try.underlying24 hi0 hgd ?_ ?_ (by simpa using p2) ?_
    · rw [p1, hs0]; congr 1; simp only [Nat.min_def]; split <;> omega
    · intro j v hj
      rw [← hseg, List.getElem?_drop, List.getElem?_take] at hj
      split at hj
      · rw [Addr.add_lit]
        simpa [World.cell?, hgd] using hj
      · cases hj
    · intro v hv; rw [← hseg] at hv; exact h1 v (List.mem_of_mem_drop hv)
  generalize hr1 : cs.toList.take ((i + 1) * 7) ++ seg ++ cs.toList.drop ((i + 1) * 7 + seg.length) = r1 at *
  obtain ⟨W1, hW1⟩ : ∃ W1, W1 = w.drew.setRow g r1.toArray := ⟨_, rfl⟩
  rw [← hW1] at hcp1
  have hW1g : W1.heap[g]? = some (.cells r1.toArray 58 (0, 0)) := by rw [hW1]; exact setRow_heap w.drew g cs _ 58 _ hgd
  have hW1v : W1.heap[gv]? = some (.cells csv 58 (0, 0)) := by rw [hW1, setRow_other w.drew g gv _ hne]; exact hgv
  have hcp2 : ∀ ty dc, (Builtin.copy_ #[24, 24] ty #[.slice (some ⟨g, i * 7, none⟩) (n + 1 - i) dc, .slice (some ⟨gv, 0, none⟩) 1 cv]).run Try.prog W1 = .ok (goInt (Nat.min 1 (n + 1 - i))) (W1.setRow g (r1.toArray.toList.take (i * 7) ++ csv.toList.take 7 ++ r1.toArray.toList.drop (i * 7 + (csv.toList.take 7).length)).toArray) := fun ty dc => by
    refine run_copy_rows W1 24 24 ty 58 i0 g (i * 7) (n + 1 - i) dc ⟨gv, 0, none⟩ 1 cv r1.toArray 58 (csv.toList.take 7) Try.underlying24 hi0 hW1g ?_ ?_ (by simpa using p4) h1'
    · rw [hvl, hs0]; simp only [Nat.min_def]; split <;> omega
    · intro j v hj
      rw [List.getElem?_take] at hj
      split at hj
      · rw [Addr.add_lit]
        simpa [World.cell?, hW1v] using hj
      · cases hj
  subst hW1
  have hb1 : (0 : Int) ≤ (i : Int) + 1 := by omega
  have hin : i ≤ n := by omega
  have htn : ((i : Int) + 1).toNat = i + 1 := by omega
  have hb2 : ¬ (c = i + 1) := by omega
  have hb3 : (i : Int) ≤ (n : Int) + 1 := by omega
  have hb4 : ¬ (c = i) := by omega
  go_enter Try.func57, Try.ntmps57
  go_wp2_with (simp only [hov])
  go_region_law_o (refine step_copy_runK rfl _ _ 24 24 rfl _ _ (by simp [Act.eval, Act.put]) (by simp [Act.eval, Act.put]) (hcp1 _ _ _) ?_)
  go_wp2_with (at_builtin; refine wpList_copy_runK _ rfl _ _ 24 24 rfl _ _ rfl rfl (hcp2 _ _) ?_)
  go_ret
  refine ⟨rfl, _, by rw [setRow_setRow], ?_, ?_⟩
  · rw [hvl] at p5; simpa using p5
  · rw [hvl] at p6; simpa using p6
end Go.Ev
namespace Go.Ev
open Go.Proofs Go.RowKit Go.Lib
theorem grow_list {α : Type} {cs vs z1 z2 : List α} {n i d : Nat} (hi : i < n) (hc : n * d ≤ cs.length) (hv : vs.length = d) (hz1 : z1.length = (n + 1 - i) * d) :
    let row := cs.take (i * d) ++ z1 ++ z2
    let r1 := row.take (i * d) ++ vs ++ row.drop (i * d + vs.length)
    let seg := (cs.take (n * d)).drop (i * d)
    let r2 := r1.take ((i + 1) * d) ++ seg ++ r1.drop ((i + 1) * d + seg.length)
    seg.length = (n - i) * d ∧ i * d + vs.length ≤ row.length ∧ r1.length = row.length ∧ (i + 1) * d + seg.length ≤ r1.length ∧ r2.length = row.length ∧ row.length = (n + 1) * d + z2.length ∧ r2.take ((n + 1) * d) = cs.take (i * d) ++ vs ++ seg := by
  intro row r1 seg r2
  have m1 : (i + 1) * d = i * d + d := Nat.succ_mul i d
  have m2 : (n + 1) * d = n * d + d := Nat.succ_mul n d
  have m3 : (n - i) * d = n * d - i * d := Nat.sub_mul n i d
  have m5 : (i + 1) * d ≤ n * d := Nat.mul_le_mul_right d hi
  have m6 : (n + 1 - i) * d = (n + 1) * d - i * d := Nat.sub_mul (n + 1) i d
  have s0 : row.length = (n + 1) * d + z2.length := by simp only [row, List.length_append, List.length_take]; omega
  have s1 : seg.length = (n - i) * d := by simp only [seg, List.length_drop, List.length_take]; omega
  have s2 : i * d + vs.length ≤ row.length := by omega
  have s3 : r1.length = row.length := by simp only [r1, List.length_append, List.length_take, List.length_drop]; omega
  have s4 : (i + 1) * d + seg.length ≤ r1.length := by omega
  have s5 : r2.length = row.length := by simp only [r2, List.length_append, List.length_take, List.length_drop]; omega
  refine ⟨s1, s2, s3, s4, s5, s0, ?_⟩
  have t0 : row.take (i * d) = cs.take (i * d) := by
    simp only [row]
    rw [List.append_assoc, List.take_append_of_le_length (by simp; omega), List.take_take]
    congr 1; omega
  have t1 : r1.take ((i + 1) * d) = cs.take (i * d) ++ vs := by
    simp only [r1]
    rw [t0, List.take_append_of_le_length (by simp; omega), List.take_of_length_le (by simp; omega)]
  simp only [r2]
  rw [t1, List.take_append_of_le_length (by simp; omega), List.take_of_length_le (by simp; omega)]
set_option maxHeartbeats 4000000 in
set_option maxRecDepth 100000 in
theorem ins_grow (g n c i gv cv : Nat) (cs csv : Array Value) (w : World) (hi : i < n) (hnc : n ≤ c) (hroom : c < n + 1) (hn32 : n + 1 ≤ 4294967296) (hne : gv ≠ g)
    (hg : w.heap[g]? = some (.cells cs 58 (0, 0))) (hcs : cs.size = c * 7) (hgv : w.heap[gv]? = some (.cells csv 58 (0, 0))) (hcv : csv.size = cv * 7) (h1v : 1 ≤ cv)
    (h1 : ∀ v ∈ cs.toList.take (n * 7), v.oneCell' = true) (h1' : ∀ v ∈ csv.toList.take 7, v.oneCell' = true) :
    Calls Try.prog 57 #[.slice (some ⟨g, 0, none⟩) n c, .int .i64 i, .slice (some ⟨gv, 0, none⟩) 1 cv] w fun e w' =>
      ∃ G cs', e = .returned (.slice (some ⟨w.heap.size, 0, none⟩) (n + 1) G) ∧ n + 1 ≤ G ∧ G ≤ maxLen ∧ w'.heap[w.heap.size]? = some (.cells cs' 58 (0, 0)) ∧ cs'.size = G * 7 ∧ w'.heap.size = w.heap.size + 1 ∧ (∀ k, k < w.heap.size → w'.heap[k]? = w.heap[k]?) ∧ w'.os = w.os ∧ w'.tape = w.tape ∧ w'.output = w.output ∧
      cs'.toList.take ((n + 1) * 7) = cs.toList.take (i * 7) ++ csv.toList.take 7 ++ (cs.toList.take (n * 7)).drop (i * 7) := by
  have hu24 := Try.underlying24
  have mixed : Try.prog.follows .mixedOrders = true := base0.mixed
  have hu3 := Try.underlying3
  have hz1 : ¬ ((i : Int) = (n : Int)) := by omega
  have hz3 : (c : Int) < (n : Int) + 1 := by omega
  obtain ⟨i0, hi0, h00⟩ := Option.map_eq_some_iff.1 info58
  have hs0 : i0.size = 7 := (Prod.mk.inj (Prod.mk.inj h00).2).1
  have hb0 : i0.bytes = 72 := (Prod.mk.inj (Prod.mk.inj h00).2).2
  have hzz : i0.zero = some (Value.agg #[.string ByteArray.empty, .int .i64 0, .int .i64 0, .int .i64 0, .int .i64 0, .bool false, .string ByteArray.empty]) := (Prod.mk.inj h00).1
  generalize hz : (Value.agg #[.string ByteArray.empty, .int .i64 0, .int .i64 0, .int .i64 0, .int .i64 0, .bool false, .string ByteArray.empty]) = z at hzz
  have hzs : z.cells.size = 7 := by rw [← hz]; rfl
  have hvl : (csv.toList.take 7).length = 7 := by simp; omega
  have hglt : g < w.heap.size := (Array.getElem?_eq_some_iff.1 hg).1
  have hgvlt : gv < w.heap.size := (Array.getElem?_eq_some_iff.1 hgv).1
  have hold : (Builtin.firstCells i0.size i (.slice (some ⟨g, 0, none⟩) i c)).run Try.prog w.drew = .ok (cs.toList.take (i * 7)).toArray w.drew := by
    refine run_firstCells_some w.drew i0.size i ⟨g, 0, none⟩ i c (cs.toList.take (i * 7)) (by rw [hs0]; simp; omega) (fun j v hj => ?_)
    rw [Addr.add_lit]
    rw [List.getElem?_take] at hj
    split at hj
    · have : w.drew.heap[g]? = some (.cells cs 58 (0, 0)) := hg
      simpa [World.cell?, this] using hj
    · cases hj
  have hkk : (n : Int) + 1 - (i : Int) = ((n + 1 - i : Nat) : Int) := by omega
  have hik : i + (n + 1 - i) = n + 1 := by omega
  obtain ⟨G, hG⟩ : ∃ G, G = grownCap w (n + 1) c 58 := ⟨_, rfl⟩
  have hGn : n + 1 ≤ G := by rw [hG]; exact grownCap_ge w _ _ _
  have hGm : G ≤ maxLen := by rw [hG]; exact grownCap_le_maxLen w (n + 1) c 58 (by unfold maxLen; omega)
  have hG63 : G ≤ 9223372036854775807 := by unfold maxLen at hGm; omega
  have hrz : ∀ ty, (Builtin.append_ #[24, 3] ty #[.slice (some ⟨g, 0, none⟩) i c, .int .i64 ((n : Int) + 1 - (i : Int))]).run Try.prog w =
      .ok (.slice (some ⟨w.heap.size, 0, none⟩) (n + 1) (grownCap w (n + 1) c 58)) (w.drew.alloc (.cells ((cs.toList.take (i * 7)).toArray ++ Builtin.zeroCells z.cells (n + 1 - i) ++ Builtin.zeroCells z.cells (grownCap w (n + 1) c 58 - (n + 1))) 58)) := fun ty => by
    have h := Lib.run_append_grow_zeros w 24 3 ty 58 i0 _ .i64 .i64 Try.underlying24 Try.underlying3 hi0 hzz (some ⟨g, 0, none⟩) i c (cs.toList.take (i * 7)) hold (n + 1 - i) (by omega) (by omega) (by omega) (by omega) (by rw [hb0]; omega) (by rw [hb0, hik]; exact growslice_fits hroom (by omega))
    rw [hik] at h
    rw [hkk]
    exact h
  rw [← hG] at hrz
  have gl := grow_list (cs := cs.toList) (vs := csv.toList.take 7) (z1 := (Builtin.zeroCells z.cells (n + 1 - i)).toList) (z2 := (Builtin.zeroCells z.cells (G - (n + 1))).toList) (n := n) (i := i) (d := 7) hi (by simp; omega) hvl (by simp [size_zeroCells, hzs])
  have hz2l : (Builtin.zeroCells z.cells (G - (n + 1))).toList.length = (G - (n + 1)) * 7 := by simp [size_zeroCells, hzs]
  obtain ⟨ROW, hROW⟩ : ∃ ROW : Array Value, ROW = (cs.toList.take (i * 7)).toArray ++ Builtin.zeroCells z.cells (n + 1 - i) ++ Builtin.zeroCells z.cells (G - (n + 1)) := ⟨_, rfl⟩
  rw [← hROW] at hrz
  have hRL : ROW.toList = cs.toList.take (i * 7) ++ (Builtin.zeroCells z.cells (n + 1 - i)).toList ++ (Builtin.zeroCells z.cells (G - (n + 1))).toList := by rw [hROW]; simp
  rw [← hRL] at gl
  obtain ⟨p1, p2, p3, p4, p5, p0, p6⟩ := gl
  have hRs : ROW.size = G * 7 := by
    have : ROW.toList.length = G * 7 := by rw [p0, hz2l]; omega
    simpa using this
  obtain ⟨N, hN⟩ : ∃ N, N = w.heap.size := ⟨_, rfl⟩
  rw [← hN] at hrz hglt hgvlt ⊢
  generalize hr1 : ROW.toList.take (i * 7) ++ csv.toList.take 7 ++ ROW.toList.drop (i * 7 + (csv.toList.take 7).length) = r1 at *
  generalize hseg : (cs.toList.take (n * 7)).drop (i * 7) = seg at *
  have a0 : ∀ W : World, W.heap = w.heap.push (.cells ROW 58 (0, 0)) → W.heap[N]? = some (.cells ROW 58 (0, 0)) ∧ ∀ k, k < N → W.heap[k]? = w.heap[k]? := by
    intro W hW
    rw [hW]
    refine ⟨by rw [hN]; simp, fun k hk => ?_⟩
    rw [Array.getElem?_push, if_neg (by omega)]
  have hcpA : ∀ (W : World), W.heap = w.heap.push (.cells ROW 58 (0, 0)) → ∀ ty dc, (Builtin.copy_ #[24, 24] ty #[.slice (some ⟨N, i * 7, none⟩) (n + 1 - i) dc, .slice (some ⟨gv, 0, none⟩) 1 cv]).run Try.prog W = .ok (goInt (Nat.min 1 (n + 1 - i))) (W.setRow N r1.toArray) := fun W hW ty dc => by
    obtain ⟨b1, b2⟩ := a0 W hW
    have b3 := b2 gv hgvlt
    rw [hgv] at b3
    rw [← hr1]
    refine run_copy_rows W 24 24 ty 58 i0 N (i * 7) (n + 1 - i) dc ⟨gv, 0, none⟩ 1 cv ROW 58 (csv.toList.take 7) Try.underlying24 hi0 b1 ?_ ?_ (by simpa using p2) h1'
    · rw [hvl, hs0]; simp only [Nat.min_def]; split <;> omega
    · intro j v hj
      rw [List.getElem?_take] at hj
      split at hj
      · rw [Addr.add_lit]
        simpa [World.cell?, b3] using hj
      · cases hj
  have hcpB : ∀ (W W' : World), W.heap = w.heap.push (.cells ROW 58 (0, 0)) → W'.heap = (W.setRow N r1.toArray).heap → ∀ ty dc sc, (Builtin.copy_ #[24, 24] ty #[.slice (some ⟨N, (i + 1) * 7, none⟩) (n - i) dc, .slice (some ⟨g, i * 7, none⟩) (n - i) sc]).run Try.prog W' = .ok (goInt (Nat.min (n - i) (n - i))) (W'.setRow N (r1.toArray.toList.take ((i + 1) * 7) ++ seg ++ r1.toArray.toList.drop ((i + 1) * 7 + seg.length)).toArray) := fun W W' hW hW' ty dc sc => by
    obtain ⟨b1, b2⟩ := a0 W hW
    have b3 := b2 g hglt
    rw [hg] at b3
    have b4 : W'.heap[N]? = some (.cells r1.toArray 58 (0, 0)) := by rw [hW']; exact setRow_heap W N ROW _ 58 _ b1
    have b5 : W'.heap[g]? = some (.cells cs 58 (0, 0)) := by rw [hW', setRow_other W N g _ (by omega)]; exact b3
    refine run_copy_rows W' 24 24 ty 58 i0 N ((i + 1) * 7) (n - i) dc ⟨g, i * 7, none⟩ (n - i) sc r1.toArray 58 seg Try.underlying24 hi0 b4 ?_ ?_ (by simpa using p4) ?_
    · rw [p1, hs0]; congr 1; simp
    · intro j v hj
      rw [← hseg, List.getElem?_drop, List.getElem?_take] at hj
      split at hj
      · rw [Addr.add_lit]
        simpa [World.cell?, b5] using hj
      · cases hj
    · intro v hv; rw [← hseg] at hv; exact h1 v (List.mem_of_mem_drop hv)
  have hE1 : ((w.alloc (.cells ROW 58)).drew).heap = w.heap.push (.cells ROW 58 (0, 0)) := rfl
  have hF1 : ((((w.alloc (.cells ROW 58)).drew).setRow N r1.toArray).drew).heap = (((w.alloc (.cells ROW 58)).drew).setRow N r1.toArray).heap := rfl
  have hw1 : IntKind.i64.wrap ((i : Int) + 1) = (i : Int) + 1 := by rw [IntKind.wrap_i64]; omega
  have hb1 : (0 : Int) ≤ (i : Int) + 1 := by omega
  have hin : i ≤ n := by omega
  have htn : ((i : Int) + 1).toNat = i + 1 := by omega
  have hb3 : (i : Int) ≤ (n : Int) := by omega
  have hGi : ¬ (G = i) := by omega
  have hGim : ¬ (G = i + 1) := by omega
  have hci : ¬ (c = i) := by omega
  subst hN
  clear hkk hik hold hROW hG hRL
  go_enter Try.func57, Try.ntmps57
  go_wp2_with (first
    | (at_builtin; refine Lib.wpList_append_run _ rfl _ _ _ _ rfl _ _ rfl rfl _ _ (hrz _) ?_)
    | (at_builtin; refine wpList_copy_runK _ rfl _ _ 24 24 rfl _ _ rfl rfl (hcpA _ hE1 _ _) ?_))
  go_region_law_o (refine step_copy_runK rfl _ _ 24 24 rfl (.slice (some ⟨w.heap.size, (i + 1) * 7, none⟩) (n - i) (G - (i + 1))) (.slice (some ⟨g, i * 7, none⟩) (n - i) (c - i)) (by simp [Act.eval, Act.put]) (by simp [Act.eval, Act.put]) (hcpB _ _ hE1 hF1 3 (G - (i + 1)) (c - i)) ?_)
  go_wp2
  go_ret
  have q1 := (a0 _ hE1).1
  have q2 := (a0 _ hE1).2
  refine ⟨G, _, rfl, hGn, hGm, setRow_heap _ w.heap.size r1.toArray _ 58 _ (by show (((w.alloc (.cells ROW 58)).drew).setRow w.heap.size r1.toArray).heap[w.heap.size]? = _; exact setRow_heap _ _ ROW _ 58 _ q1), ?_, ?_, ?_, rfl, rfl, rfl, ?_⟩
  · rw [p1] at p5; simpa [hRs] using p5
  · simp [World.setRow]
  · intro k hk
    rw [setRow_other _ _ _ _ (by omega)]
    show (((w.alloc (.cells ROW 58)).drew).setRow w.heap.size r1.toArray).heap[k]? = _
    rw [setRow_other _ _ _ _ (by omega)]
    exact q2 k hk
  · rw [p1] at p6; simpa using p6
set_option maxHeartbeats 4000000 in
set_option maxRecDepth 100000 in
theorem ins_end (g n c gv cv : Nat) (cs csv : Array Value) (w : World) (hnc : n ≤ c) (hcm : c ≤ maxLen) (hn32 : n + 1 ≤ 4294967296)
    (hg : w.heap[g]? = some (.cells cs 58 (0, 0))) (hcs : cs.size = c * 7) (hgv : w.heap[gv]? = some (.cells csv 58 (0, 0))) (hcv : csv.size = cv * 7) (h1v : 1 ≤ cv)
    (h1' : ∀ v ∈ csv.toList.take 7, v.oneCell' = true) :
    Calls Try.prog 57 #[.slice (some ⟨g, 0, none⟩) n c, .int .i64 (n : Nat), .slice (some ⟨gv, 0, none⟩) 1 cv] w fun e w' =>
      (∃ cs', e = .returned (.slice (some ⟨g, 0, none⟩) (n + 1) c) ∧ n + 1 ≤ c ∧ w' = w.setRow g cs' ∧ cs'.size = cs.size ∧ cs'.toList.take ((n + 1) * 7) = cs.toList.take (n * 7) ++ csv.toList.take 7) ∨
      ∃ G cs', e = .returned (.slice (some ⟨w.heap.size, 0, none⟩) (n + 1) G) ∧ n + 1 ≤ G ∧ G ≤ maxLen ∧ w'.heap[w.heap.size]? = some (.cells cs' 58 (0, 0)) ∧ cs'.size = G * 7 ∧ w'.heap.size = w.heap.size + 1 ∧ (∀ k, k < w.heap.size → w'.heap[k]? = w.heap[k]?) ∧ w'.os = w.os ∧ w'.tape = w.tape ∧ w'.output = w.output ∧
      cs'.toList.take ((n + 1) * 7) = cs.toList.take (n * 7) ++ csv.toList.take 7 := by
  have hu24 := Try.underlying24
  have hu3 := Try.underlying3
  obtain ⟨i0, hi0, h00⟩ := Option.map_eq_some_iff.1 info58
  have hs0 : i0.size = 7 := (Prod.mk.inj (Prod.mk.inj h00).2).1
  have hb0 : i0.bytes = 72 := (Prod.mk.inj (Prod.mk.inj h00).2).2
  have hzz : i0.zero = some (Value.agg #[.string ByteArray.empty, .int .i64 0, .int .i64 0, .int .i64 0, .int .i64 0, .bool false, .string ByteArray.empty]) := (Prod.mk.inj h00).1
  generalize hz : (Value.agg #[.string ByteArray.empty, .int .i64 0, .int .i64 0, .int .i64 0, .int .i64 0, .bool false, .string ByteArray.empty]) = z at hzz
  have hzs : z.cells.size = 7 := by rw [← hz]; rfl
  have hvl : (csv.toList.take 7).length = 7 := by simp; omega
  have hnews : ∀ (j : Nat) (u : Value), (csv.toList.take 7)[j]? = some u → w.cell? ((⟨gv, 0, none⟩ : Addr).add j) = some u := by
    intro j v hj
    rw [List.getElem?_take] at hj
    split at hj
    · rw [Addr.add_lit]
      simpa [World.cell?, hgv] using hj
    · cases hj
  have holds : ∀ (j : Nat) (u : Value), (cs.toList.take (n * 7))[j]? = some u → w.cell? ((⟨g, 0, none⟩ : Addr).add j) = some u := by
    intro j v hj
    rw [List.getElem?_take] at hj
    split at hj
    · rw [Addr.add_lit]
      simpa [World.cell?, hg] using hj
    · cases hj
  have hin : n ≤ c := hnc
  by_cases hroom : n + 1 ≤ c
  · have hrun := fun ty => run_append_room (P := Try.prog) w 24 ty 58 i0 Try.underlying24 hi0 g n c cs hg ⟨gv, 0, none⟩ 1 cv (csv.toList.take 7) (by rw [hvl, hs0]) hnews h1' hroom (by rw [hvl, hs0, hcs]; omega)
    rw [hs0] at hrun
    generalize hr : (cs.toList.take (n * 7) ++ csv.toList.take 7 ++ cs.toList.drop (n * 7 + (csv.toList.take 7).length)) = r at *
    go_enter Try.func57, Try.ntmps57
    go_wp2_with (at_builtin; refine Lib.wpList_append_run _ rfl _ _ _ _ rfl _ _ rfl rfl _ _ (hrun _) ?_)
    go_ret
    refine .inl ⟨_, rfl, hroom, rfl, ?_, ?_⟩
    · rw [← hr]; simp; omega
    · rw [← hr]; rw [List.take_append_of_le_length (by simp; omega), List.take_of_length_le (by simp; omega)]
  · obtain ⟨G, hG⟩ : ∃ G, G = grownCap w (n + 1) c 58 := ⟨_, rfl⟩
    have hGn : n + 1 ≤ G := by rw [hG]; exact grownCap_ge w _ _ _
    have hGm : G ≤ maxLen := by rw [hG]; exact grownCap_le_maxLen w (n + 1) c 58 (by unfold maxLen; omega)
    have hG63 : G ≤ 9223372036854775807 := by unfold maxLen at hGm; omega
    have hrun := fun ty => run_append_grow (P := Try.prog) w 24 ty 58 i0 z Try.underlying24 hi0 hzz ⟨g, 0, none⟩ n c (cs.toList.take (n * 7)) (by rw [hs0]; simp; omega) holds ⟨gv, 0, none⟩ 1 cv (csv.toList.take 7) (by rw [hvl, hs0]) hnews (by omega) (by omega) (by rw [hb0]; exact growslice_fits (by omega) (by omega))
    rw [← hG] at hrun
    obtain ⟨ROW, hROW⟩ : ∃ ROW : Array Value, ROW = (cs.toList.take (n * 7)).toArray ++ (csv.toList.take 7).toArray ++ Builtin.zeroCells z.cells (G - (n + 1)) := ⟨_, rfl⟩
    rw [← hROW] at hrun
    have hRs : ROW.size = G * 7 := by rw [hROW]; simp [size_zeroCells, hzs]; omega
    have hRt : ROW.toList.take ((n + 1) * 7) = cs.toList.take (n * 7) ++ csv.toList.take 7 := by
      rw [hROW]
      simp only [Array.toList_append]
      rw [List.take_append_of_le_length (by simp; omega), List.take_of_length_le (by simp; omega)]
    clear hG hROW
    go_enter Try.func57, Try.ntmps57
    go_wp2_with (at_builtin; refine Lib.wpList_append_run _ rfl _ _ _ _ rfl _ _ rfl rfl _ _ (hrun _) ?_)
    go_ret
    refine .inr ⟨G, ROW, rfl, hGn, hGm, ?_, hRs, ?_, ?_, rfl, rfl, rfl, hRt⟩
    · show (w.heap.push (.cells ROW 58 (0, 0)))[w.heap.size]? = _; simp
    · show (w.heap.push (.cells ROW 58 (0, 0))).size = _; simp
    · intro k hk
      show (w.heap.push (.cells ROW 58 (0, 0)))[k]? = _
      rw [Array.getElem?_push, if_neg (by omega)]
set_option maxHeartbeats 4000000 in
set_option maxRecDepth 100000 in
theorem ins_nil (gv cv : Nat) (csv : Array Value) (w : World) (hgv : w.heap[gv]? = some (.cells csv 58 (0, 0))) (hcv : csv.size = cv * 7) (h1v : 1 ≤ cv) :
    Calls Try.prog 57 #[.slice none 0 0, .int .i64 0, .slice (some ⟨gv, 0, none⟩) 1 cv] w fun e w' =>
      ∃ G cs', e = .returned (.slice (some ⟨w.heap.size, 0, none⟩) 1 G) ∧ 1 ≤ G ∧ G ≤ maxLen ∧ w'.heap[w.heap.size]? = some (.cells cs' 58 (0, 0)) ∧ cs'.size = G * 7 ∧ w'.heap.size = w.heap.size + 1 ∧ (∀ k, k < w.heap.size → w'.heap[k]? = w.heap[k]?) ∧ w'.os = w.os ∧ w'.tape = w.tape ∧ w'.output = w.output ∧
      cs'.toList.take 7 = csv.toList.take 7 := by
  have hu24 := Try.underlying24
  have hu3 := Try.underlying3
  obtain ⟨i0, hi0, h00⟩ := Option.map_eq_some_iff.1 info58
  have hs0 : i0.size = 7 := (Prod.mk.inj (Prod.mk.inj h00).2).1
  have hb0 : i0.bytes = 72 := (Prod.mk.inj (Prod.mk.inj h00).2).2
  have hzz : i0.zero = some (Value.agg #[.string ByteArray.empty, .int .i64 0, .int .i64 0, .int .i64 0, .int .i64 0, .bool false, .string ByteArray.empty]) := (Prod.mk.inj h00).1
  generalize hz : (Value.agg #[.string ByteArray.empty, .int .i64 0, .int .i64 0, .int .i64 0, .int .i64 0, .bool false, .string ByteArray.empty]) = z at hzz
  have hzs : z.cells.size = 7 := by rw [← hz]; rfl
  have hvl : (csv.toList.take 7).length = 7 := by simp; omega
  have hnews : ∀ (j : Nat) (u : Value), (csv.toList.take 7)[j]? = some u → w.cell? ((⟨gv, 0, none⟩ : Addr).add j) = some u := by
    intro j v hj
    rw [List.getElem?_take] at hj
    split at hj
    · rw [Addr.add_lit]
      simpa [World.cell?, hgv] using hj
    · cases hj
  obtain ⟨G, hG⟩ : ∃ G, G = grownCap w 1 0 58 := ⟨_, rfl⟩
  have hGn : 1 ≤ G := by rw [hG]; exact grownCap_ge w _ _ _
  have hGm : G ≤ maxLen := by rw [hG]; exact grownCap_le_maxLen w 1 0 58 (by unfold maxLen; omega)
  have hrun := fun ty => run_append_nil (P := Try.prog) w 24 ty 58 i0 z Try.underlying24 hi0 hzz ⟨gv, 0, none⟩ 1 cv (csv.toList.take 7) (by rw [hvl, hs0]) hnews (by omega) (by omega) (by rw [hb0]; omega)
  rw [← hG] at hrun
  obtain ⟨ROW, hROW⟩ : ∃ ROW : Array Value, ROW = (csv.toList.take 7).toArray ++ Builtin.zeroCells z.cells (G - 1) := ⟨_, rfl⟩
  rw [← hROW] at hrun
  have hRs : ROW.size = G * 7 := by rw [hROW]; simp [size_zeroCells, hzs]; omega
  have hRt : ROW.toList.take 7 = csv.toList.take 7 := by
    rw [hROW]
    simp only [Array.toList_append]
    rw [List.take_append_of_le_length (by simp; omega), List.take_of_length_le (by simp; omega)]
  clear hG hROW
  go_enter Try.func57, Try.ntmps57
  go_wp2_with (at_builtin; refine Lib.wpList_append_run _ rfl _ _ _ _ rfl _ _ rfl rfl _ _ (hrun _) ?_)
  go_ret
  refine ⟨G, ROW, rfl, hGn, hGm, ?_, hRs, ?_, ?_, rfl, rfl, rfl, hRt⟩
  · show (w.heap.push (.cells ROW 58 (0, 0)))[w.heap.size]? = _; simp
  · show (w.heap.push (.cells ROW 58 (0, 0))).size = _; simp
  · intro k hk
    show (w.heap.push (.cells ROW 58 (0, 0)))[k]? = _
    rw [Array.getElem?_push, if_neg (by omega)]
end Go.Ev
namespace Go.Ev
open Go.Proofs Go.RowKit Go.Lib
def insF : List C → Option (List C) := fun xs =>
  let i := (xs.getD 0 .nil).I; let es := (xs.getD 1 .nil).L; let vs := (xs.getD 2 .nil).L
  bif decide (0 ≤ i) && (decide (i ≤ (es.length : Int)) && ((vs.length == 1) && decide (es.length + 1 ≤ 4294967296))) then some [.l vs, .l (es.take i.toNat ++ vs ++ es.drop i.toNat)] else none
section
variable {T : Tys} {F : Nat → Prop} {w : World}
theorem Rws.ins {d : TD} {es vs : List (List C)} {us ns ws : List Value} {i : Nat} (h : Rws T F w d es us) (hl : us.length = es.length * d.cts.length) (h' : Rws T F w d vs ns) (hl' : ns.length = vs.length * d.cts.length) (hi : i ≤ es.length)
    (hw : ws.take ((es.length + vs.length) * d.cts.length) = us.take (i * d.cts.length) ++ ns ++ us.drop (i * d.cts.length)) : Rws T F w d (es.take i ++ vs ++ es.drop i) ws := by
  have m1 : i * d.cts.length ≤ es.length * d.cts.length := Nat.mul_le_mul_right _ hi
  have a1 := h.part 0 i
  have a2 := h.part i es.length
  simp only [List.drop_zero, Nat.zero_mul, List.take_length] at a1 a2
  have e0 : us.take (es.length * d.cts.length) = us := List.take_of_length_le (by omega)
  rw [e0] at a2
  have b1 := Rws.app a1 (by simp; rw [Nat.min_eq_left hi]; omega) h' hl' (ws := [])
  have b2 := Rws.app b1 (by simp [hl', Nat.add_mul]; rw [Nat.min_eq_left hi]; omega) a2 (by simp [hl, Nat.sub_mul]) (ws := [])
  have hlen : (us.take (i * d.cts.length) ++ ns ++ us.drop (i * d.cts.length)).length = (es.length + vs.length) * d.cts.length := by simp [hl', Nat.add_mul]; omega
  refine Rws.of_prefix b2 ?_
  have hn : (es.take i ++ vs ++ es.drop i).length = es.length + vs.length := by simp; omega
  rw [hn, hw]
  simp only [List.append_nil]
  rw [List.take_of_length_le (Nat.le_of_eq hlen)]
end
def insT : Tm := ⟨[(0, .ow 2000), (1, .d (.int .i64)), (2, .ow 2001)], [(2000, .arr 58), (2001, .arr 58)]⟩
def insO : Tm := ⟨[(0, .ow 2000)], [(2001, .arr 58), (2000, .arr 58)]⟩
theorem ins_fin {T : Tys} {F0 : Nat → Prop} {W w' : World} {wr : Nat → Prop} {θ : Nat → Value} {xs : List C} {es' vs : List (List C)} {v : Value} (hv : (xs.getD 2 .nil).L = vs)
    (h : Aft T ⟨W, wr, F0, θ, [2001]⟩ F0 W (insT.inj xs).bx θ ⟨.ow 2000 1, [(2000, .arr 1 58 es')]⟩ v w') :
    ∃ F1 θ1, WR T ⟨W, wr, F0, θ, []⟩ F1 w' (insO.inj [.l vs, .l es']).bx θ1 ∧ RelV T F1 w' (insO.inj [.l vs, .l es']).bx θ1 ((insO.inj [.l vs, .l es']).sl 0) v ∧ ∀ n, n ∈ [2001] → (∃ x, (insO.inj [.l vs, .l es']).bx n = some x) → θ1 n = θ n := by
  subst hv
  obtain ⟨F1, θ1, hw, hm, hr⟩ := h
  have i0 : (updB (insT.inj xs).bx [(2000, .arr 1 58 es')]) 2000 = some (.arr 1 58 es') := rfl
  have i1 : (updB (insT.inj xs).bx [(2000, .arr 1 58 es')]) 2001 = some (.arr 0 58 (xs.getD 2 .nil).L) := rfl
  have o0 : ∀ b x, (insO.inj [.l (xs.getD 2 .nil).L, .l es']).bx b = some x → (b = 2000 ∧ x = .arr 0 58 es') ∨ (b = 2001 ∧ x = .arr 0 58 (xs.getD 2 .nil).L) := by
    intro b x hb
    by_cases h0 : b = 2000
    · subst h0; exact .inl ⟨rfl, (Option.some.inj hb).symm⟩
    · by_cases h1 : b = 2001
      · subst h1; exact .inr ⟨rfl, (Option.some.inj hb).symm⟩
      · have : (insO.inj [.l (xs.getD 2 .nil).L, .l es']).bx b = none := by
          show (upd (upd (fun _ => none) 2001 _) 2000 _) b = none
          simp only [upd_ne _ _ h0, upd_ne _ _ h1]
        rw [this] at hb; cases hb
  have live : ∀ b x, (insO.inj [.l (xs.getD 2 .nil).L, .l es']).bx b = some x → ∃ y, (updB (insT.inj xs).bx [(2000, .arr 1 58 es')]) b = some y ∧ y.live = true := by
    intro b x hb
    rcases o0 b x hb with ⟨rfl, _⟩ | ⟨rfl, _⟩
    · exact ⟨_, i0, rfl⟩
    · exact ⟨_, i1, rfl⟩
  have hv0 : v = θ1 2000 := (ow_now hr i0 (Nat.beq_refl 1)).2
  refine ⟨F1, θ1, ⟨?_, ?_, ?_, hw.lt, ⟨hw.keep.os, hw.keep.tape, hw.keep.output, hw.keep.size, hw.keep.old⟩, hw.sub, hw.new, fun n hn => by cases hn⟩, ?_, ?_⟩
  · intro b x hb
    rcases o0 b x hb with ⟨rfl, rfl⟩ | ⟨rfl, rfl⟩
    · exact hw.box 2000 _ i0
    · exact hw.box 2001 _ i1
  · intro b b' x x' g hb hb' _ _ hg hg'
    obtain ⟨y, hy, hl⟩ := live b x hb
    obtain ⟨y', hy', hl'⟩ := live b' x' hb'
    exact hw.disj b b' y y' g hy hy' hl hl' hg hg'
  · intro b x g hb _ hg
    obtain ⟨y, hy, hl⟩ := live b x hb
    exact hw.out b y g hy hl hg
  · have hs : ∃ A n c, v = .slice A n c := by
      cases hr with
      | ow b ver v x hb hv hs h => exact hs
    exact .ow 2000 0 v (.arr 0 58 es') rfl (Nat.le_refl _) hs fun _ => ⟨58, es', rfl, hv0⟩
  · intro n hn _
    simp only [List.mem_singleton] at hn
    subst hn
    obtain ⟨x, hx, hs⟩ := hw.stay 2001 (by simp)
    rw [i1] at hx
    obtain rfl := Option.some.inj hx
    exact hs rfl
theorem td58 : tget T0 58 = some ⟨.st [(0, 9), (1, 3), (2, 3), (3, 3), (4, 3), (5, 4), (6, 9)], [.str, .int .i64, .int .i64, .int .i64, .int .i64, .bool, .str], 72⟩ := by kernel_rfl
end Go.Ev
namespace Go.Ev
open Go.Proofs Go.RowKit Go.Lib
theorem insert_ok : FSOk Try.checked.prog T0 57 ⟨3, insT, insO, [2001], insF⟩ := by
  refine ⟨⟨Try.f57, _, Try.func57, rfl, by kernel_rfl⟩, ?_⟩
  intro W wr F0 θ xs ys args hW hsz hargs hF
  obtain ⟨a0, a1, a2, rfl⟩ : ∃ a0 a1 a2, args = #[a0, a1, a2] := by
    obtain ⟨l⟩ := args
    simp only [List.size_toArray] at hsz
    match l, hsz with
    | [a, b, c], _ => exact ⟨a, b, c, rfl⟩
  have r0 : RelV T0 F0 W (insT.inj xs).bx θ (.ow 2000 0) a0 := hargs 0 (by decide)
  have r1 : RelV T0 F0 W (insT.inj xs).bx θ (.c (.int .i64) (xs.getD 0 .nil)) a1 := hargs 1 (by decide)
  have r2 : RelV T0 F0 W (insT.inj xs).bx θ (.ow 2001 0) a2 := hargs 2 (by decide)
  have i0 : (insT.inj xs).bx 2000 = some (.arr 0 58 (xs.getD 1 .nil).L) := rfl
  have i1 : (insT.inj xs).bx 2001 = some (.arr 0 58 (xs.getD 2 .nil).L) := rfl
  obtain ⟨_, rfl⟩ := ow_now r0 i0 (Nat.beq_refl 0)
  obtain ⟨_, rfl⟩ := ow_now r2 i1 (Nat.beq_refl 0)
  simp only [insF] at hF
  generalize hes : (xs.getD 1 .nil).L = es at *
  generalize hvs : (xs.getD 2 .nil).L = vs at *
  generalize hx0 : xs.getD 0 .nil = x0 at *
  cases r1 with
  | c _ _ _ hc =>
  cases hc with
  | int _ m =>
  simp only [C.I] at hF
  rw [Bool.cond_eq_ite] at hF
  split at hF
  rotate_left
  · simp at hF
  rename_i hcond
  simp only [Option.some.injEq] at hF
  subst hF
  simp only [Bool.and_eq_true] at hcond
  obtain ⟨h0, h1, h2, h3⟩ := hcond
  have h0 : 0 ≤ m := of_decide_eq_true h0
  have h1 : m ≤ (es.length : Int) := of_decide_eq_true h1
  have h2 : vs.length = 1 := by simpa using h2
  have h3 : es.length + 1 ≤ 4294967296 := of_decide_eq_true h3
  obtain ⟨i, rfl⟩ := Int.eq_ofNat_of_zero_le h0
  have hi : i ≤ es.length := by omega
  have hto : ((i : Nat) : Int).toNat = i := Int.toNat_natCast i
  obtain ⟨A, cap, us, hth, hul, hrw, hA⟩ := arr_rows (hW.box 2000 _ i0) td58
  obtain ⟨A', cap', us', hth', hul', hrw', hA'⟩ := arr_rows (hW.box 2001 _ i1) td58
  simp only [List.length_cons, List.length_nil] at hul hul' hA hA'
  have hone := hrw.one (by decide) (by simpa using hul)
  have hone' := hrw'.one (by decide) (by simpa using hul')
  rcases hA' with ⟨_, rfl, _⟩ | ⟨gv, csv, rfl, b1, b2, b3, rfl⟩
  · simp at h2
  rw [h2] at hul' hone' hth' b3
  simp only [Nat.one_mul, Nat.zero_add, Nat.reduceAdd] at hul' hone' b2
  have hbo := hW.out 2001 _ gv i1 rfl (by rw [hth']; rfl)
  have fin : ∀ (g c' : Nat) (cs' : Array Value) (w' : World), w'.heap[g]? = some (.cells cs' 58 (0, 0)) → cs'.size = c' * 7 → es.length + 1 ≤ c' → c' ≤ maxLen →
      (∀ k, k < W.heap.size → w'.heap[k]? = W.heap[k]? ∨ (k = g ∧ ∃ x, (insT.inj xs).bx 2000 = some x ∧ x.live = true ∧ blkOf (θ 2000) = some g)) →
      ((W.heap.size ≤ g ∧ g < w'.heap.size) ∨ ∃ x, (insT.inj xs).bx 2000 = some x ∧ x.live = true ∧ blkOf (θ 2000) = some g) → W.heap.size ≤ w'.heap.size → w'.os = W.os → w'.tape = W.tape → w'.output = W.output →
      cs'.toList.take ((es.length + 1) * 7) = us.take (i * 7) ++ csv.toList.take 7 ++ us.drop (i * 7) →
      ∃ v F1 θ1, (Ending.returned (.slice (some ⟨g, 0, none⟩) (es.length + 1) c') : Ending) = .returned v ∧ WR T0 ⟨W, wr, F0, θ, []⟩ F1 w' (insO.inj [.l vs, .l (es.take i ++ vs ++ es.drop i)]).bx θ1 ∧ RelV T0 F1 w' (insO.inj [.l vs, .l (es.take i ++ vs ++ es.drop i)]).bx θ1 ((insO.inj [.l vs, .l (es.take i ++ vs ++ es.drop i)]).sl 0) v ∧ ∀ n, n ∈ [2001] → (∃ x, (insO.inj [.l vs, .l (es.take i ++ vs ++ es.drop i)]).bx n = some x) → θ1 n = θ n := by
    intro g c' cs' w' q1 q2 q3 q4 q5 q6 q7 q8 q9 q10 q11
    have hlen : (es.take i ++ vs ++ es.drop i).length = es.length + 1 := by simp [h2]; omega
    have hp := put_arr hW (b := 2000) (t := 58) (es := es.take i ++ vs ++ es.drop i) (ver := 1) (g := g) (cap := c') (cs := cs') (w' := w') td58
      (fun x hx => by rw [i0] at hx; obtain rfl := Option.some.inj hx; exact Nat.zero_lt_one) q2 ⟨by omega, q4⟩ q1 q5 q6 q7 q8 q9 q10
      (fun hk => (Rws.ins hrw hul hrw' (by simpa [h2] using hul') hi (by
        show cs'.toList.take ((es.length + vs.length) * 7) = _
        rw [h2]
        exact q11)).mv (fun k h => h) hk)
    rw [hlen] at hp
    obtain ⟨F1, θ1, e1, e2, e3⟩ := ins_fin (xs := xs) hvs hp
    exact ⟨_, F1, θ1, rfl, e1, e2, e3⟩
  rcases hA with ⟨rfl, rfl, rfl⟩ | ⟨g, cs, rfl, c1, c2, c3, rfl⟩
  ·
    have hi0 : i = 0 := by simpa using hi
    subst hi0
    rw [hth, hth']
    refine (ins_nil gv cap' csv W b1 b2 b3.1).mono ?_
    rintro e w' ⟨G, cs', rfl, g1, g2, g3, g4, g5, g6, g7, g8, g9, g10⟩
    exact fin W.heap.size G cs' w' g3 g4 (by simpa using g1) g2 (fun k hk => .inl (g6 k hk)) (.inl ⟨Nat.le_refl _, by omega⟩) (by omega) g7 g8 g9 (by
      simp only [List.length_nil, Nat.zero_mul] at hul
      have : us = [] := List.length_eq_zero_iff.1 hul
      subst this
      simpa using g10)
  · have hbs := hW.out 2000 _ g i0 rfl (by rw [hth]; rfl)
    have hne : gv ≠ g := by
      intro e
      subst e
      have := hW.disj 2000 2001 _ _ gv i0 i1 rfl rfl (by rw [hth]; rfl) (by rw [hth']; rfl)
      omega
    have hlive : ∃ x, (insT.inj xs).bx 2000 = some x ∧ x.live = true ∧ blkOf (θ 2000) = some g := ⟨_, i0, rfl, by rw [hth]; rfl⟩
    have hkeep : ∀ cs', ∀ k, k < W.heap.size → (W.setRow g cs').heap[k]? = W.heap[k]? ∨ (k = g ∧ ∃ x, (insT.inj xs).bx 2000 = some x ∧ x.live = true ∧ blkOf (θ 2000) = some g) := by
      intro cs' k hk
      by_cases e : k = g
      · exact .inr ⟨e, hlive⟩
      · exact .inl (setRow_other W g k cs' e)
    rw [hth, hth']
    have hus : ∀ v ∈ cs.toList.take (es.length * 7), v.oneCell' = true := hone
    have htk : (cs.toList.take (es.length * 7)).take (i * 7) = cs.toList.take (i * 7) := by rw [List.take_take, Nat.min_eq_left (Nat.mul_le_mul_right 7 hi)]
    by_cases hlt : i < es.length
    · by_cases hroom : es.length + 1 ≤ cap
      · refine (ins_shift g es.length cap i gv cap' cs csv W hlt hroom (by have := c3.2; unfold maxLen at this; omega) hne c1 c2 b1 b2 b3.1 hus hone').mono ?_
        rintro e w' ⟨rfl, cs', rfl, g1, g2⟩
        exact fin g cap cs' (W.drew.setRow g cs') (setRow_heap W.drew g cs cs' 58 _ c1) (by rw [g1]; exact c2) hroom c3.2 (hkeep cs') (.inr hlive) (by show _ ≤ (W.setRow g cs').heap.size; simp [World.setRow]) rfl rfl rfl (by show _ = (cs.toList.take (es.length * 7)).take (i * 7) ++ _ ++ (cs.toList.take (es.length * 7)).drop (i * 7); rw [htk]; exact g2)
      · refine (ins_grow g es.length cap i gv cap' cs csv W hlt c3.1 (by omega) h3 hne c1 c2 b1 b2 b3.1 hus hone').mono ?_
        rintro e w' ⟨G, cs', rfl, g1, g2, g3, g4, g5, g6, g7, g8, g9, g10⟩
        exact fin W.heap.size G cs' w' g3 g4 g1 g2 (fun k hk => .inl (g6 k hk)) (.inl ⟨Nat.le_refl _, by omega⟩) (by omega) g7 g8 g9 (by show _ = (cs.toList.take (es.length * 7)).take (i * 7) ++ _ ++ (cs.toList.take (es.length * 7)).drop (i * 7); rw [htk]; exact g10)
    · have he : i = es.length := by omega
      subst he
      have hdrop : (cs.toList.take (es.length * 7)).drop (es.length * 7) = [] := by simp
      have htake : (cs.toList.take (es.length * 7)).take (es.length * 7) = cs.toList.take (es.length * 7) := by rw [List.take_take, Nat.min_self]
      refine (ins_end g es.length cap gv cap' cs csv W c3.1 c3.2 h3 c1 c2 b1 b2 b3.1 hone').mono ?_
      rintro e w' (⟨cs', rfl, hroom, rfl, g1, g2⟩ | ⟨G, cs', rfl, g1, g2, g3, g4, g5, g6, g7, g8, g9, g10⟩)
      · exact fin g cap cs' (W.setRow g cs') (setRow_heap W g cs cs' 58 _ c1) (by rw [g1]; exact c2) hroom c3.2 (hkeep cs') (.inr hlive) (by simp [World.setRow]) rfl rfl rfl (by rw [hdrop, htake, List.append_nil]; exact g2)
      · exact fin W.heap.size G cs' w' g3 g4 g1 g2 (fun k hk => .inl (g6 k hk)) (.inl ⟨Nat.le_refl _, by omega⟩) (by omega) g7 g8 g9 (by rw [hdrop, htake, List.append_nil]; exact g10)
end Go.Ev
namespace Go.Ev
open Go.Proofs
noncomputable section
def s_l18Open.d1 (t0 : C) : R := (bif (decide ((t0.L.length : Int) > 2000)) then (bif (decide (2000 ≤ (t0.L.length : Int))) then (some (.ret [.l ((t0.L.take 2000).drop 0), .i 0])) else none) else (some (.ret [t0, .i 0])))
def s_l18Open : List C → Option (List C) := fun xs => finR (ap1 s_l18Open.d1 xs)
def s_l18Open_fs : FS := ⟨1, ⟨[(0, (zl 5))], []⟩, ⟨[(0, (.pt 3000 0))], [(3000, z7)]⟩, [], s_l18Open⟩
theorem s_l18Open_ok : FSOk Try.checked.prog T0 10 s_l18Open_fs := okOf base0 (fn := Try.f10) (c := Try.f10.body.getD .skip) s_l18Open_fs .leaf [] .nil (by kernel_rfl) (by kernel_rfl) (by kernel_rfl) (fun xs => by kernel_rfl)
def s_l18In.d1 (t0 t1 t2 : C) : R := (bif (decide (t0.I ≥ t1.I)) then (some (.ret [.b (decide (t0.I ≤ t2.I))])) else (some (.ret [.b false])))
def s_l18In : List C → Option (List C) := fun xs => finR (ap3 s_l18In.d1 xs)
def s_l18In_fs : FS := ⟨3, ⟨[(0, zi), (1, zi), (2, zi)], []⟩, ⟨[(0, zo)], []⟩, [], s_l18In⟩
theorem s_l18In_ok : FSOk Try.checked.prog T0 17 s_l18In_fs := okOf base0 (fn := Try.f17) (c := Try.f17.body.getD .skip) s_l18In_fs .leaf [] .nil (by kernel_rfl) (by kernel_rfl) (by kernel_rfl) (fun xs => by kernel_rfl)
def s_l18NameOk.d1 (t0 t3 t36 : C) : R := (bif t36.B then (some (.ret [.b false])) else (some (.again [t0, .i (w64 (t3.I + 1))])))
def s_l18NameOk.d2 (t0 t3 : C) : R := (bif (decide (t3.I < (t0.S.size : Int))) then (bif (decide (0 ≤ t3.I)) then (bif (decide (t3.I < (t0.S.size : Int))) then (bindNrm (bif (decide (((t0.S.data.getD t3.I.toNat 0).toNat : Int) ≥ 97)) then (bif (!(decide (((t0.S.data.getD t3.I.toNat 0).toNat : Int) ≤ 122))) then (bif (decide (((t0.S.data.getD t3.I.toNat 0).toNat : Int) ≥ 48)) then (bif (!(decide (((t0.S.data.getD t3.I.toNat 0).toNat : Int) ≤ 57))) then (some (.nrm [t0, t3, .b (!(((t0.S.data.getD t3.I.toNat 0).toNat : Int) == 45))])) else (some (.nrm [t0, t3, .b false]))) else (some (.nrm [t0, t3, .b (!(((t0.S.data.getD t3.I.toNat 0).toNat : Int) == 45))]))) else (some (.nrm [t0, t3, .b false]))) else (bif (decide (((t0.S.data.getD t3.I.toNat 0).toNat : Int) ≥ 48)) then (bif (!(decide (((t0.S.data.getD t3.I.toNat 0).toNat : Int) ≤ 57))) then (some (.nrm [t0, t3, .b (!(((t0.S.data.getD t3.I.toNat 0).toNat : Int) == 45))])) else (some (.nrm [t0, t3, .b false]))) else (some (.nrm [t0, t3, .b (!(((t0.S.data.getD t3.I.toNat 0).toNat : Int) == 45))])))) (ap3 s_l18NameOk.d1)) else none) else none) else (some (.brk 0 [])))
def s_l18NameOk.d3 : R := (some (.ret [.b true]))
def s_l18NameOk.d4 (t0 : C) : R := (call1 (s_l18In [.i (t0.S.size : Int), .i 1, .i 20]) fun y1_t0 => (bif (!y1_t0.B) then (some (.ret [.b false])) else (bindBlk 0 (lim (ap2 s_l18NameOk.d2) [t0, .i 0]) (fun xs => s_l18NameOk.d3))))
def s_l18NameOk : List C → Option (List C) := fun xs => finR (ap1 s_l18NameOk.d4 xs)
def s_l18NameOk_fs : FS := ⟨1, ⟨[(0, zt)], []⟩, ⟨[(0, zo)], []⟩, [], s_l18NameOk⟩
theorem s_l18NameOk_ok : FSOk Try.checked.prog T0 19 s_l18NameOk_fs := okOf base0 (fn := Try.f19) (c := Try.f19.body.getD .skip) s_l18NameOk_fs (.seq .leaf (.seq .leaf (.seq (.seq .leaf (.block ⟨[], []⟩ (.loop ⟨[(0, zt), (3, zi)], []⟩ (.seq .leaf (.seq (.skip (.seq .leaf (.seq (.join ⟨[(0, zt), (3, zi), (36, zo)], []⟩ .leaf) .leaf))) .leaf))))) .leaf))) [(17, some 7, s_l18In_fs)] (.cons s_l18In_ok .nil) (by kernel_rfl) (by kernel_rfl) (by kernel_rfl) (fun xs => by kernel_rfl)
def s_l18ServiceOk.d1 (t0_0 t0_1 t0_2 t0_3 t0_4 t0_5 t0_6 t0_7 t0_8 t0_9 t0_10 t0_11 t0_12 t1 : C) : R := (call1 (s_l18NameOk [t0_0]) fun y1_t0 => (bif (!(!y1_t0.B)) then (call1 (s_l18In [t0_1, .i 1, t1]) fun y2_t0 => (bif (!(!y2_t0.B)) then (call1 (s_l18In [t0_3, .i 1, .i 1000000]) fun y3_t0 => (bif (!(!y3_t0.B)) then (call1 (s_l18In [t0_7, .i 1, .i 1000000]) fun y4_t0 => (bif (!(!y4_t0.B)) then (call1 (s_l18In [t0_4, .i 0, .i 10]) fun y5_t0 => (bif (!(!y5_t0.B)) then (call1 (s_l18In [t0_5, .i 0, .i 10]) fun y6_t0 => (bif (!(!y6_t0.B)) then (call1 (s_l18In [t0_6, .i 0, .i 10]) fun y7_t0 => (bif (!(!y7_t0.B)) then (bif ((w64 (t0_5.I + t0_6.I)) == 0) then (some (.ret [.b false])) else (bif (t0_8.I == 0) then (bif (t0_9.I == 0) then (bif (t0_10.I == 0) then (bif (t0_11.I == 0) then (some (.ret [.b (t0_12.I == 0)])) else (some (.ret [.b false]))) else (some (.ret [.b false]))) else (some (.ret [.b false]))) else (call1 (s_l18In [t0_8, .i 0, .i 1000000]) fun y8_t0 => (bif y8_t0.B then (call1 (s_l18In [t0_11, .i 0, .i 1000000]) fun y9_t0 => (bif y9_t0.B then (call1 (s_l18In [t0_9, .i 0, .i 10]) fun y10_t0 => (bif y10_t0.B then (call1 (s_l18In [t0_10, t0_9, .i 10]) fun y11_t0 => (bif y11_t0.B then (call1 (s_l18In [t0_12, .i 0, .i 3]) fun y12_t0 => (some (.ret [.b y12_t0.B]))) else (some (.ret [.b false])))) else (some (.ret [.b false])))) else (some (.ret [.b false])))) else (some (.ret [.b false])))))) else (some (.ret [.b false])))) else (some (.ret [.b false])))) else (some (.ret [.b false])))) else (some (.ret [.b false])))) else (some (.ret [.b false])))) else (some (.ret [.b false])))) else (some (.ret [.b false]))))
def s_l18ServiceOk : List C → Option (List C) := fun xs => finR (ap14 s_l18ServiceOk.d1 xs)
def s_l18ServiceOk_fs : FS := ⟨2, ⟨[(0, z6), (1, zi)], []⟩, ⟨[(0, zo)], []⟩, [], s_l18ServiceOk⟩
theorem s_l18ServiceOk_ok : FSOk Try.checked.prog T0 18 s_l18ServiceOk_fs := okOf base0 (fn := Try.f18) (c := Try.f18.body.getD .skip) s_l18ServiceOk_fs .leaf [(17, some 13, s_l18In_fs), (17, some 19, s_l18In_fs), (17, some 25, s_l18In_fs), (17, some 31, s_l18In_fs), (17, some 37, s_l18In_fs), (17, some 43, s_l18In_fs), (17, some 77, s_l18In_fs), (17, some 81, s_l18In_fs), (17, some 86, s_l18In_fs), (17, some 93, s_l18In_fs), (17, some 98, s_l18In_fs), (19, some 7, s_l18NameOk_fs)] (.cons s_l18In_ok (.cons s_l18In_ok (.cons s_l18In_ok (.cons s_l18In_ok (.cons s_l18In_ok (.cons s_l18In_ok (.cons s_l18In_ok (.cons s_l18In_ok (.cons s_l18In_ok (.cons s_l18In_ok (.cons s_l18In_ok (.cons s_l18NameOk_ok .nil)))))))))))) (by kernel_rfl) (by kernel_rfl) (by kernel_rfl) (fun xs => by kernel_rfl)
def s_l18Service.d1 (t1 t5 b2_0 b2_1 b2_2 b2_3 : C) : R := (bif (decide (t5.I < (b2_1.L.length : Int))) then (bif (decide (0 ≤ t5.I)) then (bif (decide (t5.I < (b2_1.L.length : Int))) then (bif ((((b2_1.L.getD t5.I.toNat []).getD 0 .nil).S).toList == t1.S.toList) then (some (.ret [t5])) else (some (.again [t1, .i (w64 (t5.I + 1)), b2_0, b2_1, b2_2, b2_3]))) else none) else none) else (some (.brk 0 [])))
def s_l18Service.d2 : R := (some (.ret [.i (-1)]))
def s_l18Service.d3 (t0_0 t0_1 t0_2 t0_3 t1 : C) : R := (bindBlk 0 (lim (ap6 s_l18Service.d1) [t1, .i 0, t0_0, t0_1, t0_2, t0_3]) (fun xs => s_l18Service.d2))
def s_l18Service : List C → Option (List C) := fun xs => finR (ap5 s_l18Service.d3 xs)
def s_l18Service_fs : FS := ⟨2, ⟨[(0, z2), (1, zt)], []⟩, ⟨[(0, zi)], []⟩, [], s_l18Service⟩
theorem s_l18Service_ok : FSOk Try.checked.prog T0 54 s_l18Service_fs := okOf base0 (fn := Try.f54) (c := Try.f54.body.getD .skip) s_l18Service_fs (.seq .leaf (.seq (.seq .leaf (.block ⟨[], []⟩ (.loop ⟨[(1, zt), (2, (.pt 2 0)), (5, zi)], [(2, z0)]⟩ .leaf))) .leaf)) [] .nil (by kernel_rfl) (by kernel_rfl) (by kernel_rfl) (fun xs => by kernel_rfl)
def s_l18Berth.d1 (t1 t5 b2_0 b2_1 b2_2 b2_3 : C) : R := (bif (decide (t5.I < (b2_3.L.length : Int))) then (bif (decide (0 ≤ t5.I)) then (bif (decide (t5.I < (b2_3.L.length : Int))) then (bif ((((b2_3.L.getD t5.I.toNat []).getD 0 .nil).S).toList == t1.S.toList) then (some (.ret [t5])) else (some (.again [t1, .i (w64 (t5.I + 1)), b2_0, b2_1, b2_2, b2_3]))) else none) else none) else (some (.brk 0 [])))
def s_l18Berth.d2 : R := (some (.ret [.i (-1)]))
def s_l18Berth.d3 (t0_0 t0_1 t0_2 t0_3 t1 : C) : R := (bindBlk 0 (lim (ap6 s_l18Berth.d1) [t1, .i 0, t0_0, t0_1, t0_2, t0_3]) (fun xs => s_l18Berth.d2))
def s_l18Berth : List C → Option (List C) := fun xs => finR (ap5 s_l18Berth.d3 xs)
def s_l18Berth_fs : FS := ⟨2, ⟨[(0, z2), (1, zt)], []⟩, ⟨[(0, zi)], []⟩, [], s_l18Berth⟩
theorem s_l18Berth_ok : FSOk Try.checked.prog T0 55 s_l18Berth_fs := okOf base0 (fn := Try.f55) (c := Try.f55.body.getD .skip) s_l18Berth_fs (.seq .leaf (.seq (.seq .leaf (.block ⟨[], []⟩ (.loop ⟨[(1, zt), (2, (.pt 2 0)), (5, zi)], [(2, z0)]⟩ .leaf))) .leaf)) [] .nil (by kernel_rfl) (by kernel_rfl) (by kernel_rfl) (fun xs => by kernel_rfl)
def s_l18CopyOk.d1 (t0_0 t0_1 t0_2 t0_3 t1_0 t1_1 t1_2 t1_3 t1_4 t1_5 t1_6 : C) : R := (call1 (s_l18Service [t0_0, t0_1, t0_2, t0_3, t1_0]) fun y1_t0 => (bif (!(decide (y1_t0.I < 0))) then (bif (decide (0 ≤ y1_t0.I)) then (bif (decide (y1_t0.I < (t0_1.L.length : Int))) then (call1 (s_l18In [t1_1, .i 1, .i (w64 (((t0_1.L.getD y1_t0.I.toNat []).getD 7 .nil).I - 1))]) fun y2_t0 => (bif (!(!y2_t0.B)) then (call1 (s_l18In [t1_2, .i 1, t0_0]) fun y3_t0 => (bif (!(!y3_t0.B)) then (call1 (s_l18In [t1_3, .i 1, .i 1000000]) fun y4_t0 => (bif (!(!y4_t0.B)) then (call1 (s_l18In [t1_4, .i 1, .i 4]) fun y5_t0 => (bif (!y5_t0.B) then (some (.ret [.b false])) else (bif (t1_4.I == 1) then (some (.ret [.b (t1_6.S.toList == (bs #[]).toList)])) else (call1 (s_l18Berth [t0_0, t0_1, t0_2, t0_3, t1_6]) fun y6_t0 => (some (.ret [.b (decide (y6_t0.I ≥ 0))])))))) else (some (.ret [.b false])))) else (some (.ret [.b false])))) else (some (.ret [.b false])))) else none) else none) else (some (.ret [.b false]))))
def s_l18CopyOk : List C → Option (List C) := fun xs => finR (ap11 s_l18CopyOk.d1 xs)
def s_l18CopyOk_fs : FS := ⟨2, ⟨[(0, z2), (1, z14)], []⟩, ⟨[(0, zo)], []⟩, [], s_l18CopyOk⟩
theorem s_l18CopyOk_ok : FSOk Try.checked.prog T0 20 s_l18CopyOk_fs := okOf base0 (fn := Try.f20) (c := Try.f20.body.getD .skip) s_l18CopyOk_fs .leaf [(17, some 22, s_l18In_fs), (17, some 30, s_l18In_fs), (17, some 36, s_l18In_fs), (17, some 42, s_l18In_fs), (54, some 9, s_l18Service_fs), (55, some 54, s_l18Berth_fs)] (.cons s_l18In_ok (.cons s_l18In_ok (.cons s_l18In_ok (.cons s_l18In_ok (.cons s_l18Service_ok (.cons s_l18Berth_ok .nil)))))) (by kernel_rfl) (by kernel_rfl) (by kernel_rfl) (fun xs => by kernel_rfl)
def s_l18Ahead.d1 (t0_0 t0_1 t0_2 t0_3 t0_4 t0_5 t0_6 t1_0 t1_1 t1_2 t1_3 t1_4 t1_5 t1_6 : C) : R := (bif (!(Op.bytesLess t0_0.S.toList t1_0.S.toList)) then (bif (t0_0.S.toList == t1_0.S.toList) then (some (.ret [.b (decide (t0_1.I < t1_1.I))])) else (some (.ret [.b false]))) else (some (.ret [.b true])))
def s_l18Ahead : List C → Option (List C) := fun xs => finR (ap14 s_l18Ahead.d1 xs)
def s_l18Ahead_fs : FS := ⟨2, ⟨[(0, z14), (1, z14)], []⟩, ⟨[(0, zo)], []⟩, [], s_l18Ahead⟩
theorem s_l18Ahead_ok : FSOk Try.checked.prog T0 21 s_l18Ahead_fs := okOf base0 (fn := Try.f21) (c := Try.f21.body.getD .skip) s_l18Ahead_fs .leaf [] .nil (by kernel_rfl) (by kernel_rfl) (by kernel_rfl) (fun xs => by kernel_rfl)
def s_StewValid.d1 (t3 b1_0 b1_1 b1_2 b1_3 : C) : R := (bif (decide (t3.I < (b1_1.L.length : Int))) then (bif (decide (0 ≤ t3.I)) then (bif (decide (t3.I < (b1_1.L.length : Int))) then (call1 (s_l18ServiceOk [((b1_1.L.getD t3.I.toNat []).getD 0 .nil), ((b1_1.L.getD t3.I.toNat []).getD 1 .nil), ((b1_1.L.getD t3.I.toNat []).getD 2 .nil), ((b1_1.L.getD t3.I.toNat []).getD 3 .nil), ((b1_1.L.getD t3.I.toNat []).getD 4 .nil), ((b1_1.L.getD t3.I.toNat []).getD 5 .nil), ((b1_1.L.getD t3.I.toNat []).getD 6 .nil), ((b1_1.L.getD t3.I.toNat []).getD 7 .nil), ((b1_1.L.getD t3.I.toNat []).getD 8 .nil), ((b1_1.L.getD t3.I.toNat []).getD 9 .nil), ((b1_1.L.getD t3.I.toNat []).getD 10 .nil), ((b1_1.L.getD t3.I.toNat []).getD 11 .nil), ((b1_1.L.getD t3.I.toNat []).getD 12 .nil), b1_0]) fun y2_t0 => (bif (!(!y2_t0.B)) then (bif (decide (t3.I > 0)) then (bif (decide (0 ≤ (w64 (t3.I - 1)))) then (bif (decide ((w64 (t3.I - 1)) < (b1_1.L.length : Int))) then (bif (decide (0 ≤ t3.I)) then (bif (decide (t3.I < (b1_1.L.length : Int))) then (bif (!(Op.bytesLess (((b1_1.L.getD (w64 (t3.I - 1)).toNat []).getD 0 .nil).S).toList (((b1_1.L.getD t3.I.toNat []).getD 0 .nil).S).toList)) then (some (.ret [.b false])) else (some (.again [.i (w64 (t3.I + 1)), b1_0, b1_1, b1_2, b1_3]))) else none) else none) else none) else none) else (some (.again [.i (w64 (t3.I + 1)), b1_0, b1_1, b1_2, b1_3]))) else (some (.ret [.b false])))) else none) else none) else (some (.brk 0 [b1_0, b1_1, b1_2, b1_3])))
def s_StewValid.d2 (t4 b1_0 b1_1 b1_2 b1_3 : C) : R := (bif (decide (t4.I < (b1_3.L.length : Int))) then (bif (decide (0 ≤ t4.I)) then (bif (decide (t4.I < (b1_3.L.length : Int))) then (call1 (s_l18NameOk [((b1_3.L.getD t4.I.toNat []).getD 0 .nil)]) fun y3_t0 => (bif (!(!y3_t0.B)) then (bif (decide (t4.I > 0)) then (bif (decide (0 ≤ (w64 (t4.I - 1)))) then (bif (decide ((w64 (t4.I - 1)) < (b1_3.L.length : Int))) then (bif (decide (0 ≤ t4.I)) then (bif (decide (t4.I < (b1_3.L.length : Int))) then (bif (!(Op.bytesLess (((b1_3.L.getD (w64 (t4.I - 1)).toNat []).getD 0 .nil).S).toList (((b1_3.L.getD t4.I.toNat []).getD 0 .nil).S).toList)) then (some (.ret [.b false])) else (some (.again [.i (w64 (t4.I + 1)), b1_0, b1_1, b1_2, b1_3]))) else none) else none) else none) else none) else (some (.again [.i (w64 (t4.I + 1)), b1_0, b1_1, b1_2, b1_3]))) else (some (.ret [.b false])))) else none) else none) else (some (.brk 2 [b1_0, b1_1, b1_2, b1_3])))
def s_StewValid.d3 (t5 b1_0 b1_1 b1_2 b1_3 : C) : R := (bif (decide (t5.I < (b1_2.L.length : Int))) then (bif (decide (0 ≤ t5.I)) then (bif (decide (t5.I < (b1_2.L.length : Int))) then (call1 (s_l18CopyOk [b1_0, b1_1, b1_2, b1_3, ((b1_2.L.getD t5.I.toNat []).getD 0 .nil), ((b1_2.L.getD t5.I.toNat []).getD 1 .nil), ((b1_2.L.getD t5.I.toNat []).getD 2 .nil), ((b1_2.L.getD t5.I.toNat []).getD 3 .nil), ((b1_2.L.getD t5.I.toNat []).getD 4 .nil), ((b1_2.L.getD t5.I.toNat []).getD 5 .nil), ((b1_2.L.getD t5.I.toNat []).getD 6 .nil)]) fun y4_t0 => (bif (!(!y4_t0.B)) then (bif (decide (t5.I > 0)) then (bif (decide (0 ≤ (w64 (t5.I - 1)))) then (bif (decide ((w64 (t5.I - 1)) < (b1_2.L.length : Int))) then (bif (decide (0 ≤ t5.I)) then (bif (decide (t5.I < (b1_2.L.length : Int))) then (call1 (s_l18Ahead [((b1_2.L.getD (w64 (t5.I - 1)).toNat []).getD 0 .nil), ((b1_2.L.getD (w64 (t5.I - 1)).toNat []).getD 1 .nil), ((b1_2.L.getD (w64 (t5.I - 1)).toNat []).getD 2 .nil), ((b1_2.L.getD (w64 (t5.I - 1)).toNat []).getD 3 .nil), ((b1_2.L.getD (w64 (t5.I - 1)).toNat []).getD 4 .nil), ((b1_2.L.getD (w64 (t5.I - 1)).toNat []).getD 5 .nil), ((b1_2.L.getD (w64 (t5.I - 1)).toNat []).getD 6 .nil), ((b1_2.L.getD t5.I.toNat []).getD 0 .nil), ((b1_2.L.getD t5.I.toNat []).getD 1 .nil), ((b1_2.L.getD t5.I.toNat []).getD 2 .nil), ((b1_2.L.getD t5.I.toNat []).getD 3 .nil), ((b1_2.L.getD t5.I.toNat []).getD 4 .nil), ((b1_2.L.getD t5.I.toNat []).getD 5 .nil), ((b1_2.L.getD t5.I.toNat []).getD 6 .nil)]) fun y5_t0 => (bif (!y5_t0.B) then (some (.ret [.b false])) else (some (.again [.i (w64 (t5.I + 1)), b1_0, b1_1, b1_2, b1_3])))) else none) else none) else none) else none) else (some (.again [.i (w64 (t5.I + 1)), b1_0, b1_1, b1_2, b1_3]))) else (some (.ret [.b false])))) else none) else none) else (some (.brk 4 [])))
def s_StewValid.d4 : R := (some (.ret [.b true]))
def s_StewValid.d5 (b1_0 b1_1 b1_2 b1_3 : C) : R := (bindBlk 4 (lim (ap5 s_StewValid.d3) [.i 0, b1_0, b1_1, b1_2, b1_3]) (fun xs => s_StewValid.d4))
def s_StewValid.d6 (b1_0 b1_1 b1_2 b1_3 : C) : R := (bindBlk 2 (lim (ap5 s_StewValid.d2) [.i 0, b1_0, b1_1, b1_2, b1_3]) (ap4 s_StewValid.d5))
def s_StewValid.d7 (t0_0 t0_1 t0_2 t0_3 : C) : R := (call1 (s_l18In [t0_0, .i 0, .i 1000000]) fun y1_t0 => (bif (!(!y1_t0.B)) then (bif (!(decide ((t0_1.L.length : Int) > 8))) then (bif (!(decide ((t0_2.L.length : Int) > 200))) then (bif (decide ((t0_3.L.length : Int) > 6)) then (some (.ret [.b false])) else (bindBlk 0 (lim (ap5 s_StewValid.d1) [.i 0, t0_0, t0_1, t0_2, t0_3]) (ap4 s_StewValid.d6))) else (some (.ret [.b false]))) else (some (.ret [.b false]))) else (some (.ret [.b false]))))
def s_StewValid : List C → Option (List C) := fun xs => finR (ap4 s_StewValid.d7 xs)
def s_StewValid_fs : FS := ⟨1, ⟨[(0, z2)], []⟩, ⟨[(0, zo)], []⟩, [], s_StewValid⟩
theorem s_StewValid_ok : FSOk Try.checked.prog T0 8 s_StewValid_fs := okOf base0 (fn := Try.f8) (c := Try.f8.body.getD .skip) s_StewValid_fs (.seq .leaf (.seq .leaf (.seq (.seq .leaf (.block ⟨[(1, (.pt 1 0))], [(1, z0)]⟩ (.loop ⟨[(1, (.pt 1 0)), (3, zi)], [(1, z0)]⟩ .leaf))) (.seq (.seq .leaf (.block ⟨[(1, (.pt 1 0))], [(1, z0)]⟩ (.loop ⟨[(1, (.pt 1 0)), (4, zi)], [(1, z0)]⟩ .leaf))) (.seq (.seq .leaf (.block ⟨[], []⟩ (.loop ⟨[(1, (.pt 1 0)), (5, zi)], [(1, z0)]⟩ .leaf))) .leaf))))) [(17, some 8, s_l18In_fs), (18, some 42, s_l18ServiceOk_fs), (19, some 77, s_l18NameOk_fs), (20, some 112, s_l18CopyOk_fs), (21, some 129, s_l18Ahead_fs)] (.cons s_l18In_ok (.cons s_l18ServiceOk_ok (.cons s_l18NameOk_ok (.cons s_l18CopyOk_ok (.cons s_l18Ahead_ok .nil))))) (by kernel_rfl) (by kernel_rfl) (by kernel_rfl) (fun xs => by kernel_rfl)
def s_l18Book.d1 (t0_0 t0_1 t0_2 t0_3 : C) : R := (bif (decide (nils.length + t0_1.L.length ≤ 4294967296)) then (bif (decide (nils.length + t0_2.L.length ≤ 4294967296)) then (bif (decide (nils.length + t0_3.L.length ≤ 4294967296)) then (some (.ret [t0_0, .l (nils ++ t0_1.L), .l (nils ++ t0_2.L), .l (nils ++ t0_3.L)])) else none) else none) else none)
def s_l18Book : List C → Option (List C) := fun xs => finR (ap4 s_l18Book.d1 xs)
def s_l18Book_fs : FS := ⟨1, ⟨[(0, z2)], []⟩, ⟨[(0, z23)], [(3000, .arr 48), (3001, .arr 58), (3002, .arr 55)]⟩, [], s_l18Book⟩
theorem s_l18Book_ok : FSOk Try.checked.prog T0 61 s_l18Book_fs := okOf base0 (fn := Try.f61) (c := Try.f61.body.getD .skip) s_l18Book_fs .leaf [] .nil (by kernel_rfl) (by kernel_rfl) (by kernel_rfl) (fun xs => by kernel_rfl)
def s_l23Least.d1 (t3 t4 t5 t6 t7 b1_0 b1_1 b1_2 b1_3 : C) : R := (bif (decide (t7.I < (b1_2.L.length : Int))) then (bif (decide (0 ≤ t7.I)) then (bif (decide (t7.I < (b1_2.L.length : Int))) then (bif (decide (0 ≤ t5.I)) then (bif (decide (t5.I < (b1_3.L.length : Int))) then (bif ((((b1_2.L.getD t7.I.toNat []).getD 6 .nil).S).toList == (((b1_3.L.getD t5.I.toNat []).getD 0 .nil).S).toList) then (some (.again [t3, t4, t5, .i (w64 (t6.I + 1)), .i (w64 (t7.I + 1)), b1_0, b1_1, b1_2, b1_3])) else (some (.again [t3, t4, t5, t6, .i (w64 (t7.I + 1)), b1_0, b1_1, b1_2, b1_3]))) else none) else none) else none) else none) else (some (.brk 2 [t3, t4, t5, t6, b1_0, b1_1, b1_2, b1_3])))
def s_l23Least.d2 (t3 t4 t5 t6 t52 b1_0 b1_1 b1_2 b1_3 : C) : R := (bif t52.B then (bif (decide (0 ≤ t5.I)) then (bif (decide (t5.I < (b1_3.L.length : Int))) then (some (.again [((b1_3.L.getD t5.I.toNat []).getD 0 .nil), t6, .i (w64 (t5.I + 1)), b1_0, b1_1, b1_2, b1_3])) else none) else none) else (some (.again [t3, t4, .i (w64 (t5.I + 1)), b1_0, b1_1, b1_2, b1_3])))
def s_l23Least.d3 (t3 t4 t5 t6 b1_0 b1_1 b1_2 b1_3 : C) : R := (bindNrm (bif (decide (0 ≤ t5.I)) then (bif (decide (t5.I < (b1_3.L.length : Int))) then (bif (!(((b1_3.L.getD t5.I.toNat []).getD 1 .nil).B)) then (bif (!(t3.S.toList == (bs #[]).toList)) then (some (.nrm [t3, t4, t5, t6, .b (decide (t6.I < t4.I)), b1_0, b1_1, b1_2, b1_3])) else (some (.nrm [t3, t4, t5, t6, .b true, b1_0, b1_1, b1_2, b1_3]))) else (some (.nrm [t3, t4, t5, t6, .b false, b1_0, b1_1, b1_2, b1_3]))) else none) else none) (ap9 s_l23Least.d2))
def s_l23Least.d4 (t3 t4 t5 b1_0 b1_1 b1_2 b1_3 : C) : R := (bif (decide (t5.I < (b1_3.L.length : Int))) then (bindBlk 2 (lim (ap9 s_l23Least.d1) [t3, t4, t5, .i 0, .i 0, b1_0, b1_1, b1_2, b1_3]) (ap8 s_l23Least.d3)) else (some (.brk 0 [t3])))
def s_l23Least.d5 (t3 : C) : R := (some (.ret [t3]))
def s_l23Least.d6 (t0_0 t0_1 t0_2 t0_3 : C) : R := (bindBlk 0 (lim (ap7 s_l23Least.d4) [.s (bs #[]), .i 0, .i 0, t0_0, t0_1, t0_2, t0_3]) (ap1 s_l23Least.d5))
def s_l23Least : List C → Option (List C) := fun xs => finR (ap4 s_l23Least.d6 xs)
def s_l23Least_fs : FS := ⟨1, ⟨[(0, z2)], []⟩, ⟨[(0, zt)], []⟩, [], s_l23Least⟩
theorem s_l23Least_ok : FSOk Try.checked.prog T0 94 s_l23Least_fs := okOf base0 (fn := Try.f94) (c := Try.f94.body.getD .skip) s_l23Least_fs (.seq .leaf (.seq .leaf (.seq .leaf (.seq (.seq .leaf (.block ⟨[(3, zt)], []⟩ (.loop ⟨[(1, (.pt 1 0)), (3, zt), (4, zi), (5, zi)], [(1, z0)]⟩ (.seq .leaf (.seq (.skip (.seq .leaf (.seq (.seq .leaf (.block ⟨[(1, (.pt 1 0)), (3, zt), (4, zi), (5, zi), (6, zi)], [(1, z0)]⟩ (.loop ⟨[(1, (.pt 1 0)), (3, zt), (4, zi), (5, zi), (6, zi), (7, zi)], [(1, z0)]⟩ .leaf))) (.seq (.join ⟨[(1, (.pt 1 0)), (3, zt), (4, zi), (5, zi), (6, zi), (52, zo)], [(1, z0)]⟩ .leaf) .leaf)))) .leaf))))) .leaf)))) [] .nil (by kernel_rfl) (by kernel_rfl) (by kernel_rfl) (fun xs => by kernel_rfl)
def s_l23Tick.d1 (t1 t6 b2_0 b2_1 b2_2 b2_3 b4_0 a10 a1062500 a1062501 a1062502 : C) : R := (some (.again [t1, .i (w64 (t6.I + 1)), b2_0, b2_1, b2_2, b2_3, b4_0, .l a10.L, .l a1062500.L, .l a1062501.L, .l a1062502.L]))
def s_l23Tick.d2 (t1 t6 b2_0 b2_1 b2_2 b2_3 b4_0 a10 a1062500 a1062501 a1062502 : C) : R := (bif (decide (t6.I < (b2_2.L.length : Int))) then (bindBlk 1 (bif (decide (0 ≤ t6.I)) then (bif (decide (t6.I < (b2_2.L.length : Int))) then (bif ((b2_2.L.getD t6.I.toNat []).getD 5 .nil).B then (some (.brk 1 [t1, t6, b2_0, b2_1, b2_2, b2_3, b4_0, .l a10.L, .l a1062500.L, .l a1062501.L, .l a1062502.L])) else (bif (((b2_2.L.getD t6.I.toNat []).getD 4 .nil).I == 2) then (bif (decide (a10.L.length + (rows [[((b2_2.L.getD t6.I.toNat []).getD 0 .nil), ((b2_2.L.getD t6.I.toNat []).getD 1 .nil), t1, ((b2_2.L.getD t6.I.toNat []).getD 3 .nil), .i 3, ((b2_2.L.getD t6.I.toNat []).getD 5 .nil), ((b2_2.L.getD t6.I.toNat []).getD 6 .nil)]]).length ≤ 4294967296)) then (some (.brk 1 [t1, t6, b2_0, b2_1, b2_2, b2_3, b4_0, .l (a10.L ++ (rows [[((b2_2.L.getD t6.I.toNat []).getD 0 .nil), ((b2_2.L.getD t6.I.toNat []).getD 1 .nil), t1, ((b2_2.L.getD t6.I.toNat []).getD 3 .nil), .i 3, ((b2_2.L.getD t6.I.toNat []).getD 5 .nil), ((b2_2.L.getD t6.I.toNat []).getD 6 .nil)]])), .l a1062500.L, .l a1062501.L, .l a1062502.L])) else none) else (bif (decide (a10.L.length + (rows [[((b2_2.L.getD t6.I.toNat []).getD 0 .nil), ((b2_2.L.getD t6.I.toNat []).getD 1 .nil), ((b2_2.L.getD t6.I.toNat []).getD 2 .nil), ((b2_2.L.getD t6.I.toNat []).getD 3 .nil), ((b2_2.L.getD t6.I.toNat []).getD 4 .nil), ((b2_2.L.getD t6.I.toNat []).getD 5 .nil), ((b2_2.L.getD t6.I.toNat []).getD 6 .nil)]]).length ≤ 4294967296)) then (some (.brk 1 [t1, t6, b2_0, b2_1, b2_2, b2_3, b4_0, .l (a10.L ++ (rows [[((b2_2.L.getD t6.I.toNat []).getD 0 .nil), ((b2_2.L.getD t6.I.toNat []).getD 1 .nil), ((b2_2.L.getD t6.I.toNat []).getD 2 .nil), ((b2_2.L.getD t6.I.toNat []).getD 3 .nil), ((b2_2.L.getD t6.I.toNat []).getD 4 .nil), ((b2_2.L.getD t6.I.toNat []).getD 5 .nil), ((b2_2.L.getD t6.I.toNat []).getD 6 .nil)]])), .l a1062500.L, .l a1062501.L, .l a1062502.L])) else none))) else none) else none) (ap11 s_l23Tick.d1)) else (some (.brk 0 [t1, b2_0, b2_1, b2_2, b2_3, b4_0, .l a10.L, .l a1062500.L, .l a1062501.L, .l a1062502.L])))
def s_l23Tick.d3 (t1 t8 t9 t56 b2_0 b2_1 b2_3 b4_0 a10 a1062500 a1062501 a1062502 : C) : R := (bif t56.B then (bif (decide (0 ≤ t8.I)) then (bif (decide (t8.I < (a10.L.length : Int))) then (bif (decide (0 ≤ t8.I)) then (bif (decide (t8.I < ((a10.L.set t8.I.toNat (setCs (a10.L.getD t8.I.toNat []) 4 [.i 2])).length : Int))) then (bif (decide (0 ≤ t8.I)) then (bif (decide (t8.I < (((a10.L.set t8.I.toNat (setCs (a10.L.getD t8.I.toNat []) 4 [.i 2])).set t8.I.toNat (setCs ((a10.L.set t8.I.toNat (setCs (a10.L.getD t8.I.toNat []) 4 [.i 2])).getD t8.I.toNat []) 6 [t9])).length : Int))) then (some (.again [t1, .i (w64 (t8.I + 1)), b2_0, b2_1, b2_3, b4_0, .l (((a10.L.set t8.I.toNat (setCs (a10.L.getD t8.I.toNat []) 4 [.i 2])).set t8.I.toNat (setCs ((a10.L.set t8.I.toNat (setCs (a10.L.getD t8.I.toNat []) 4 [.i 2])).getD t8.I.toNat []) 6 [t9])).set t8.I.toNat (setCs (((a10.L.set t8.I.toNat (setCs (a10.L.getD t8.I.toNat []) 4 [.i 2])).set t8.I.toNat (setCs ((a10.L.set t8.I.toNat (setCs (a10.L.getD t8.I.toNat []) 4 [.i 2])).getD t8.I.toNat []) 6 [t9])).getD t8.I.toNat []) 2 [t1])), .l a1062500.L, .l a1062501.L, .l a1062502.L])) else none) else none) else none) else none) else none) else none) else (some (.again [t1, .i (w64 (t8.I + 1)), b2_0, b2_1, b2_3, b4_0, .l a10.L, .l a1062500.L, .l a1062501.L, .l a1062502.L])))
def s_l23Tick.d4 (t1 t8 b2_0 b2_1 b2_3 b4_0 a10 a1062500 a1062501 a1062502 : C) : R := (bif (decide (t8.I < (a10.L.length : Int))) then (call1 (s_l23Least [b2_0, b2_1, .l a10.L, b2_3]) fun y1_t0 => (bindNrm (bif (decide (0 ≤ t8.I)) then (bif (decide (t8.I < (a10.L.length : Int))) then (bif (((a10.L.getD t8.I.toNat []).getD 4 .nil).I == 1) then (some (.nrm [t1, t8, y1_t0, .b (!(y1_t0.S.toList == (bs #[]).toList)), b2_0, b2_1, b2_3, b4_0, .l a10.L, .l a1062500.L, .l a1062501.L, .l a1062502.L])) else (some (.nrm [t1, t8, y1_t0, .b false, b2_0, b2_1, b2_3, b4_0, .l a10.L, .l a1062500.L, .l a1062501.L, .l a1062502.L]))) else none) else none) (ap12 s_l23Tick.d3))) else (some (.brk 2 [b2_0, b2_1, b2_3, b4_0, .l a10.L, .l a1062500.L, .l a1062501.L, .l a1062502.L])))
def s_l23Tick.d5 (b2_0 b2_1 b2_3 b4_0 a10 a1062500 a1062501 a1062502 : C) : R := (some (.ret [b2_0, b2_1, b2_3, .l a10.L]))
def s_l23Tick.d6 (t1 b2_0 b2_1 b2_2 b2_3 b4_0 a10 a1062500 a1062501 a1062502 : C) : R := (bindBlk 2 (lim (ap10 s_l23Tick.d4) [t1, .i 0, b2_0, b2_1, b2_3, b4_0, .l a10.L, .l a1062500.L, .l a1062501.L, .l a1062502.L]) (ap8 s_l23Tick.d5))
def s_l23Tick.d7 (t0_0 t0_1 t0_2 t0_3 t1 : C) : R := (bindBlk 0 (lim (ap11 s_l23Tick.d2) [t1, .i 0, t0_0, t0_1, t0_2, t0_3, .i 0, .l nils, .l nils, .l nils, .l nils]) (ap10 s_l23Tick.d6))
def s_l23Tick : List C → Option (List C) := fun xs => finR (ap5 s_l23Tick.d7 xs)
def s_l23Tick_fs : FS := ⟨2, ⟨[(0, z2), (1, zi)], []⟩, ⟨[(0, (.ag [zi, (zl 48), (.ow 3000), (zl 55)]))], [(3000, .arr 58)]⟩, [], s_l23Tick⟩
theorem s_l23Tick_ok : FSOk Try.checked.prog T0 90 s_l23Tick_fs := okOf base0 (fn := Try.f90) (c := Try.f90.body.getD .skip) s_l23Tick_fs (.seq .leaf (.seq .leaf (.seq (.seq .leaf (.block ⟨[(1, zi), (2, (.pt 2 0)), (4, (.pt 4 0)), (5, (.ow 10))], [(2, z0), (4, z19), (10, .arr 58), (1062500, .arr 48), (1062501, .arr 58), (1062502, .arr 55)]⟩ (.loop ⟨[(1, zi), (2, (.pt 2 0)), (4, (.pt 4 0)), (5, (.ow 10)), (6, zi)], [(2, z0), (4, z19), (10, .arr 58), (1062500, .arr 48), (1062501, .arr 58), (1062502, .arr 55)]⟩ (.seq .leaf (.seq (.block ⟨[(1, zi), (2, (.pt 2 0)), (4, (.pt 4 0)), (5, (.ow 10)), (6, zi)], [(2, z0), (4, z19), (10, .arr 58), (1062500, .arr 48), (1062501, .arr 58), (1062502, .arr 55)]⟩ .leaf) .leaf))))) (.seq .leaf (.seq (.seq .leaf (.block ⟨[(2, (.pt 2 0)), (4, (.pt 4 0))], [(2, .var 27 [zi, (zl 48), (.ow 10), (zl 55)]), (4, z19), (10, .arr 58), (1062500, .arr 48), (1062501, .arr 58), (1062502, .arr 55)]⟩ (.loop ⟨[(1, zi), (2, (.pt 2 0)), (4, (.pt 4 0)), (8, zi)], [(2, .var 27 [zi, (zl 48), (.ow 10), (zl 55)]), (4, z19), (10, .arr 58), (1062500, .arr 48), (1062501, .arr 58), (1062502, .arr 55)]⟩ (.seq .leaf (.seq (.skip (.seq .leaf (.seq (.join ⟨[(1, zi), (2, (.pt 2 0)), (4, (.pt 4 0)), (8, zi), (9, zt), (56, zo)], [(2, .var 27 [zi, (zl 48), (.ow 10), (zl 55)]), (4, z19), (10, .arr 58), (1062500, .arr 48), (1062501, .arr 58), (1062502, .arr 55)]⟩ .leaf) .leaf))) .leaf))))) .leaf))))) [(94, some 45, s_l23Least_fs)] (.cons s_l23Least_ok .nil) (by kernel_rfl) (by kernel_rfl) (by kernel_rfl) (fun xs => by kernel_rfl)
def s_l23Wish.d1 (t2 t7 b3_0 b3_1 b3_2 b3_3 b4_0 b4_1 b4_2 b4_3 b4_4 b4_5 b4_6 b4_7 b4_8 b4_9 b4_10 b4_11 b4_12 b6_0 a1073900 a1073901 a1073902 : C) : R := (bif (decide (t7.I < (b3_1.L.length : Int))) then (bif (decide (0 ≤ t7.I)) then (bif (decide (t7.I < (b3_1.L.length : Int))) then (bif (Op.bytesLess (((b3_1.L.getD t7.I.toNat []).getD 0 .nil).S).toList b4_0.S.toList) then (some (.again [t2, .i (w64 (t7.I + 1)), b3_0, b3_1, b3_2, b3_3, b4_0, b4_1, b4_2, b4_3, b4_4, b4_5, b4_6, b4_7, b4_8, b4_9, b4_10, b4_11, b4_12, b6_0, .l a1073900.L, .l a1073901.L, .l a1073902.L])) else (some (.brk 0 [t2, t7, b3_0, b3_1, b3_2, b3_3, b4_0, b4_1, b4_2, b4_3, b4_4, b4_5, b4_6, b4_7, b4_8, b4_9, b4_10, b4_11, b4_12, b6_0, .l a1073900.L, .l a1073901.L, .l a1073902.L]))) else none) else none) else (some (.brk 0 [t2, t7, b3_0, b3_1, b3_2, b3_3, b4_0, b4_1, b4_2, b4_3, b4_4, b4_5, b4_6, b4_7, b4_8, b4_9, b4_10, b4_11, b4_12, b6_0, .l a1073900.L, .l a1073901.L, .l a1073902.L])))
def s_l23Wish.d2 (t7 t8 b3_0 b3_1 b3_2 b3_3 b4_0 b4_1 b4_2 b4_3 b4_4 b4_5 b4_6 b4_7 b4_8 b4_9 b4_10 b4_11 b4_12 b6_0 a1073900 a1073901 a1073902 : C) : R := (bif (decide (0 ≤ t7.I)) then (bif (decide (t7.I ≤ (b3_1.L.length : Int))) then (bif (decide (nils.length + ((b3_1.L.take t7.I.toNat).drop 0).length ≤ 4294967296)) then (bif (decide ((nils ++ ((b3_1.L.take t7.I.toNat).drop 0)).length + (rows [[b4_0, b4_1, b4_2, b4_3, b4_4, b4_5, b4_6, b4_7, b4_8, b4_9, b4_10, b4_11, b4_12]]).length ≤ 4294967296)) then (bif (decide (((nils ++ ((b3_1.L.take t7.I.toNat).drop 0)) ++ (rows [[b4_0, b4_1, b4_2, b4_3, b4_4, b4_5, b4_6, b4_7, b4_8, b4_9, b4_10, b4_11, b4_12]])).length + t8.L.length ≤ 4294967296)) then (some (.ret [b3_0, b3_2, b3_3, .l (((nils ++ ((b3_1.L.take t7.I.toNat).drop 0)) ++ (rows [[b4_0, b4_1, b4_2, b4_3, b4_4, b4_5, b4_6, b4_7, b4_8, b4_9, b4_10, b4_11, b4_12]])) ++ t8.L)])) else none) else none) else none) else none) else none)
def s_l23Wish.d3 (t2 t7 b3_0 b3_1 b3_2 b3_3 b4_0 b4_1 b4_2 b4_3 b4_4 b4_5 b4_6 b4_7 b4_8 b4_9 b4_10 b4_11 b4_12 b6_0 a1073900 a1073901 a1073902 : C) : R := (bif (decide (0 ≤ t7.I)) then (bif (decide (t7.I ≤ (b3_1.L.length : Int))) then (bif (decide ((b3_1.L.length : Int) ≤ (b3_1.L.length : Int))) then (bindNrm (bif (decide ((((b3_1.L.take (b3_1.L.length : Int).toNat).drop t7.I.toNat).length : Int) > 0)) then (bif (decide (0 < (((b3_1.L.take (b3_1.L.length : Int).toNat).drop t7.I.toNat).length : Int))) then (bif ((((((b3_1.L.take (b3_1.L.length : Int).toNat).drop t7.I.toNat).getD 0 []).getD 0 .nil).S).toList == b4_0.S.toList) then (bif (decide (0 < (((b3_1.L.take (b3_1.L.length : Int).toNat).drop t7.I.toNat).length : Int))) then (bif (decide (1 ≤ (((b3_1.L.take (b3_1.L.length : Int).toNat).drop t7.I.toNat).length : Int))) then (bif (decide ((((b3_1.L.take (b3_1.L.length : Int).toNat).drop t7.I.toNat).length : Int) ≤ (((b3_1.L.take (b3_1.L.length : Int).toNat).drop t7.I.toNat).length : Int))) then (some (.nrm [t7, .l ((((b3_1.L.take (b3_1.L.length : Int).toNat).drop t7.I.toNat).take (((b3_1.L.take (b3_1.L.length : Int).toNat).drop t7.I.toNat).length : Int).toNat).drop 1), b3_0, b3_1, b3_2, b3_3, b4_0, t2, b4_2, b4_3, b4_4, b4_5, b4_6, ((((b3_1.L.take (b3_1.L.length : Int).toNat).drop t7.I.toNat).getD 0 []).getD 7 .nil), b4_8, b4_9, b4_10, b4_11, .i 0, b6_0, .l a1073900.L, .l a1073901.L, .l a1073902.L])) else none) else none) else none) else (some (.nrm [t7, .l ((b3_1.L.take (b3_1.L.length : Int).toNat).drop t7.I.toNat), b3_0, b3_1, b3_2, b3_3, b4_0, t2, b4_2, b4_3, b4_4, b4_5, b4_6, .i 1, b4_8, b4_9, b4_10, b4_11, .i 0, b6_0, .l a1073900.L, .l a1073901.L, .l a1073902.L]))) else none) else (some (.nrm [t7, .l ((b3_1.L.take (b3_1.L.length : Int).toNat).drop t7.I.toNat), b3_0, b3_1, b3_2, b3_3, b4_0, t2, b4_2, b4_3, b4_4, b4_5, b4_6, .i 1, b4_8, b4_9, b4_10, b4_11, .i 0, b6_0, .l a1073900.L, .l a1073901.L, .l a1073902.L]))) (ap23 s_l23Wish.d2)) else none) else none) else none)
def s_l23Wish.d4 (t0_0 t0_1 t0_2 t0_3 t1_0 t1_1 t1_2 t1_3 t1_4 t1_5 t1_6 t1_7 t1_8 t1_9 t1_10 t1_11 t1_12 t2 : C) : R := (bindBlk 0 (lim (ap23 s_l23Wish.d1) [t2, .i 0, t0_0, t0_1, t0_2, t0_3, t1_0, t1_1, t1_2, t1_3, t1_4, t1_5, t1_6, t1_7, t1_8, t1_9, t1_10, t1_11, t1_12, .i 0, .l nils, .l nils, .l nils]) (ap23 s_l23Wish.d3))
def s_l23Wish : List C → Option (List C) := fun xs => finR (ap18 s_l23Wish.d4 xs)
def s_l23Wish_fs : FS := ⟨3, ⟨[(0, z2), (1, z6), (2, zi)], []⟩, ⟨[(0, (.ag [zi, (.ow 3000), (zl 58), (zl 55)]))], [(3000, .arr 48)]⟩, [], s_l23Wish⟩
theorem s_l23Wish_ok : FSOk Try.checked.prog T0 91 s_l23Wish_fs := okOf base0 (fn := Try.f91) (c := Try.f91.body.getD .skip) s_l23Wish_fs (.seq .leaf (.seq .leaf (.seq (.block ⟨[(2, zi), (3, (.pt 3 0)), (4, (.pt 4 0)), (6, (.pt 6 0)), (7, zi)], [(3, z0), (4, z3), (6, .var 27 [zi, (.ow 1073900), (.ow 1073901), (.ow 1073902)]), (1073900, .arr 48), (1073901, .arr 58), (1073902, .arr 55)]⟩ (.loop ⟨[(2, zi), (3, (.pt 3 0)), (4, (.pt 4 0)), (6, (.pt 6 0)), (7, zi)], [(3, z0), (4, z3), (6, .var 27 [zi, (.ow 1073900), (.ow 1073901), (.ow 1073902)]), (1073900, .arr 48), (1073901, .arr 58), (1073902, .arr 55)]⟩ .leaf)) (.seq .leaf (.seq .leaf (.seq .leaf (.seq .leaf (.seq (.join ⟨[(3, (.pt 3 0)), (4, (.pt 4 0)), (6, (.pt 6 0)), (7, zi), (8, (zl 48))], [(3, z0), (4, z3), (6, .var 27 [zi, (.ow 1073900), (.ow 1073901), (.ow 1073902)]), (1073900, .arr 48), (1073901, .arr 58), (1073902, .arr 55)]⟩ .leaf) .leaf)))))))) [] .nil (by kernel_rfl) (by kernel_rfl) (by kernel_rfl) (fun xs => by kernel_rfl)
def s_l18Copy.d1 (t1 t2 t7 b3_0 b3_1 b3_2 b3_3 : C) : R := (bif (decide (t7.I < (b3_2.L.length : Int))) then (bif (decide (0 ≤ t7.I)) then (bif (decide (t7.I < (b3_2.L.length : Int))) then (bif ((((b3_2.L.getD t7.I.toNat []).getD 0 .nil).S).toList == t1.S.toList) then (bif (decide (0 ≤ t7.I)) then (bif (decide (t7.I < (b3_2.L.length : Int))) then (bif (((b3_2.L.getD t7.I.toNat []).getD 1 .nil).I == t2.I) then (some (.ret [t7])) else (some (.again [t1, t2, .i (w64 (t7.I + 1)), b3_0, b3_1, b3_2, b3_3]))) else none) else none) else (some (.again [t1, t2, .i (w64 (t7.I + 1)), b3_0, b3_1, b3_2, b3_3]))) else none) else none) else (some (.brk 0 [])))
def s_l18Copy.d2 : R := (some (.ret [.i (-1)]))
def s_l18Copy.d3 (t0_0 t0_1 t0_2 t0_3 t1 t2 : C) : R := (bindBlk 0 (lim (ap7 s_l18Copy.d1) [t1, t2, .i 0, t0_0, t0_1, t0_2, t0_3]) (fun xs => s_l18Copy.d2))
def s_l18Copy : List C → Option (List C) := fun xs => finR (ap6 s_l18Copy.d3 xs)
def s_l18Copy_fs : FS := ⟨3, ⟨[(0, z2), (1, zt), (2, zi)], []⟩, ⟨[(0, zi)], []⟩, [], s_l18Copy⟩
theorem s_l18Copy_ok : FSOk Try.checked.prog T0 78 s_l18Copy_fs := okOf base0 (fn := Try.f78) (c := Try.f78.body.getD .skip) s_l18Copy_fs (.seq .leaf (.seq (.seq .leaf (.block ⟨[], []⟩ (.loop ⟨[(1, zt), (2, zi), (3, (.pt 3 0)), (7, zi)], [(3, z0)]⟩ .leaf))) .leaf)) [] .nil (by kernel_rfl) (by kernel_rfl) (by kernel_rfl) (fun xs => by kernel_rfl)
def s_l23Raise.d1 (t1 t2 t7 b3_0 b3_1 b3_2 b3_3 b6_0 a1080100 a1080101 a1080102 : C) : R := (bif (decide (t7.I < (b3_3.L.length : Int))) then (bif (decide (0 ≤ t7.I)) then (bif (decide (t7.I < (b3_3.L.length : Int))) then (bif (Op.bytesLess (((b3_3.L.getD t7.I.toNat []).getD 0 .nil).S).toList t1.S.toList) then (some (.again [t1, t2, .i (w64 (t7.I + 1)), b3_0, b3_1, b3_2, b3_3, b6_0, .l a1080100.L, .l a1080101.L, .l a1080102.L])) else (some (.brk 0 [t1, t2, t7, b3_0, b3_1, b3_2, b3_3, b6_0, .l a1080100.L, .l a1080101.L, .l a1080102.L]))) else none) else none) else (some (.brk 0 [t1, t2, t7, b3_0, b3_1, b3_2, b3_3, b6_0, .l a1080100.L, .l a1080101.L, .l a1080102.L])))
def s_l23Raise.d2 (t1 t2 t7 t8 b3_0 b3_1 b3_2 b3_3 b6_0 a1080100 a1080101 a1080102 : C) : R := (bif (decide (0 ≤ t7.I)) then (bif (decide (t7.I ≤ (b3_3.L.length : Int))) then (bif (decide (nils.length + ((b3_3.L.take t7.I.toNat).drop 0).length ≤ 4294967296)) then (bif (decide ((nils ++ ((b3_3.L.take t7.I.toNat).drop 0)).length + (rows [[t1, .b t2.B]]).length ≤ 4294967296)) then (bif (decide (((nils ++ ((b3_3.L.take t7.I.toNat).drop 0)) ++ (rows [[t1, .b t2.B]])).length + t8.L.length ≤ 4294967296)) then (some (.ret [b3_0, b3_1, b3_2, .l (((nils ++ ((b3_3.L.take t7.I.toNat).drop 0)) ++ (rows [[t1, .b t2.B]])) ++ t8.L)])) else none) else none) else none) else none) else none)
def s_l23Raise.d3 (t1 t2 t7 b3_0 b3_1 b3_2 b3_3 b6_0 a1080100 a1080101 a1080102 : C) : R := (bif (decide (0 ≤ t7.I)) then (bif (decide (t7.I ≤ (b3_3.L.length : Int))) then (bif (decide ((b3_3.L.length : Int) ≤ (b3_3.L.length : Int))) then (bindNrm (bif (decide ((((b3_3.L.take (b3_3.L.length : Int).toNat).drop t7.I.toNat).length : Int) > 0)) then (bif (decide (0 < (((b3_3.L.take (b3_3.L.length : Int).toNat).drop t7.I.toNat).length : Int))) then (bif ((((((b3_3.L.take (b3_3.L.length : Int).toNat).drop t7.I.toNat).getD 0 []).getD 0 .nil).S).toList == t1.S.toList) then (bif (decide (1 ≤ (((b3_3.L.take (b3_3.L.length : Int).toNat).drop t7.I.toNat).length : Int))) then (bif (decide ((((b3_3.L.take (b3_3.L.length : Int).toNat).drop t7.I.toNat).length : Int) ≤ (((b3_3.L.take (b3_3.L.length : Int).toNat).drop t7.I.toNat).length : Int))) then (some (.nrm [t1, t2, t7, .l ((((b3_3.L.take (b3_3.L.length : Int).toNat).drop t7.I.toNat).take (((b3_3.L.take (b3_3.L.length : Int).toNat).drop t7.I.toNat).length : Int).toNat).drop 1), b3_0, b3_1, b3_2, b3_3, b6_0, .l a1080100.L, .l a1080101.L, .l a1080102.L])) else none) else none) else (some (.nrm [t1, t2, t7, .l ((b3_3.L.take (b3_3.L.length : Int).toNat).drop t7.I.toNat), b3_0, b3_1, b3_2, b3_3, b6_0, .l a1080100.L, .l a1080101.L, .l a1080102.L]))) else none) else (some (.nrm [t1, t2, t7, .l ((b3_3.L.take (b3_3.L.length : Int).toNat).drop t7.I.toNat), b3_0, b3_1, b3_2, b3_3, b6_0, .l a1080100.L, .l a1080101.L, .l a1080102.L]))) (ap12 s_l23Raise.d2)) else none) else none) else none)
def s_l23Raise.d4 (t0_0 t0_1 t0_2 t0_3 t1 t2 : C) : R := (bindBlk 0 (lim (ap11 s_l23Raise.d1) [t1, t2, .i 0, t0_0, t0_1, t0_2, t0_3, .i 0, .l nils, .l nils, .l nils]) (ap11 s_l23Raise.d3))
def s_l23Raise : List C → Option (List C) := fun xs => finR (ap6 s_l23Raise.d4 xs)
def s_l23Raise_fs : FS := ⟨3, ⟨[(0, z2), (1, zt), (2, zo)], []⟩, ⟨[(0, (.ag [zi, (zl 48), (zl 58), (.ow 3000)]))], [(3000, .arr 55)]⟩, [], s_l23Raise⟩
theorem s_l23Raise_ok : FSOk Try.checked.prog T0 92 s_l23Raise_fs := okOf base0 (fn := Try.f92) (c := Try.f92.body.getD .skip) s_l23Raise_fs (.seq .leaf (.seq .leaf (.seq (.block ⟨[(1, zt), (2, zo), (3, (.pt 3 0)), (6, (.pt 6 0)), (7, zi)], [(3, z0), (6, .var 27 [zi, (.ow 1080100), (.ow 1080101), (.ow 1080102)]), (1080100, .arr 48), (1080101, .arr 58), (1080102, .arr 55)]⟩ (.loop ⟨[(1, zt), (2, zo), (3, (.pt 3 0)), (6, (.pt 6 0)), (7, zi)], [(3, z0), (6, .var 27 [zi, (.ow 1080100), (.ow 1080101), (.ow 1080102)]), (1080100, .arr 48), (1080101, .arr 58), (1080102, .arr 55)]⟩ .leaf)) (.seq .leaf (.seq (.join ⟨[(1, zt), (2, zo), (3, (.pt 3 0)), (6, (.pt 6 0)), (7, zi), (8, (zl 55))], [(3, z0), (6, .var 27 [zi, (.ow 1080100), (.ow 1080101), (.ow 1080102)]), (1080100, .arr 48), (1080101, .arr 58), (1080102, .arr 55)]⟩ .leaf) .leaf))))) [] .nil (by kernel_rfl) (by kernel_rfl) (by kernel_rfl) (fun xs => by kernel_rfl)
def s_l23Sea.d1 (t6 t7 b2_0 b4_0 a2000 a2001 a2002 a1054200 a1054201 a1054202 : C) : R := (bif (decide (0 ≤ t7.I)) then (bif (decide (t7.I < (a2001.L.length : Int))) then (bif (decide (0 ≤ t7.I)) then (bif (decide (t7.I < ((a2001.L.set t7.I.toNat (setCs (a2001.L.getD t7.I.toNat []) 4 [.i 4])).length : Int))) then (some (.ret [t6, .l a2000.L, .l ((a2001.L.set t7.I.toNat (setCs (a2001.L.getD t7.I.toNat []) 4 [.i 4])).set t7.I.toNat (setCs ((a2001.L.set t7.I.toNat (setCs (a2001.L.getD t7.I.toNat []) 4 [.i 4])).getD t7.I.toNat []) 2 [t6])), .l a2002.L, .i 0])) else none) else none) else none) else none)
def s_l23Sea.d2 (t6 t10 b2_0 b3_0 b3_1 b3_2 b3_3 b3_4 b3_5 b3_6 b3_7 b3_8 b3_9 b3_10 b3_11 b3_12 b3_13 b3_14 b3_15 b3_16 b4_0 a92 a2000 a2001 a79 a1057300 a1057301 a1057302 : C) : R := (bif (decide (t10.I < (a2001.L.length : Int))) then (bif (decide (0 ≤ t10.I)) then (bif (decide (t10.I < (a2001.L.length : Int))) then (bif (!((((a2001.L.getD t10.I.toNat []).getD 6 .nil).S).toList == b3_14.S.toList)) then (bif (decide (0 ≤ t10.I)) then (bif (decide (t10.I < (a2001.L.length : Int))) then (bif (decide (a92.L.length + (rows [[((a2001.L.getD t10.I.toNat []).getD 0 .nil), ((a2001.L.getD t10.I.toNat []).getD 1 .nil), ((a2001.L.getD t10.I.toNat []).getD 2 .nil), ((a2001.L.getD t10.I.toNat []).getD 3 .nil), ((a2001.L.getD t10.I.toNat []).getD 4 .nil), ((a2001.L.getD t10.I.toNat []).getD 5 .nil), ((a2001.L.getD t10.I.toNat []).getD 6 .nil)]]).length ≤ 4294967296)) then (some (.again [t6, .i (w64 (t10.I + 1)), b2_0, b3_0, b3_1, b3_2, b3_3, b3_4, b3_5, b3_6, b3_7, b3_8, b3_9, b3_10, b3_11, b3_12, b3_13, b3_14, b3_15, b3_16, b4_0, .l (a92.L ++ (rows [[((a2001.L.getD t10.I.toNat []).getD 0 .nil), ((a2001.L.getD t10.I.toNat []).getD 1 .nil), ((a2001.L.getD t10.I.toNat []).getD 2 .nil), ((a2001.L.getD t10.I.toNat []).getD 3 .nil), ((a2001.L.getD t10.I.toNat []).getD 4 .nil), ((a2001.L.getD t10.I.toNat []).getD 5 .nil), ((a2001.L.getD t10.I.toNat []).getD 6 .nil)]])), .l a2000.L, .l a2001.L, .l a79.L, .l a1057300.L, .l a1057301.L, .l a1057302.L])) else none) else none) else none) else (some (.again [t6, .i (w64 (t10.I + 1)), b2_0, b3_0, b3_1, b3_2, b3_3, b3_4, b3_5, b3_6, b3_7, b3_8, b3_9, b3_10, b3_11, b3_12, b3_13, b3_14, b3_15, b3_16, b4_0, .l a92.L, .l a2000.L, .l a2001.L, .l a79.L, .l a1057300.L, .l a1057301.L, .l a1057302.L]))) else none) else none) else (some (.brk 1 [t6, b2_0, b4_0, .l a92.L, .l a2000.L, .l a2001.L, .l a79.L, .l a1057300.L, .l a1057301.L, .l a1057302.L])))
def s_l23Sea.d3 (t6 b2_0 b4_0 a92 a2000 a2001 a79 a1057300 a1057301 a1057302 : C) : R := (some (.ret [t6, .l a2000.L, .l a92.L, .l a79.L, .i 0]))
def s_l23Sea.d4 (t0_0 t1_0 t1_1 t1_2 t1_3 t1_4 t1_5 t1_6 t1_7 t1_8 t1_9 t1_10 t1_11 t1_12 t1_13 t1_14 t1_15 t1_16 a2000 a2001 a2002 : C) : R := (bif (t1_0.I == 1) then (call4 (s_l23Tick [t0_0, .l a2000.L, .l a2001.L, .l a2002.L, .i (w64 (t0_0.I + 1))]) fun y1_t0_0 y1_t0_1 y1_t0_3 y1_a3000 => (some (.ret [.i (w64 (t0_0.I + 1)), y1_t0_1, .l y1_a3000.L, y1_t0_3, .i 0]))) else (bif (t1_0.I == 2) then (call4 (s_l23Wish [t0_0, .l a2000.L, .l a2001.L, .l a2002.L, t1_1, t1_2, t1_3, t1_4, t1_5, t1_6, t1_7, t1_8, t1_9, t1_10, t1_11, t1_12, t1_13, .i (w64 (t0_0.I + 1))]) fun y2_t0_0 y2_t0_2 y2_t0_3 y2_a3000 => (some (.ret [.i (w64 (t0_0.I + 1)), .l y2_a3000.L, y2_t0_2, y2_t0_3, .i 0]))) else (bif (t1_0.I == 3) then (call1 (s_l18Copy [t0_0, .l a2000.L, .l a2001.L, .l a2002.L, t1_14, t1_15]) fun y3_t0 => (bindNrm (bif (!(decide (y3_t0.I < 0))) then (bif (decide (0 ≤ y3_t0.I)) then (bif (decide (y3_t0.I < (a2001.L.length : Int))) then (bif (((a2001.L.getD y3_t0.I.toNat []).getD 4 .nil).I != 3) then (bif (decide (0 ≤ y3_t0.I)) then (bif (decide (y3_t0.I < (a2001.L.length : Int))) then (bif (((a2001.L.getD y3_t0.I.toNat []).getD 4 .nil).I != 2) then (some (.ret [t0_0, .l a2000.L, .l a2001.L, .l a2002.L, .i 3])) else (some (.nrm [.i (w64 (t0_0.I + 1)), y3_t0, t0_0, .i 0, .l a2000.L, .l a2001.L, .l a2002.L, .l nils, .l nils, .l nils]))) else none) else none) else (some (.nrm [.i (w64 (t0_0.I + 1)), y3_t0, t0_0, .i 0, .l a2000.L, .l a2001.L, .l a2002.L, .l nils, .l nils, .l nils]))) else none) else none) else (some (.ret [t0_0, .l a2000.L, .l a2001.L, .l a2002.L, .i 3]))) (ap10 s_l23Sea.d1))) else (bif (t1_0.I == 4) then (call1 (s_l18Berth [t0_0, .l a2000.L, .l a2001.L, .l a2002.L, t1_14]) fun y4_t0 => (bif (decide (y4_t0.I < 0)) then (some (.ret [t0_0, .l a2000.L, .l a2001.L, .l a2002.L, .i 3])) else (bif (decide (0 ≤ y4_t0.I)) then (bif (decide (y4_t0.I ≤ (a2002.L.length : Int))) then (bif (decide (nils.length + ((a2002.L.take y4_t0.I.toNat).drop 0).length ≤ 4294967296)) then (bif (decide (0 ≤ (w64 (y4_t0.I + 1)))) then (bif (decide ((w64 (y4_t0.I + 1)) ≤ (a2002.L.length : Int))) then (bif (decide ((a2002.L.length : Int) ≤ (a2002.L.length : Int))) then (bif (decide ((nils ++ ((a2002.L.take y4_t0.I.toNat).drop 0)).length + ((a2002.L.take (a2002.L.length : Int).toNat).drop (w64 (y4_t0.I + 1)).toNat).length ≤ 4294967296)) then (bindBlk 1 (lim (ap28 s_l23Sea.d2) [.i (w64 (t0_0.I + 1)), .i 0, t0_0, t1_0, t1_1, t1_2, t1_3, t1_4, t1_5, t1_6, t1_7, t1_8, t1_9, t1_10, t1_11, t1_12, t1_13, t1_14, t1_15, t1_16, .i 0, .l nils, .l a2000.L, .l a2001.L, .l ((nils ++ ((a2002.L.take y4_t0.I.toNat).drop 0)) ++ ((a2002.L.take (a2002.L.length : Int).toNat).drop (w64 (y4_t0.I + 1)).toNat)), .l nils, .l nils, .l nils]) (ap10 s_l23Sea.d3)) else none) else none) else none) else none) else none) else none) else none))) else (bif (t1_0.I == 5) then (call4 (s_l23Raise [t0_0, .l a2000.L, .l a2001.L, .l a2002.L, t1_14, .b t1_16.B]) fun y5_t0_0 y5_t0_1 y5_t0_2 y5_a3000 => (some (.ret [.i (w64 (t0_0.I + 1)), y5_t0_1, y5_t0_2, .l y5_a3000.L, .i 0]))) else (bif (t1_0.I == 6) then (call1 (s_l18Service [t0_0, .l a2000.L, .l a2001.L, .l a2002.L, t1_14]) fun y6_t0 => (bif (!(decide (y6_t0.I < 0))) then (bif (decide (0 ≤ y6_t0.I)) then (bif (decide (y6_t0.I < (a2000.L.length : Int))) then (bif (((a2000.L.getD y6_t0.I.toNat []).getD 8 .nil).I == 0) then (some (.ret [t0_0, .l a2000.L, .l a2001.L, .l a2002.L, .i 3])) else (bif (decide (0 ≤ y6_t0.I)) then (bif (decide (y6_t0.I < (a2000.L.length : Int))) then (bif (decide (0 ≤ y6_t0.I)) then (bif (decide (y6_t0.I < ((a2000.L.set y6_t0.I.toNat (setCs (a2000.L.getD y6_t0.I.toNat []) 11 [t1_15])).length : Int))) then (some (.ret [.i (w64 (t0_0.I + 1)), .l ((a2000.L.set y6_t0.I.toNat (setCs (a2000.L.getD y6_t0.I.toNat []) 11 [t1_15])).set y6_t0.I.toNat (setCs ((a2000.L.set y6_t0.I.toNat (setCs (a2000.L.getD y6_t0.I.toNat []) 11 [t1_15])).getD y6_t0.I.toNat []) 1 [.i (w64 (t0_0.I + 1))])), .l a2001.L, .l a2002.L, .i 0])) else none) else none) else none) else none)) else none) else none) else (some (.ret [t0_0, .l a2000.L, .l a2001.L, .l a2002.L, .i 3])))) else (some (.ret [t0_0, .l a2000.L, .l a2001.L, .l a2002.L, .i 4]))))))))
def s_l23Sea : List C → Option (List C) := fun xs => finR (ap21 s_l23Sea.d4 xs)
def s_l23Sea_fs : FS := ⟨2, ⟨[(0, (.ag [zi, (.ow 2000), (.ow 2001), (.ow 2002)])), (1, z24)], [(2000, .arr 48), (2001, .arr 58), (2002, .arr 55)]⟩, ⟨[(0, (.tu [z2, zi]))], []⟩, [], s_l23Sea⟩
theorem s_l23Sea_ok : FSOk Try.checked.prog T0 88 s_l23Sea_fs := okOf base0 (fn := Try.f88) (c := Try.f88.body.getD .skip) s_l23Sea_fs (.seq .leaf (.seq .leaf (.seq (.seq .leaf (.skip (.seq .leaf (.cond (.frz [2000, 2001, 2002] .leaf) (.seq .leaf (.cond (.frz [2000, 2001, 2002] .leaf) (.seq .leaf (.cond (.seq .leaf (.seq (.join ⟨[(2, (.pt 2 0)), (4, (.pt 4 0)), (6, zi), (7, zi)], [(2, .var 27 [zi, (.ow 2000), (.ow 2001), (.ow 2002)]), (4, .var 27 [zi, (.ow 1054200), (.ow 1054201), (.ow 1054202)]), (2000, .arr 48), (2001, .arr 58), (2002, .arr 55), (1054200, .arr 48), (1054201, .arr 58), (1054202, .arr 55)]⟩ (.seq .leaf (.cond (.seq .leaf (.frz [2000, 2001, 2002] .leaf)) .leaf))) .leaf)) (.seq .leaf (.cond (.seq .leaf (.seq (.seq .leaf (.cond (.seq .leaf (.frz [2000, 2001, 2002] .leaf)) .leaf)) (.seq .leaf (.seq .leaf (.seq (.seq .leaf (.block ⟨[(2, (.pt 2 0)), (4, (.pt 4 0)), (6, zi), (9, (.ow 92))], [(2, .var 27 [zi, (.ow 2000), (.ow 2001), (.ow 79)]), (4, .var 27 [zi, (.ow 1057300), (.ow 1057301), (.ow 1057302)]), (92, .arr 58), (2000, .arr 48), (2001, .arr 58), (79, .arr 55), (1057300, .arr 48), (1057301, .arr 58), (1057302, .arr 55)]⟩ (.loop ⟨[(2, (.pt 2 0)), (3, (.pt 3 0)), (4, (.pt 4 0)), (6, zi), (9, (.ow 92)), (10, zi)], [(2, .var 27 [zi, (.ow 2000), (.ow 2001), (.ow 79)]), (3, z8), (4, .var 27 [zi, (.ow 1057300), (.ow 1057301), (.ow 1057302)]), (92, .arr 58), (2000, .arr 48), (2001, .arr 58), (79, .arr 55), (1057300, .arr 48), (1057301, .arr 58), (1057302, .arr 55)]⟩ .leaf))) .leaf))))) (.seq .leaf (.cond (.frz [2000, 2001, 2002] .leaf) (.seq .leaf (.cond (.seq .leaf (.seq (.seq .leaf (.cond (.seq .leaf (.frz [2000, 2001, 2002] .leaf)) .leaf)) .leaf)) (.seq .leaf (.frz [2000, 2001, 2002] .leaf)))))))))))))))) (.seq .leaf (.seq .leaf (.frz [79, 92, 2000, 2001, 2002, 97208, 125880, 523192] .leaf)))))) [(54, some 132, s_l18Service_fs), (55, some 75, s_l18Berth_fs), (78, some 37, s_l18Copy_fs), (90, some 22, s_l23Tick_fs), (91, some 29, s_l23Wish_fs), (92, some 126, s_l23Raise_fs)] (.cons s_l18Service_ok (.cons s_l18Berth_ok (.cons s_l18Copy_ok (.cons s_l23Tick_ok (.cons s_l23Wish_ok (.cons s_l23Raise_ok .nil)))))) (by kernel_rfl) (by kernel_rfl) (by kernel_rfl) (fun xs => by kernel_rfl)
def s_StewSea.d1 (t7 b2_0 b2_1 b2_2 b2_3 b4_0 b6_0 b6_1 b6_2 b6_3 a1028600 a1028601 a1028602 : C) : R := (bif (t7.I != 0) then (call4 (s_l18Book [b2_0, b2_1, b2_2, b2_3]) fun y8_t0_0 y8_a3000 y8_a3001 y8_a3002 => (some (.ret [y8_t0_0, t7, .l y8_a3000.L, .l y8_a3001.L, .l y8_a3002.L]))) else (call4 (s_l18Book [b6_0, b6_1, b6_2, b6_3]) fun y9_t0_0 y9_a3000 y9_a3001 y9_a3002 => (some (.ret [y9_t0_0, .i 0, .l y9_a3000.L, .l y9_a3001.L, .l y9_a3002.L]))))
def s_StewSea.d2 (t0_0 t0_1 t0_2 t0_3 t1_0 t1_1 t1_2 t1_3 t1_4 t1_5 t1_6 t1_7 t1_8 t1_9 t1_10 t1_11 t1_12 t1_13 t1_14 t1_15 t1_16 : C) : R := (call1 (s_StewValid [t0_0, t0_1, t0_2, t0_3]) fun y1_t0 => (bif (!y1_t0.B) then (some (.ret [.i 0, .i 1, .l nils, .l nils, .l nils])) else (bif (decide (t0_0.I ≥ 1000000)) then (call1 (s_l18In [t1_0, .i 1, .i 6]) fun y2_t0 => (bif (!y2_t0.B) then (call4 (s_l18Book [t0_0, t0_1, t0_2, t0_3]) fun y3_t0_0 y3_a3000 y3_a3001 y3_a3002 => (some (.ret [y3_t0_0, .i 4, .l y3_a3000.L, .l y3_a3001.L, .l y3_a3002.L]))) else (call4 (s_l18Book [t0_0, t0_1, t0_2, t0_3]) fun y4_t0_0 y4_a3000 y4_a3001 y4_a3002 => (some (.ret [y4_t0_0, .i 7, .l y4_a3000.L, .l y4_a3001.L, .l y4_a3002.L]))))) else (call4 (s_l18Book [t0_0, t0_1, t0_2, t0_3]) fun y5_t0_0 y5_a3000 y5_a3001 y5_a3002 => (call5 (s_l23Sea [y5_t0_0, t1_0, t1_1, t1_2, t1_3, t1_4, t1_5, t1_6, t1_7, t1_8, t1_9, t1_10, t1_11, t1_12, t1_13, t1_14, t1_15, t1_16, .l y5_a3000.L, .l y5_a3001.L, .l y5_a3002.L]) fun y6_t0_0_0 y6_t0_0_1 y6_t0_0_2 y6_t0_0_3 y6_t0_1 => (bindNrm (bif (y6_t0_1.I == 0) then (call1 (s_StewValid [y6_t0_0_0, y6_t0_0_1, y6_t0_0_2, y6_t0_0_3]) fun y7_t0 => (bif (!y7_t0.B) then (some (.nrm [.i 2, t0_0, t0_1, t0_2, t0_3, .i 0, y6_t0_0_0, y6_t0_0_1, y6_t0_0_2, y6_t0_0_3, .l nils, .l nils, .l nils])) else (some (.nrm [y6_t0_1, t0_0, t0_1, t0_2, t0_3, .i 0, y6_t0_0_0, y6_t0_0_1, y6_t0_0_2, y6_t0_0_3, .l nils, .l nils, .l nils])))) else (some (.nrm [y6_t0_1, t0_0, t0_1, t0_2, t0_3, .i 0, y6_t0_0_0, y6_t0_0_1, y6_t0_0_2, y6_t0_0_3, .l nils, .l nils, .l nils]))) (ap13 s_StewSea.d1)))))))
def s_StewSea : List C → Option (List C) := fun xs => finR (ap21 s_StewSea.d2 xs)
def s_StewSea_fs : FS := ⟨2, ⟨[(0, z2), (1, z24)], []⟩, ⟨[(0, (.tu [z23, zi]))], [(3000, .arr 48), (3001, .arr 58), (3002, .arr 55)]⟩, [], s_StewSea⟩
theorem s_StewSea_ok : FSOk Try.checked.prog T0 80 s_StewSea_fs := okOf base0 (fn := Try.f80) (c := Try.f80.body.getD .skip) s_StewSea_fs (.seq .leaf (.seq .leaf (.seq .leaf (.seq .leaf (.seq (.join ⟨[(2, (.pt 2 0)), (4, (.pt 4 0)), (6, (.pt 6 0)), (7, zi)], [(2, z0), (4, .var 27 [zi, (.ow 1028600), (.ow 1028601), (.ow 1028602)]), (6, z0), (1028600, .arr 48), (1028601, .arr 58), (1028602, .arr 55)]⟩ .leaf) .leaf))))) [(8, some 9, s_StewValid_fs), (8, some 34, s_StewValid_fs), (17, some 17, s_l18In_fs), (61, some 20, s_l18Book_fs), (61, some 22, s_l18Book_fs), (61, some 25, s_l18Book_fs), (61, some 40, s_l18Book_fs), (61, some 43, s_l18Book_fs), (88, some 27, s_l23Sea_fs)] (.cons s_StewValid_ok (.cons s_StewValid_ok (.cons s_l18In_ok (.cons s_l18Book_ok (.cons s_l18Book_ok (.cons s_l18Book_ok (.cons s_l18Book_ok (.cons s_l18Book_ok (.cons s_l23Sea_ok .nil))))))))) (by kernel_rfl) (by kernel_rfl) (by kernel_rfl) (fun xs => by kernel_rfl)
end
end Go.Ev
namespace Go.Ev
open Go.Proofs
noncomputable section
def s_l25Next.d1 (t0_0 t0_1 t0_2 t0_3 t0_4 t1_0 t1_1 t1_2 t1_3 : C) : R := (bif (t1_0.I == t0_1.I) then (some (.ret [t0_0, t0_1, t0_2, t0_3, t0_4])) else (bif (decide (nils.length + t0_0.L.length ≤ 4294967296)) then (bif (decide ((nils ++ t0_0.L).length + (rows [[t0_1, t0_2, t0_3, t0_4]]).length ≤ 4294967296)) then (bif (decide ((((nils ++ t0_0.L) ++ (rows [[t0_1, t0_2, t0_3, t0_4]])).length : Int) > 8)) then (bif (decide (1 ≤ (((nils ++ t0_0.L) ++ (rows [[t0_1, t0_2, t0_3, t0_4]])).length : Int))) then (bif (decide ((((nils ++ t0_0.L) ++ (rows [[t0_1, t0_2, t0_3, t0_4]])).length : Int) ≤ (((nils ++ t0_0.L) ++ (rows [[t0_1, t0_2, t0_3, t0_4]])).length : Int))) then (some (.ret [.l ((((nils ++ t0_0.L) ++ (rows [[t0_1, t0_2, t0_3, t0_4]])).take (((nils ++ t0_0.L) ++ (rows [[t0_1, t0_2, t0_3, t0_4]])).length : Int).toNat).drop 1), t1_0, t1_1, t1_2, t1_3])) else none) else none) else (some (.ret [.l ((nils ++ t0_0.L) ++ (rows [[t0_1, t0_2, t0_3, t0_4]])), t1_0, t1_1, t1_2, t1_3]))) else none) else none))
def s_l25Next : List C → Option (List C) := fun xs => finR (ap9 s_l25Next.d1 xs)
def s_l25Next_fs : FS := ⟨2, ⟨[(0, z17), (1, z2)], []⟩, ⟨[(0, z17)], []⟩, [], s_l25Next⟩
theorem s_l25Next_ok : FSOk Try.checked.prog T0 81 s_l25Next_fs := okOf base0 (fn := Try.f81) (c := Try.f81.body.getD .skip) s_l25Next_fs (.seq .leaf (.seq .leaf (.seq .leaf (.seq .leaf (.seq .leaf (.frz [13] .leaf)))))) [] .nil (by kernel_rfl) (by kernel_rfl) (by kernel_rfl) (fun xs => by kernel_rfl)
def s_l25View.d1 (t0_0 t0_1 t0_2 t0_3 t0_4 t1 : C) : R := (bif (!(decide (t1.I ≤ 0))) then (bif ((t0_0.L.length : Int) == 0) then (some (.ret [t0_1, t0_2, t0_3, t0_4])) else (bif (decide (t1.I > (t0_0.L.length : Int))) then (bif (decide (0 ≤ (w64 ((t0_0.L.length : Int) - (t0_0.L.length : Int))))) then (bif (decide ((w64 ((t0_0.L.length : Int) - (t0_0.L.length : Int))) < (t0_0.L.length : Int))) then (some (.ret [((t0_0.L.getD (w64 ((t0_0.L.length : Int) - (t0_0.L.length : Int))).toNat []).getD 0 .nil), ((t0_0.L.getD (w64 ((t0_0.L.length : Int) - (t0_0.L.length : Int))).toNat []).getD 1 .nil), ((t0_0.L.getD (w64 ((t0_0.L.length : Int) - (t0_0.L.length : Int))).toNat []).getD 2 .nil), ((t0_0.L.getD (w64 ((t0_0.L.length : Int) - (t0_0.L.length : Int))).toNat []).getD 3 .nil)])) else none) else none) else (bif (decide (0 ≤ (w64 ((t0_0.L.length : Int) - t1.I)))) then (bif (decide ((w64 ((t0_0.L.length : Int) - t1.I)) < (t0_0.L.length : Int))) then (some (.ret [((t0_0.L.getD (w64 ((t0_0.L.length : Int) - t1.I)).toNat []).getD 0 .nil), ((t0_0.L.getD (w64 ((t0_0.L.length : Int) - t1.I)).toNat []).getD 1 .nil), ((t0_0.L.getD (w64 ((t0_0.L.length : Int) - t1.I)).toNat []).getD 2 .nil), ((t0_0.L.getD (w64 ((t0_0.L.length : Int) - t1.I)).toNat []).getD 3 .nil)])) else none) else none))) else (some (.ret [t0_1, t0_2, t0_3, t0_4])))
def s_l25View : List C → Option (List C) := fun xs => finR (ap6 s_l25View.d1 xs)
def s_l25View_fs : FS := ⟨2, ⟨[(0, z17), (1, zi)], []⟩, ⟨[(0, z2)], []⟩, [], s_l25View⟩
theorem s_l25View_ok : FSOk Try.checked.prog T0 82 s_l25View_fs := okOf base0 (fn := Try.f82) (c := Try.f82.body.getD .skip) s_l25View_fs .leaf [] .nil (by kernel_rfl) (by kernel_rfl) (by kernel_rfl) (fun xs => by kernel_rfl)
def s_l22Live.d1 (t1 t6 b2_0 b2_1 b2_2 b2_3 a7 : C) : R := (bif (decide (t6.I < (b2_2.L.length : Int))) then (bif (decide (0 ≤ t6.I)) then (bif (decide (t6.I < (b2_2.L.length : Int))) then (bif ((((b2_2.L.getD t6.I.toNat []).getD 0 .nil).S).toList == t1.S.toList) then (bif (decide (0 ≤ t6.I)) then (bif (decide (t6.I < (b2_2.L.length : Int))) then (bif (!(((b2_2.L.getD t6.I.toNat []).getD 5 .nil).B)) then (bif (decide (a7.L.length + (rows [[t6]]).length ≤ 4294967296)) then (some (.again [t1, .i (w64 (t6.I + 1)), b2_0, b2_1, b2_2, b2_3, .l (a7.L ++ (rows [[t6]]))])) else none) else (some (.again [t1, .i (w64 (t6.I + 1)), b2_0, b2_1, b2_2, b2_3, .l a7.L]))) else none) else none) else (some (.again [t1, .i (w64 (t6.I + 1)), b2_0, b2_1, b2_2, b2_3, .l a7.L]))) else none) else none) else (some (.brk 0 [.l a7.L])))
def s_l22Live.d2 (a7 : C) : R := (some (.ret [.l a7.L]))
def s_l22Live.d3 (t0_0 t0_1 t0_2 t0_3 t1 : C) : R := (bindBlk 0 (lim (ap7 s_l22Live.d1) [t1, .i 0, t0_0, t0_1, t0_2, t0_3, .l nils]) (ap1 s_l22Live.d2))
def s_l22Live : List C → Option (List C) := fun xs => finR (ap5 s_l22Live.d3 xs)
def s_l22Live_fs : FS := ⟨2, ⟨[(0, z2), (1, zt)], []⟩, ⟨[(0, (.ow 3000))], [(3000, .arr 3)]⟩, [], s_l22Live⟩
theorem s_l22Live_ok : FSOk Try.checked.prog T0 49 s_l22Live_fs := okOf base0 (fn := Try.f49) (c := Try.f49.body.getD .skip) s_l22Live_fs (.seq .leaf (.seq .leaf (.seq (.seq .leaf (.block ⟨[(5, (.ow 7))], [(7, .arr 3)]⟩ (.loop ⟨[(1, zt), (2, (.pt 2 0)), (5, (.ow 7)), (6, zi)], [(2, z0), (7, .arr 3)]⟩ .leaf))) .leaf))) [] .nil (by kernel_rfl) (by kernel_rfl) (by kernel_rfl) (fun xs => by kernel_rfl)
def s_l22Drains.d1 (t0_0 t0_1 t0_2 t0_3 t1_0 t1_1 t1_2 t1_3 t1_4 t1_5 t1_6 : C) : R := (call1 (s_l18Berth [t0_0, t0_1, t0_2, t0_3, t1_6]) fun y1_t0 => (bif (decide (y1_t0.I ≥ 0)) then (bif (decide (0 ≤ y1_t0.I)) then (bif (decide (y1_t0.I < (t0_3.L.length : Int))) then (some (.ret [.b (((t0_3.L.getD y1_t0.I.toNat []).getD 1 .nil).B)])) else none) else none) else (some (.ret [.b false]))))
def s_l22Drains : List C → Option (List C) := fun xs => finR (ap11 s_l22Drains.d1 xs)
def s_l22Drains_fs : FS := ⟨2, ⟨[(0, z2), (1, z14)], []⟩, ⟨[(0, zo)], []⟩, [], s_l22Drains⟩
theorem s_l22Drains_ok : FSOk Try.checked.prog T0 64 s_l22Drains_fs := okOf base0 (fn := Try.f64) (c := Try.f64.body.getD .skip) s_l22Drains_fs .leaf [(55, some 9, s_l18Berth_fs)] (.cons s_l18Berth_ok .nil) (by kernel_rfl) (by kernel_rfl) (by kernel_rfl) (fun xs => by kernel_rfl)
def s_l22Some.d1 (t2 t9 t56 b3_0 b3_1 b3_2 b3_3 b4_0 b4_1 b4_2 b4_3 b4_4 b4_5 b4_6 b4_7 b4_8 b4_9 b4_10 b4_11 b4_12 a11 a68536 : C) : R := (bif t56.B then (bif (decide (0 ≤ t9.I)) then (bif (decide (t9.I < (a68536.L.length : Int))) then (bif (decide (a11.L.length + (rows [[((a68536.L.getD t9.I.toNat []).getD 0 .nil)]]).length ≤ 4294967296)) then (some (.again [t2, .i (w64 (t9.I + 1)), b3_0, b3_1, b3_2, b3_3, b4_0, b4_1, b4_2, b4_3, b4_4, b4_5, b4_6, b4_7, b4_8, b4_9, b4_10, b4_11, b4_12, .l (a11.L ++ (rows [[((a68536.L.getD t9.I.toNat []).getD 0 .nil)]])), .l a68536.L])) else none) else none) else none) else (some (.again [t2, .i (w64 (t9.I + 1)), b3_0, b3_1, b3_2, b3_3, b4_0, b4_1, b4_2, b4_3, b4_4, b4_5, b4_6, b4_7, b4_8, b4_9, b4_10, b4_11, b4_12, .l a11.L, .l a68536.L])))
def s_l22Some.d2 (t2 t9 b3_0 b3_1 b3_2 b3_3 b4_0 b4_1 b4_2 b4_3 b4_4 b4_5 b4_6 b4_7 b4_8 b4_9 b4_10 b4_11 b4_12 a11 a68536 : C) : R := (bif (decide (t9.I < (a68536.L.length : Int))) then (bif (decide (0 ≤ t9.I)) then (bif (decide (t9.I < (a68536.L.length : Int))) then (bif (decide (0 ≤ ((a68536.L.getD t9.I.toNat []).getD 0 .nil).I)) then (bif (decide (((a68536.L.getD t9.I.toNat []).getD 0 .nil).I < (b3_2.L.length : Int))) then (bindNrm (bif (t2.I == 2) then (bif (!(((b3_2.L.getD (((a68536.L.getD t9.I.toNat []).getD 0 .nil).I).toNat []).getD 3 .nil).I != b4_3.I)) then (bif (t2.I == 6) then (call1 (s_l22Drains [b3_0, b3_1, b3_2, b3_3, ((b3_2.L.getD (((a68536.L.getD t9.I.toNat []).getD 0 .nil).I).toNat []).getD 0 .nil), ((b3_2.L.getD (((a68536.L.getD t9.I.toNat []).getD 0 .nil).I).toNat []).getD 1 .nil), ((b3_2.L.getD (((a68536.L.getD t9.I.toNat []).getD 0 .nil).I).toNat []).getD 2 .nil), ((b3_2.L.getD (((a68536.L.getD t9.I.toNat []).getD 0 .nil).I).toNat []).getD 3 .nil), ((b3_2.L.getD (((a68536.L.getD t9.I.toNat []).getD 0 .nil).I).toNat []).getD 4 .nil), ((b3_2.L.getD (((a68536.L.getD t9.I.toNat []).getD 0 .nil).I).toNat []).getD 5 .nil), ((b3_2.L.getD (((a68536.L.getD t9.I.toNat []).getD 0 .nil).I).toNat []).getD 6 .nil)]) fun y2_t0 => (bif (!y2_t0.B) then (bif (t2.I == 3) then (some (.nrm [t2, t9, .b (((b3_2.L.getD (((a68536.L.getD t9.I.toNat []).getD 0 .nil).I).toNat []).getD 4 .nil).I == 4), b3_0, b3_1, b3_2, b3_3, b4_0, b4_1, b4_2, b4_3, b4_4, b4_5, b4_6, b4_7, b4_8, b4_9, b4_10, b4_11, b4_12, .l a11.L, .l a68536.L])) else (some (.nrm [t2, t9, .b false, b3_0, b3_1, b3_2, b3_3, b4_0, b4_1, b4_2, b4_3, b4_4, b4_5, b4_6, b4_7, b4_8, b4_9, b4_10, b4_11, b4_12, .l a11.L, .l a68536.L]))) else (some (.nrm [t2, t9, .b true, b3_0, b3_1, b3_2, b3_3, b4_0, b4_1, b4_2, b4_3, b4_4, b4_5, b4_6, b4_7, b4_8, b4_9, b4_10, b4_11, b4_12, .l a11.L, .l a68536.L])))) else (bif (t2.I == 3) then (some (.nrm [t2, t9, .b (((b3_2.L.getD (((a68536.L.getD t9.I.toNat []).getD 0 .nil).I).toNat []).getD 4 .nil).I == 4), b3_0, b3_1, b3_2, b3_3, b4_0, b4_1, b4_2, b4_3, b4_4, b4_5, b4_6, b4_7, b4_8, b4_9, b4_10, b4_11, b4_12, .l a11.L, .l a68536.L])) else (some (.nrm [t2, t9, .b false, b3_0, b3_1, b3_2, b3_3, b4_0, b4_1, b4_2, b4_3, b4_4, b4_5, b4_6, b4_7, b4_8, b4_9, b4_10, b4_11, b4_12, .l a11.L, .l a68536.L])))) else (some (.nrm [t2, t9, .b true, b3_0, b3_1, b3_2, b3_3, b4_0, b4_1, b4_2, b4_3, b4_4, b4_5, b4_6, b4_7, b4_8, b4_9, b4_10, b4_11, b4_12, .l a11.L, .l a68536.L]))) else (bif (t2.I == 6) then (call1 (s_l22Drains [b3_0, b3_1, b3_2, b3_3, ((b3_2.L.getD (((a68536.L.getD t9.I.toNat []).getD 0 .nil).I).toNat []).getD 0 .nil), ((b3_2.L.getD (((a68536.L.getD t9.I.toNat []).getD 0 .nil).I).toNat []).getD 1 .nil), ((b3_2.L.getD (((a68536.L.getD t9.I.toNat []).getD 0 .nil).I).toNat []).getD 2 .nil), ((b3_2.L.getD (((a68536.L.getD t9.I.toNat []).getD 0 .nil).I).toNat []).getD 3 .nil), ((b3_2.L.getD (((a68536.L.getD t9.I.toNat []).getD 0 .nil).I).toNat []).getD 4 .nil), ((b3_2.L.getD (((a68536.L.getD t9.I.toNat []).getD 0 .nil).I).toNat []).getD 5 .nil), ((b3_2.L.getD (((a68536.L.getD t9.I.toNat []).getD 0 .nil).I).toNat []).getD 6 .nil)]) fun y3_t0 => (bif (!y3_t0.B) then (bif (t2.I == 3) then (some (.nrm [t2, t9, .b (((b3_2.L.getD (((a68536.L.getD t9.I.toNat []).getD 0 .nil).I).toNat []).getD 4 .nil).I == 4), b3_0, b3_1, b3_2, b3_3, b4_0, b4_1, b4_2, b4_3, b4_4, b4_5, b4_6, b4_7, b4_8, b4_9, b4_10, b4_11, b4_12, .l a11.L, .l a68536.L])) else (some (.nrm [t2, t9, .b false, b3_0, b3_1, b3_2, b3_3, b4_0, b4_1, b4_2, b4_3, b4_4, b4_5, b4_6, b4_7, b4_8, b4_9, b4_10, b4_11, b4_12, .l a11.L, .l a68536.L]))) else (some (.nrm [t2, t9, .b true, b3_0, b3_1, b3_2, b3_3, b4_0, b4_1, b4_2, b4_3, b4_4, b4_5, b4_6, b4_7, b4_8, b4_9, b4_10, b4_11, b4_12, .l a11.L, .l a68536.L])))) else (bif (t2.I == 3) then (some (.nrm [t2, t9, .b (((b3_2.L.getD (((a68536.L.getD t9.I.toNat []).getD 0 .nil).I).toNat []).getD 4 .nil).I == 4), b3_0, b3_1, b3_2, b3_3, b4_0, b4_1, b4_2, b4_3, b4_4, b4_5, b4_6, b4_7, b4_8, b4_9, b4_10, b4_11, b4_12, .l a11.L, .l a68536.L])) else (some (.nrm [t2, t9, .b false, b3_0, b3_1, b3_2, b3_3, b4_0, b4_1, b4_2, b4_3, b4_4, b4_5, b4_6, b4_7, b4_8, b4_9, b4_10, b4_11, b4_12, .l a11.L, .l a68536.L]))))) (ap22 s_l22Some.d1)) else none) else none) else none) else none) else (some (.brk 0 [.l a11.L])))
def s_l22Some.d3 (a11 : C) : R := (some (.ret [.l a11.L]))
def s_l22Some.d4 (t0_0 t0_1 t0_2 t0_3 t1_0 t1_1 t1_2 t1_3 t1_4 t1_5 t1_6 t1_7 t1_8 t1_9 t1_10 t1_11 t1_12 t2 : C) : R := (call1 (s_l22Live [t0_0, t0_1, t0_2, t0_3, t1_0]) fun y1_a3000 => (bindBlk 0 (lim (ap21 s_l22Some.d2) [t2, .i 0, t0_0, t0_1, t0_2, t0_3, t1_0, t1_1, t1_2, t1_3, t1_4, t1_5, t1_6, t1_7, t1_8, t1_9, t1_10, t1_11, t1_12, .l nils, .l y1_a3000.L]) (ap1 s_l22Some.d3)))
def s_l22Some : List C → Option (List C) := fun xs => finR (ap18 s_l22Some.d4 xs)
def s_l22Some_fs : FS := ⟨3, ⟨[(0, z2), (1, z6), (2, zi)], []⟩, ⟨[(0, (zl 3))], []⟩, [], s_l22Some⟩
theorem s_l22Some_ok : FSOk Try.checked.prog T0 48 s_l22Some_fs := okOf base0 (fn := Try.f48) (c := Try.f48.body.getD .skip) s_l22Some_fs (.seq .leaf (.seq .leaf (.seq .leaf (.seq (.seq .leaf (.block ⟨[(7, (.ow 11))], [(11, .arr 3)]⟩ (.loop ⟨[(2, zi), (3, (.pt 3 0)), (4, (.pt 4 0)), (7, (.ow 11)), (8, (.ow 68536)), (9, zi)], [(3, z0), (4, z3), (11, .arr 3), (68536, .arr 3)]⟩ (.seq .leaf (.seq (.skip (.seq .leaf (.seq (.join ⟨[(2, zi), (3, (.pt 3 0)), (4, (.pt 4 0)), (7, (.ow 11)), (8, (.ow 68536)), (9, zi), (56, zo)], [(3, z0), (4, z3), (11, .arr 3), (68536, .arr 3)]⟩ .leaf) .leaf))) .leaf))))) (.seq .leaf (.frz [11] .leaf)))))) [(49, some 15, s_l22Live_fs), (64, some 45, s_l22Drains_fs)] (.cons s_l22Live_ok (.cons s_l22Drains_ok .nil)) (by kernel_rfl) (by kernel_rfl) (by kernel_rfl) (fun xs => by kernel_rfl)
def s_l22Ends.d1 (t1 t6 b2_0 b2_1 b2_2 b2_3 a7 : C) : R := (bif (decide (t6.I < (t1.L.length : Int))) then (bif (decide (0 ≤ t6.I)) then (bif (decide (t6.I < (t1.L.length : Int))) then (bif (decide (0 ≤ ((t1.L.getD t6.I.toNat []).getD 0 .nil).I)) then (bif (decide (((t1.L.getD t6.I.toNat []).getD 0 .nil).I < (b2_2.L.length : Int))) then (bif (decide (0 ≤ t6.I)) then (bif (decide (t6.I < (t1.L.length : Int))) then (bif (decide (0 ≤ ((t1.L.getD t6.I.toNat []).getD 0 .nil).I)) then (bif (decide (((t1.L.getD t6.I.toNat []).getD 0 .nil).I < (b2_2.L.length : Int))) then (bif (decide (a7.L.length + (rows [[((b2_2.L.getD (((t1.L.getD t6.I.toNat []).getD 0 .nil).I).toNat []).getD 1 .nil), ((b2_2.L.getD (((t1.L.getD t6.I.toNat []).getD 0 .nil).I).toNat []).getD 2 .nil)]]).length ≤ 4294967296)) then (some (.again [t1, .i (w64 (t6.I + 1)), b2_0, b2_1, b2_2, b2_3, .l (a7.L ++ (rows [[((b2_2.L.getD (((t1.L.getD t6.I.toNat []).getD 0 .nil).I).toNat []).getD 1 .nil), ((b2_2.L.getD (((t1.L.getD t6.I.toNat []).getD 0 .nil).I).toNat []).getD 2 .nil)]]))])) else none) else none) else none) else none) else none) else none) else none) else none) else none) else (some (.brk 0 [.l a7.L])))
def s_l22Ends.d2 (a7 : C) : R := (some (.ret [.l a7.L]))
def s_l22Ends.d3 (t0_0 t0_1 t0_2 t0_3 t1 : C) : R := (bindBlk 0 (lim (ap7 s_l22Ends.d1) [t1, .i 0, t0_0, t0_1, t0_2, t0_3, .l nils]) (ap1 s_l22Ends.d2))
def s_l22Ends : List C → Option (List C) := fun xs => finR (ap5 s_l22Ends.d3 xs)
def s_l22Ends_fs : FS := ⟨2, ⟨[(0, z2), (1, (zl 3))], []⟩, ⟨[(0, (.ow 3000))], [(3000, .arr 79)]⟩, [], s_l22Ends⟩
theorem s_l22Ends_ok : FSOk Try.checked.prog T0 47 s_l22Ends_fs := okOf base0 (fn := Try.f47) (c := Try.f47.body.getD .skip) s_l22Ends_fs (.seq .leaf (.seq .leaf (.seq (.seq .leaf (.block ⟨[(5, (.ow 7))], [(7, .arr 79)]⟩ (.loop ⟨[(1, (zl 3)), (2, (.pt 2 0)), (5, (.ow 7)), (6, zi)], [(2, z0), (7, .arr 79)]⟩ .leaf))) .leaf))) [] .nil (by kernel_rfl) (by kernel_rfl) (by kernel_rfl) (fun xs => by kernel_rfl)
def s_l22Live_v1.d1 (t1 t6 b2_0 b2_1 b2_2 b2_3 a7 : C) : R := (bif (decide (t6.I < (b2_2.L.length : Int))) then (bif (decide (0 ≤ t6.I)) then (bif (decide (t6.I < (b2_2.L.length : Int))) then (bif ((((b2_2.L.getD t6.I.toNat []).getD 0 .nil).S).toList == t1.S.toList) then (bif (decide (0 ≤ t6.I)) then (bif (decide (t6.I < (b2_2.L.length : Int))) then (bif (!(((b2_2.L.getD t6.I.toNat []).getD 5 .nil).B)) then (bif (decide (a7.L.length + (rows [[t6]]).length ≤ 4294967296)) then (some (.again [t1, .i (w64 (t6.I + 1)), b2_0, b2_1, b2_2, b2_3, .l (a7.L ++ (rows [[t6]]))])) else none) else (some (.again [t1, .i (w64 (t6.I + 1)), b2_0, b2_1, b2_2, b2_3, .l a7.L]))) else none) else none) else (some (.again [t1, .i (w64 (t6.I + 1)), b2_0, b2_1, b2_2, b2_3, .l a7.L]))) else none) else none) else (some (.brk 0 [.l a7.L])))
def s_l22Live_v1.d2 (a7 : C) : R := (some (.ret [.l a7.L]))
def s_l22Live_v1.d3 (t0_0 t0_1 t0_2 t0_3 t1 : C) : R := (bindBlk 0 (lim (ap7 s_l22Live_v1.d1) [t1, .i 0, t0_0, t0_1, t0_2, t0_3, .l nils]) (ap1 s_l22Live_v1.d2))
def s_l22Live_v1 : List C → Option (List C) := fun xs => finR (ap5 s_l22Live_v1.d3 xs)
def s_l22Live_v1_fs : FS := ⟨2, ⟨[(0, z2), (1, zt)], []⟩, ⟨[(0, (zl 3))], []⟩, [], s_l22Live_v1⟩
theorem s_l22Live_v1_ok : FSOk Try.checked.prog T0 49 s_l22Live_v1_fs := okOf base0 (fn := Try.f49) (c := Try.f49.body.getD .skip) s_l22Live_v1_fs (.seq .leaf (.seq .leaf (.seq (.seq .leaf (.block ⟨[(5, (.ow 7))], [(7, .arr 3)]⟩ (.loop ⟨[(1, zt), (2, (.pt 2 0)), (5, (.ow 7)), (6, zi)], [(2, z0), (7, .arr 3)]⟩ .leaf))) (.seq .leaf (.frz [7] .leaf))))) [] .nil (by kernel_rfl) (by kernel_rfl) (by kernel_rfl) (fun xs => by kernel_rfl)
def s_l19Count.d1 (t1 t6 t7 b2_0 b2_1 b2_2 b2_3 b4_0 b4_1 b4_2 b4_3 b4_4 b5_0 b5_1 b5_2 b5_3 b5_4 b8_0 b8_1 b8_2 b8_3 b8_4 b8_5 b8_6 : C) : R := (bif (decide (0 ≤ t6.I)) then (bif (decide (t6.I < (b2_1.L.length : Int))) then (bif (b8_3.I != ((b2_1.L.getD t6.I.toNat []).getD 3 .nil).I) then (some (.brk 1 [t1, t6, t7, b2_0, b2_1, b2_2, b2_3, b4_0, b4_1, b4_2, b4_3, b4_4, b5_0, b5_1, .i (w64 (b5_2.I + 1)), b5_3, b5_4])) else (some (.brk 1 [t1, t6, t7, b2_0, b2_1, b2_2, b2_3, b4_0, b4_1, b4_2, b4_3, b4_4, b5_0, b5_1, b5_2, b5_3, b5_4]))) else none) else none)
def s_l19Count.d2 (t1 t6 t7 b2_0 b2_1 b2_2 b2_3 b4_0 b4_1 b4_2 b4_3 b4_4 b5_0 b5_1 b5_2 b5_3 b5_4 b8_0 b8_1 b8_2 b8_3 b8_4 b8_5 b8_6 : C) : R := (bindNrm (bif (b8_4.I == 4) then (some (.nrm [t1, t6, t7, b2_0, b2_1, b2_2, b2_3, b4_0, b4_1, b4_2, b4_3, b4_4, b5_0, b5_1, b5_2, .i (w64 (b5_3.I + 1)), b5_4, b8_0, b8_1, b8_2, b8_3, b8_4, b8_5, b8_6])) else (some (.nrm [t1, t6, t7, b2_0, b2_1, b2_2, b2_3, b4_0, b4_1, b4_2, b4_3, b4_4, b5_0, b5_1, b5_2, b5_3, b5_4, b8_0, b8_1, b8_2, b8_3, b8_4, b8_5, b8_6]))) (ap24 s_l19Count.d1))
def s_l19Count.d3 (t1 t6 t7 b2_0 b2_1 b2_2 b2_3 b4_0 b4_1 b4_2 b4_3 b4_4 b5_0 b5_1 b5_2 b5_3 b5_4 : C) : R := (some (.again [t1, t6, .i (w64 (t7.I + 1)), b2_0, b2_1, b2_2, b2_3, b4_0, b4_1, b4_2, b4_3, b4_4, b5_0, b5_1, b5_2, b5_3, b5_4]))
def s_l19Count.d4 (t1 t6 t7 b2_0 b2_1 b2_2 b2_3 b4_0 b4_1 b4_2 b4_3 b4_4 b5_0 b5_1 b5_2 b5_3 b5_4 : C) : R := (bif (decide (t7.I < (b2_2.L.length : Int))) then (bif (decide (t6.I ≥ 0)) then (bindBlk 1 (bif (decide (0 ≤ t7.I)) then (bif (decide (t7.I < (b2_2.L.length : Int))) then (bif (!((((b2_2.L.getD t7.I.toNat []).getD 0 .nil).S).toList == t1.S.toList)) then (some (.brk 1 [t1, t6, t7, b2_0, b2_1, b2_2, b2_3, b4_0, b4_1, b4_2, b4_3, b4_4, b5_0, b5_1, b5_2, b5_3, b5_4])) else (bif ((b2_2.L.getD t7.I.toNat []).getD 5 .nil).B then (some (.brk 1 [t1, t6, t7, b2_0, b2_1, b2_2, b2_3, b4_0, b4_1, b4_2, b4_3, b4_4, b5_0, b5_1, b5_2, b5_3, .i (w64 (b5_4.I + 1))])) else (bindNrm (bif (((b2_2.L.getD t7.I.toNat []).getD 4 .nil).I == 3) then (some (.nrm [t1, t6, t7, b2_0, b2_1, b2_2, b2_3, b4_0, b4_1, b4_2, b4_3, b4_4, .i (w64 (b5_0.I + 1)), .i (w64 (b5_1.I + 1)), b5_2, b5_3, b5_4, ((b2_2.L.getD t7.I.toNat []).getD 0 .nil), ((b2_2.L.getD t7.I.toNat []).getD 1 .nil), ((b2_2.L.getD t7.I.toNat []).getD 2 .nil), ((b2_2.L.getD t7.I.toNat []).getD 3 .nil), ((b2_2.L.getD t7.I.toNat []).getD 4 .nil), ((b2_2.L.getD t7.I.toNat []).getD 5 .nil), ((b2_2.L.getD t7.I.toNat []).getD 6 .nil)])) else (some (.nrm [t1, t6, t7, b2_0, b2_1, b2_2, b2_3, b4_0, b4_1, b4_2, b4_3, b4_4, .i (w64 (b5_0.I + 1)), b5_1, b5_2, b5_3, b5_4, ((b2_2.L.getD t7.I.toNat []).getD 0 .nil), ((b2_2.L.getD t7.I.toNat []).getD 1 .nil), ((b2_2.L.getD t7.I.toNat []).getD 2 .nil), ((b2_2.L.getD t7.I.toNat []).getD 3 .nil), ((b2_2.L.getD t7.I.toNat []).getD 4 .nil), ((b2_2.L.getD t7.I.toNat []).getD 5 .nil), ((b2_2.L.getD t7.I.toNat []).getD 6 .nil)]))) (ap24 s_l19Count.d2)))) else none) else none) (ap17 s_l19Count.d3)) else (some (.brk 0 [b4_0, b4_1, b4_2, b4_3, b4_4, b5_0, b5_1, b5_2, b5_3, b5_4]))) else (some (.brk 0 [b4_0, b4_1, b4_2, b4_3, b4_4, b5_0, b5_1, b5_2, b5_3, b5_4])))
def s_l19Count.d5 (b4_0 b4_1 b4_2 b4_3 b4_4 b5_0 b5_1 b5_2 b5_3 b5_4 : C) : R := (some (.ret [b5_0, b5_1, b5_2, b5_3, b5_4]))
def s_l19Count.d6 (t0_0 t0_1 t0_2 t0_3 t1 : C) : R := (call1 (s_l18Service [t0_0, t0_1, t0_2, t0_3, t1]) fun y1_t0 => (bindBlk 0 (lim (ap17 s_l19Count.d4) [t1, y1_t0, .i 0, t0_0, t0_1, t0_2, t0_3, .i 0, .i 0, .i 0, .i 0, .i 0, .i 0, .i 0, .i 0, .i 0, .i 0]) (ap10 s_l19Count.d5)))
def s_l19Count : List C → Option (List C) := fun xs => finR (ap5 s_l19Count.d6 xs)
def s_l19Count_fs : FS := ⟨2, ⟨[(0, z2), (1, zt)], []⟩, ⟨[(0, (.ag [zi, zi, zi, zi, zi]))], []⟩, [], s_l19Count⟩
theorem s_l19Count_ok : FSOk Try.checked.prog T0 50 s_l19Count_fs := okOf base0 (fn := Try.f50) (c := Try.f50.body.getD .skip) s_l19Count_fs (.seq .leaf (.seq .leaf (.seq .leaf (.seq (.seq .leaf (.block ⟨[(4, (.pt 4 0)), (5, (.pt 5 0))], [(4, z11), (5, z11)]⟩ (.loop ⟨[(1, zt), (2, (.pt 2 0)), (4, (.pt 4 0)), (5, (.pt 5 0)), (6, zi), (7, zi)], [(2, z0), (4, z11), (5, z11)]⟩ (.seq .leaf (.seq (.block ⟨[(1, zt), (2, (.pt 2 0)), (4, (.pt 4 0)), (5, (.pt 5 0)), (6, zi), (7, zi)], [(2, z0), (4, z11), (5, z11)]⟩ (.seq .leaf (.seq .leaf (.seq .leaf (.seq .leaf (.seq (.join ⟨[(1, zt), (2, (.pt 2 0)), (4, (.pt 4 0)), (5, (.pt 5 0)), (6, zi), (7, zi), (8, (.pt 8 0))], [(2, z0), (4, z11), (5, z11), (8, z12)]⟩ .leaf) (.seq (.join ⟨[(1, zt), (2, (.pt 2 0)), (4, (.pt 4 0)), (5, (.pt 5 0)), (6, zi), (7, zi), (8, (.pt 8 0))], [(2, z0), (4, z11), (5, z11), (8, z12)]⟩ .leaf) .leaf))))))) .leaf))))) .leaf)))) [(54, some 12, s_l18Service_fs)] (.cons s_l18Service_ok .nil) (by kernel_rfl) (by kernel_rfl) (by kernel_rfl) (fun xs => by kernel_rfl)
def s_l22Some_v1.d1 (t2 t9 t56 b3_0 b3_1 b3_2 b3_3 b4_0 b4_1 b4_2 b4_3 b4_4 b4_5 b4_6 b4_7 b4_8 b4_9 b4_10 b4_11 b4_12 a11 a68536 : C) : R := (bif t56.B then (bif (decide (0 ≤ t9.I)) then (bif (decide (t9.I < (a68536.L.length : Int))) then (bif (decide (a11.L.length + (rows [[((a68536.L.getD t9.I.toNat []).getD 0 .nil)]]).length ≤ 4294967296)) then (some (.again [t2, .i (w64 (t9.I + 1)), b3_0, b3_1, b3_2, b3_3, b4_0, b4_1, b4_2, b4_3, b4_4, b4_5, b4_6, b4_7, b4_8, b4_9, b4_10, b4_11, b4_12, .l (a11.L ++ (rows [[((a68536.L.getD t9.I.toNat []).getD 0 .nil)]])), .l a68536.L])) else none) else none) else none) else (some (.again [t2, .i (w64 (t9.I + 1)), b3_0, b3_1, b3_2, b3_3, b4_0, b4_1, b4_2, b4_3, b4_4, b4_5, b4_6, b4_7, b4_8, b4_9, b4_10, b4_11, b4_12, .l a11.L, .l a68536.L])))
def s_l22Some_v1.d2 (t2 t9 b3_0 b3_1 b3_2 b3_3 b4_0 b4_1 b4_2 b4_3 b4_4 b4_5 b4_6 b4_7 b4_8 b4_9 b4_10 b4_11 b4_12 a11 a68536 : C) : R := (bif (decide (t9.I < (a68536.L.length : Int))) then (bif (decide (0 ≤ t9.I)) then (bif (decide (t9.I < (a68536.L.length : Int))) then (bif (decide (0 ≤ ((a68536.L.getD t9.I.toNat []).getD 0 .nil).I)) then (bif (decide (((a68536.L.getD t9.I.toNat []).getD 0 .nil).I < (b3_2.L.length : Int))) then (bindNrm (bif (t2.I == 2) then (bif (!(((b3_2.L.getD (((a68536.L.getD t9.I.toNat []).getD 0 .nil).I).toNat []).getD 3 .nil).I != b4_3.I)) then (bif (t2.I == 6) then (call1 (s_l22Drains [b3_0, b3_1, b3_2, b3_3, ((b3_2.L.getD (((a68536.L.getD t9.I.toNat []).getD 0 .nil).I).toNat []).getD 0 .nil), ((b3_2.L.getD (((a68536.L.getD t9.I.toNat []).getD 0 .nil).I).toNat []).getD 1 .nil), ((b3_2.L.getD (((a68536.L.getD t9.I.toNat []).getD 0 .nil).I).toNat []).getD 2 .nil), ((b3_2.L.getD (((a68536.L.getD t9.I.toNat []).getD 0 .nil).I).toNat []).getD 3 .nil), ((b3_2.L.getD (((a68536.L.getD t9.I.toNat []).getD 0 .nil).I).toNat []).getD 4 .nil), ((b3_2.L.getD (((a68536.L.getD t9.I.toNat []).getD 0 .nil).I).toNat []).getD 5 .nil), ((b3_2.L.getD (((a68536.L.getD t9.I.toNat []).getD 0 .nil).I).toNat []).getD 6 .nil)]) fun y2_t0 => (bif (!y2_t0.B) then (bif (t2.I == 3) then (some (.nrm [t2, t9, .b (((b3_2.L.getD (((a68536.L.getD t9.I.toNat []).getD 0 .nil).I).toNat []).getD 4 .nil).I == 4), b3_0, b3_1, b3_2, b3_3, b4_0, b4_1, b4_2, b4_3, b4_4, b4_5, b4_6, b4_7, b4_8, b4_9, b4_10, b4_11, b4_12, .l a11.L, .l a68536.L])) else (some (.nrm [t2, t9, .b false, b3_0, b3_1, b3_2, b3_3, b4_0, b4_1, b4_2, b4_3, b4_4, b4_5, b4_6, b4_7, b4_8, b4_9, b4_10, b4_11, b4_12, .l a11.L, .l a68536.L]))) else (some (.nrm [t2, t9, .b true, b3_0, b3_1, b3_2, b3_3, b4_0, b4_1, b4_2, b4_3, b4_4, b4_5, b4_6, b4_7, b4_8, b4_9, b4_10, b4_11, b4_12, .l a11.L, .l a68536.L])))) else (bif (t2.I == 3) then (some (.nrm [t2, t9, .b (((b3_2.L.getD (((a68536.L.getD t9.I.toNat []).getD 0 .nil).I).toNat []).getD 4 .nil).I == 4), b3_0, b3_1, b3_2, b3_3, b4_0, b4_1, b4_2, b4_3, b4_4, b4_5, b4_6, b4_7, b4_8, b4_9, b4_10, b4_11, b4_12, .l a11.L, .l a68536.L])) else (some (.nrm [t2, t9, .b false, b3_0, b3_1, b3_2, b3_3, b4_0, b4_1, b4_2, b4_3, b4_4, b4_5, b4_6, b4_7, b4_8, b4_9, b4_10, b4_11, b4_12, .l a11.L, .l a68536.L])))) else (some (.nrm [t2, t9, .b true, b3_0, b3_1, b3_2, b3_3, b4_0, b4_1, b4_2, b4_3, b4_4, b4_5, b4_6, b4_7, b4_8, b4_9, b4_10, b4_11, b4_12, .l a11.L, .l a68536.L]))) else (bif (t2.I == 6) then (call1 (s_l22Drains [b3_0, b3_1, b3_2, b3_3, ((b3_2.L.getD (((a68536.L.getD t9.I.toNat []).getD 0 .nil).I).toNat []).getD 0 .nil), ((b3_2.L.getD (((a68536.L.getD t9.I.toNat []).getD 0 .nil).I).toNat []).getD 1 .nil), ((b3_2.L.getD (((a68536.L.getD t9.I.toNat []).getD 0 .nil).I).toNat []).getD 2 .nil), ((b3_2.L.getD (((a68536.L.getD t9.I.toNat []).getD 0 .nil).I).toNat []).getD 3 .nil), ((b3_2.L.getD (((a68536.L.getD t9.I.toNat []).getD 0 .nil).I).toNat []).getD 4 .nil), ((b3_2.L.getD (((a68536.L.getD t9.I.toNat []).getD 0 .nil).I).toNat []).getD 5 .nil), ((b3_2.L.getD (((a68536.L.getD t9.I.toNat []).getD 0 .nil).I).toNat []).getD 6 .nil)]) fun y3_t0 => (bif (!y3_t0.B) then (bif (t2.I == 3) then (some (.nrm [t2, t9, .b (((b3_2.L.getD (((a68536.L.getD t9.I.toNat []).getD 0 .nil).I).toNat []).getD 4 .nil).I == 4), b3_0, b3_1, b3_2, b3_3, b4_0, b4_1, b4_2, b4_3, b4_4, b4_5, b4_6, b4_7, b4_8, b4_9, b4_10, b4_11, b4_12, .l a11.L, .l a68536.L])) else (some (.nrm [t2, t9, .b false, b3_0, b3_1, b3_2, b3_3, b4_0, b4_1, b4_2, b4_3, b4_4, b4_5, b4_6, b4_7, b4_8, b4_9, b4_10, b4_11, b4_12, .l a11.L, .l a68536.L]))) else (some (.nrm [t2, t9, .b true, b3_0, b3_1, b3_2, b3_3, b4_0, b4_1, b4_2, b4_3, b4_4, b4_5, b4_6, b4_7, b4_8, b4_9, b4_10, b4_11, b4_12, .l a11.L, .l a68536.L])))) else (bif (t2.I == 3) then (some (.nrm [t2, t9, .b (((b3_2.L.getD (((a68536.L.getD t9.I.toNat []).getD 0 .nil).I).toNat []).getD 4 .nil).I == 4), b3_0, b3_1, b3_2, b3_3, b4_0, b4_1, b4_2, b4_3, b4_4, b4_5, b4_6, b4_7, b4_8, b4_9, b4_10, b4_11, b4_12, .l a11.L, .l a68536.L])) else (some (.nrm [t2, t9, .b false, b3_0, b3_1, b3_2, b3_3, b4_0, b4_1, b4_2, b4_3, b4_4, b4_5, b4_6, b4_7, b4_8, b4_9, b4_10, b4_11, b4_12, .l a11.L, .l a68536.L]))))) (ap22 s_l22Some_v1.d1)) else none) else none) else none) else none) else (some (.brk 0 [.l a11.L])))
def s_l22Some_v1.d3 (a11 : C) : R := (some (.ret [.l a11.L]))
def s_l22Some_v1.d4 (t0_0 t0_1 t0_2 t0_3 t1_0 t1_1 t1_2 t1_3 t1_4 t1_5 t1_6 t1_7 t1_8 t1_9 t1_10 t1_11 t1_12 t2 : C) : R := (call1 (s_l22Live [t0_0, t0_1, t0_2, t0_3, t1_0]) fun y1_a3000 => (bindBlk 0 (lim (ap21 s_l22Some_v1.d2) [t2, .i 0, t0_0, t0_1, t0_2, t0_3, t1_0, t1_1, t1_2, t1_3, t1_4, t1_5, t1_6, t1_7, t1_8, t1_9, t1_10, t1_11, t1_12, .l nils, .l y1_a3000.L]) (ap1 s_l22Some_v1.d3)))
def s_l22Some_v1 : List C → Option (List C) := fun xs => finR (ap18 s_l22Some_v1.d4 xs)
def s_l22Some_v1_fs : FS := ⟨3, ⟨[(0, z2), (1, z6), (2, zi)], []⟩, ⟨[(0, (.ow 3000))], [(3000, .arr 3)]⟩, [], s_l22Some_v1⟩
theorem s_l22Some_v1_ok : FSOk Try.checked.prog T0 48 s_l22Some_v1_fs := okOf base0 (fn := Try.f48) (c := Try.f48.body.getD .skip) s_l22Some_v1_fs (.seq .leaf (.seq .leaf (.seq .leaf (.seq (.seq .leaf (.block ⟨[(7, (.ow 11))], [(11, .arr 3)]⟩ (.loop ⟨[(2, zi), (3, (.pt 3 0)), (4, (.pt 4 0)), (7, (.ow 11)), (8, (.ow 68536)), (9, zi)], [(3, z0), (4, z3), (11, .arr 3), (68536, .arr 3)]⟩ (.seq .leaf (.seq (.skip (.seq .leaf (.seq (.join ⟨[(2, zi), (3, (.pt 3 0)), (4, (.pt 4 0)), (7, (.ow 11)), (8, (.ow 68536)), (9, zi), (56, zo)], [(3, z0), (4, z3), (11, .arr 3), (68536, .arr 3)]⟩ .leaf) .leaf))) .leaf))))) .leaf)))) [(49, some 15, s_l22Live_fs), (64, some 45, s_l22Drains_fs)] (.cons s_l22Live_ok (.cons s_l22Drains_ok .nil)) (by kernel_rfl) (by kernel_rfl) (by kernel_rfl) (fun xs => by kernel_rfl)
def s_l22Sooner.d1 (t0_0 t0_1 t0_2 t0_3 t1_0 t1_1 t1_2 t1_3 t1_4 t1_5 t1_6 t2_0 t2_1 t2_2 t2_3 t2_4 t2_5 t2_6 t3 : C) : R := (bif (!((t1_4.I != 3) == (t2_4.I != 3))) then (some (.ret [.b (t1_4.I != 3)])) else (bif (!((t1_3.I != t3.I) == (t2_3.I != t3.I))) then (some (.ret [.b (t1_3.I != t3.I)])) else (call1 (s_l22Drains [t0_0, t0_1, t0_2, t0_3, t1_0, t1_1, t1_2, t1_3, t1_4, t1_5, t1_6]) fun y1_t0 => (call1 (s_l22Drains [t0_0, t0_1, t0_2, t0_3, t2_0, t2_1, t2_2, t2_3, t2_4, t2_5, t2_6]) fun y2_t0 => (bif (!(y1_t0.B == y2_t0.B)) then (call1 (s_l22Drains [t0_0, t0_1, t0_2, t0_3, t1_0, t1_1, t1_2, t1_3, t1_4, t1_5, t1_6]) fun y3_t0 => (some (.ret [.b y3_t0.B]))) else (some (.ret [.b (decide (t1_1.I > t2_1.I))])))))))
def s_l22Sooner : List C → Option (List C) := fun xs => finR (ap19 s_l22Sooner.d1 xs)
def s_l22Sooner_fs : FS := ⟨4, ⟨[(0, z2), (1, z14), (2, z14), (3, zi)], []⟩, ⟨[(0, zo)], []⟩, [], s_l22Sooner⟩
theorem s_l22Sooner_ok : FSOk Try.checked.prog T0 77 s_l22Sooner_fs := okOf base0 (fn := Try.f77) (c := Try.f77.body.getD .skip) s_l22Sooner_fs .leaf [(64, some 34, s_l22Drains_fs), (64, some 37, s_l22Drains_fs), (64, some 41, s_l22Drains_fs)] (.cons s_l22Drains_ok (.cons s_l22Drains_ok (.cons s_l22Drains_ok .nil))) (by kernel_rfl) (by kernel_rfl) (by kernel_rfl) (fun xs => by kernel_rfl)
def s_l22First.d1 (t2 t8 b3_0 b3_1 b3_2 b3_3 b4_0 b4_1 b4_2 b4_3 b4_4 b4_5 b4_6 b4_7 b4_8 b4_9 b4_10 b4_11 b4_12 b7_0 b7_1 b7_2 b7_3 b7_4 b7_5 b7_6 : C) : R := (bif (decide (t8.I < (t2.L.length : Int))) then (bif (decide (0 ≤ t8.I)) then (bif (decide (t8.I < (t2.L.length : Int))) then (bif (decide (0 ≤ ((t2.L.getD t8.I.toNat []).getD 0 .nil).I)) then (bif (decide (((t2.L.getD t8.I.toNat []).getD 0 .nil).I < (b3_2.L.length : Int))) then (call1 (s_l22Sooner [b3_0, b3_1, b3_2, b3_3, ((b3_2.L.getD (((t2.L.getD t8.I.toNat []).getD 0 .nil).I).toNat []).getD 0 .nil), ((b3_2.L.getD (((t2.L.getD t8.I.toNat []).getD 0 .nil).I).toNat []).getD 1 .nil), ((b3_2.L.getD (((t2.L.getD t8.I.toNat []).getD 0 .nil).I).toNat []).getD 2 .nil), ((b3_2.L.getD (((t2.L.getD t8.I.toNat []).getD 0 .nil).I).toNat []).getD 3 .nil), ((b3_2.L.getD (((t2.L.getD t8.I.toNat []).getD 0 .nil).I).toNat []).getD 4 .nil), ((b3_2.L.getD (((t2.L.getD t8.I.toNat []).getD 0 .nil).I).toNat []).getD 5 .nil), ((b3_2.L.getD (((t2.L.getD t8.I.toNat []).getD 0 .nil).I).toNat []).getD 6 .nil), b7_0, b7_1, b7_2, b7_3, b7_4, b7_5, b7_6, b4_3]) fun y1_t0 => (bif y1_t0.B then (bif (decide (0 ≤ t8.I)) then (bif (decide (t8.I < (t2.L.length : Int))) then (bif (decide (0 ≤ ((t2.L.getD t8.I.toNat []).getD 0 .nil).I)) then (bif (decide (((t2.L.getD t8.I.toNat []).getD 0 .nil).I < (b3_2.L.length : Int))) then (some (.again [t2, .i (w64 (t8.I + 1)), b3_0, b3_1, b3_2, b3_3, b4_0, b4_1, b4_2, b4_3, b4_4, b4_5, b4_6, b4_7, b4_8, b4_9, b4_10, b4_11, b4_12, ((b3_2.L.getD (((t2.L.getD t8.I.toNat []).getD 0 .nil).I).toNat []).getD 0 .nil), ((b3_2.L.getD (((t2.L.getD t8.I.toNat []).getD 0 .nil).I).toNat []).getD 1 .nil), ((b3_2.L.getD (((t2.L.getD t8.I.toNat []).getD 0 .nil).I).toNat []).getD 2 .nil), ((b3_2.L.getD (((t2.L.getD t8.I.toNat []).getD 0 .nil).I).toNat []).getD 3 .nil), ((b3_2.L.getD (((t2.L.getD t8.I.toNat []).getD 0 .nil).I).toNat []).getD 4 .nil), ((b3_2.L.getD (((t2.L.getD t8.I.toNat []).getD 0 .nil).I).toNat []).getD 5 .nil), ((b3_2.L.getD (((t2.L.getD t8.I.toNat []).getD 0 .nil).I).toNat []).getD 6 .nil)])) else none) else none) else none) else none) else (some (.again [t2, .i (w64 (t8.I + 1)), b3_0, b3_1, b3_2, b3_3, b4_0, b4_1, b4_2, b4_3, b4_4, b4_5, b4_6, b4_7, b4_8, b4_9, b4_10, b4_11, b4_12, b7_0, b7_1, b7_2, b7_3, b7_4, b7_5, b7_6])))) else none) else none) else none) else none) else (some (.brk 0 [b7_0, b7_1, b7_2, b7_3, b7_4, b7_5, b7_6])))
def s_l22First.d2 (b7_0 b7_1 b7_2 b7_3 b7_4 b7_5 b7_6 : C) : R := (some (.ret [.l (rows [[b7_1, b7_2]])]))
def s_l22First.d3 (t0_0 t0_1 t0_2 t0_3 t1_0 t1_1 t1_2 t1_3 t1_4 t1_5 t1_6 t1_7 t1_8 t1_9 t1_10 t1_11 t1_12 t2 : C) : R := (bif ((t2.L.length : Int) == 0) then (some (.ret [.l nils])) else (bif (decide (0 < (t2.L.length : Int))) then (bif (decide (0 ≤ ((t2.L.getD 0 []).getD 0 .nil).I)) then (bif (decide (((t2.L.getD 0 []).getD 0 .nil).I < (t0_2.L.length : Int))) then (bindBlk 0 (lim (ap26 s_l22First.d1) [t2, .i 1, t0_0, t0_1, t0_2, t0_3, t1_0, t1_1, t1_2, t1_3, t1_4, t1_5, t1_6, t1_7, t1_8, t1_9, t1_10, t1_11, t1_12, ((t0_2.L.getD (((t2.L.getD 0 []).getD 0 .nil).I).toNat []).getD 0 .nil), ((t0_2.L.getD (((t2.L.getD 0 []).getD 0 .nil).I).toNat []).getD 1 .nil), ((t0_2.L.getD (((t2.L.getD 0 []).getD 0 .nil).I).toNat []).getD 2 .nil), ((t0_2.L.getD (((t2.L.getD 0 []).getD 0 .nil).I).toNat []).getD 3 .nil), ((t0_2.L.getD (((t2.L.getD 0 []).getD 0 .nil).I).toNat []).getD 4 .nil), ((t0_2.L.getD (((t2.L.getD 0 []).getD 0 .nil).I).toNat []).getD 5 .nil), ((t0_2.L.getD (((t2.L.getD 0 []).getD 0 .nil).I).toNat []).getD 6 .nil)]) (ap7 s_l22First.d2)) else none) else none) else none))
def s_l22First : List C → Option (List C) := fun xs => finR (ap18 s_l22First.d3 xs)
def s_l22First_fs : FS := ⟨3, ⟨[(0, z2), (1, z6), (2, (zl 3))], []⟩, ⟨[(0, (.ow 3000))], [(3000, .arr 79)]⟩, [], s_l22First⟩
theorem s_l22First_ok : FSOk Try.checked.prog T0 65 s_l22First_fs := okOf base0 (fn := Try.f65) (c := Try.f65.body.getD .skip) s_l22First_fs (.seq .leaf (.seq .leaf (.seq .leaf (.seq (.seq .leaf (.block ⟨[(7, (.pt 7 0))], [(7, z12)]⟩ (.loop ⟨[(2, (zl 3)), (3, (.pt 3 0)), (4, (.pt 4 0)), (7, (.pt 7 0)), (8, zi)], [(3, z0), (4, z3), (7, z12)]⟩ .leaf))) .leaf)))) [(77, some 38, s_l22Sooner_fs)] (.cons s_l22Sooner_ok .nil) (by kernel_rfl) (by kernel_rfl) (by kernel_rfl) (fun xs => by kernel_rfl)
def s_l20MayEnd.d1 (t0_0 t0_1 t0_2 t0_3 t1 t2 : C) : R := (call1 (s_l18Copy [t0_0, t0_1, t0_2, t0_3, t1, t2]) fun y1_t0 => (bif (!(decide (y1_t0.I < 0))) then (bif (decide (0 ≤ y1_t0.I)) then (bif (decide (y1_t0.I < (t0_2.L.length : Int))) then (bif ((t0_2.L.getD y1_t0.I.toNat []).getD 5 .nil).B then (some (.ret [.b false])) else (call1 (s_l18Service [t0_0, t0_1, t0_2, t0_3, t1]) fun y2_t0 => (bif (decide (0 ≤ y2_t0.I)) then (bif (decide (y2_t0.I < (t0_1.L.length : Int))) then (bif (decide (0 ≤ y1_t0.I)) then (bif (decide (y1_t0.I < (t0_2.L.length : Int))) then (bif (!(((t0_2.L.getD y1_t0.I.toNat []).getD 4 .nil).I != 3)) then (bif ((t0_1.L.getD y2_t0.I.toNat []).getD 2 .nil).B then (some (.ret [.b true])) else (call5 (s_l19Count [t0_0, t0_1, t0_2, t0_3, t1]) fun y3_t0_0 y3_t0_1 y3_t0_2 y3_t0_3 y3_t0_4 => (some (.ret [.b (decide ((w64 (y3_t0_1.I - 1)) ≥ (w64 (((t0_1.L.getD y2_t0.I.toNat []).getD 4 .nil).I - ((t0_1.L.getD y2_t0.I.toNat []).getD 5 .nil).I))))])))) else (some (.ret [.b true]))) else none) else none) else none) else none))) else none) else none) else (some (.ret [.b false]))))
def s_l20MayEnd : List C → Option (List C) := fun xs => finR (ap6 s_l20MayEnd.d1 xs)
def s_l20MayEnd_fs : FS := ⟨3, ⟨[(0, z2), (1, zt), (2, zi)], []⟩, ⟨[(0, zo)], []⟩, [], s_l20MayEnd⟩
theorem s_l20MayEnd_ok : FSOk Try.checked.prog T0 66 s_l20MayEnd_fs := okOf base0 (fn := Try.f66) (c := Try.f66.body.getD .skip) s_l20MayEnd_fs .leaf [(50, some 43, s_l19Count_fs), (54, some 27, s_l18Service_fs), (78, some 12, s_l18Copy_fs)] (.cons s_l19Count_ok (.cons s_l18Service_ok (.cons s_l18Copy_ok .nil))) (by kernel_rfl) (by kernel_rfl) (by kernel_rfl) (fun xs => by kernel_rfl)
def s_l22Counter.d1 (t55 b3_0 b3_1 b3_2 b3_3 b4_0 b4_1 b4_2 b4_3 b4_4 b4_5 b4_6 b4_7 b4_8 b4_9 b4_10 b4_11 b4_12 b5_0 b5_1 b5_2 b5_3 b5_4 b5_5 b5_6 b5_7 b6_0 b6_1 b6_2 b6_3 b6_4 b6_5 b6_7 a60344 a1112900 : C) : R := (bif t55.B then (call1 (s_l22First [b3_0, b3_1, b3_2, b3_3, b4_0, b4_1, b4_2, b4_3, b4_4, b4_5, b4_6, b4_7, b4_8, b4_9, b4_10, b4_11, b4_12, .l a60344.L]) fun y4_a3000 => (bif (decide (0 < (y4_a3000.L.length : Int))) then (call1 (s_l20MayEnd [b3_0, b3_1, b3_2, b3_3, b4_0, ((y4_a3000.L.getD 0 []).getD 0 .nil)]) fun y5_t0 => (bif y5_t0.B then (some (.ret [b5_0, b5_1, b5_2, b5_3, b5_4, b5_5, .l y4_a3000.L, b5_7])) else (some (.ret [b5_0, b5_1, b5_2, b5_3, b5_4, b5_5, b5_6, b5_7])))) else none)) else (some (.ret [b5_0, b5_1, b5_2, b5_3, b5_4, b5_5, b5_6, b5_7])))
def s_l22Counter.d2 (t8 b3_0 b3_1 b3_2 b3_3 b4_0 b4_1 b4_2 b4_3 b4_4 b4_5 b4_6 b4_7 b4_8 b4_9 b4_10 b4_11 b4_12 b5_0 b5_1 b5_2 b5_3 b5_4 b5_5 b5_6 b5_7 b6_0 b6_1 b6_2 b6_3 b6_4 b6_5 b6_7 a60344 a1112900 : C) : R := (bindNrm (bif (decide ((a60344.L.length : Int) > b4_4.I)) then (bif (!t8.B) then (some (.nrm [.b (decide ((a60344.L.length : Int) > (w64 (b4_4.I + b4_6.I)))), b3_0, b3_1, b3_2, b3_3, b4_0, b4_1, b4_2, b4_3, b4_4, b4_5, b4_6, b4_7, b4_8, b4_9, b4_10, b4_11, b4_12, b5_0, b5_1, b5_2, b5_3, b5_4, b5_5, b5_6, b5_7, b6_0, b6_1, b6_2, b6_3, b6_4, b6_5, b6_7, .l a60344.L, .l a1112900.L])) else (some (.nrm [.b true, b3_0, b3_1, b3_2, b3_3, b4_0, b4_1, b4_2, b4_3, b4_4, b4_5, b4_6, b4_7, b4_8, b4_9, b4_10, b4_11, b4_12, b5_0, b5_1, b5_2, b5_3, b5_4, b5_5, b5_6, b5_7, b6_0, b6_1, b6_2, b6_3, b6_4, b6_5, b6_7, .l a60344.L, .l a1112900.L]))) else (some (.nrm [.b false, b3_0, b3_1, b3_2, b3_3, b4_0, b4_1, b4_2, b4_3, b4_4, b4_5, b4_6, b4_7, b4_8, b4_9, b4_10, b4_11, b4_12, b5_0, b5_1, b5_2, b5_3, b5_4, b5_5, b5_6, b5_7, b6_0, b6_1, b6_2, b6_3, b6_4, b6_5, b6_7, .l a60344.L, .l a1112900.L]))) (ap35 s_l22Counter.d1))
def s_l22Counter.d3 (t0_0 t0_1 t0_2 t0_3 t1_0 t1_1 t1_2 t1_3 t1_4 t1_5 t1_6 t1_7 t1_8 t1_9 t1_10 t1_11 t1_12 t2_0 t2_1 t2_2 t2_3 t2_4 t2_5 t2_6 t2_7 : C) : R := (call1 (s_l22Live [t0_0, t0_1, t0_2, t0_3, t1_0]) fun y1_a3000 => (bif (decide ((y1_a3000.L.length : Int) < t1_4.I)) then (some (.ret [t2_0, t2_1, .i (w64 (t1_4.I - (y1_a3000.L.length : Int))), t2_3, t2_4, t2_5, t2_6, t2_7])) else (bindNrm (call1 (s_l22Some_v1 [t0_0, t0_1, t0_2, t0_3, t1_0, t1_1, t1_2, t1_3, t1_4, t1_5, t1_6, t1_7, t1_8, t1_9, t1_10, t1_11, t1_12, .i 2]) fun y2_a3000 => (bif ((y2_a3000.L.length : Int) == 0) then (call1 (s_l22Some_v1 [t0_0, t0_1, t0_2, t0_3, t1_0, t1_1, t1_2, t1_3, t1_4, t1_5, t1_6, t1_7, t1_8, t1_9, t1_10, t1_11, t1_12, .i 6]) fun y3_a3000 => (some (.nrm [.b ((y3_a3000.L.length : Int) == 0), t0_0, t0_1, t0_2, t0_3, t1_0, t1_1, t1_2, t1_3, t1_4, t1_5, t1_6, t1_7, t1_8, t1_9, t1_10, t1_11, t1_12, t2_0, t2_1, t2_2, t2_3, t2_4, t2_5, t2_6, t2_7, .s (bs #[]), .i 0, .i 0, .i 0, .i 0, .b false, .b false, .l y1_a3000.L, .l nils]))) else (some (.nrm [.b false, t0_0, t0_1, t0_2, t0_3, t1_0, t1_1, t1_2, t1_3, t1_4, t1_5, t1_6, t1_7, t1_8, t1_9, t1_10, t1_11, t1_12, t2_0, t2_1, t2_2, t2_3, t2_4, t2_5, t2_6, t2_7, .s (bs #[]), .i 0, .i 0, .i 0, .i 0, .b false, .b false, .l y1_a3000.L, .l nils])))) (ap35 s_l22Counter.d2))))
def s_l22Counter : List C → Option (List C) := fun xs => finR (ap25 s_l22Counter.d3 xs)
def s_l22Counter_fs : FS := ⟨3, ⟨[(0, z2), (1, z6), (2, z9)], []⟩, ⟨[(0, z9)], []⟩, [], s_l22Counter⟩
theorem s_l22Counter_ok : FSOk Try.checked.prog T0 51 s_l22Counter_fs := okOf base0 (fn := Try.f51) (c := Try.f51.body.getD .skip) s_l22Counter_fs (.seq .leaf (.seq .leaf (.seq .leaf (.seq (.join ⟨[(3, (.pt 3 0)), (4, (.pt 4 0)), (5, (.pt 5 0)), (6, (.pt 6 0)), (7, (.ow 60344)), (8, zo)], [(3, z0), (4, z3), (5, z1), (6, .var 38 [zt, zi, zi, zi, zi, zo, (.ow 1112900), zo]), (60344, .arr 3), (1112900, .arr 79)]⟩ .leaf) (.seq (.seq (.join ⟨[(3, (.pt 3 0)), (4, (.pt 4 0)), (5, (.pt 5 0)), (6, (.pt 6 0)), (7, (.ow 60344)), (55, zo)], [(3, z0), (4, z3), (5, z1), (6, .var 38 [zt, zi, zi, zi, zi, zo, (.ow 1112900), zo]), (60344, .arr 3), (1112900, .arr 79)]⟩ .leaf) (.cond (.seq (.frz [60344] .leaf) .leaf) .leaf)) (.seq .leaf (.frz [248760] .leaf))))))) [(48, some 28, s_l22Some_v1_fs), (48, some 34, s_l22Some_v1_fs), (49, some 13, s_l22Live_fs), (65, some 59, s_l22First_fs), (66, some 67, s_l20MayEnd_fs)] (.cons s_l22Some_v1_ok (.cons s_l22Some_v1_ok (.cons s_l22Live_ok (.cons s_l22First_ok (.cons s_l20MayEnd_ok .nil))))) (by kernel_rfl) (by kernel_rfl) (by kernel_rfl) (fun xs => by kernel_rfl)
def s_l22May.d1 (t1 t6 b2_0 b2_1 b2_2 b2_3 a7 : C) : R := (bif (decide (t6.I < (t1.L.length : Int))) then (bif (decide (0 ≤ t6.I)) then (bif (decide (t6.I < (t1.L.length : Int))) then (bif (decide (0 ≤ ((t1.L.getD t6.I.toNat []).getD 0 .nil).I)) then (bif (decide (((t1.L.getD t6.I.toNat []).getD 0 .nil).I < (b2_2.L.length : Int))) then (bif (decide (0 ≤ t6.I)) then (bif (decide (t6.I < (t1.L.length : Int))) then (bif (decide (0 ≤ ((t1.L.getD t6.I.toNat []).getD 0 .nil).I)) then (bif (decide (((t1.L.getD t6.I.toNat []).getD 0 .nil).I < (b2_2.L.length : Int))) then (call1 (s_l20MayEnd [b2_0, b2_1, b2_2, b2_3, ((b2_2.L.getD (((t1.L.getD t6.I.toNat []).getD 0 .nil).I).toNat []).getD 0 .nil), ((b2_2.L.getD (((t1.L.getD t6.I.toNat []).getD 0 .nil).I).toNat []).getD 1 .nil)]) fun y1_t0 => (bif y1_t0.B then (bif (decide (0 ≤ t6.I)) then (bif (decide (t6.I < (t1.L.length : Int))) then (bif (decide (a7.L.length + (rows [[((t1.L.getD t6.I.toNat []).getD 0 .nil)]]).length ≤ 4294967296)) then (some (.again [t1, .i (w64 (t6.I + 1)), b2_0, b2_1, b2_2, b2_3, .l (a7.L ++ (rows [[((t1.L.getD t6.I.toNat []).getD 0 .nil)]]))])) else none) else none) else none) else (some (.again [t1, .i (w64 (t6.I + 1)), b2_0, b2_1, b2_2, b2_3, .l a7.L])))) else none) else none) else none) else none) else none) else none) else none) else none) else (some (.brk 0 [.l a7.L])))
def s_l22May.d2 (a7 : C) : R := (some (.ret [.l a7.L]))
def s_l22May.d3 (t0_0 t0_1 t0_2 t0_3 t1 : C) : R := (bindBlk 0 (lim (ap7 s_l22May.d1) [t1, .i 0, t0_0, t0_1, t0_2, t0_3, .l nils]) (ap1 s_l22May.d2))
def s_l22May : List C → Option (List C) := fun xs => finR (ap5 s_l22May.d3 xs)
def s_l22May_fs : FS := ⟨2, ⟨[(0, z2), (1, (zl 3))], []⟩, ⟨[(0, (zl 3))], []⟩, [], s_l22May⟩
theorem s_l22May_ok : FSOk Try.checked.prog T0 67 s_l22May_fs := okOf base0 (fn := Try.f67) (c := Try.f67.body.getD .skip) s_l22May_fs (.seq .leaf (.seq .leaf (.seq (.seq .leaf (.block ⟨[(5, (.ow 7))], [(7, .arr 3)]⟩ (.loop ⟨[(1, (zl 3)), (2, (.pt 2 0)), (5, (.ow 7)), (6, zi)], [(2, z0), (7, .arr 3)]⟩ .leaf))) (.seq .leaf (.frz [7] .leaf))))) [(66, some 33, s_l20MayEnd_fs)] (.cons s_l20MayEnd_ok .nil) (by kernel_rfl) (by kernel_rfl) (by kernel_rfl) (fun xs => by kernel_rfl)
def s_l22Replace.d1 (t0_0 t0_1 t0_2 t0_3 t1_0 t1_1 t1_2 t1_3 t1_4 t1_5 t1_6 t1_7 t1_8 t1_9 t1_10 t1_11 t1_12 t2_0 t2_1 t2_2 t2_3 t2_4 t2_5 t2_6 t2_7 t3 : C) : R := (call1 (s_l22Live [t0_0, t0_1, t0_2, t0_3, t1_0]) fun y1_a3000 => (bif (!((t3.L.length : Int) == 0)) then (bif (decide ((y1_a3000.L.length : Int) < t1_4.I)) then (some (.ret [t2_0, t2_1, t2_2, t2_3, t2_4, t2_5, t2_6, t2_7])) else (bif (decide ((y1_a3000.L.length : Int) < (w64 (t1_4.I + t1_6.I)))) then (some (.ret [t2_0, t2_1, .i 1, t2_3, t2_4, t2_5, t2_6, t2_7])) else (call1 (s_l22May [t0_0, t0_1, t0_2, t0_3, t3]) fun y2_t0 => (call1 (s_l22First [t0_0, t0_1, t0_2, t0_3, t1_0, t1_1, t1_2, t1_3, t1_4, t1_5, t1_6, t1_7, t1_8, t1_9, t1_10, t1_11, t1_12, y2_t0]) fun y3_a3000 => (some (.ret [t2_0, t2_1, t2_2, t2_3, t2_4, t2_5, .l y3_a3000.L, t2_7])))))) else (some (.ret [t2_0, t2_1, t2_2, t2_3, t2_4, t2_5, t2_6, t2_7]))))
def s_l22Replace : List C → Option (List C) := fun xs => finR (ap26 s_l22Replace.d1 xs)
def s_l22Replace_fs : FS := ⟨4, ⟨[(0, z2), (1, z6), (2, z9), (3, (zl 3))], []⟩, ⟨[(0, z9)], []⟩, [], s_l22Replace⟩
theorem s_l22Replace_ok : FSOk Try.checked.prog T0 52 s_l22Replace_fs := okOf base0 (fn := Try.f52) (c := Try.f52.body.getD .skip) s_l22Replace_fs (.seq .leaf (.seq .leaf (.seq .leaf (.seq .leaf (.seq .leaf (.seq .leaf (.frz [166840] .leaf))))))) [(49, some 13, s_l22Live_fs), (65, some 39, s_l22First_fs), (67, some 38, s_l22May_fs)] (.cons s_l22Live_ok (.cons s_l22First_ok (.cons s_l22May_ok .nil))) (by kernel_rfl) (by kernel_rfl) (by kernel_rfl) (fun xs => by kernel_rfl)
def s_l22Desired.d1 (t0_0 t0_1 t0_2 t0_3 t0_4 t0_5 t0_6 t0_7 t0_8 t0_9 t0_10 t0_11 t0_12 : C) : R := (bif (t0_8.I != 0) then (bif (decide ((w64 ((w64 ((w64 (t0_11.I + t0_8.I)) - 1)).tdiv t0_8.I)) < t0_9.I)) then (bif (decide (t0_9.I > t0_10.I)) then (some (.ret [t0_10])) else (some (.ret [t0_9]))) else (bif (decide ((w64 ((w64 ((w64 (t0_11.I + t0_8.I)) - 1)).tdiv t0_8.I)) > t0_10.I)) then (some (.ret [t0_10])) else (some (.ret [.i (w64 ((w64 ((w64 (t0_11.I + t0_8.I)) - 1)).tdiv t0_8.I))])))) else none)
def s_l22Desired : List C → Option (List C) := fun xs => finR (ap13 s_l22Desired.d1 xs)
def s_l22Desired_fs : FS := ⟨1, ⟨[(0, z6)], []⟩, ⟨[(0, zi)], []⟩, [], s_l22Desired⟩
theorem s_l22Desired_ok : FSOk Try.checked.prog T0 68 s_l22Desired_fs := okOf base0 (fn := Try.f68) (c := Try.f68.body.getD .skip) s_l22Desired_fs .leaf [] .nil (by kernel_rfl) (by kernel_rfl) (by kernel_rfl) (fun xs => by kernel_rfl)
def s_l22Scaler.d1 (t5 t37 b2_0 b2_1 b2_2 b2_3 b2_4 b2_5 b2_6 b2_7 b2_8 b2_9 b2_10 b2_11 b2_12 b3_0 b3_1 b3_2 b3_3 b3_4 b3_5 b3_6 b3_7 b4_0 b4_1 b4_2 b4_3 b4_4 b4_5 b4_7 a1130900 : C) : R := (bif t37.B then (some (.ret [b3_0, b3_1, b3_2, .i (w64 (b2_4.I - 1)), b3_4, b3_5, b3_6, b3_7])) else (bif (decide (t5.I < b2_4.I)) then (some (.ret [b3_0, b3_1, b3_2, b3_3, .i (w64 (b2_12.I + 1)), b3_5, b3_6, b3_7])) else (bif (b2_12.I == 0) then (some (.ret [b3_0, b3_1, b3_2, .i 0, b3_4, .b false, b3_6, b3_7])) else (some (.ret [b3_0, b3_1, b3_2, b3_3, b3_4, b3_5, b3_6, b3_7])))))
def s_l22Scaler.d2 (t0_0 t0_1 t0_2 t0_3 t0_4 t0_5 t0_6 t0_7 t0_8 t0_9 t0_10 t0_11 t0_12 t1_0 t1_1 t1_2 t1_3 t1_4 t1_5 t1_6 t1_7 : C) : R := (call1 (s_l22Desired [t0_0, t0_1, t0_2, t0_3, t0_4, t0_5, t0_6, t0_7, t0_8, t0_9, t0_10, t0_11, t0_12]) fun y1_t0 => (bif (decide (t0_4.I < t0_9.I)) then (some (.ret [t1_0, t1_1, t1_2, t0_9, t1_4, .b true, t1_6, t1_7])) else (bif (decide (t0_4.I > t0_10.I)) then (some (.ret [t1_0, t1_1, t1_2, t0_10, t1_4, .b true, t1_6, t1_7])) else (bif (decide (y1_t0.I > t0_4.I)) then (some (.ret [t1_0, t1_1, t1_2, y1_t0, t1_4, .b true, t1_6, t1_7])) else (bindNrm (bif (decide (y1_t0.I < t0_4.I)) then (some (.nrm [y1_t0, .b (decide (t0_12.I ≥ 3)), t0_0, t0_1, t0_2, t0_3, t0_4, t0_5, t0_6, t0_7, t0_8, t0_9, t0_10, t0_11, t0_12, t1_0, t1_1, t1_2, t0_4, t1_4, .b true, t1_6, t1_7, .s (bs #[]), .i 0, .i 0, .i 0, .i 0, .b false, .b false, .l nils])) else (some (.nrm [y1_t0, .b false, t0_0, t0_1, t0_2, t0_3, t0_4, t0_5, t0_6, t0_7, t0_8, t0_9, t0_10, t0_11, t0_12, t1_0, t1_1, t1_2, t0_4, t1_4, .b true, t1_6, t1_7, .s (bs #[]), .i 0, .i 0, .i 0, .i 0, .b false, .b false, .l nils]))) (ap31 s_l22Scaler.d1))))))
def s_l22Scaler : List C → Option (List C) := fun xs => finR (ap21 s_l22Scaler.d2 xs)
def s_l22Scaler_fs : FS := ⟨2, ⟨[(0, z6), (1, z9)], []⟩, ⟨[(0, z9)], []⟩, [], s_l22Scaler⟩
theorem s_l22Scaler_ok : FSOk Try.checked.prog T0 53 s_l22Scaler_fs := okOf base0 (fn := Try.f53) (c := Try.f53.body.getD .skip) s_l22Scaler_fs (.seq .leaf (.seq .leaf (.seq .leaf (.seq .leaf (.seq (.skip (.seq .leaf (.cond .leaf (.seq .leaf (.cond .leaf (.seq .leaf (.cond .leaf (.seq (.join ⟨[(2, (.pt 2 0)), (3, (.pt 3 0)), (4, (.pt 4 0)), (5, zi), (37, zo)], [(2, z3), (3, z1), (4, .var 38 [zt, zi, zi, zi, zi, zo, (.ow 1130900), zo]), (1130900, .arr 79)]⟩ .leaf) .leaf)))))))) .leaf))))) [(68, some 7, s_l22Desired_fs)] (.cons s_l22Desired_ok .nil) (by kernel_rfl) (by kernel_rfl) (by kernel_rfl) (fun xs => by kernel_rfl)
end
end Go.Ev
namespace Go.Ev
open Go.Proofs
noncomputable section
def s_l22Act.d1 (t0 t1_0 t1_1 t1_2 t1_3 t2_0 t2_1 t2_2 t2_3 t2_4 t2_5 t2_6 t2_7 t2_8 t2_9 t2_10 t2_11 t2_12 : C) : R := (bif (t0.I == 3) then (call1 (s_l22Some [t1_0, t1_1, t1_2, t1_3, t2_0, t2_1, t2_2, t2_3, t2_4, t2_5, t2_6, t2_7, t2_8, t2_9, t2_10, t2_11, t2_12, t0]) fun y1_t0 => (call1 (s_l22Ends [t1_0, t1_1, t1_2, t1_3, y1_t0]) fun y2_a3000 => (some (.ret [t2_0, t2_1, .i 0, .i 0, .i 0, .b false, .l y2_a3000.L, .b false])))) else (bif t2_2.B then (bif (t0.I == 5) then (call1 (s_l22Live_v1 [t1_0, t1_1, t1_2, t1_3, t2_0]) fun y3_t0 => (call1 (s_l22Ends [t1_0, t1_1, t1_2, t1_3, y3_t0]) fun y4_a3000 => (call5 (s_l19Count [t1_0, t1_1, t1_2, t1_3, t2_0]) fun y5_t0_0 y5_t0_1 y5_t0_2 y5_t0_3 y5_t0_4 => (some (.ret [t2_0, t2_1, .i 0, .i 0, .i 0, .b false, .l y4_a3000.L, .b ((w64 (y5_t0_0.I + y5_t0_4.I)) == 0)]))))) else (some (.ret [t2_0, t2_1, .i 0, .i 0, .i 0, .b false, .l nils, .b false]))) else (bif (t0.I == 1) then (call8 (s_l22Counter [t1_0, t1_1, t1_2, t1_3, t2_0, t2_1, t2_2, t2_3, t2_4, t2_5, t2_6, t2_7, t2_8, t2_9, t2_10, t2_11, t2_12, t2_0, t2_1, .i 0, .i 0, .i 0, .b false, .l nils, .b false]) fun y6_t0_0 y6_t0_1 y6_t0_2 y6_t0_3 y6_t0_4 y6_t0_5 y6_t0_6 y6_t0_7 => (some (.ret [y6_t0_0, y6_t0_1, y6_t0_2, y6_t0_3, y6_t0_4, y6_t0_5, y6_t0_6, y6_t0_7]))) else (bif (t0.I == 2) then (call1 (s_l22Some [t1_0, t1_1, t1_2, t1_3, t2_0, t2_1, t2_2, t2_3, t2_4, t2_5, t2_6, t2_7, t2_8, t2_9, t2_10, t2_11, t2_12, t0]) fun y7_t0 => (call8 (s_l22Replace [t1_0, t1_1, t1_2, t1_3, t2_0, t2_1, t2_2, t2_3, t2_4, t2_5, t2_6, t2_7, t2_8, t2_9, t2_10, t2_11, t2_12, t2_0, t2_1, .i 0, .i 0, .i 0, .b false, .l nils, .b false, y7_t0]) fun y8_t0_0 y8_t0_1 y8_t0_2 y8_t0_3 y8_t0_4 y8_t0_5 y8_t0_6 y8_t0_7 => (some (.ret [y8_t0_0, y8_t0_1, y8_t0_2, y8_t0_3, y8_t0_4, y8_t0_5, y8_t0_6, y8_t0_7])))) else (bif (t0.I == 6) then (call1 (s_l22Some_v1 [t1_0, t1_1, t1_2, t1_3, t2_0, t2_1, t2_2, t2_3, t2_4, t2_5, t2_6, t2_7, t2_8, t2_9, t2_10, t2_11, t2_12, .i 2]) fun y9_a3000 => (bif ((y9_a3000.L.length : Int) == 0) then (call1 (s_l22Some [t1_0, t1_1, t1_2, t1_3, t2_0, t2_1, t2_2, t2_3, t2_4, t2_5, t2_6, t2_7, t2_8, t2_9, t2_10, t2_11, t2_12, t0]) fun y10_t0 => (call8 (s_l22Replace [t1_0, t1_1, t1_2, t1_3, t2_0, t2_1, t2_2, t2_3, t2_4, t2_5, t2_6, t2_7, t2_8, t2_9, t2_10, t2_11, t2_12, t2_0, t2_1, .i 0, .i 0, .i 0, .b false, .l nils, .b false, y10_t0]) fun y11_t0_0 y11_t0_1 y11_t0_2 y11_t0_3 y11_t0_4 y11_t0_5 y11_t0_6 y11_t0_7 => (some (.ret [y11_t0_0, y11_t0_1, y11_t0_2, y11_t0_3, y11_t0_4, y11_t0_5, y11_t0_6, y11_t0_7])))) else (some (.ret [t2_0, t2_1, .i 0, .i 0, .i 0, .b false, .l nils, .b false])))) else (bif (t0.I == 4) then (bif (decide (t2_8.I > 0)) then (call8 (s_l22Scaler [t2_0, t2_1, t2_2, t2_3, t2_4, t2_5, t2_6, t2_7, t2_8, t2_9, t2_10, t2_11, t2_12, t2_0, t2_1, .i 0, .i 0, .i 0, .b false, .l nils, .b false]) fun y12_t0_0 y12_t0_1 y12_t0_2 y12_t0_3 y12_t0_4 y12_t0_5 y12_t0_6 y12_t0_7 => (some (.ret [y12_t0_0, y12_t0_1, y12_t0_2, y12_t0_3, y12_t0_4, y12_t0_5, y12_t0_6, y12_t0_7]))) else (some (.ret [t2_0, t2_1, .i 0, .i 0, .i 0, .b false, .l nils, .b false]))) else (some (.ret [t2_0, t2_1, .i 0, .i 0, .i 0, .b false, .l nils, .b false]))))))))
def s_l22Act : List C → Option (List C) := fun xs => finR (ap18 s_l22Act.d1 xs)
def s_l22Act_fs : FS := ⟨3, ⟨[(0, zi), (1, z2), (2, z6)], []⟩, ⟨[(0, z9)], []⟩, [], s_l22Act⟩
theorem s_l22Act_ok : FSOk Try.checked.prog T0 16 s_l22Act_fs := okOf base0 (fn := Try.f16) (c := Try.f16.body.getD .skip) s_l22Act_fs (.seq .leaf (.seq .leaf (.seq (.seq .leaf (.cond (.seq .leaf (.seq .leaf (.frz [93112] .leaf))) .leaf)) (.seq (.seq .leaf (.cond (.seq .leaf (.seq .leaf (.frz [142264] .leaf))) .leaf)) .leaf)))) [(47, some 21, s_l22Ends_fs), (47, some 33, s_l22Ends_fs), (48, some 20, s_l22Some_fs), (48, some 62, s_l22Some_fs), (48, some 68, s_l22Some_v1_fs), (48, some 77, s_l22Some_fs), (49, some 32, s_l22Live_v1_fs), (50, some 38, s_l19Count_fs), (51, some 53, s_l22Counter_fs), (52, some 63, s_l22Replace_fs), (52, some 78, s_l22Replace_fs), (53, some 86, s_l22Scaler_fs)] (.cons s_l22Ends_ok (.cons s_l22Ends_ok (.cons s_l22Some_ok (.cons s_l22Some_ok (.cons s_l22Some_v1_ok (.cons s_l22Some_ok (.cons s_l22Live_v1_ok (.cons s_l19Count_ok (.cons s_l22Counter_ok (.cons s_l22Replace_ok (.cons s_l22Replace_ok (.cons s_l22Scaler_ok .nil)))))))))))) (by kernel_rfl) (by kernel_rfl) (by kernel_rfl) (fun xs => by kernel_rfl)
def s_StewAsk.d1 (t0 t6 t44 b3_0 b3_1 b3_2 b3_3 a8 b7_0 b7_1 b7_2 b7_3 b7_4 b7_5 b7_6 b7_7 : C) : R := (bif t44.B then (bif (decide (a8.L.length + (rows [[b7_0, b7_1, b7_2, b7_3, b7_4, b7_5, b7_6, b7_7]]).length ≤ 4294967296)) then (some (.again [t0, .i (w64 (t6.I + 1)), b3_0, b3_1, b3_2, b3_3, .l (a8.L ++ (rows [[b7_0, b7_1, b7_2, b7_3, b7_4, b7_5, b7_6, b7_7]]))])) else none) else (some (.again [t0, .i (w64 (t6.I + 1)), b3_0, b3_1, b3_2, b3_3, .l a8.L])))
def s_StewAsk.d2 (t0 t6 b3_0 b3_1 b3_2 b3_3 a8 : C) : R := (bif (decide (t6.I < (b3_1.L.length : Int))) then (bif (decide (0 ≤ t6.I)) then (bif (decide (t6.I < (b3_1.L.length : Int))) then (call8 (s_l22Act [t0, b3_0, b3_1, b3_2, b3_3, ((b3_1.L.getD t6.I.toNat []).getD 0 .nil), ((b3_1.L.getD t6.I.toNat []).getD 1 .nil), ((b3_1.L.getD t6.I.toNat []).getD 2 .nil), ((b3_1.L.getD t6.I.toNat []).getD 3 .nil), ((b3_1.L.getD t6.I.toNat []).getD 4 .nil), ((b3_1.L.getD t6.I.toNat []).getD 5 .nil), ((b3_1.L.getD t6.I.toNat []).getD 6 .nil), ((b3_1.L.getD t6.I.toNat []).getD 7 .nil), ((b3_1.L.getD t6.I.toNat []).getD 8 .nil), ((b3_1.L.getD t6.I.toNat []).getD 9 .nil), ((b3_1.L.getD t6.I.toNat []).getD 10 .nil), ((b3_1.L.getD t6.I.toNat []).getD 11 .nil), ((b3_1.L.getD t6.I.toNat []).getD 12 .nil)]) fun y2_t0_0 y2_t0_1 y2_t0_2 y2_t0_3 y2_t0_4 y2_t0_5 y2_t0_6 y2_t0_7 => (bindNrm (bif (!(decide (y2_t0_2.I > 0))) then (bif (!y2_t0_5.B) then (bif (!(decide ((y2_t0_6.L.length : Int) > 0))) then (some (.nrm [t0, t6, .b y2_t0_7.B, b3_0, b3_1, b3_2, b3_3, .l a8.L, y2_t0_0, y2_t0_1, y2_t0_2, y2_t0_3, y2_t0_4, y2_t0_5, y2_t0_6, y2_t0_7])) else (some (.nrm [t0, t6, .b true, b3_0, b3_1, b3_2, b3_3, .l a8.L, y2_t0_0, y2_t0_1, y2_t0_2, y2_t0_3, y2_t0_4, y2_t0_5, y2_t0_6, y2_t0_7]))) else (some (.nrm [t0, t6, .b true, b3_0, b3_1, b3_2, b3_3, .l a8.L, y2_t0_0, y2_t0_1, y2_t0_2, y2_t0_3, y2_t0_4, y2_t0_5, y2_t0_6, y2_t0_7]))) else (some (.nrm [t0, t6, .b true, b3_0, b3_1, b3_2, b3_3, .l a8.L, y2_t0_0, y2_t0_1, y2_t0_2, y2_t0_3, y2_t0_4, y2_t0_5, y2_t0_6, y2_t0_7]))) (ap16 s_StewAsk.d1))) else none) else none) else (some (.brk 0 [.l a8.L])))
def s_StewAsk.d3 (a8 : C) : R := (some (.ret [.l a8.L]))
def s_StewAsk.d4 (t0 t1_0 t1_1 t1_2 t1_3 : C) : R := (call1 (s_StewValid [t1_0, t1_1, t1_2, t1_3]) fun y1_t0 => (bif (!y1_t0.B) then (some (.ret [.l nils])) else (bindBlk 0 (lim (ap7 s_StewAsk.d2) [t0, .i 0, t1_0, t1_1, t1_2, t1_3, .l nils]) (ap1 s_StewAsk.d3))))
def s_StewAsk : List C → Option (List C) := fun xs => finR (ap5 s_StewAsk.d4 xs)
def s_StewAsk_fs : FS := ⟨2, ⟨[(0, zi), (1, z2)], []⟩, ⟨[(0, (.ow 3000))], [(3000, .arr 38)]⟩, [], s_StewAsk⟩
theorem s_StewAsk_ok : FSOk Try.checked.prog T0 7 s_StewAsk_fs := okOf base0 (fn := Try.f7) (c := Try.f7.body.getD .skip) s_StewAsk_fs (.seq .leaf (.seq .leaf (.seq .leaf (.seq (.seq .leaf (.block ⟨[(5, (.ow 8))], [(8, .arr 38)]⟩ (.loop ⟨[(0, zi), (3, (.pt 3 0)), (5, (.ow 8)), (6, zi)], [(3, z0), (8, .arr 38)]⟩ (.seq .leaf (.seq (.skip (.seq .leaf (.seq (.join ⟨[(0, zi), (3, (.pt 3 0)), (5, (.ow 8)), (6, zi), (7, (.pt 7 0)), (44, zo)], [(3, z0), (8, .arr 38), (7, z1)]⟩ .leaf) .leaf))) .leaf))))) .leaf)))) [(8, some 10, s_StewValid_fs), (16, some 27, s_l22Act_fs)] (.cons s_StewValid_ok (.cons s_l22Act_ok .nil)) (by kernel_rfl) (by kernel_rfl) (by kernel_rfl) (fun xs => by kernel_rfl)
def s_l21ActOk.d1 (t3 b1_0 b1_1 b1_2 b1_3 b1_4 b1_5 b1_6 b1_7 : C) : R := (bif (decide (t3.I < (b1_6.L.length : Int))) then (bif (decide (0 ≤ (w64 (t3.I - 1)))) then (bif (decide ((w64 (t3.I - 1)) < (b1_6.L.length : Int))) then (bif (decide (0 ≤ t3.I)) then (bif (decide (t3.I < (b1_6.L.length : Int))) then (bif (decide (((b1_6.L.getD (w64 (t3.I - 1)).toNat []).getD 0 .nil).I ≥ ((b1_6.L.getD t3.I.toNat []).getD 0 .nil).I)) then (some (.ret [.b false])) else (some (.again [.i (w64 (t3.I + 1)), b1_0, b1_1, b1_2, b1_3, b1_4, b1_5, b1_6, b1_7]))) else none) else none) else none) else none) else (some (.brk 0 [b1_0, b1_1, b1_2, b1_3, b1_4, b1_5, b1_6, b1_7])))
def s_l21ActOk.d2 (t63 b1_0 b1_1 b1_2 b1_3 b1_4 b1_5 b1_6 b1_7 : C) : R := (bif t63.B then (some (.ret [.b false])) else (bif (!(!b1_7.B)) then (bif (b1_2.I == 0) then (bif (!b1_5.B) then (some (.ret [.b ((b1_6.L.length : Int) == 0)])) else (some (.ret [.b false]))) else (some (.ret [.b false]))) else (some (.ret [.b true]))))
def s_l21ActOk.d3 (b1_0 b1_1 b1_2 b1_3 b1_4 b1_5 b1_6 b1_7 : C) : R := (bindNrm (bif b1_5.B then (call1 (s_l18In [b1_3, .i 0, .i 10]) fun y2_t0 => (bif (!(!y2_t0.B)) then (call1 (s_l18In [b1_4, .i 0, .i 3]) fun y3_t0 => (bif (!(!y3_t0.B)) then (bif (!b1_5.B) then (bif (!(b1_3.I != 0)) then (some (.nrm [.b (b1_4.I != 0), b1_0, b1_1, b1_2, b1_3, b1_4, b1_5, b1_6, b1_7])) else (some (.nrm [.b true, b1_0, b1_1, b1_2, b1_3, b1_4, b1_5, b1_6, b1_7]))) else (some (.nrm [.b false, b1_0, b1_1, b1_2, b1_3, b1_4, b1_5, b1_6, b1_7]))) else (some (.nrm [.b true, b1_0, b1_1, b1_2, b1_3, b1_4, b1_5, b1_6, b1_7])))) else (some (.nrm [.b true, b1_0, b1_1, b1_2, b1_3, b1_4, b1_5, b1_6, b1_7])))) else (bif (!b1_5.B) then (bif (!(b1_3.I != 0)) then (some (.nrm [.b (b1_4.I != 0), b1_0, b1_1, b1_2, b1_3, b1_4, b1_5, b1_6, b1_7])) else (some (.nrm [.b true, b1_0, b1_1, b1_2, b1_3, b1_4, b1_5, b1_6, b1_7]))) else (some (.nrm [.b false, b1_0, b1_1, b1_2, b1_3, b1_4, b1_5, b1_6, b1_7])))) (ap9 s_l21ActOk.d2))
def s_l21ActOk.d4 (t0_0 t0_1 t0_2 t0_3 t0_4 t0_5 t0_6 t0_7 : C) : R := (call1 (s_l18In [t0_2, .i 0, .i 20]) fun y1_t0 => (bif (!(!y1_t0.B)) then (bif (decide ((t0_6.L.length : Int) > 200)) then (some (.ret [.b false])) else (bindBlk 0 (lim (ap9 s_l21ActOk.d1) [.i 1, t0_0, t0_1, t0_2, t0_3, t0_4, t0_5, t0_6, t0_7]) (ap8 s_l21ActOk.d3))) else (some (.ret [.b false]))))
def s_l21ActOk : List C → Option (List C) := fun xs => finR (ap8 s_l21ActOk.d4 xs)
def s_l21ActOk_fs : FS := ⟨1, ⟨[(0, z9)], []⟩, ⟨[(0, zo)], []⟩, [], s_l21ActOk⟩
theorem s_l21ActOk_ok : FSOk Try.checked.prog T0 93 s_l21ActOk_fs := okOf base0 (fn := Try.f93) (c := Try.f93.body.getD .skip) s_l21ActOk_fs (.seq .leaf (.seq .leaf (.seq (.seq .leaf (.block ⟨[(1, (.pt 1 0))], [(1, z1)]⟩ (.loop ⟨[(1, (.pt 1 0)), (3, zi)], [(1, z1)]⟩ .leaf))) (.seq (.seq (.join ⟨[(1, (.pt 1 0)), (63, zo)], [(1, z1)]⟩ .leaf) .leaf) .leaf)))) [(17, some 6, s_l18In_fs), (17, some 40, s_l18In_fs), (17, some 45, s_l18In_fs)] (.cons s_l18In_ok (.cons s_l18In_ok (.cons s_l18In_ok .nil))) (by kernel_rfl) (by kernel_rfl) (by kernel_rfl) (fun xs => by kernel_rfl)
def s_l21Apply.d1 (t6 t7 b2_0 b2_1 b2_2 b2_3 b3_0 b3_1 b3_2 b3_3 b3_4 b3_5 b3_6 b3_7 b4_0 a1138400 a1138401 a1138402 : C) : R := (bif (decide (t7.I < (b3_6.L.length : Int))) then (bif (decide (0 ≤ t7.I)) then (bif (decide (t7.I < (b3_6.L.length : Int))) then (call1 (s_l18Copy [b2_0, b2_1, b2_2, b2_3, b3_0, ((b3_6.L.getD t7.I.toNat []).getD 0 .nil)]) fun y3_t0 => (bif (decide (y3_t0.I < 0)) then (some (.ret [b2_0, b2_1, b2_2, b2_3, .i 3])) else (some (.again [t6, .i (w64 (t7.I + 1)), b2_0, b2_1, b2_2, b2_3, b3_0, b3_1, b3_2, b3_3, b3_4, b3_5, b3_6, b3_7, b4_0, .l a1138400.L, .l a1138401.L, .l a1138402.L])))) else none) else none) else (some (.brk 0 [t6, b2_0, b2_1, b2_2, b2_3, b3_0, b3_1, b3_2, b3_3, b3_4, b3_5, b3_6, b3_7, b4_0, .l a1138400.L, .l a1138401.L, .l a1138402.L])))
def s_l21Apply.d2 (t6 t8 b2_0 b2_1 b2_2 b2_3 b3_0 b3_1 b3_2 b3_3 b3_4 b3_5 b3_6 b3_7 b4_0 a1138400 a1138401 a1138402 : C) : R := (bif (decide (t8.I < (b3_6.L.length : Int))) then (bif (decide (0 ≤ t8.I)) then (bif (decide (t8.I < (b3_6.L.length : Int))) then (call1 (s_l18Copy [b2_0, b2_1, b2_2, b2_3, b3_0, ((b3_6.L.getD t8.I.toNat []).getD 0 .nil)]) fun y4_t0 => (bif (decide (0 ≤ y4_t0.I)) then (bif (decide (y4_t0.I < (b2_2.L.length : Int))) then (bif (decide (0 ≤ t8.I)) then (bif (decide (t8.I < (b3_6.L.length : Int))) then (bif (((b2_2.L.getD y4_t0.I.toNat []).getD 2 .nil).I != ((b3_6.L.getD t8.I.toNat []).getD 1 .nil).I) then (some (.ret [b2_0, b2_1, b2_2, b2_3, .i 4])) else (some (.again [t6, .i (w64 (t8.I + 1)), b2_0, b2_1, b2_2, b2_3, b3_0, b3_1, b3_2, b3_3, b3_4, b3_5, b3_6, b3_7, b4_0, .l a1138400.L, .l a1138401.L, .l a1138402.L]))) else none) else none) else none) else none)) else none) else none) else (some (.brk 2 [t6, b2_0, b2_1, b2_2, b2_3, b3_0, b3_1, b3_2, b3_3, b3_4, b3_5, b3_6, b3_7, b4_0, .l a1138400.L, .l a1138401.L, .l a1138402.L])))
def s_l21Apply.d3 (t6 t10 t11 b2_0 b2_1 b2_2 b2_3 b3_0 b3_1 b3_2 b3_3 b3_4 b3_5 b3_6 b3_7 b4_0 b9_0 a1138400 a1138401 a1138402 a371640 a371641 a371642 : C) : R := (bif (decide (t11.I < (b3_6.L.length : Int))) then (bif (decide (0 ≤ t11.I)) then (bif (decide (t11.I < (b3_6.L.length : Int))) then (call1 (s_l20MayEnd [b9_0, .l a371640.L, .l a371641.L, .l a371642.L, b3_0, ((b3_6.L.getD t11.I.toNat []).getD 0 .nil)]) fun y6_t0 => (bif (!y6_t0.B) then (some (.ret [b2_0, b2_1, b2_2, b2_3, .i 5])) else (bif (decide (0 ≤ t11.I)) then (bif (decide (t11.I < (b3_6.L.length : Int))) then (call1 (s_l18Copy [b9_0, .l a371640.L, .l a371641.L, .l a371642.L, b3_0, ((b3_6.L.getD t11.I.toNat []).getD 0 .nil)]) fun y7_t0 => (bif (decide (0 ≤ y7_t0.I)) then (bif (decide (y7_t0.I < (a371641.L.length : Int))) then (bif (decide (0 ≤ y7_t0.I)) then (bif (decide (y7_t0.I < ((a371641.L.set y7_t0.I.toNat (setCs (a371641.L.getD y7_t0.I.toNat []) 5 [.b true])).length : Int))) then (some (.again [t6, t10, .i (w64 (t11.I + 1)), b2_0, b2_1, b2_2, b2_3, b3_0, b3_1, b3_2, b3_3, b3_4, b3_5, b3_6, b3_7, b4_0, b9_0, .l a1138400.L, .l a1138401.L, .l a1138402.L, .l a371640.L, .l ((a371641.L.set y7_t0.I.toNat (setCs (a371641.L.getD y7_t0.I.toNat []) 5 [.b true])).set y7_t0.I.toNat (setCs ((a371641.L.set y7_t0.I.toNat (setCs (a371641.L.getD y7_t0.I.toNat []) 5 [.b true])).getD y7_t0.I.toNat []) 2 [t10])), .l a371642.L])) else none) else none) else none) else none)) else none) else none))) else none) else none) else (some (.brk 4 [t6, t10, b2_0, b2_1, b2_2, b2_3, b3_0, b3_1, b3_2, b3_3, b3_4, b3_5, b3_6, b3_7, b4_0, b9_0, .l a1138400.L, .l a1138401.L, .l a1138402.L, .l a371640.L, .l a371641.L, .l a371642.L])))
def s_l21Apply.d4 (t6 t10 t15 t17 b3_0 b3_1 b3_2 b3_3 b3_4 b3_5 b3_6 b3_7 b4_0 b9_0 b13_0 b13_1 b13_2 b13_3 b13_4 b13_5 b13_6 b13_7 b13_8 b13_9 b13_10 b13_11 b13_12 b16_0 b16_1 b16_2 b16_3 b16_4 b16_5 b16_6 a1138400 a1138401 a1138402 a371640 a371641 a371642 : C) : R := (bif (decide (t17.I < (a371641.L.length : Int))) then (bif (decide (0 ≤ t17.I)) then (bif (decide (t17.I < (a371641.L.length : Int))) then (call1 (s_l18Ahead [((a371641.L.getD t17.I.toNat []).getD 0 .nil), ((a371641.L.getD t17.I.toNat []).getD 1 .nil), ((a371641.L.getD t17.I.toNat []).getD 2 .nil), ((a371641.L.getD t17.I.toNat []).getD 3 .nil), ((a371641.L.getD t17.I.toNat []).getD 4 .nil), ((a371641.L.getD t17.I.toNat []).getD 5 .nil), ((a371641.L.getD t17.I.toNat []).getD 6 .nil), b16_0, b16_1, b16_2, b16_3, b16_4, b16_5, b16_6]) fun y11_t0 => (bif y11_t0.B then (some (.again [t6, t10, t15, .i (w64 (t17.I + 1)), b3_0, b3_1, b3_2, b3_3, b3_4, b3_5, b3_6, b3_7, b4_0, b9_0, b13_0, b13_1, b13_2, b13_3, b13_4, b13_5, b13_6, b13_7, b13_8, b13_9, b13_10, b13_11, b13_12, b16_0, b16_1, b16_2, b16_3, b16_4, b16_5, b16_6, .l a1138400.L, .l a1138401.L, .l a1138402.L, .l a371640.L, .l a371641.L, .l a371642.L])) else (some (.brk 8 [t6, t10, t15, t17, b3_0, b3_1, b3_2, b3_3, b3_4, b3_5, b3_6, b3_7, b4_0, b9_0, b13_0, b13_1, b13_2, b13_3, b13_4, b13_5, b13_6, b13_7, b13_8, b13_9, b13_10, b13_11, b13_12, b16_0, b16_1, b16_2, b16_3, b16_4, b16_5, b16_6, .l a1138400.L, .l a1138401.L, .l a1138402.L, .l a371640.L, .l a371641.L, .l a371642.L])))) else none) else none) else (some (.brk 8 [t6, t10, t15, t17, b3_0, b3_1, b3_2, b3_3, b3_4, b3_5, b3_6, b3_7, b4_0, b9_0, b13_0, b13_1, b13_2, b13_3, b13_4, b13_5, b13_6, b13_7, b13_8, b13_9, b13_10, b13_11, b13_12, b16_0, b16_1, b16_2, b16_3, b16_4, b16_5, b16_6, .l a1138400.L, .l a1138401.L, .l a1138402.L, .l a371640.L, .l a371641.L, .l a371642.L])))
def s_l21Apply.d5 (t6 t10 t15 t17 b3_0 b3_1 b3_2 b3_3 b3_4 b3_5 b3_6 b3_7 b4_0 b9_0 b13_0 b13_1 b13_2 b13_3 b13_4 b13_5 b13_6 b13_7 b13_8 b13_9 b13_10 b13_11 b13_12 b16_0 b16_1 b16_2 b16_3 b16_4 b16_5 b16_6 a1138400 a1138401 a1138402 a371640 a371641 a371642 : C) : R := (bif (decide (0 ≤ t17.I)) then (bif (decide (t17.I ≤ (a371641.L.length : Int))) then (bif (decide (nils.length + ((a371641.L.take t17.I.toNat).drop 0).length ≤ 4294967296)) then (bif (decide ((nils ++ ((a371641.L.take t17.I.toNat).drop 0)).length + (rows [[b16_0, b16_1, b16_2, b16_3, b16_4, b16_5, b16_6]]).length ≤ 4294967296)) then (bif (decide (0 ≤ t17.I)) then (bif (decide (t17.I ≤ (a371641.L.length : Int))) then (bif (decide ((a371641.L.length : Int) ≤ (a371641.L.length : Int))) then (bif (decide (((nils ++ ((a371641.L.take t17.I.toNat).drop 0)) ++ (rows [[b16_0, b16_1, b16_2, b16_3, b16_4, b16_5, b16_6]])).length + ((a371641.L.take (a371641.L.length : Int).toNat).drop t17.I.toNat).length ≤ 4294967296)) then (some (.again [t6, t10, .i (w64 (t15.I + 1)), b3_0, b3_1, b3_2, b3_3, b3_4, b3_5, b3_6, b3_7, b4_0, b9_0, b13_0, b13_1, b13_2, b13_3, b13_4, b13_5, b13_6, .i (w64 (b13_7.I + 1)), b13_8, b13_9, b13_10, b13_11, b13_12, .l a1138400.L, .l a1138401.L, .l a1138402.L, .l a371640.L, .l (((nils ++ ((a371641.L.take t17.I.toNat).drop 0)) ++ (rows [[b16_0, b16_1, b16_2, b16_3, b16_4, b16_5, b16_6]])) ++ ((a371641.L.take (a371641.L.length : Int).toNat).drop t17.I.toNat)), .l a371642.L])) else none) else none) else none) else none) else none) else none) else none) else none)
def s_l21Apply.d6 (t6 t10 t15 b3_0 b3_1 b3_2 b3_3 b3_4 b3_5 b3_6 b3_7 b4_0 b9_0 b13_0 b13_1 b13_2 b13_3 b13_4 b13_5 b13_6 b13_7 b13_8 b13_9 b13_10 b13_11 b13_12 a1138400 a1138401 a1138402 a371640 a371641 a371642 : C) : R := (bif (decide (t15.I < b3_2.I)) then (bindBlk 8 (lim (ap40 s_l21Apply.d4) [t6, t10, t15, .i 0, b3_0, b3_1, b3_2, b3_3, b3_4, b3_5, b3_6, b3_7, b4_0, b9_0, b13_0, b13_1, b13_2, b13_3, b13_4, b13_5, b13_6, b13_7, b13_8, b13_9, b13_10, b13_11, b13_12, b3_0, b13_7, t10, b13_3, .i 1, .b false, .s (bs #[]), .l a1138400.L, .l a1138401.L, .l a1138402.L, .l a371640.L, .l a371641.L, .l a371642.L]) (ap40 s_l21Apply.d5)) else (some (.brk 6 [t6, t10, b3_0, b3_1, b3_2, b3_3, b3_4, b3_5, b3_6, b3_7, b4_0, b9_0, b13_0, b13_1, b13_2, b13_3, b13_4, b13_5, b13_6, b13_7, b13_8, b13_9, b13_10, b13_11, b13_12, .l a1138400.L, .l a1138401.L, .l a1138402.L, .l a371640.L, .l a371641.L, .l a371642.L])))
def s_l21Apply.d7 (t6 t10 b3_0 b3_1 b3_2 b3_3 b3_4 b3_5 b3_6 b3_7 b4_0 b9_0 b13_0 b13_1 b13_2 b13_3 b13_4 b13_5 b13_6 b13_7 b13_8 b13_9 b13_10 b13_11 b13_12 a1138400 a1138401 a1138402 a371640 a371641 a371642 : C) : R := (bif (decide (0 ≤ t6.I)) then (bif (decide (t6.I < (a371640.L.length : Int))) then (bif b3_7.B then (bif (decide (0 ≤ t6.I)) then (bif (decide (t6.I ≤ ((a371640.L.set t6.I.toNat (setCs (a371640.L.getD t6.I.toNat []) 0 [b13_0, t10, b13_2, b13_3, b13_4, b13_5, b13_6, b13_7, b13_8, b13_9, b13_10, b13_11, b13_12])).length : Int))) then (bif (decide (nils.length + (((a371640.L.set t6.I.toNat (setCs (a371640.L.getD t6.I.toNat []) 0 [b13_0, t10, b13_2, b13_3, b13_4, b13_5, b13_6, b13_7, b13_8, b13_9, b13_10, b13_11, b13_12])).take t6.I.toNat).drop 0).length ≤ 4294967296)) then (bif (decide (0 ≤ (w64 (t6.I + 1)))) then (bif (decide ((w64 (t6.I + 1)) ≤ ((a371640.L.set t6.I.toNat (setCs (a371640.L.getD t6.I.toNat []) 0 [b13_0, t10, b13_2, b13_3, b13_4, b13_5, b13_6, b13_7, b13_8, b13_9, b13_10, b13_11, b13_12])).length : Int))) then (bif (decide (((a371640.L.set t6.I.toNat (setCs (a371640.L.getD t6.I.toNat []) 0 [b13_0, t10, b13_2, b13_3, b13_4, b13_5, b13_6, b13_7, b13_8, b13_9, b13_10, b13_11, b13_12])).length : Int) ≤ ((a371640.L.set t6.I.toNat (setCs (a371640.L.getD t6.I.toNat []) 0 [b13_0, t10, b13_2, b13_3, b13_4, b13_5, b13_6, b13_7, b13_8, b13_9, b13_10, b13_11, b13_12])).length : Int))) then (bif (decide ((nils ++ (((a371640.L.set t6.I.toNat (setCs (a371640.L.getD t6.I.toNat []) 0 [b13_0, t10, b13_2, b13_3, b13_4, b13_5, b13_6, b13_7, b13_8, b13_9, b13_10, b13_11, b13_12])).take t6.I.toNat).drop 0)).length + (((a371640.L.set t6.I.toNat (setCs (a371640.L.getD t6.I.toNat []) 0 [b13_0, t10, b13_2, b13_3, b13_4, b13_5, b13_6, b13_7, b13_8, b13_9, b13_10, b13_11, b13_12])).take ((a371640.L.set t6.I.toNat (setCs (a371640.L.getD t6.I.toNat []) 0 [b13_0, t10, b13_2, b13_3, b13_4, b13_5, b13_6, b13_7, b13_8, b13_9, b13_10, b13_11, b13_12])).length : Int).toNat).drop (w64 (t6.I + 1)).toNat).length ≤ 4294967296)) then (some (.ret [t10, .l ((nils ++ (((a371640.L.set t6.I.toNat (setCs (a371640.L.getD t6.I.toNat []) 0 [b13_0, t10, b13_2, b13_3, b13_4, b13_5, b13_6, b13_7, b13_8, b13_9, b13_10, b13_11, b13_12])).take t6.I.toNat).drop 0)) ++ (((a371640.L.set t6.I.toNat (setCs (a371640.L.getD t6.I.toNat []) 0 [b13_0, t10, b13_2, b13_3, b13_4, b13_5, b13_6, b13_7, b13_8, b13_9, b13_10, b13_11, b13_12])).take ((a371640.L.set t6.I.toNat (setCs (a371640.L.getD t6.I.toNat []) 0 [b13_0, t10, b13_2, b13_3, b13_4, b13_5, b13_6, b13_7, b13_8, b13_9, b13_10, b13_11, b13_12])).length : Int).toNat).drop (w64 (t6.I + 1)).toNat)), .l a371641.L, .l a371642.L, .i 0])) else none) else none) else none) else none) else none) else none) else none) else (some (.ret [t10, .l (a371640.L.set t6.I.toNat (setCs (a371640.L.getD t6.I.toNat []) 0 [b13_0, t10, b13_2, b13_3, b13_4, b13_5, b13_6, b13_7, b13_8, b13_9, b13_10, b13_11, b13_12])), .l a371641.L, .l a371642.L, .i 0]))) else none) else none)
def s_l21Apply.d8 (t6 t10 b2_0 b2_1 b2_2 b2_3 b3_0 b3_1 b3_2 b3_3 b3_4 b3_5 b3_6 b3_7 b4_0 b9_0 b13_0 b13_1 b13_2 b13_3 b13_4 b13_5 b13_6 b13_7 b13_8 b13_9 b13_10 b13_11 b13_12 a1138400 a1138401 a1138402 a371640 a371641 a371642 : C) : R := (bif (!(decide ((w64 ((b2_2.L.length : Int) + b3_2.I)) > 200))) then (bif (!(decide ((w64 (b13_7.I + b3_2.I)) > 1000000))) then (bif (decide (b2_0.I ≥ 1000000)) then (some (.ret [b2_0, b2_1, b2_2, b2_3, .i 7])) else (bindBlk 6 (lim (ap32 s_l21Apply.d6) [t6, t10, .i 0, b3_0, b3_1, b3_2, b3_3, b3_4, b3_5, b3_6, b3_7, b4_0, b9_0, b13_0, b13_1, b13_2, b13_3, b13_4, b13_5, b13_6, b13_7, b13_8, b13_9, b13_10, b13_11, b13_12, .l a1138400.L, .l a1138401.L, .l a1138402.L, .l a371640.L, .l a371641.L, .l a371642.L]) (ap31 s_l21Apply.d7))) else (some (.ret [b2_0, b2_1, b2_2, b2_3, .i 7]))) else (some (.ret [b2_0, b2_1, b2_2, b2_3, .i 7])))
def s_l21Apply.d9 (t6 t10 b2_0 b2_1 b2_2 b2_3 b3_0 b3_1 b3_2 b3_3 b3_4 b3_5 b3_6 b3_7 b4_0 b9_0 b13_0 b13_1 b13_2 b13_3 b13_4 b13_5 b13_6 b13_7 b13_8 b13_9 b13_10 b13_11 b13_12 a1138400 a1138401 a1138402 a371640 a371641 a371642 : C) : R := (bindNrm (bif b3_5.B then (bif (!(b13_8.I == 0)) then (call1 (s_l18In [b3_3, b13_9, b13_10]) fun y10_t0 => (bif (!y10_t0.B) then (some (.ret [b2_0, b2_1, b2_2, b2_3, .i 6])) else (some (.nrm [t6, t10, b2_0, b2_1, b2_2, b2_3, b3_0, b3_1, b3_2, b3_3, b3_4, b3_5, b3_6, b3_7, b4_0, b9_0, b13_0, b13_1, b13_2, b13_3, b13_4, b13_5, b13_6, b13_7, b13_8, b13_9, b13_10, b13_11, b13_12, .l a1138400.L, .l a1138401.L, .l a1138402.L, .l a371640.L, .l a371641.L, .l a371642.L])))) else (some (.ret [b2_0, b2_1, b2_2, b2_3, .i 6]))) else (some (.nrm [t6, t10, b2_0, b2_1, b2_2, b2_3, b3_0, b3_1, b3_2, b3_3, b3_4, b3_5, b3_6, b3_7, b4_0, b9_0, b13_0, b13_1, b13_2, b13_3, b13_4, b13_5, b13_6, b13_7, b13_8, b13_9, b13_10, b13_11, b13_12, .l a1138400.L, .l a1138401.L, .l a1138402.L, .l a371640.L, .l a371641.L, .l a371642.L]))) (ap35 s_l21Apply.d8))
def s_l21Apply.d10 (t6 t10 b2_0 b2_1 b2_2 b2_3 b3_0 b3_1 b3_2 b3_3 b3_4 b3_5 b3_6 b3_7 b4_0 b9_0 b13_0 b13_1 b13_2 b13_3 b13_4 b13_5 b13_6 b13_7 b13_8 b13_9 b13_10 b13_11 b13_12 a1138400 a1138401 a1138402 a371640 a371641 a371642 : C) : R := (bindNrm (bif (decide (b3_2.I > 0)) then (bif (!b13_2.B) then (call5 (s_l19Count [b9_0, .l a371640.L, .l a371641.L, .l a371642.L, b3_0]) fun y9_t0_0 y9_t0_1 y9_t0_2 y9_t0_3 y9_t0_4 => (bif (decide ((w64 (y9_t0_0.I + b3_2.I)) > (w64 (b13_4.I + b13_6.I)))) then (some (.ret [b2_0, b2_1, b2_2, b2_3, .i 6])) else (some (.nrm [t6, t10, b2_0, b2_1, b2_2, b2_3, b3_0, b3_1, b3_2, b3_3, b3_4, b3_5, b3_6, b3_7, b4_0, b9_0, b13_0, b13_1, b13_2, b13_3, b13_4, b13_5, b13_6, b13_7, b13_8, b13_9, b13_10, b13_11, b13_12, .l a1138400.L, .l a1138401.L, .l a1138402.L, .l a371640.L, .l a371641.L, .l a371642.L])))) else (some (.ret [b2_0, b2_1, b2_2, b2_3, .i 6]))) else (some (.nrm [t6, t10, b2_0, b2_1, b2_2, b2_3, b3_0, b3_1, b3_2, b3_3, b3_4, b3_5, b3_6, b3_7, b4_0, b9_0, b13_0, b13_1, b13_2, b13_3, b13_4, b13_5, b13_6, b13_7, b13_8, b13_9, b13_10, b13_11, b13_12, .l a1138400.L, .l a1138401.L, .l a1138402.L, .l a371640.L, .l a371641.L, .l a371642.L]))) (ap35 s_l21Apply.d9))
def s_l21Apply.d11 (t6 t10 b2_0 b2_1 b2_2 b2_3 b3_0 b3_1 b3_2 b3_3 b3_4 b3_5 b3_6 b3_7 b4_0 b9_0 b13_0 b13_1 b13_2 b13_3 b13_4 b13_5 b13_6 b13_7 b13_8 b13_9 b13_10 b13_11 b13_12 a1138400 a1138401 a1138402 a371640 a371641 a371642 : C) : R := (bindNrm (bif b3_5.B then (some (.nrm [t6, t10, b2_0, b2_1, b2_2, b2_3, b3_0, b3_1, b3_2, b3_3, b3_4, b3_5, b3_6, b3_7, b4_0, b9_0, b13_0, b13_1, b13_2, b13_3, b3_3, b13_5, b13_6, b13_7, b13_8, b13_9, b13_10, b13_11, b3_4, .l a1138400.L, .l a1138401.L, .l a1138402.L, .l a371640.L, .l a371641.L, .l a371642.L])) else (some (.nrm [t6, t10, b2_0, b2_1, b2_2, b2_3, b3_0, b3_1, b3_2, b3_3, b3_4, b3_5, b3_6, b3_7, b4_0, b9_0, b13_0, b13_1, b13_2, b13_3, b13_4, b13_5, b13_6, b13_7, b13_8, b13_9, b13_10, b13_11, b13_12, .l a1138400.L, .l a1138401.L, .l a1138402.L, .l a371640.L, .l a371641.L, .l a371642.L]))) (ap35 s_l21Apply.d10))
def s_l21Apply.d12 (t6 t10 b2_0 b2_1 b2_2 b2_3 b3_0 b3_1 b3_2 b3_3 b3_4 b3_5 b3_6 b3_7 b4_0 b9_0 a1138400 a1138401 a1138402 a371640 a371641 a371642 : C) : R := (bif (decide (0 ≤ t6.I)) then (bif (decide (t6.I < (a371640.L.length : Int))) then (call5 (s_l19Count [b2_0, b2_1, b2_2, b2_3, b3_0]) fun y8_t0_0 y8_t0_1 y8_t0_2 y8_t0_3 y8_t0_4 => (bindNrm (bif b3_7.B then (bif (!(!(((a371640.L.getD t6.I.toNat []).getD 2 .nil).B))) then (bif (decide ((w64 (y8_t0_0.I + y8_t0_4.I)) > 0)) then (some (.ret [b2_0, b2_1, b2_2, b2_3, .i 6])) else (some (.nrm [t6, t10, b2_0, b2_1, b2_2, b2_3, b3_0, b3_1, b3_2, b3_3, b3_4, b3_5, b3_6, b3_7, b4_0, b9_0, ((a371640.L.getD t6.I.toNat []).getD 0 .nil), ((a371640.L.getD t6.I.toNat []).getD 1 .nil), ((a371640.L.getD t6.I.toNat []).getD 2 .nil), ((a371640.L.getD t6.I.toNat []).getD 3 .nil), ((a371640.L.getD t6.I.toNat []).getD 4 .nil), ((a371640.L.getD t6.I.toNat []).getD 5 .nil), ((a371640.L.getD t6.I.toNat []).getD 6 .nil), ((a371640.L.getD t6.I.toNat []).getD 7 .nil), ((a371640.L.getD t6.I.toNat []).getD 8 .nil), ((a371640.L.getD t6.I.toNat []).getD 9 .nil), ((a371640.L.getD t6.I.toNat []).getD 10 .nil), ((a371640.L.getD t6.I.toNat []).getD 11 .nil), ((a371640.L.getD t6.I.toNat []).getD 12 .nil), .l a1138400.L, .l a1138401.L, .l a1138402.L, .l a371640.L, .l a371641.L, .l a371642.L]))) else (some (.ret [b2_0, b2_1, b2_2, b2_3, .i 6]))) else (some (.nrm [t6, t10, b2_0, b2_1, b2_2, b2_3, b3_0, b3_1, b3_2, b3_3, b3_4, b3_5, b3_6, b3_7, b4_0, b9_0, ((a371640.L.getD t6.I.toNat []).getD 0 .nil), ((a371640.L.getD t6.I.toNat []).getD 1 .nil), ((a371640.L.getD t6.I.toNat []).getD 2 .nil), ((a371640.L.getD t6.I.toNat []).getD 3 .nil), ((a371640.L.getD t6.I.toNat []).getD 4 .nil), ((a371640.L.getD t6.I.toNat []).getD 5 .nil), ((a371640.L.getD t6.I.toNat []).getD 6 .nil), ((a371640.L.getD t6.I.toNat []).getD 7 .nil), ((a371640.L.getD t6.I.toNat []).getD 8 .nil), ((a371640.L.getD t6.I.toNat []).getD 9 .nil), ((a371640.L.getD t6.I.toNat []).getD 10 .nil), ((a371640.L.getD t6.I.toNat []).getD 11 .nil), ((a371640.L.getD t6.I.toNat []).getD 12 .nil), .l a1138400.L, .l a1138401.L, .l a1138402.L, .l a371640.L, .l a371641.L, .l a371642.L]))) (ap35 s_l21Apply.d11))) else none) else none)
def s_l21Apply.d13 (t6 b2_0 b2_1 b2_2 b2_3 b3_0 b3_1 b3_2 b3_3 b3_4 b3_5 b3_6 b3_7 b4_0 a1138400 a1138401 a1138402 : C) : R := (call4 (s_l18Book [b2_0, b2_1, b2_2, b2_3]) fun y5_t0_0 y5_a3000 y5_a3001 y5_a3002 => (bindBlk 4 (lim (ap23 s_l21Apply.d3) [t6, .i (w64 (b2_0.I + 1)), .i 0, b2_0, b2_1, b2_2, b2_3, b3_0, b3_1, b3_2, b3_3, b3_4, b3_5, b3_6, b3_7, b4_0, y5_t0_0, .l a1138400.L, .l a1138401.L, .l a1138402.L, .l y5_a3000.L, .l y5_a3001.L, .l y5_a3002.L]) (ap22 s_l21Apply.d12)))
def s_l21Apply.d14 (t6 b2_0 b2_1 b2_2 b2_3 b3_0 b3_1 b3_2 b3_3 b3_4 b3_5 b3_6 b3_7 b4_0 a1138400 a1138401 a1138402 : C) : R := (bif (decide (0 ≤ t6.I)) then (bif (decide (t6.I < (b2_1.L.length : Int))) then (bif (((b2_1.L.getD t6.I.toNat []).getD 1 .nil).I != b3_1.I) then (some (.ret [b2_0, b2_1, b2_2, b2_3, .i 4])) else (bindBlk 2 (lim (ap18 s_l21Apply.d2) [t6, .i 0, b2_0, b2_1, b2_2, b2_3, b3_0, b3_1, b3_2, b3_3, b3_4, b3_5, b3_6, b3_7, b4_0, .l a1138400.L, .l a1138401.L, .l a1138402.L]) (ap17 s_l21Apply.d13))) else none) else none)
def s_l21Apply.d15 (t0_0 t0_1 t0_2 t0_3 t1_0 t1_1 t1_2 t1_3 t1_4 t1_5 t1_6 t1_7 : C) : R := (call1 (s_l21ActOk [t1_0, t1_1, t1_2, t1_3, t1_4, t1_5, t1_6, t1_7]) fun y1_t0 => (bif (!y1_t0.B) then (some (.ret [t0_0, t0_1, t0_2, t0_3, .i 2])) else (call1 (s_l18Service [t0_0, t0_1, t0_2, t0_3, t1_0]) fun y2_t0 => (bif (decide (y2_t0.I < 0)) then (some (.ret [t0_0, t0_1, t0_2, t0_3, .i 3])) else (bindBlk 0 (lim (ap18 s_l21Apply.d1) [y2_t0, .i 0, t0_0, t0_1, t0_2, t0_3, t1_0, t1_1, t1_2, t1_3, t1_4, t1_5, t1_6, t1_7, .i 0, .l nils, .l nils, .l nils]) (ap17 s_l21Apply.d14))))))
def s_l21Apply : List C → Option (List C) := fun xs => finR (ap12 s_l21Apply.d15 xs)
def s_l21Apply_fs : FS := ⟨2, ⟨[(0, z2), (1, z9)], []⟩, ⟨[(0, (.tu [z2, zi]))], []⟩, [], s_l21Apply⟩
theorem s_l21Apply_ok : FSOk Try.checked.prog T0 89 s_l21Apply_fs := okOf base0 (fn := Try.f89) (c := Try.f89.body.getD .skip) s_l21Apply_fs (.seq .leaf (.seq .leaf (.seq .leaf (.seq .leaf (.seq (.seq .leaf (.block ⟨[(2, (.pt 2 0)), (3, (.pt 3 0)), (4, (.pt 4 0)), (6, zi)], [(2, z0), (3, z1), (4, z5), (1138400, .arr 48), (1138401, .arr 58), (1138402, .arr 55)]⟩ (.loop ⟨[(2, (.pt 2 0)), (3, (.pt 3 0)), (4, (.pt 4 0)), (6, zi), (7, zi)], [(2, z0), (3, z1), (4, z5), (1138400, .arr 48), (1138401, .arr 58), (1138402, .arr 55)]⟩ .leaf))) (.seq .leaf (.seq (.seq .leaf (.block ⟨[(2, (.pt 2 0)), (3, (.pt 3 0)), (4, (.pt 4 0)), (6, zi)], [(2, z0), (3, z1), (4, z5), (1138400, .arr 48), (1138401, .arr 58), (1138402, .arr 55)]⟩ (.loop ⟨[(2, (.pt 2 0)), (3, (.pt 3 0)), (4, (.pt 4 0)), (6, zi), (8, zi)], [(2, z0), (3, z1), (4, z5), (1138400, .arr 48), (1138401, .arr 58), (1138402, .arr 55)]⟩ .leaf))) (.seq .leaf (.seq .leaf (.seq (.seq .leaf (.block ⟨[(2, (.pt 2 0)), (3, (.pt 3 0)), (4, (.pt 4 0)), (6, zi), (9, (.pt 9 0)), (10, zi)], [(2, z0), (3, z1), (4, z5), (9, z13), (1138400, .arr 48), (1138401, .arr 58), (1138402, .arr 55), (371640, .arr 48), (371641, .arr 58), (371642, .arr 55)]⟩ (.loop ⟨[(2, (.pt 2 0)), (3, (.pt 3 0)), (4, (.pt 4 0)), (6, zi), (9, (.pt 9 0)), (10, zi), (11, zi)], [(2, z0), (3, z1), (4, z5), (9, z13), (1138400, .arr 48), (1138401, .arr 58), (1138402, .arr 55), (371640, .arr 48), (371641, .arr 58), (371642, .arr 55)]⟩ .leaf))) (.seq .leaf (.seq .leaf (.seq (.join ⟨[(2, (.pt 2 0)), (3, (.pt 3 0)), (4, (.pt 4 0)), (6, zi), (9, (.pt 9 0)), (10, zi), (13, (.pt 13 0))], [(2, z0), (3, z1), (4, z5), (9, z13), (13, z3), (1138400, .arr 48), (1138401, .arr 58), (1138402, .arr 55), (371640, .arr 48), (371641, .arr 58), (371642, .arr 55)]⟩ .leaf) (.seq (.join ⟨[(2, (.pt 2 0)), (3, (.pt 3 0)), (4, (.pt 4 0)), (6, zi), (9, (.pt 9 0)), (10, zi), (13, (.pt 13 0))], [(2, z0), (3, z1), (4, z5), (9, z13), (13, z3), (1138400, .arr 48), (1138401, .arr 58), (1138402, .arr 55), (371640, .arr 48), (371641, .arr 58), (371642, .arr 55)]⟩ .leaf) (.seq (.join ⟨[(2, (.pt 2 0)), (3, (.pt 3 0)), (4, (.pt 4 0)), (6, zi), (9, (.pt 9 0)), (10, zi), (13, (.pt 13 0))], [(2, z0), (3, z1), (4, z5), (9, z13), (13, z3), (1138400, .arr 48), (1138401, .arr 58), (1138402, .arr 55), (371640, .arr 48), (371641, .arr 58), (371642, .arr 55)]⟩ .leaf) (.seq (.join ⟨[(2, (.pt 2 0)), (3, (.pt 3 0)), (4, (.pt 4 0)), (6, zi), (9, (.pt 9 0)), (10, zi), (13, (.pt 13 0))], [(2, z0), (3, z1), (4, z5), (9, z13), (13, z3), (1138400, .arr 48), (1138401, .arr 58), (1138402, .arr 55), (371640, .arr 48), (371641, .arr 58), (371642, .arr 55)]⟩ .leaf) (.seq .leaf (.seq (.seq .leaf (.block ⟨[(3, (.pt 3 0)), (4, (.pt 4 0)), (6, zi), (9, (.pt 9 0)), (10, zi), (13, (.pt 13 0))], [(3, z1), (4, z5), (9, z13), (13, z3), (1138400, .arr 48), (1138401, .arr 58), (1138402, .arr 55), (371640, .arr 48), (371641, .arr 58), (371642, .arr 55)]⟩ (.loop ⟨[(3, (.pt 3 0)), (4, (.pt 4 0)), (6, zi), (9, (.pt 9 0)), (10, zi), (13, (.pt 13 0)), (15, zi)], [(3, z1), (4, z5), (9, z13), (13, z3), (1138400, .arr 48), (1138401, .arr 58), (1138402, .arr 55), (371640, .arr 48), (371641, .arr 58), (371642, .arr 55)]⟩ (.seq .leaf (.seq (.skip (.seq .leaf (.seq .leaf (.seq (.block ⟨[(3, (.pt 3 0)), (4, (.pt 4 0)), (6, zi), (9, (.pt 9 0)), (10, zi), (13, (.pt 13 0)), (15, zi), (16, (.pt 16 0)), (17, zi)], [(3, z1), (4, z5), (9, z13), (13, z3), (16, z12), (1138400, .arr 48), (1138401, .arr 58), (1138402, .arr 55), (371640, .arr 48), (371641, .arr 58), (371642, .arr 55)]⟩ (.loop ⟨[(3, (.pt 3 0)), (4, (.pt 4 0)), (6, zi), (9, (.pt 9 0)), (10, zi), (13, (.pt 13 0)), (15, zi), (16, (.pt 16 0)), (17, zi)], [(3, z1), (4, z5), (9, z13), (13, z3), (16, z12), (1138400, .arr 48), (1138401, .arr 58), (1138402, .arr 55), (371640, .arr 48), (371641, .arr 58), (371642, .arr 55)]⟩ .leaf)) .leaf)))) .leaf))))) (.seq .leaf (.seq .leaf (.seq .leaf (.seq .leaf (.seq .leaf (.frz [287, 371640, 371641, 371642] .leaf)))))))))))))))))))))))) [(17, some 203, s_l18In_fs), (21, some 255, s_l18Ahead_fs), (50, some 141, s_l19Count_fs), (50, some 176, s_l19Count_fs), (54, some 25, s_l18Service_fs), (61, some 89, s_l18Book_fs), (66, some 109, s_l20MayEnd_fs), (78, some 45, s_l18Copy_fs), (78, some 76, s_l18Copy_fs), (78, some 121, s_l18Copy_fs), (93, some 19, s_l21ActOk_fs)] (.cons s_l18In_ok (.cons s_l18Ahead_ok (.cons s_l19Count_ok (.cons s_l19Count_ok (.cons s_l18Service_ok (.cons s_l18Book_ok (.cons s_l20MayEnd_ok (.cons s_l18Copy_ok (.cons s_l18Copy_ok (.cons s_l18Copy_ok (.cons s_l21ActOk_ok .nil))))))))))) (by kernel_rfl) (by kernel_rfl) (by kernel_rfl) (fun xs => by kernel_rfl)
def s_StewApply.d1 (t0_0 t0_1 t0_2 t0_3 t1_0 t1_1 t1_2 t1_3 t1_4 t1_5 t1_6 t1_7 : C) : R := (call1 (s_StewValid [t0_0, t0_1, t0_2, t0_3]) fun y1_t0 => (bif (!y1_t0.B) then (some (.ret [.i 0, .i 1, .l nils, .l nils, .l nils])) else (call5 (s_l21Apply [t0_0, t0_1, t0_2, t0_3, t1_0, t1_1, t1_2, t1_3, t1_4, t1_5, t1_6, t1_7]) fun y2_t0_0_0 y2_t0_0_1 y2_t0_0_2 y2_t0_0_3 y2_t0_1 => (call4 (s_l18Book [y2_t0_0_0, y2_t0_0_1, y2_t0_0_2, y2_t0_0_3]) fun y3_t0_0 y3_a3000 y3_a3001 y3_a3002 => (some (.ret [y3_t0_0, y2_t0_1, .l y3_a3000.L, .l y3_a3001.L, .l y3_a3002.L]))))))
def s_StewApply : List C → Option (List C) := fun xs => finR (ap12 s_StewApply.d1 xs)
def s_StewApply_fs : FS := ⟨2, ⟨[(0, z2), (1, z9)], []⟩, ⟨[(0, (.tu [z23, zi]))], [(3000, .arr 48), (3001, .arr 58), (3002, .arr 55)]⟩, [], s_StewApply⟩
theorem s_StewApply_ok : FSOk Try.checked.prog T0 83 s_StewApply_fs := okOf base0 (fn := Try.f83) (c := Try.f83.body.getD .skip) s_StewApply_fs .leaf [(8, some 9, s_StewValid_fs), (61, some 19, s_l18Book_fs), (89, some 15, s_l21Apply_fs)] (.cons s_StewValid_ok (.cons s_l18Book_ok (.cons s_l21Apply_ok .nil))) (by kernel_rfl) (by kernel_rfl) (by kernel_rfl) (fun xs => by kernel_rfl)
def s_l25Do.d1 (t10 b2_0 b2_1 b2_2 b2_3 b2_4 b4_1 a30 a158648 a1023400 a1023401 a1023402 a1023403 : C) : R := (bif (decide (t10.I < (a158648.L.length : Int))) then (bif (decide (0 ≤ t10.I)) then (bif (decide (t10.I < (a158648.L.length : Int))) then (call5 (s_StewApply [b2_1, b2_2, b2_3, b2_4, ((a158648.L.getD t10.I.toNat []).getD 0 .nil), ((a158648.L.getD t10.I.toNat []).getD 1 .nil), ((a158648.L.getD t10.I.toNat []).getD 2 .nil), ((a158648.L.getD t10.I.toNat []).getD 3 .nil), ((a158648.L.getD t10.I.toNat []).getD 4 .nil), ((a158648.L.getD t10.I.toNat []).getD 5 .nil), ((a158648.L.getD t10.I.toNat []).getD 6 .nil), ((a158648.L.getD t10.I.toNat []).getD 7 .nil)]) fun y6_t0_0_0 y6_t0_1 y6_a3000 y6_a3001 y6_a3002 => (call5 (s_l25Next [b2_0, b2_1, b2_2, b2_3, b2_4, y6_t0_0_0, .l y6_a3000.L, .l y6_a3001.L, .l y6_a3002.L]) fun y7_t0_0 y7_t0_1 y7_t0_2 y7_t0_3 y7_t0_4 => (bif (decide (a30.L.length + (rows [[y6_t0_1]]).length ≤ 4294967296)) then (some (.again [.i (w64 (t10.I + 1)), y7_t0_0, y7_t0_1, y7_t0_2, y7_t0_3, y7_t0_4, b4_1, .l (a30.L ++ (rows [[y6_t0_1]])), .l a158648.L, .l a1023400.L, .l a1023401.L, .l a1023402.L, .l a1023403.L])) else none))) else none) else none) else (some (.brk 0 [b2_0, b2_1, b2_2, b2_3, b2_4, b4_1, .l a30.L, .l a1023400.L, .l a1023401.L, .l a1023402.L, .l a1023403.L])))
def s_l25Do.d2 (b2_0 b2_1 b2_2 b2_3 b2_4 b4_1 a30 a1023400 a1023401 a1023402 a1023403 : C) : R := (some (.ret [b2_0, b2_1, b2_2, b2_3, b2_4, .l a30.L]))
def s_l25Do.d3 (t0_0 t0_1 t0_2 t0_3 t0_4 t1_0 t1_1 t1_2 t1_3 t1_4 t1_5 t1_6 t1_7 t1_8 t1_9 t1_10 t1_11 t1_12 t1_13 t1_14 t1_15 t1_16 t1_17 t1_18 : C) : R := (call1 (s_l18In [t1_0, .i 1, .i 6]) fun y1_t0 => (bif (!y1_t0.B) then (call5 (s_StewSea [t0_1, t0_2, t0_3, t0_4, t1_2, t1_3, t1_4, t1_5, t1_6, t1_7, t1_8, t1_9, t1_10, t1_11, t1_12, t1_13, t1_14, t1_15, t1_16, t1_17, t1_18]) fun y2_t0_0_0 y2_t0_1 y2_a3000 y2_a3001 y2_a3002 => (call5 (s_l25Next [t0_0, t0_1, t0_2, t0_3, t0_4, y2_t0_0_0, .l y2_a3000.L, .l y2_a3001.L, .l y2_a3002.L]) fun y3_t0_0 y3_t0_1 y3_t0_2 y3_t0_3 y3_t0_4 => (some (.ret [y3_t0_0, y3_t0_1, y3_t0_2, y3_t0_3, y3_t0_4, .l (rows [[y2_t0_1]])])))) else (call4 (s_l25View [t0_0, t0_1, t0_2, t0_3, t0_4, t1_1]) fun y4_t0_0 y4_t0_1 y4_t0_2 y4_t0_3 => (call1 (s_StewAsk [t1_0, y4_t0_0, y4_t0_1, y4_t0_2, y4_t0_3]) fun y5_a3000 => (bindBlk 0 (lim (ap13 s_l25Do.d1) [.i 0, t0_0, t0_1, t0_2, t0_3, t0_4, .i 0, .l nils, .l y5_a3000.L, .l nils, .l nils, .l nils, .l nils]) (ap11 s_l25Do.d2))))))
def s_l25Do : List C → Option (List C) := fun xs => finR (ap24 s_l25Do.d3 xs)
def s_l25Do_fs : FS := ⟨2, ⟨[(0, z17), (1, (.ag [zi, zi, zi, zt, zi, zo, zi, zi, zi, zi, zi, zi, zi, zi, zi, zi, zt, zi, zo]))], []⟩, ⟨[(0, (.tu [z17, (.ow 3000)]))], [(3000, .arr 3)]⟩, [], s_l25Do⟩
theorem s_l25Do_ok : FSOk Try.checked.prog T0 72 s_l25Do_fs := okOf base0 (fn := Try.f72) (c := Try.f72.body.getD .skip) s_l25Do_fs (.seq .leaf (.seq (.seq .leaf (.cond (.seq .leaf (.seq (.frz [97208, 97209, 97210] .leaf) .leaf)) .leaf)) (.seq .leaf (.seq .leaf (.seq (.seq .leaf (.block ⟨[(2, (.pt 2 0)), (4, (.pt 4 0)), (8, (.ow 30))], [(2, z10), (4, .var 100 [(.ow 1023400), zi, (.ow 1023401), (.ow 1023402), (.ow 1023403)]), (30, .arr 3), (1023400, .arr 27), (1023401, .arr 48), (1023402, .arr 58), (1023403, .arr 55)]⟩ (.loop ⟨[(2, (.pt 2 0)), (4, (.pt 4 0)), (8, (.ow 30)), (9, (.ow 158648)), (10, zi)], [(2, z10), (4, .var 100 [(.ow 1023400), zi, (.ow 1023401), (.ow 1023402), (.ow 1023403)]), (30, .arr 3), (158648, .arr 38), (1023400, .arr 27), (1023401, .arr 48), (1023402, .arr 58), (1023403, .arr 55)]⟩ (.seq .leaf (.seq (.skip (.seq .leaf (.seq (.frz [215992, 215993, 215994] .leaf) .leaf))) .leaf))))) .leaf))))) [(7, some 37, s_StewAsk_fs), (17, some 15, s_l18In_fs), (80, some 22, s_StewSea_fs), (81, some 27, s_l25Next_fs), (81, some 56, s_l25Next_fs), (82, some 36, s_l25View_fs), (83, some 51, s_StewApply_fs)] (.cons s_StewAsk_ok (.cons s_l18In_ok (.cons s_StewSea_ok (.cons s_l25Next_ok (.cons s_l25Next_ok (.cons s_l25View_ok (.cons s_StewApply_ok .nil))))))) (by kernel_rfl) (by kernel_rfl) (by kernel_rfl) (fun xs => by kernel_rfl)
def s_l18Rd_pick.d1 (t1 b2000_0 b2000_1 : C) : R := (bif (!(decide (t1.I < 1))) then (bif ((b2000_0.L.length : Int) == 0) then (some (.ret [.i 0, b2000_0, .i (w64 (b2000_1.I + 1))])) else (bif (decide ((w64 ((w64 (b2000_1.I + 1)) - 1)) < (b2000_0.L.length : Int))) then (bif (decide (0 ≤ (w64 ((w64 (b2000_1.I + 1)) - 1)))) then (bif (decide ((w64 ((w64 (b2000_1.I + 1)) - 1)) < (b2000_0.L.length : Int))) then (bif (t1.I != 0) then (some (.ret [.i ((w64 (((b2000_0.L.getD (w64 ((w64 (b2000_1.I + 1)) - 1)).toNat []).getD 0 .nil).I)).tmod t1.I), b2000_0, .i (w64 (b2000_1.I + 1))])) else none) else none) else none) else (bif ((b2000_0.L.length : Int) != 0) then (bif (decide (0 ≤ ((w64 ((w64 (b2000_1.I + 1)) - 1)).tmod (b2000_0.L.length : Int)))) then (bif (decide (((w64 ((w64 (b2000_1.I + 1)) - 1)).tmod (b2000_0.L.length : Int)) < (b2000_0.L.length : Int))) then (bif ((b2000_0.L.length : Int) != 0) then (bif (decide (0 ≤ ((w64 ((w64 ((w64 ((w64 (b2000_1.I + 1)) - 1)) * 7)) + 3)).tmod (b2000_0.L.length : Int)))) then (bif (decide (((w64 ((w64 ((w64 ((w64 (b2000_1.I + 1)) - 1)) * 7)) + 3)).tmod (b2000_0.L.length : Int)) < (b2000_0.L.length : Int))) then (bif ((b2000_0.L.length : Int) != 0) then (bif (t1.I != 0) then (some (.ret [.i ((w64 ((BitVec.ofInt (IntKind.bits .i64) (w64 ((w64 ((w64 ((w64 ((w64 (((b2000_0.L.getD ((w64 ((w64 (b2000_1.I + 1)) - 1)).tmod (b2000_0.L.length : Int)).toNat []).getD 0 .nil).I)) * 131)) + (w64 ((w64 (((b2000_0.L.getD ((w64 ((w64 ((w64 ((w64 (b2000_1.I + 1)) - 1)) * 7)) + 3)).tmod (b2000_0.L.length : Int)).toNat []).getD 0 .nil).I)) * 1117)))) + (w64 ((w64 ((w64 (b2000_1.I + 1)) - 1)) * 29)))) + (w64 ((w64 ((w64 ((w64 (b2000_1.I + 1)) - 1)).tdiv (b2000_0.L.length : Int))) * 53)))) ^^^ BitVec.ofInt (IntKind.bits .i64) (w64 ((w64 ((w64 ((w64 ((w64 ((w64 (((b2000_0.L.getD ((w64 ((w64 (b2000_1.I + 1)) - 1)).tmod (b2000_0.L.length : Int)).toNat []).getD 0 .nil).I)) * 131)) + (w64 ((w64 (((b2000_0.L.getD ((w64 ((w64 ((w64 ((w64 (b2000_1.I + 1)) - 1)) * 7)) + 3)).tmod (b2000_0.L.length : Int)).toNat []).getD 0 .nil).I)) * 1117)))) + (w64 ((w64 ((w64 (b2000_1.I + 1)) - 1)) * 29)))) + (w64 ((w64 ((w64 ((w64 (b2000_1.I + 1)) - 1)).tdiv (b2000_0.L.length : Int))) * 53)))).tdiv 64))).toNat : Int)).tmod t1.I), b2000_0, .i (w64 (b2000_1.I + 1))])) else none) else none) else none) else none) else none) else none) else none) else none))) else (some (.ret [.i 0, b2000_0, .i (w64 (b2000_1.I + 1))])))
def s_l18Rd_pick : List C → Option (List C) := fun xs => finR (ap3 s_l18Rd_pick.d1 xs)
def s_l18Rd_pick_fs : FS := ⟨2, ⟨[(0, (.pt 2000 0)), (1, zi)], [(2000, z7)]⟩, ⟨[(0, zi)], [(2000, z7)]⟩, [2000], s_l18Rd_pick⟩
theorem s_l18Rd_pick_ok : FSOk Try.checked.prog T0 12 s_l18Rd_pick_fs := okOf base0 (fn := Try.f12) (c := Try.f12.body.getD .skip) s_l18Rd_pick_fs .leaf [] .nil (by kernel_rfl) (by kernel_rfl) (by kernel_rfl) (fun xs => by kernel_rfl)
def s_l18DrawWish.d1 (b2000_0 b2000_1 b2_0 b2_1 b2_2 b2_3 b2_4 b2_5 b2_6 b2_7 b2_8 b2_9 b2_10 b2_11 b2_12 b3_0 b3_1 b3_2 b3_3 b3_4 b3_5 b3_6 b3_7 b3_8 b3_9 b3_10 b3_11 b3_12 : C) : R := (call3 (s_l18Rd_pick [.i 3, b2000_0, b2000_1]) fun y7_t0 y7_b2000_0 y7_b2000_1 => (bif (y7_t0.I == 0) then (call3 (s_l18Rd_pick [.i 9, y7_b2000_0, y7_b2000_1]) fun y8_t0 y8_b2000_0 y8_b2000_1 => (call3 (s_l18Rd_pick [.i 3, y8_b2000_0, y8_b2000_1]) fun y9_t0 y9_b2000_0 y9_b2000_1 => (call3 (s_l18Rd_pick [.i 5, y9_b2000_0, y9_b2000_1]) fun y10_t0 y10_b2000_0 y10_b2000_1 => (call3 (s_l18Rd_pick [.i 60, y10_b2000_0, y10_b2000_1]) fun y11_t0 y11_b2000_0 y11_b2000_1 => (call3 (s_l18Rd_pick [.i 4, y11_b2000_0, y11_b2000_1]) fun y12_t0 y12_b2000_0 y12_b2000_1 => (bif (decide (y12_t0.I > 0)) then (some (.ret [b3_0, b3_1, b3_2, b3_3, y9_t0, b3_5, b3_6, b3_7, .i (w64 (1 + y8_t0.I)), y9_t0, .i (w64 (y9_t0.I + y10_t0.I)), y11_t0, b3_12, y12_b2000_0, y12_b2000_1])) else (some (.ret [b3_0, b3_1, b3_2, b3_3, b3_4, b3_5, b3_6, b3_7, .i (w64 (1 + y8_t0.I)), y9_t0, .i (w64 (y9_t0.I + y10_t0.I)), y11_t0, b3_12, y12_b2000_0, y12_b2000_1])))))))) else (some (.ret [b3_0, b3_1, b3_2, b3_3, b3_4, b3_5, b3_6, b3_7, b3_8, b3_9, b3_10, b3_11, b3_12, y7_b2000_0, y7_b2000_1]))))
def s_l18DrawWish.d2 (b2000_0 b2000_1 : C) : R := (call3 (s_l18Rd_pick [.i 3, b2000_0, b2000_1]) fun y1_t0 y1_b2000_0 y1_b2000_1 => (bif (decide (0 ≤ y1_t0.I)) then (bif (decide (y1_t0.I < ((rows [[.s (bs #[100, 98])], [.s (bs #[119, 101, 98])], [.s (bs #[120, 45, 49])]]).length : Int))) then (call3 (s_l18Rd_pick [.i 3, y1_b2000_0, y1_b2000_1]) fun y2_t0 y2_b2000_0 y2_b2000_1 => (call3 (s_l18Rd_pick [.i 6, y2_b2000_0, y2_b2000_1]) fun y3_t0 y3_b2000_0 y3_b2000_1 => (call3 (s_l18Rd_pick [.i 3, y3_b2000_0, y3_b2000_1]) fun y4_t0 y4_b2000_0 y4_b2000_1 => (call3 (s_l18Rd_pick [.i 3, y4_b2000_0, y4_b2000_1]) fun y5_t0 y5_b2000_0 y5_b2000_1 => (call3 (s_l18Rd_pick [.i 10, y5_b2000_0, y5_b2000_1]) fun y6_t0 y6_b2000_0 y6_b2000_1 => (bindNrm (bif ((w64 (y4_t0.I + y5_t0.I)) == 0) then (some (.nrm [y6_b2000_0, y6_b2000_1, .s (bs #[]), .i 0, .b false, .i 0, .i 0, .i 0, .i 0, .i 0, .i 0, .i 0, .i 0, .i 0, .i 0, (((rows [[.s (bs #[100, 98])], [.s (bs #[119, 101, 98])], [.s (bs #[120, 45, 49])]]).getD y1_t0.I.toNat []).getD 0 .nil), .i 0, .b (y6_t0.I == 0), .i (w64 (1 + y2_t0.I)), y3_t0, .i 1, y5_t0, .i 0, .i 0, .i 0, .i 0, .i 0, .i 0])) else (some (.nrm [y6_b2000_0, y6_b2000_1, .s (bs #[]), .i 0, .b false, .i 0, .i 0, .i 0, .i 0, .i 0, .i 0, .i 0, .i 0, .i 0, .i 0, (((rows [[.s (bs #[100, 98])], [.s (bs #[119, 101, 98])], [.s (bs #[120, 45, 49])]]).getD y1_t0.I.toNat []).getD 0 .nil), .i 0, .b (y6_t0.I == 0), .i (w64 (1 + y2_t0.I)), y3_t0, y4_t0, y5_t0, .i 0, .i 0, .i 0, .i 0, .i 0, .i 0]))) (ap28 s_l18DrawWish.d1))))))) else none) else none))
def s_l18DrawWish : List C → Option (List C) := fun xs => finR (ap2 s_l18DrawWish.d2 xs)
def s_l18DrawWish_fs : FS := ⟨1, ⟨[(0, (.pt 2000 0))], [(2000, z7)]⟩, ⟨[(0, z6)], [(2000, z7)]⟩, [2000], s_l18DrawWish⟩
theorem s_l18DrawWish_ok : FSOk Try.checked.prog T0 73 s_l18DrawWish_fs := okOf base0 (fn := Try.f73) (c := Try.f73.body.getD .skip) s_l18DrawWish_fs (.seq .leaf (.seq .leaf (.seq (.join ⟨[(0, (.pt 2000 0)), (2, (.pt 2 0)), (3, (.pt 3 0))], [(2000, z7), (2, z3), (3, z3)]⟩ .leaf) .leaf))) [(12, some 6, s_l18Rd_pick_fs), (12, some 10, s_l18Rd_pick_fs), (12, some 13, s_l18Rd_pick_fs), (12, some 15, s_l18Rd_pick_fs), (12, some 17, s_l18Rd_pick_fs), (12, some 19, s_l18Rd_pick_fs), (12, some 30, s_l18Rd_pick_fs), (12, some 33, s_l18Rd_pick_fs), (12, some 37, s_l18Rd_pick_fs), (12, some 42, s_l18Rd_pick_fs), (12, some 46, s_l18Rd_pick_fs), (12, some 49, s_l18Rd_pick_fs)] (.cons s_l18Rd_pick_ok (.cons s_l18Rd_pick_ok (.cons s_l18Rd_pick_ok (.cons s_l18Rd_pick_ok (.cons s_l18Rd_pick_ok (.cons s_l18Rd_pick_ok (.cons s_l18Rd_pick_ok (.cons s_l18Rd_pick_ok (.cons s_l18Rd_pick_ok (.cons s_l18Rd_pick_ok (.cons s_l18Rd_pick_ok (.cons s_l18Rd_pick_ok .nil)))))))))))) (by kernel_rfl) (by kernel_rfl) (by kernel_rfl) (fun xs => by kernel_rfl)
end
end Go.Ev
