/- Proved here: the law FnStewDone of the given program answers true at every input, and leaves the input as it was; no condition. This text: lemmas on the way (an evaluator of the program's code, sound once for all; the functions it prints; plain proofs on these). -/
import Derived.Test.YtpfjmhaknhnamaaGreatP4
import Derived.WalkKit
import Derived.ProofKit
import Derived.OpenShut
import Derived.ShutString
import Derived.ChangeOld
import Derived.Below
import Derived.SizedLaws
import Derived.Test.YtpfjmhaknhnamaaGreatRows
set_option linter.all false
set_option autoImplicit false
set_option maxRecDepth 8000
namespace Go.Ev
def AskR (b : Book) (o : Option (List C)) : Prop := ∃ (x1 : Str) (x2 x3 x4 x5 : Int) (x6 x7 ok : Bool) (en : List (Int × Int)), o = some [.s x1, .i x2, .i x3, .i x4, .i x5, .b x6, .b x7, .b ok, .i b.now, .l (b.svcs.map Svc.e), .l (b.cpys.map Cpy.e), .l (b.brts.map Brt.e), .l (en.map enE)] ∧ en.length ≤ 1000
theorem ask_d3 (b : Book) (s : Svc) (u : Bool) (lv : List Cpy) (hb : Bnd b) (hl : lv.length ≤ 1000) (hu : u = true → 0 < lv.length) : AskR b (finR ((fun xs => i_StewBook_ask.d3 (xs.getD 0 .nil) (xs.getD 1 .nil) (xs.getD 2 .nil) (xs.getD 3 .nil) (xs.getD 4 .nil) (xs.getD 5 .nil) (xs.getD 6 .nil) (xs.getD 7 .nil) (xs.getD 8 .nil) (xs.getD 9 .nil) (xs.getD 10 .nil) (xs.getD 11 .nil) (xs.getD 12 .nil) (xs.getD 13 .nil) (xs.getD 14 .nil) (xs.getD 15 .nil) (xs.getD 16 .nil) (xs.getD 17 .nil) (xs.getD 18 .nil) (xs.getD 19 .nil) (xs.getD 20 .nil) (xs.getD 21 .nil) (xs.getD 22 .nil)) (.b u :: (b.e ++ [.p s.e] ++ L7 ++ [.s s.name, .i s.ver, .i 0, .i 0, .i 0, .b false, .b false] ++ [.l [], .l [], .l (lv.map Cpy.e)])))) := by
  simp only [L7, Book.e, jA, jB, jC, jD, jE, jF, jG, jH, call1, call2, call3, call4, call5, call6, call7, call8, call13, call15, call16, call17, call19, call21, jI, jJ, jK, jL, jM, jN, jO, jP, jQ, jR, jS, jT, jU, jV, jW, jX, jY, nils, rows, jZ, ja, jb, jc, jd, i_StewBook_ask.d3]
  cases u <;> simp only [jA, jB, jC, jD, jE, jF, jG, jH, call1, call2, call3, call4, call5, call6, call7, call8, call13, call15, call16, call17, call19, call21, jI, jJ, jK, jL, jM, jN, jO, jP, jQ, jR, jS, jT, jU, jV, jW, jX, jY, nils, rows, jZ, ja, jb, jc, jd]
  · exact ⟨_, _, _, _, _, _, _, _, [], rfl, by simp⟩
  · obtain ⟨c, e1⟩ := i_first_ex b s lv hb hl (hu rfl)
    obtain ⟨v, e2⟩ := i_ask2_ex b s c hb
    have e3 := i_ask3v_eq ⟨s.name, s.ver, 0, 0, 0, false, [], false⟩ [c] (by simp)
    simp only [Book.e, Cpy.e, A7, jA, jB, jC, jD, jE, jF, jG, jH, call1, call2, call3, call4, call5, call6, call7, call8, call13, call15, call16, call17, call19, call21, jI, jJ, jK, jL, jM, jN, jO, jP, jQ, jR, jS, jT, jU, jV, jW, jX, jY, nils, rows, jZ, ja, jb, jc, jd, List.map_cons, List.map_nil] at e1 e2 e3
    simp only [e1, jA, jB, jC, jD, jE, jF, jG, jH, call1, call2, call3, call4, call5, call6, call7, call8, call13, call15, call16, call17, call19, call21, jI, jJ, jK, jL, jM, jN, jO, jP, jQ, jR, jS, jT, jU, jV, jW, jX, jY, nils, rows, jZ, ja, jb, jc, jd, e2]
    cases v <;> simp only [jA, jB, jC, jD, jE, jF, jG, jH, call1, call2, call3, call4, call5, call6, call7, call8, call13, call15, call16, call17, call19, call21, jI, jJ, jK, jL, jM, jN, jO, jP, jQ, jR, jS, jT, jU, jV, jW, jX, jY, nils, rows, jZ, ja, jb, jc, jd, e3]
    · exact ⟨_, _, _, _, _, _, _, _, [], rfl, by simp⟩
    · exact ⟨_, _, _, _, _, _, _, _, [cEn c], rfl, by simp⟩
theorem ask_d4 (b : Book) (s : Svc) (d : Int) (u : Bool) (hb : Bnd b) : AskR b (finR ((fun xs => i_StewBook_ask.d4 (xs.getD 0 .nil) (xs.getD 1 .nil) (xs.getD 2 .nil) (xs.getD 3 .nil) (xs.getD 4 .nil) (xs.getD 5 .nil) (xs.getD 6 .nil) (xs.getD 7 .nil) (xs.getD 8 .nil) (xs.getD 9 .nil) (xs.getD 10 .nil) (xs.getD 11 .nil) (xs.getD 12 .nil) (xs.getD 13 .nil) (xs.getD 14 .nil) (xs.getD 15 .nil) (xs.getD 16 .nil) (xs.getD 17 .nil) (xs.getD 18 .nil) (xs.getD 19 .nil) (xs.getD 20 .nil) (xs.getD 21 .nil) (xs.getD 22 .nil)) (.i d :: .b u :: (b.e ++ [.p s.e] ++ L7 ++ [.s s.name, .i s.ver, .i 0, .i 0, .i 0, .b false, .b false] ++ [.l [], .l []])))) := by
  simp only [L7, Book.e, jA, jB, jC, jD, jE, jF, jG, jH, call1, call2, call3, call4, call5, call6, call7, call8, call13, call15, call16, call17, call19, call21, jI, jJ, jK, jL, jM, jN, jO, jP, jQ, jR, jS, jT, jU, jV, jW, jX, jY, nils, rows, jZ, ja, jb, jc, jd, i_StewBook_ask.d4, C.isP_p, C.P_p, Svc.e, i_StewBook_ask_6, i_StewBook_ask_6.d1]
  repeat' (rw [Bool.cond_eq_ite]; split <;> try simp only [jA, jB, jC, jD, jE, jF, jG, jH, call1, call2, call3, call4, call5, call6, call7, call8, call13, call15, call16, call17, call19, call21, jI, jJ, jK, jL, jM, jN, jO, jP, jQ, jR, jS, jT, jU, jV, jW, jX, jY, nils, rows, jZ, ja, jb, jc, jd])
  all_goals exact ⟨_, _, _, _, _, _, _, _, [], rfl, by simp⟩
theorem live_len (b : Book) (s : Svc) : ((b.cpys.filter (pLive s)).length : Int) = cnt b (pLive s) := by rw [cnt, List.countP_eq_length_filter]
theorem ask_d5 (k : Int) (b : Book) (s : Svc) (hb : Bnd b) (hw : 0 ≤ s.want ∧ s.want ≤ 10) (ho : 0 ≤ s.over ∧ s.over ≤ 10) : AskR b (finR ((fun xs => i_StewBook_ask.d5 (xs.getD 0 .nil) (xs.getD 1 .nil) (xs.getD 2 .nil) (xs.getD 3 .nil) (xs.getD 4 .nil) (xs.getD 5 .nil) (xs.getD 6 .nil) (xs.getD 7 .nil) (xs.getD 8 .nil) (xs.getD 9 .nil) (xs.getD 10 .nil) (xs.getD 11 .nil) (xs.getD 12 .nil) (xs.getD 13 .nil) (xs.getD 14 .nil) (xs.getD 15 .nil) (xs.getD 16 .nil) (xs.getD 17 .nil) (xs.getD 18 .nil) (xs.getD 19 .nil) (xs.getD 20 .nil) (xs.getD 21 .nil) (xs.getD 22 .nil) (xs.getD 23 .nil) (xs.getD 24 .nil) (xs.getD 25 .nil) (xs.getD 26 .nil) (xs.getD 27 .nil) (xs.getD 28 .nil)) (askS k b s (cnt b (pOn b s)) (b.cpys.filter (pLive s)) []))) := by
  have hc := hb.c
  have hl := List.length_filter_le (pLive s) b.cpys
  have ll := live_len b s
  have c0 : cn (pLive s) b.cpys b.cpys.length = cnt b (pLive s) := cn_all _ _
  generalize b.cpys.filter (pLive s) = lv at *
  have wo : w64 (s.want + s.over) = s.want + s.over := w64_of (by omega) (by omega)
  have d3 := fun u hu => ask_d3 b s u lv hb (by omega) hu
  have d4 := fun d u => ask_d4 b s d u hb
  obtain ⟨d1, e1, h1⟩ := i_ask1_ex b s lv hb (by omega)
  obtain ⟨v1, n1, e2, h2⟩ := i_ask5_ex b s ⟨s.name, s.ver, 0, 0, 0, false, [], false⟩ d1 hb (by omega)
  obtain ⟨d2, e3, h3, _⟩ := i_ask1v1_ex lv (by omega)
  have e4 := i_ask3_eq ⟨s.name, s.ver, 0, 0, 0, false, [], false⟩ d2 (by omega)
  obtain ⟨d6, e5, h5⟩ := i_ask1v2_ex b s lv hb (by omega)
  obtain ⟨v2, n2, e6, h6⟩ := i_ask5_ex b s ⟨s.name, s.ver, 0, 0, 0, false, [], false⟩ d6 hb (by omega)
  have leaf : ∀ (x3 x4 x5 : Int) (x6 x7 ok : Bool), AskR b (some [.s s.name, .i s.ver, .i x3, .i x4, .i x5, .b x6, .b x7, .b ok, .i b.now, .l (b.svcs.map Svc.e), .l (b.cpys.map Cpy.e), .l (b.brts.map Brt.e), .l []]) := fun x3 x4 x5 x6 x7 ok => ⟨_, _, _, _, _, _, _, _, [], rfl, by simp⟩
  simp only [Book.e, A7, L7, jA, jB, jC, jD, jE, jF, jG, jH, call1, call2, call3, call4, call5, call6, call7, call8, call13, call15, call16, call17, call19, call21, jI, jJ, jK, jL, jM, jN, jO, jP, jQ, jR, jS, jT, jU, jV, jW, jX, jY, nils, rows, jZ, ja, jb, jc, jd] at d3 d4 e1 e2 e3 e4 e5 e6
  simp only [askS, L7, CountE, Book.e, jA, jB, jC, jD, jE, jF, jG, jH, call1, call2, call3, call4, call5, call6, call7, call8, call13, call15, call16, call17, call19, call21, jI, jJ, jK, jL, jM, jN, jO, jP, jQ, jR, jS, jT, jU, jV, jW, jX, jY, nils, rows, jZ, ja, jb, jc, jd, c0]
  simp only [i_StewBook_ask.d5, jA, jB, jC, jD, jE, jF, jG, jH, call1, call2, call3, call4, call5, call6, call7, call8, call13, call15, call16, call17, call19, call21, jI, jJ, jK, jL, jM, jN, jO, jP, jQ, jR, jS, jT, jU, jV, jW, jX, jY, nils, rows, jZ, ja, jb, jc, jd, C.isP_p, C.P_p, show s.e.getD 4 .nil = .i s.want from rfl, show s.e.getD 6 .nil = .i s.over from rfl, show s.e.getD 8 .nil = .i s.per from rfl, show s.e.getD 9 .nil = .i s.least from rfl, show s.e.getD 10 .nil = .i s.most from rfl, show s.e.getD 12 .nil = .i s.cool from rfl, wo, i_StewBook_ask_4, i_StewBook_ask_4.d1, i_StewBook_ask_6, i_StewBook_ask_6.d1, e1, e2, e3, e4, e5, e6]
  cases k == 1 <;> simp only [jA, jB, jC, jD, jE, jF, jG, jH, call1, call2, call3, call4, call5, call6, call7, call8, call13, call15, call16, call17, call19, call21, jI, jJ, jK, jL, jM, jN, jO, jP, jQ, jR, jS, jT, jU, jV, jW, jX, jY, nils, rows, jZ, ja, jb, jc, jd]
  · cases k == 2 <;> simp only [jA, jB, jC, jD, jE, jF, jG, jH, call1, call2, call3, call4, call5, call6, call7, call8, call13, call15, call16, call17, call19, call21, jI, jJ, jK, jL, jM, jN, jO, jP, jQ, jR, jS, jT, jU, jV, jW, jX, jY, nils, rows, jZ, ja, jb, jc, jd]
    · cases k == 3 <;> simp only [jA, jB, jC, jD, jE, jF, jG, jH, call1, call2, call3, call4, call5, call6, call7, call8, call13, call15, call16, call17, call19, call21, jI, jJ, jK, jL, jM, jN, jO, jP, jQ, jR, jS, jT, jU, jV, jW, jX, jY, nils, rows, jZ, ja, jb, jc, jd]
      · cases k == 4 <;> simp only [jA, jB, jC, jD, jE, jF, jG, jH, call1, call2, call3, call4, call5, call6, call7, call8, call13, call15, call16, call17, call19, call21, jI, jJ, jK, jL, jM, jN, jO, jP, jQ, jR, jS, jT, jU, jV, jW, jX, jY, nils, rows, jZ, ja, jb, jc, jd]
        · cases k == 6 <;> simp only [jA, jB, jC, jD, jE, jF, jG, jH, call1, call2, call3, call4, call5, call6, call7, call8, call13, call15, call16, call17, call19, call21, jI, jJ, jK, jL, jM, jN, jO, jP, jQ, jR, jS, jT, jU, jV, jW, jX, jY, nils, rows, jZ, ja, jb, jc, jd]
          · exact leaf _ _ _ _ _ _
          · repeat' (rw [Bool.cond_eq_ite]; split <;> try simp only [jA, jB, jC, jD, jE, jF, jG, jH, call1, call2, call3, call4, call5, call6, call7, call8, call13, call15, call16, call17, call19, call21, jI, jJ, jK, jL, jM, jN, jO, jP, jQ, jR, jS, jT, jU, jV, jW, jX, jY, nils, rows, jZ, ja, jb, jc, jd])
            all_goals first
              | exact leaf _ _ _ _ _ _
              | exact ⟨_, _, _, _, _, _, _, _, n2, rfl, by omega⟩
        · by_cases hp : s.per = 0
          · have hp' : (s.per == 0) = true := by simp [hp]
            simp only [hp', jA, jB, jC, jD, jE, jF, jG, jH, call1, call2, call3, call4, call5, call6, call7, call8, call13, call15, call16, call17, call19, call21, jI, jJ, jK, jL, jM, jN, jO, jP, jQ, jR, jS, jT, jU, jV, jW, jX, jY, nils, rows, jZ, ja, jb, jc, jd]
            exact leaf _ _ _ _ _ _
          · have hp' : (s.per == 0) = false := by simp [hp]
            have e7 := i_demand_eq s hp
            simp only [hp', jA, jB, jC, jD, jE, jF, jG, jH, call1, call2, call3, call4, call5, call6, call7, call8, call13, call15, call16, call17, call19, call21, jI, jJ, jK, jL, jM, jN, jO, jP, jQ, jR, jS, jT, jU, jV, jW, jX, jY, nils, rows, jZ, ja, jb, jc, jd, e7]
            rw [Bool.cond_eq_ite]; split <;> try simp only [jA, jB, jC, jD, jE, jF, jG, jH, call1, call2, call3, call4, call5, call6, call7, call8, call13, call15, call16, call17, call19, call21, jI, jJ, jK, jL, jM, jN, jO, jP, jQ, jR, jS, jT, jU, jV, jW, jX, jY, nils, rows, jZ, ja, jb, jc, jd]
            · exact leaf _ _ _ _ _ _
            · rw [Bool.cond_eq_ite]; split <;> try simp only [jA, jB, jC, jD, jE, jF, jG, jH, call1, call2, call3, call4, call5, call6, call7, call8, call13, call15, call16, call17, call19, call21, jI, jJ, jK, jL, jM, jN, jO, jP, jQ, jR, jS, jT, jU, jV, jW, jX, jY, nils, rows, jZ, ja, jb, jc, jd]
              · exact leaf _ _ _ _ _ _
              · rw [Bool.cond_eq_ite]; split <;> try simp only [jA, jB, jC, jD, jE, jF, jG, jH, call1, call2, call3, call4, call5, call6, call7, call8, call13, call15, call16, call17, call19, call21, jI, jJ, jK, jL, jM, jN, jO, jP, jQ, jR, jS, jT, jU, jV, jW, jX, jY, nils, rows, jZ, ja, jb, jc, jd]
                · exact leaf _ _ _ _ _ _
                · rw [Bool.cond_eq_ite]; split <;> try simp only [jA, jB, jC, jD, jE, jF, jG, jH, call1, call2, call3, call4, call5, call6, call7, call8, call13, call15, call16, call17, call19, call21, jI, jJ, jK, jL, jM, jN, jO, jP, jQ, jR, jS, jT, jU, jV, jW, jX, jY, nils, rows, jZ, ja, jb, jc, jd]
                  · exact d4 _ _
                  · exact d4 _ _
      · exact ⟨_, _, _, _, _, _, _, _, d2.map cEn, rfl, by simp; omega⟩
    · repeat' (rw [Bool.cond_eq_ite]; split <;> try simp only [jA, jB, jC, jD, jE, jF, jG, jH, call1, call2, call3, call4, call5, call6, call7, call8, call13, call15, call16, call17, call19, call21, jI, jJ, jK, jL, jM, jN, jO, jP, jQ, jR, jS, jT, jU, jV, jW, jX, jY, nils, rows, jZ, ja, jb, jc, jd])
      all_goals first
        | exact leaf _ _ _ _ _ _
        | exact ⟨_, _, _, _, _, _, _, _, n1, rfl, by omega⟩
  · rw [Bool.cond_eq_ite]; split <;> try simp only [jA, jB, jC, jD, jE, jF, jG, jH, call1, call2, call3, call4, call5, call6, call7, call8, call13, call15, call16, call17, call19, call21, jI, jJ, jK, jL, jM, jN, jO, jP, jQ, jR, jS, jT, jU, jV, jW, jX, jY, nils, rows, jZ, ja, jb, jc, jd]
    · exact leaf _ _ _ _ _ _
    · by_cases hgt : cnt b (pLive s) > s.want
      · have hpos : 0 < lv.length := by omega
        simp only [hgt, jA, jB, jC, jD, jE, jF, jG, jH, call1, call2, call3, call4, call5, call6, call7, call8, call13, call15, call16, call17, call19, call21, jI, jJ, jK, jL, jM, jN, jO, jP, jQ, jR, jS, jT, jU, jV, jW, jX, jY, nils, rows, jZ, ja, jb, jc, jd]
        rw [Bool.cond_eq_ite]; split <;> try simp only [jA, jB, jC, jD, jE, jF, jG, jH, call1, call2, call3, call4, call5, call6, call7, call8, call13, call15, call16, call17, call19, call21, jI, jJ, jK, jL, jM, jN, jO, jP, jQ, jR, jS, jT, jU, jV, jW, jX, jY, nils, rows, jZ, ja, jb, jc, jd]
        · rw [Bool.cond_eq_ite]; split <;> try simp only [jA, jB, jC, jD, jE, jF, jG, jH, call1, call2, call3, call4, call5, call6, call7, call8, call13, call15, call16, call17, call19, call21, jI, jJ, jK, jL, jM, jN, jO, jP, jQ, jR, jS, jT, jU, jV, jW, jX, jY, nils, rows, jZ, ja, jb, jc, jd]
          · exact d3 _ (fun _ => hpos)
          · exact d3 _ (fun _ => hpos)
        · exact d3 _ (fun _ => hpos)
      · simp only [hgt, jA, jB, jC, jD, jE, jF, jG, jH, call1, call2, call3, call4, call5, call6, call7, call8, call13, call15, call16, call17, call19, call21, jI, jJ, jK, jL, jM, jN, jO, jP, jQ, jR, jS, jT, jU, jV, jW, jX, jY, nils, rows, jZ, ja, jb, jc, jd]
        exact d3 _ (by simp)
theorem svcOk_over {s : Svc} {n : Int} (h : svcOk s n = true) : 0 ≤ s.over ∧ s.over ≤ 10 := by
  simp only [svcOk, Bool.and_eq_true, within, decide_eq_true_eq] at h
  exact h.1.1.2
theorem i_ask_ex (k : Int) (b : Book) (s : Svc) (hb : Bnd b) (hw : 0 ≤ s.want ∧ s.want ≤ 10) (ho : 0 ≤ s.over ∧ s.over ≤ 10) : AskR b (i_StewBook_ask (.i k :: .p s.e :: b.e)) := by
  obtain ⟨o, e1, rfl⟩ := ask_loop k b s hb
  have e2 := i_count_eq b s hb
  have d5 := ask_d5 k b s hb hw ho
  have hl := List.length_filter_le (pLive s) b.cpys
  have hc := hb.c
  have e3 := i_ask3_eq ⟨s.name, s.ver, 0, 0, 0, false, [], false⟩ (b.cpys.filter (pLive s)) (by omega)
  simp only [askS, L7, CountE, Book.e, A7, List.map_nil, jA, jB, jC, jD, jE, jF, jG, jH, call1, call2, call3, call4, call5, call6, call7, call8, call13, call15, call16, call17, call19, call21, jI, jJ, jK, jL, jM, jN, jO, jP, jQ, jR, jS, jT, jU, jV, jW, jX, jY, nils, rows, jZ, ja, jb, jc, jd] at e1 e2 e3 d5
  simp only [i_StewBook_ask, i_StewBook_ask.d7, Book.e, jA, jB, jC, jD, jE, jF, jG, jH, call1, call2, call3, call4, call5, call6, call7, call8, call13, call15, call16, call17, call19, call21, jI, jJ, jK, jL, jM, jN, jO, jP, jQ, jR, jS, jT, jU, jV, jW, jX, jY, nils, rows, jZ, ja, jb, jc, jd, C.isP_p, C.P_p, e2, show s.e.getD 0 .nil = .s s.name from rfl, show s.e.getD 1 .nil = .i s.ver from rfl]
  rw [e1]
  simp only [askS, L7, CountE, Book.e, jA, jB, jC, jD, jE, jF, jG, jH, call1, call2, call3, call4, call5, call6, call7, call8, call13, call15, call16, call17, call19, call21, jI, jJ, jK, jL, jM, jN, jO, jP, jQ, jR, jS, jT, jU, jV, jW, jX, jY, nils, rows, jZ, ja, jb, jc, jd, i_StewBook_ask.d6, C.isP_p, C.P_p, show s.e.getD 2 .nil = .b s.gone from rfl, e3]
  cases s.gone <;> simp only [jA, jB, jC, jD, jE, jF, jG, jH, call1, call2, call3, call4, call5, call6, call7, call8, call13, call15, call16, call17, call19, call21, jI, jJ, jK, jL, jM, jN, jO, jP, jQ, jR, jS, jT, jU, jV, jW, jX, jY, nils, rows, jZ, ja, jb, jc, jd]
  · exact d5
  · cases k == 3 <;> simp only [jA, jB, jC, jD, jE, jF, jG, jH, call1, call2, call3, call4, call5, call6, call7, call8, call13, call15, call16, call17, call19, call21, jI, jJ, jK, jL, jM, jN, jO, jP, jQ, jR, jS, jT, jU, jV, jW, jX, jY, nils, rows, jZ, ja, jb, jc, jd]
    · cases k != 5 <;> simp only [jA, jB, jC, jD, jE, jF, jG, jH, call1, call2, call3, call4, call5, call6, call7, call8, call13, call15, call16, call17, call19, call21, jI, jJ, jK, jL, jM, jN, jO, jP, jQ, jR, jS, jT, jU, jV, jW, jX, jY, nils, rows, jZ, ja, jb, jc, jd]
      · rw [Bool.cond_eq_ite]; split <;> try simp only [jA, jB, jC, jD, jE, jF, jG, jH, call1, call2, call3, call4, call5, call6, call7, call8, call13, call15, call16, call17, call19, call21, jI, jJ, jK, jL, jM, jN, jO, jP, jQ, jR, jS, jT, jU, jV, jW, jX, jY, nils, rows, jZ, ja, jb, jc, jd]
        · exact ⟨_, _, _, _, _, _, _, _, (b.cpys.filter (pLive s)).map cEn, rfl, by simp; omega⟩
        · exact ⟨_, _, _, _, _, _, _, _, [], rfl, by simp⟩
      · exact ⟨_, _, _, _, _, _, _, _, [], rfl, by simp⟩
    · exact d5
end Go.Ev
namespace Go.Ev
structure Still (b : Book) (s : Svc) : Prop where
  g : s.gone = false
  l : cnt b (pLive s) = s.want
  o : cnt b (pOld s) = 0
  d : cnt b (pOn b s) = 0
  f : ∀ c, c ∈ b.cpys.filter (pLive s) → (c.state == 3) = true
  e : cnt b (pEnd s) = 0
  c : calm s = true
theorem sm_zero {f : Svc → Int} : ∀ {l : List Svc}, (∀ s, s ∈ l → 0 ≤ f s) → sm f l = 0 → ∀ s, s ∈ l → f s = 0
  | [], _, _ => by simp
  | t :: r, h, h0 => by
    have h1 := h t (List.mem_cons_self ..)
    have hr : ∀ s, s ∈ r → 0 ≤ f s := fun s hs => h s (List.mem_cons_of_mem _ hs)
    have h2 : 0 ≤ sm f r := by
      have : ∀ l : List Svc, (∀ s, s ∈ l → 0 ≤ f s) → 0 ≤ sm f l := by
        intro l; induction l with
        | nil => intro _; exact Int.le_refl 0
        | cons a r ih =>
          intro h
          have := h a (List.mem_cons_self ..)
          have := ih (fun s hs => h s (List.mem_cons_of_mem _ hs))
          simp only [sm]; omega
      exact this r hr
    simp only [sm] at h0
    intro s hs
    rcases List.mem_cons.1 hs with rfl | hs
    · omega
    · exact sm_zero hr (by omega) s hs
theorem cnt_zero {b : Book} {p : Cpy → Bool} (h : cnt b p = 0) : ∀ c, c ∈ b.cpys → p c = false := by
  intro c hc
  have h' : b.cpys.countP p = 0 := by simp only [cnt] at h; omega
  have := List.countP_eq_zero.1 h' c hc
  simpa using this
theorem cnt_none {b : Book} {p : Cpy → Bool} (h : ∀ c, c ∈ b.cpys → p c = false) : cnt b p = 0 := by
  have : b.cpys.countP p = 0 := List.countP_eq_zero.2 fun c hc => by simp [h c hc]
  simp only [cnt, this]; rfl
theorem done_still {b : Book} (hb : Bnd b) (h : doneB b = true) : ∀ s, s ∈ b.svcs → Still b s := by
  simp only [doneB, Bool.and_eq_true] at h
  obtain ⟨hv, hz, hk⟩ := h
  simp only [rankZ, List.all_cons, List.all_nil, Bool.and_true, Bool.and_eq_true, beq_iff_eq] at hz
  obtain ⟨z0, z1, z2, z3, z4⟩ := hz
  have kb := fun s (hs : s ∈ b.svcs) => k_bounds b hb s (svcOk_want (validB_svc hv s hs))
  intro s hs
  have y0 := sm_zero (fun s hs => (kb s hs).1.1) z0 s hs
  have y1 := sm_zero (fun s hs => (kb s hs).2.1.1) z1 s hs
  have y2 := sm_zero (fun s hs => (kb s hs).2.2.1.1) z2 s hs
  have y3 := sm_zero (fun s hs => (kb s hs).2.2.2.1.1) z3 s hs
  have y4 := sm_zero (fun s hs => (kb s hs).2.2.2.2.1) z4 s hs
  have hg : s.gone = false := by
    cases hg : s.gone with
    | false => rfl
    | true => simp [k0, b2i, hg] at y0
  simp only [k1, k2, k3, k4, hg, jS, gap, Int.add_zero] at y1 y2 y3 y4
  have n3 := cnt_zero y3
  have n4 := cnt_zero y4
  refine ⟨hg, by omega, cnt_none fun c hc => ?_, cnt_none fun c hc => ?_, fun c hc => ?_, y1, List.all_eq_true.1 hk s hs⟩
  · have := n3 c hc
    simp only [q3, pLive, pOld] at this ⊢
    revert this
    generalize mine s c = x1; generalize c.ending = x2; generalize (c.image != s.image) = x3; generalize drn b c = x4
    cases x1 <;> cases x2 <;> cases x3 <;> cases x4 <;> decide
  · have := n3 c hc
    simp only [q3, pOn] at this ⊢
    revert this
    generalize pLive s c = x1; generalize (c.image != s.image) = x3; generalize drn b c = x4
    cases x1 <;> cases x3 <;> cases x4 <;> decide
  · obtain ⟨hc, hp⟩ := List.mem_filter.1 hc
    have := n4 c hc
    simp only [q4, hp, Bool.true_and] at this
    simpa using this
def AskF (b : Book) (o : Option (List C)) : Prop := ∃ (x1 : Str) (x2 x3 x4 x5 : Int) (x6 x7 : Bool) (en : List (Int × Int)), o = some [.s x1, .i x2, .i x3, .i x4, .i x5, .b x6, .b x7, .b false, .i b.now, .l (b.svcs.map Svc.e), .l (b.cpys.map Cpy.e), .l (b.brts.map Brt.e), .l (en.map enE)] ∧ en.length ≤ 1000
theorem svcOk_least {s : Svc} {n : Int} (h : svcOk s n = true) (hp : s.per ≠ 0) : s.least ≤ s.most := by
  have hp' : (s.per == 0) = false := by simp [hp]
  simp only [svcOk, hp', jS, Bool.and_eq_true, within, decide_eq_true_eq] at h
  have := h.2.2.2.2.1
  omega
theorem desired_in (s : Svc) (h : s.least ≤ s.most) : s.least ≤ desired s ∧ desired s ≤ s.most := by
  simp only [desired]
  generalize w64 ((w64 (w64 (s.load + s.per) - 1)).tdiv s.per) = d
  by_cases h1 : d < s.least
  · have h2 : ¬ s.least > s.most := by omega
    simp only [h1, h2, decide_true, decide_false, jR, jS]; omega
  · by_cases h2 : d > s.most
    · simp only [h1, h2, decide_true, decide_false, jR, jS]; omega
    · simp only [h1, h2, decide_true, decide_false, jR, jS]; omega
theorem i_ask_still (k : Int) (b : Book) (s : Svc) (hb : Bnd b) (hs : Still b s) (hk : svcOk s b.now = true) (hp0 : 0 ≤ s.per) : AskF b (i_StewBook_ask (.i k :: .p s.e :: b.e)) := by
  obtain ⟨o, e1, rfl⟩ := ask_loop k b s hb
  have e2 := i_count_eq b s hb
  have hl := List.length_filter_le (pLive s) b.cpys
  have hc := hb.c
  have hw := svcOk_want hk
  have ho := svcOk_over hk
  have ll := live_len b s
  have e3 : ∃ d : List Cpy, i_StewBook_ask_1_v1 [.l ((b.cpys.filter (pLive s)).map Cpy.e)] = some [.l (d.map Cpy.e), .l ((b.cpys.filter (pLive s)).map Cpy.e)] ∧ d = [] := by
    obtain ⟨d, e3, h3, h4⟩ := i_ask1v1_ex (b.cpys.filter (pLive s)) (by omega)
    refine ⟨d, e3, h4 fun c hc => ?_⟩
    have := hs.f c hc
    simp only [beq_iff_eq] at this
    rw [this]; decide
  obtain ⟨d, e3, rfl⟩ := e3
  have e4 := i_ask3_eq ⟨s.name, s.ver, 0, 0, 0, false, [], false⟩ [] (by simp)
  have d3 := i_StewBook_ask.d3
  have c0 : cn (pLive s) b.cpys b.cpys.length = s.want := (cn_all _ _).trans hs.l
  have c1 : cn (pOld s) b.cpys b.cpys.length = 0 := (cn_all _ _).trans hs.o
  have n1 : ¬ s.want < s.want := by omega
  have n2 : ¬ s.want > s.want := by omega
  have leaf : ∀ (x3 x4 x5 : Int) (x6 x7 : Bool), AskF b (some [.s s.name, .i s.ver, .i x3, .i x4, .i x5, .b x6, .b x7, .b false, .i b.now, .l (b.svcs.map Svc.e), .l (b.cpys.map Cpy.e), .l (b.brts.map Brt.e), .l []]) := fun x3 x4 x5 x6 x7 => ⟨_, _, _, _, _, _, _, [], rfl, by simp⟩
  simp only [askS, L7, CountE, Book.e, A7, List.map_nil, jA, jB, jC, jD, jE, jF, jG, jH, call1, call2, call3, call4, call5, call6, call7, call8, call13, call15, call16, call17, call19, call21, jI, jJ, jK, jL, jM, jN, jO, jP, jQ, jR, jS, jT, jU, jV, jW, jX, jY, nils, rows, jZ, ja, jb, jc, jd] at e1 e2 e3 e4
  simp only [i_StewBook_ask, i_StewBook_ask.d7, Book.e, jA, jB, jC, jD, jE, jF, jG, jH, call1, call2, call3, call4, call5, call6, call7, call8, call13, call15, call16, call17, call19, call21, jI, jJ, jK, jL, jM, jN, jO, jP, jQ, jR, jS, jT, jU, jV, jW, jX, jY, nils, rows, jZ, ja, jb, jc, jd, C.isP_p, C.P_p, e2, show s.e.getD 0 .nil = .s s.name from rfl, show s.e.getD 1 .nil = .i s.ver from rfl]
  rw [e1]
  simp only [askS, L7, CountE, Book.e, jA, jB, jC, jD, jE, jF, jG, jH, call1, call2, call3, call4, call5, call6, call7, call8, call13, call15, call16, call17, call19, call21, jI, jJ, jK, jL, jM, jN, jO, jP, jQ, jR, jS, jT, jU, jV, jW, jX, jY, nils, rows, jZ, ja, jb, jc, jd, i_StewBook_ask.d6, C.isP_p, C.P_p, show s.e.getD 2 .nil = .b s.gone from rfl, hs.g, i_StewBook_ask.d5, c0, c1, hs.d, show s.e.getD 4 .nil = .i s.want from rfl, show s.e.getD 6 .nil = .i s.over from rfl, show s.e.getD 8 .nil = .i s.per from rfl, show s.e.getD 9 .nil = .i s.least from rfl, show s.e.getD 10 .nil = .i s.most from rfl, show s.e.getD 12 .nil = .i s.cool from rfl, n1, n2, e3, e4]
  cases k == 1 <;> simp only [jA, jB, jC, jD, jE, jF, jG, jH, call1, call2, call3, call4, call5, call6, call7, call8, call13, call15, call16, call17, call19, call21, jI, jJ, jK, jL, jM, jN, jO, jP, jQ, jR, jS, jT, jU, jV, jW, jX, jY, nils, rows, jZ, ja, jb, jc, jd]
  · cases k == 2 <;> simp only [jA, jB, jC, jD, jE, jF, jG, jH, call1, call2, call3, call4, call5, call6, call7, call8, call13, call15, call16, call17, call19, call21, jI, jJ, jK, jL, jM, jN, jO, jP, jQ, jR, jS, jT, jU, jV, jW, jX, jY, nils, rows, jZ, ja, jb, jc, jd]
    · cases k == 3 <;> simp only [jA, jB, jC, jD, jE, jF, jG, jH, call1, call2, call3, call4, call5, call6, call7, call8, call13, call15, call16, call17, call19, call21, jI, jJ, jK, jL, jM, jN, jO, jP, jQ, jR, jS, jT, jU, jV, jW, jX, jY, nils, rows, jZ, ja, jb, jc, jd]
      · cases k == 4 <;> simp only [jA, jB, jC, jD, jE, jF, jG, jH, call1, call2, call3, call4, call5, call6, call7, call8, call13, call15, call16, call17, call19, call21, jI, jJ, jK, jL, jM, jN, jO, jP, jQ, jR, jS, jT, jU, jV, jW, jX, jY, nils, rows, jZ, ja, jb, jc, jd]
        · cases k == 6 <;> simp only [jA, jB, jC, jD, jE, jF, jG, jH, call1, call2, call3, call4, call5, call6, call7, call8, call13, call15, call16, call17, call19, call21, jI, jJ, jK, jL, jM, jN, jO, jP, jQ, jR, jS, jT, jU, jV, jW, jX, jY, nils, rows, jZ, ja, jb, jc, jd]
          · exact leaf _ _ _ _ _
          · exact leaf _ _ _ _ _
        · by_cases hp : s.per = 0
          · have hp' : (s.per == 0) = true := by simp [hp]
            simp only [hp', jA, jB, jC, jD, jE, jF, jG, jH, call1, call2, call3, call4, call5, call6, call7, call8, call13, call15, call16, call17, call19, call21, jI, jJ, jK, jL, jM, jN, jO, jP, jQ, jR, jS, jT, jU, jV, jW, jX, jY, nils, rows, jZ, ja, jb, jc, jd]
            exact leaf _ _ _ _ _
          · have hp' : (s.per == 0) = false := by simp [hp]
            have e7 := i_demand_eq s hp
            have hcalm := hs.c
            have hp2 : s.per > 0 := by omega
            simp only [calm, hp2, decide_true, jR, Bool.and_eq_true, beq_iff_eq] at hcalm
            obtain ⟨h1, h2⟩ := hcalm
            have hin := desired_in s (svcOk_least hk hp)
            rw [← h1] at hin
            have q1 : ¬ s.want < s.least := by omega
            have q2 : ¬ s.want > s.most := by omega
            have q3 : ((0 : Int) != 0) = false := rfl
            simp only [hp', jA, jB, jC, jD, jE, jF, jG, jH, call1, call2, call3, call4, call5, call6, call7, call8, call13, call15, call16, call17, call19, call21, jI, jJ, jK, jL, jM, jN, jO, jP, jQ, jR, jS, jT, jU, jV, jW, jX, jY, nils, rows, jZ, ja, jb, jc, jd, e7, ← h1, q1, q2, n1, n2, h2, i_StewBook_ask.d4, C.isP_p, C.P_p, show s.e.getD 4 .nil = .i s.want from rfl, show s.e.getD 12 .nil = .i s.cool from rfl, q3]
            exact leaf _ _ _ _ _
      · exact leaf _ _ _ _ _
    · exact leaf _ _ _ _ _
  · simp only [i_StewBook_ask.d3, jA, jB, jC, jD, jE, jF, jG, jH, call1, call2, call3, call4, call5, call6, call7, call8, call13, call15, call16, call17, call19, call21, jI, jJ, jK, jL, jM, jN, jO, jP, jQ, jR, jS, jT, jU, jV, jW, jX, jY, nils, rows, jZ, ja, jb, jc, jd]
    exact leaf _ _ _ _ _
end Go.Ev
namespace Go.Ev
theorem svcOk_per {s : Svc} {n : Int} (h : svcOk s n = true) : 0 ≤ s.per := by
  simp only [svcOk, Bool.and_eq_true] at h
  have := h.2
  by_cases hp : s.per = 0
  · omega
  · have hp' : (s.per == 0) = false := by simp [hp]
    simp only [hp', jS, Bool.and_eq_true, within, decide_eq_true_eq] at this
    exact this.1.1
theorem i_StewAsk_ex (k : Int) (b : Book) (hb : Big b) : ∃ L : List (List C), i_StewAsk (.i k :: b.e) = some [.l L] ∧ L.length ≤ 8 ∧ (doneB b = true → L = []) := by
  have e0 := i_StewValid_eq b hb.small hb.w.toNames
  simp only [Book.e, jA, jB, jC, jD, jE, jF, jG, jH, call1, call2, call3, call4, call5, call6, call7, call8, call13, call15, call16, call17, call19, call21, jI, jJ, jK, jL, jM, jN, jO, jP, jQ, jR, jS, jT, jU, jV, jW, jX, jY, nils, rows, jZ, ja, jb, jc, jd] at e0
  simp only [i_StewAsk, i_StewAsk.d3, Book.e, jA, jB, jC, jD, jE, jF, jG, jH, call1, call2, call3, call4, call5, call6, call7, call8, call13, call15, call16, call17, call19, call21, jI, jJ, jK, jL, jM, jN, jO, jP, jQ, jR, jS, jT, jU, jV, jW, jX, jY, nils, rows, jZ, ja, jb, jc, jd, e0]
  cases hv : validB b <;> simp only [jA, jB, jC, jD, jE, jF, jG, jH, call1, call2, call3, call4, call5, call6, call7, call8, call13, call15, call16, call17, call19, call21, jI, jJ, jK, jL, jM, jN, jO, jP, jQ, jR, jS, jT, jU, jV, jW, jX, jY, nils, rows, jZ, ja, jb, jc, jd]
  · exact ⟨[], rfl, by simp, fun _ => rfl⟩
  · have hbn := validB_bnd hv hb.w
    have hs8 := hbn.s
    rw [Bool.cond_eq_ite]; split <;> try simp only [jA, jB, jC, jD, jE, jF, jG, jH, call1, call2, call3, call4, call5, call6, call7, call8, call13, call15, call16, call17, call19, call21, jI, jJ, jK, jL, jM, jN, jO, jP, jQ, jR, jS, jT, jU, jV, jW, jX, jY, nils, rows, jZ, ja, jb, jc, jd]
    · rw [Bool.cond_eq_ite]; split <;> try simp only [jA, jB, jC, jD, jE, jF, jG, jH, call1, call2, call3, call4, call5, call6, call7, call8, call13, call15, call16, call17, call19, call21, jI, jJ, jK, jL, jM, jN, jO, jP, jQ, jR, jS, jT, jU, jV, jW, jX, jY, nils, rows, jZ, ja, jb, jc, jd]
      · exact ⟨[], rfl, by simp, fun _ => rfl⟩
      · have L : ∃ o, lim (fun xs => i_StewAsk.d1 (xs.getD 0 .nil) (xs.getD 1 .nil) (xs.getD 2 .nil) (xs.getD 3 .nil) (xs.getD 4 .nil) (xs.getD 5 .nil) (xs.getD 6 .nil) (xs.getD 7 .nil)) (.i k :: .i (b.svcs.length : Nat) :: .i 0 :: (b.e ++ [.l []])) = some o ∧ ∃ L : List (List C), o = .brk 0 [.l L] ∧ L.length ≤ 8 ∧ (doneB b = true → L = []) := by
          refine lim_exs (fun q : List (List C) × Nat => .i k :: .i (b.svcs.length : Nat) :: .i (q.2 : Nat) :: (b.e ++ [.l q.1])) (fun q => b.svcs.length - q.2) (fun q => q.2 ≤ b.svcs.length ∧ q.1.length ≤ q.2 ∧ (doneB b = true → q.1 = [])) _ ([], 0) ⟨Nat.zero_le _, Nat.zero_le _, fun _ => rfl⟩ ?_
          rintro ⟨L, i⟩ ⟨hi, hl, hz⟩
          simp only at hi hl hz
          have w1 : w64 ((i : Int) + 1) = ((i + 1 : Nat) : Int) := w64_nat (n := i + 1) (by omega)
          by_cases hlt : i < b.svcs.length
          · left
            have p1 : (i : Int) < (b.svcs.length : Int) := by omega
            have p2 : L.length + 1 ≤ 4294967296 := by omega
            have g1 : (b.svcs.map Svc.e).getD i [] = b.svcs[i].e := getD_map_lt Svc.e hlt []
            have hok := validB_svc hv _ (List.getElem_mem hlt)
            show ∃ q : List (List C) × Nat, i_StewAsk.d1 (.i k) (.i (b.svcs.length : Nat)) (.i (i : Nat)) (.i b.now) (.l (b.svcs.map Svc.e)) (.l (b.cpys.map Cpy.e)) (.l (b.brts.map Brt.e)) (.l L) = _ ∧ _
            cases hd : doneB b with
            | true =>
              obtain ⟨x1, x2, x3, x4, x5, x6, x7, en, e1, _⟩ := i_ask_still k b b.svcs[i] hbn (done_still hbn hd _ (List.getElem_mem hlt)) hok (svcOk_per hok)
              simp only [Book.e] at e1
              refine ⟨(L, i + 1), ?_, ⟨hlt, by simp only; omega, fun _ => hz hd⟩, by simp only; omega⟩
              simp only [Book.e, jA, jB, jC, jD, jE, jF, jG, jH, call1, call2, call3, call4, call5, call6, call7, call8, call13, call15, call16, call17, call19, call21, jI, jJ, jK, jL, jM, jN, jO, jP, jQ, jR, jS, jT, jU, jV, jW, jX, jY, nils, rows, jZ, ja, jb, jc, jd]
              simp only [i_StewAsk.d1, jA, jB, jC, jD, jE, jF, jG, jH, call1, call2, call3, call4, call5, call6, call7, call8, call13, call15, call16, call17, call19, call21, jI, jJ, jK, jL, jM, jN, jO, jP, jQ, jR, jS, jT, jU, jV, jW, jX, jY, nils, rows, jZ, ja, jb, jc, jd, p1, g1, e1, w1]
            | false =>
              obtain ⟨x1, x2, x3, x4, x5, x6, x7, ok, en, e1, _⟩ := i_ask_ex k b b.svcs[i] hbn (svcOk_want hok) (svcOk_over hok)
              simp only [Book.e] at e1
              cases ok
              · refine ⟨(L, i + 1), ?_, ⟨hlt, by simp only; omega, fun h => by simp at h⟩, by simp only; omega⟩
                simp only [Book.e, jA, jB, jC, jD, jE, jF, jG, jH, call1, call2, call3, call4, call5, call6, call7, call8, call13, call15, call16, call17, call19, call21, jI, jJ, jK, jL, jM, jN, jO, jP, jQ, jR, jS, jT, jU, jV, jW, jX, jY, nils, rows, jZ, ja, jb, jc, jd]
                simp only [i_StewAsk.d1, jA, jB, jC, jD, jE, jF, jG, jH, call1, call2, call3, call4, call5, call6, call7, call8, call13, call15, call16, call17, call19, call21, jI, jJ, jK, jL, jM, jN, jO, jP, jQ, jR, jS, jT, jU, jV, jW, jX, jY, nils, rows, jZ, ja, jb, jc, jd, p1, g1, e1, w1]
              · refine ⟨(L ++ [[.s x1, .i x2, .i x3, .i x4, .i x5, .b x6, .l (en.map enE), .b x7]], i + 1), ?_, ⟨hlt, by simp; omega, fun h => by simp at h⟩, by simp only; omega⟩
                simp only [Book.e, jA, jB, jC, jD, jE, jF, jG, jH, call1, call2, call3, call4, call5, call6, call7, call8, call13, call15, call16, call17, call19, call21, jI, jJ, jK, jL, jM, jN, jO, jP, jQ, jR, jS, jT, jU, jV, jW, jX, jY, nils, rows, jZ, ja, jb, jc, jd]
                simp only [i_StewAsk.d1, jA, jB, jC, jD, jE, jF, jG, jH, call1, call2, call3, call4, call5, call6, call7, call8, call13, call15, call16, call17, call19, call21, jI, jJ, jK, jL, jM, jN, jO, jP, jQ, jR, jS, jT, jU, jV, jW, jX, jY, nils, rows, jZ, ja, jb, jc, jd, p1, g1, e1, w1, p2]
          · right
            have p1 : ¬ (i : Int) < (b.svcs.length : Int) := by omega
            refine ⟨_, ?_, ?_, L, rfl, by omega, hz⟩
            · simp only [Book.e, jA, jB, jC, jD, jE, jF, jG, jH, call1, call2, call3, call4, call5, call6, call7, call8, call13, call15, call16, call17, call19, call21, jI, jJ, jK, jL, jM, jN, jO, jP, jQ, jR, jS, jT, jU, jV, jW, jX, jY, nils, rows, jZ, ja, jb, jc, jd]
              simp only [i_StewAsk.d1, jA, jB, jC, jD, jE, jF, jG, jH, call1, call2, call3, call4, call5, call6, call7, call8, call13, call15, call16, call17, call19, call21, jI, jJ, jK, jL, jM, jN, jO, jP, jQ, jR, jS, jT, jU, jV, jW, jX, jY, nils, rows, jZ, ja, jb, jc, jd, p1]
            · trivial
        obtain ⟨o, h1, L, rfl, h2, h3⟩ := L
        simp only [Book.e, jA, jB, jC, jD, jE, jF, jG, jH, call1, call2, call3, call4, call5, call6, call7, call8, call13, call15, call16, call17, call19, call21, jI, jJ, jK, jL, jM, jN, jO, jP, jQ, jR, jS, jT, jU, jV, jW, jX, jY, nils, rows, jZ, ja, jb, jc, jd] at h1
        rw [h1]
        exact ⟨L, rfl, h2, h3⟩
    · exact ⟨[], rfl, by simp, fun _ => rfl⟩
end Go.Ev
namespace Go.Ev
def Quiet (cs : List Cpy) : Prop := ∀ c, c ∈ cs → c.ending = false ∧ (c.state == 3) = true
theorem done_quiet {b : Book} (hb : Bnd b) (h : doneB b = true) : Quiet b.cpys := by
  intro c hc
  have hv : validB b = true := by simp only [doneB, Bool.and_eq_true] at h; exact h.1
  obtain ⟨s, hs⟩ := Option.isSome_iff_exists.1 (validB_own hv c hc)
  have hm : s ∈ b.svcs := List.mem_of_find?_eq_some hs
  have hp := List.find?_some hs
  have hmine : mine s c = true := by simp only [sEq, beq_iff_eq] at hp; simp [mine, hp]
  have st := done_still hb h s hm
  have he := cnt_zero st.e c hc
  simp only [pEnd, hmine, Bool.true_and] at he
  refine ⟨he, st.f c (List.mem_filter.2 ⟨hc, ?_⟩)⟩
  simp [pLive, hmine, he]
theorem i_tick1_eq (c : Cpy) : i_StewBook_tick_1 c.e = some [.b c.ending] := rfl
theorem i_del_quiet (cs : List Cpy) (hc : cs.length ≤ 1000) (hq : Quiet cs) : slices_DeleteFunc [.l (cs.map Cpy.e)] = some [.l (cs.map Cpy.e)] := by
  have L : ∃ o, lim (fun xs => slices_IndexFunc.d1 (xs.getD 0 .nil) (xs.getD 1 .nil) (xs.getD 2 .nil)) [.l (cs.map Cpy.e), .i (cs.length : Nat), .i 0] = some o ∧ o = .brk 0 [] := by
    refine lim_exs (fun i : Nat => [.l (cs.map Cpy.e), .i (cs.length : Nat), .i (i : Nat)]) (fun i => cs.length - i) (fun i => i ≤ cs.length) _ 0 (Nat.zero_le _) ?_
    intro i hi
    have w1 : w64 ((i : Int) + 1) = ((i + 1 : Nat) : Int) := w64_nat (n := i + 1) (by omega)
    simp only [jA, jB, jC, jD, jE, jF, jG, jH, call1, call2, call3, call4, call5, call6, call7, call8, call13, call15, call16, call17, call19, call21, jI, jJ, jK, jL, jM, jN, jO, jP, jQ, jR, jS, jT, jU, jV, jW, jX, jY, nils, rows, jZ, ja, jb, jc, jd]
    by_cases hlt : i < cs.length
    · left
      have p1 : (i : Int) < (cs.length : Int) := by omega
      have g1 : (cs.map Cpy.e).getD i [] = cs[i].e := getD_map_lt Cpy.e hlt []
      have e1 := i_tick1_eq cs[i]
      have he := (hq _ (List.getElem_mem hlt)).1
      simp only [Cpy.e, he] at e1
      exact ⟨i + 1, by simp only [slices_IndexFunc.d1, jA, jB, jC, jD, jE, jF, jG, jH, call1, call2, call3, call4, call5, call6, call7, call8, call13, call15, call16, call17, call19, call21, jI, jJ, jK, jL, jM, jN, jO, jP, jQ, jR, jS, jT, jU, jV, jW, jX, jY, nils, rows, jZ, ja, jb, jc, jd, p1, g1, Cpy.e, he, e1, w1], hlt, by omega⟩
    · right
      have p1 : ¬ (i : Int) < (cs.length : Int) := by omega
      exact ⟨.brk 0 [], by simp only [slices_IndexFunc.d1, jA, jB, jC, jD, jE, jF, jG, jH, call1, call2, call3, call4, call5, call6, call7, call8, call13, call15, call16, call17, call19, call21, jI, jJ, jK, jL, jM, jN, jO, jP, jQ, jR, jS, jT, jU, jV, jW, jX, jY, nils, rows, jZ, ja, jb, jc, jd, p1], trivial, rfl⟩
  obtain ⟨o, h1, rfl⟩ := L
  have e1 : slices_IndexFunc [.l (cs.map Cpy.e)] = some [.i (-1)] := by
    simp only [slices_IndexFunc, slices_IndexFunc.d3, jA, jB, jC, jD, jE, jF, jG, jH, call1, call2, call3, call4, call5, call6, call7, call8, call13, call15, call16, call17, call19, call21, jI, jJ, jK, jL, jM, jN, jO, jP, jQ, jR, jS, jT, jU, jV, jW, jX, jY, nils, rows, jZ, ja, jb, jc, jd]
    rw [h1]
    rfl
  have q : ((-1 : Int) == -1) = true := rfl
  simp only [slices_DeleteFunc, slices_DeleteFunc.d3, jA, jB, jC, jD, jE, jF, jG, jH, call1, call2, call3, call4, call5, call6, call7, call8, call13, call15, call16, call17, call19, call21, jI, jJ, jK, jL, jM, jN, jO, jP, jQ, jR, jS, jT, jU, jV, jW, jX, jY, nils, rows, jZ, ja, jb, jc, jd, e1, q]
theorem i_tick_quiet (now : Int) (ss : List Svc) (cs : List Cpy) (ts : List Brt) (hc : cs.length ≤ 1000) (hq : Quiet cs) : i_StewBook_tick [.i now, .l (ss.map Svc.e), .l (cs.map Cpy.e), .l (ts.map Brt.e)] = some [.i now, .l (ss.map Svc.e), .l (ts.map Brt.e), .l (cs.map Cpy.e)] := by
  have L1 : ∃ o, lim (fun xs => i_StewBook_tick.d1 (xs.getD 0 .nil) (xs.getD 1 .nil) (xs.getD 2 .nil) (xs.getD 3 .nil) (xs.getD 4 .nil) (xs.getD 5 .nil)) [.i (cs.length : Nat), .i 0, .i now, .l (ss.map Svc.e), .l (ts.map Brt.e), .l (cs.map Cpy.e)] = some o ∧ o = .brk 0 [.i now, .l (ss.map Svc.e), .l (ts.map Brt.e), .l (cs.map Cpy.e)] := by
    refine lim_exs (fun i : Nat => [.i (cs.length : Nat), .i (i : Nat), .i now, .l (ss.map Svc.e), .l (ts.map Brt.e), .l (cs.map Cpy.e)]) (fun i => cs.length - i) (fun i => i ≤ cs.length) _ 0 (Nat.zero_le _) ?_
    intro i hi
    have w1 : w64 ((i : Int) + 1) = ((i + 1 : Nat) : Int) := w64_nat (n := i + 1) (by omega)
    simp only [jA, jB, jC, jD, jE, jF, jG, jH, call1, call2, call3, call4, call5, call6, call7, call8, call13, call15, call16, call17, call19, call21, jI, jJ, jK, jL, jM, jN, jO, jP, jQ, jR, jS, jT, jU, jV, jW, jX, jY, nils, rows, jZ, ja, jb, jc, jd]
    by_cases hlt : i < cs.length
    · left
      have p1 : (i : Int) < (cs.length : Int) := by omega
      have g1 : (cs.map Cpy.e).getD i [] = cs[i].e := getD_map_lt Cpy.e hlt []
      have he := (hq _ (List.getElem_mem hlt)).2
      have n2 : (cs[i].state == 2) = false := by simp only [beq_iff_eq] at he; rw [he]; rfl
      exact ⟨i + 1, by simp only [i_StewBook_tick.d1, jA, jB, jC, jD, jE, jF, jG, jH, call1, call2, call3, call4, call5, call6, call7, call8, call13, call15, call16, call17, call19, call21, jI, jJ, jK, jL, jM, jN, jO, jP, jQ, jR, jS, jT, jU, jV, jW, jX, jY, nils, rows, jZ, ja, jb, jc, jd, p1, g1, Cpy.e, n2, w1], hlt, by omega⟩
    · right
      have p1 : ¬ (i : Int) < (cs.length : Int) := by omega
      refine ⟨_, ?_, ?_, rfl⟩
      · simp only [i_StewBook_tick.d1, jA, jB, jC, jD, jE, jF, jG, jH, call1, call2, call3, call4, call5, call6, call7, call8, call13, call15, call16, call17, call19, call21, jI, jJ, jK, jL, jM, jN, jO, jP, jQ, jR, jS, jT, jU, jV, jW, jX, jY, nils, rows, jZ, ja, jb, jc, jd, p1]
      · trivial
  have L2 : ∃ o, lim (fun xs => i_StewBook_tick.d8 (xs.getD 0 .nil) (xs.getD 1 .nil) (xs.getD 2 .nil) (xs.getD 3 .nil) (xs.getD 4 .nil) (xs.getD 5 .nil)) [.i (cs.length : Nat), .i 0, .i now, .l (ss.map Svc.e), .l (ts.map Brt.e), .l (cs.map Cpy.e)] = some o ∧ o = .brk 2 [.i now, .l (ss.map Svc.e), .l (ts.map Brt.e), .l (cs.map Cpy.e)] := by
    refine lim_exs (fun i : Nat => [.i (cs.length : Nat), .i (i : Nat), .i now, .l (ss.map Svc.e), .l (ts.map Brt.e), .l (cs.map Cpy.e)]) (fun i => cs.length - i) (fun i => i ≤ cs.length) _ 0 (Nat.zero_le _) ?_
    intro i hi
    have w1 : w64 ((i : Int) + 1) = ((i + 1 : Nat) : Int) := w64_nat (n := i + 1) (by omega)
    simp only [jA, jB, jC, jD, jE, jF, jG, jH, call1, call2, call3, call4, call5, call6, call7, call8, call13, call15, call16, call17, call19, call21, jI, jJ, jK, jL, jM, jN, jO, jP, jQ, jR, jS, jT, jU, jV, jW, jX, jY, nils, rows, jZ, ja, jb, jc, jd]
    by_cases hlt : i < cs.length
    · left
      have p1 : (i : Int) < (cs.length : Int) := by omega
      have g1 : (cs.map Cpy.e).getD i [] = cs[i].e := getD_map_lt Cpy.e hlt []
      have he := (hq _ (List.getElem_mem hlt)).2
      have n2 : (cs[i].state != 1) = true := by simp only [beq_iff_eq] at he; rw [he]; rfl
      exact ⟨i + 1, by simp only [i_StewBook_tick.d8, jA, jB, jC, jD, jE, jF, jG, jH, call1, call2, call3, call4, call5, call6, call7, call8, call13, call15, call16, call17, call19, call21, jI, jJ, jK, jL, jM, jN, jO, jP, jQ, jR, jS, jT, jU, jV, jW, jX, jY, nils, rows, jZ, ja, jb, jc, jd, p1, g1, Cpy.e, n2, i_StewBook_tick.d7, w1], hlt, by omega⟩
    · right
      have p1 : ¬ (i : Int) < (cs.length : Int) := by omega
      refine ⟨_, ?_, ?_, rfl⟩
      · simp only [i_StewBook_tick.d8, jA, jB, jC, jD, jE, jF, jG, jH, call1, call2, call3, call4, call5, call6, call7, call8, call13, call15, call16, call17, call19, call21, jI, jJ, jK, jL, jM, jN, jO, jP, jQ, jR, jS, jT, jU, jV, jW, jX, jY, nils, rows, jZ, ja, jb, jc, jd, p1]
      · trivial
  obtain ⟨o, h1, rfl⟩ := L1
  obtain ⟨o, h2, rfl⟩ := L2
  have e1 := i_del_quiet cs hc hq
  simp only [i_StewBook_tick, i_StewBook_tick.d11, jA, jB, jC, jD, jE, jF, jG, jH, call1, call2, call3, call4, call5, call6, call7, call8, call13, call15, call16, call17, call19, call21, jI, jJ, jK, jL, jM, jN, jO, jP, jQ, jR, jS, jT, jU, jV, jW, jX, jY, nils, rows, jZ, ja, jb, jc, jd, e1]
  rw [h1]
  simp only [jA, jB, jC, jD, jE, jF, jG, jH, call1, call2, call3, call4, call5, call6, call7, call8, call13, call15, call16, call17, call19, call21, jI, jJ, jK, jL, jM, jN, jO, jP, jQ, jR, jS, jT, jU, jV, jW, jX, jY, nils, rows, jZ, ja, jb, jc, jd, i_StewBook_tick.d10]
  rw [h2]
  rfl
theorem chain_mono {α : Type} {ok ok' : α → Bool} {lt : α → α → Bool} {l : List α} (h : chainOk ok lt l = true) (hm : ∀ x, x ∈ l → ok x = true → ok' x = true) : chainOk ok' lt l = true := by
  simp only [chainOk, List.all_eq_true] at h ⊢
  intro x hx
  have := h x hx
  simp only [Bool.and_eq_true] at this ⊢
  have hx' : x.1 ∈ l := by
    obtain ⟨a, i⟩ := x
    have := List.mem_zipIdx_iff_getElem?.1 hx
    exact List.mem_of_getElem? this
  exact ⟨hm _ hx' this.1, this.2⟩
theorem valid_tick {b : Book} (h : validB b = true) (hn : b.now + 1 ≤ 1000000) : validB { b with now := b.now + 1 } = true := by
  simp only [validB, Bool.and_eq_true] at h ⊢
  obtain ⟨⟨⟨⟨⟨⟨h1, h2⟩, h3⟩, h4⟩, h5⟩, h6⟩, h7⟩ := h
  refine ⟨⟨⟨⟨⟨⟨?_, h2⟩, h3⟩, h4⟩, chain_mono h5 ?_⟩, h6⟩, chain_mono h7 ?_⟩
  · simp only [within, Bool.and_eq_true, decide_eq_true_eq] at h1 ⊢; omega
  · intro s _ hs
    simp only [svcOk, Bool.and_eq_true] at hs ⊢
    refine ⟨⟨⟨⟨⟨⟨⟨⟨hs.1.1.1.1.1.1.1.1, ?_⟩, hs.1.1.1.1.1.1.2⟩, hs.1.1.1.1.1.2⟩, hs.1.1.1.1.2⟩, hs.1.1.1.2⟩, hs.1.1.2⟩, hs.1.2⟩, hs.2⟩
    have := hs.1.1.1.1.1.1.1.2
    simp only [within, Bool.and_eq_true, decide_eq_true_eq] at this ⊢; omega
  · intro c _ hc
    have e1 : svcOf { b with now := b.now + 1 } c.svc = svcOf b c.svc := rfl
    have e2 : brtOf { b with now := b.now + 1 } c.berth = brtOf b c.berth := rfl
    simp only [cpyOk, e1, e2] at hc ⊢
    cases hs : svcOf b c.svc with
    | none => rw [hs] at hc; simp at hc
    | some s =>
      rw [hs] at hc
      simp only [Bool.and_eq_true] at hc ⊢
      refine ⟨⟨⟨⟨hc.1.1.1.1, ?_⟩, hc.1.1.2⟩, hc.1.2⟩, hc.2⟩
      have := hc.1.1.1.2
      simp only [within, Bool.and_eq_true, decide_eq_true_eq] at this ⊢; omega
theorem i_clone_eq (b : Book) (hb : Bnd b) : i_clone b.e = some b.e := by
  have h1 := hb.fit.s
  have h2 := hb.fit.c
  have h3 := hb.fit.t
  simp only [i_clone, i_clone.d1, Book.e, jA, jB, jC, jD, jE, jF, jG, jH, call1, call2, call3, call4, call5, call6, call7, call8, call13, call15, call16, call17, call19, call21, jI, jJ, jK, jL, jM, jN, jO, jP, jQ, jR, jS, jT, jU, jV, jW, jX, jY, nils, rows, jZ, ja, jb, jc, jd, h1, h2, h3]
theorem i_StewSea_done (b : Book) (hb : Big b) (h : doneB b = true) : i_StewSea (b.e ++ [.i 1, .s (bs #[]), .i 0, .b false, .i 0, .i 0, .i 0, .i 0, .i 0, .i 0, .i 0, .i 0, .i 0, .i 0, .s (bs #[]), .i 0, .b false]) = some (b.r2 7) ∨
    i_StewSea (b.e ++ [.i 1, .s (bs #[]), .i 0, .b false, .i 0, .i 0, .i 0, .i 0, .i 0, .i 0, .i 0, .i 0, .i 0, .i 0, .s (bs #[]), .i 0, .b false]) = some ((Book.mk (b.now + 1) b.svcs b.cpys b.brts).r2 0) := by
  have hv : validB b = true := by simp only [doneB, Bool.and_eq_true] at h; exact h.1
  have hbn := validB_bnd hv hb.w
  have e0 := i_StewValid_eq b hb.small hb.w.toNames
  have e1 := i_clone_eq b hbn
  have hnow : 0 ≤ b.now ∧ b.now ≤ 1000000 := by
    simp only [validB, Bool.and_eq_true, within, decide_eq_true_eq] at hv
    exact hv.1.1.1.1.1.1
  have n1 : ¬ (1 : Int) < 1 := by omega
  have n2 : ¬ (1 : Int) > 6 := by omega
  have n3 : ((1 : Int) == 1) = true := rfl
  simp only [Book.e, jA, jB, jC, jD, jE, jF, jG, jH, call1, call2, call3, call4, call5, call6, call7, call8, call13, call15, call16, call17, call19, call21, jI, jJ, jK, jL, jM, jN, jO, jP, jQ, jR, jS, jT, jU, jV, jW, jX, jY, nils, rows, jZ, ja, jb, jc, jd] at e0 e1
  simp only [i_StewSea, i_StewSea.d1, Book.e, jA, jB, jC, jD, jE, jF, jG, jH, call1, call2, call3, call4, call5, call6, call7, call8, call13, call15, call16, call17, call19, call21, jI, jJ, jK, jL, jM, jN, jO, jP, jQ, jR, jS, jT, jU, jV, jW, jX, jY, nils, rows, jZ, ja, jb, jc, jd, e0, hv, e1, i_StewBook_sea, i_StewBook_sea.d4, n1, n2, n3]
  by_cases hm : b.now = 1000000
  · left
    have q : (b.now == 1000000) = true := by simp [hm]
    have q7 : ((7 : Int) != 0) = true := rfl
    simp only [q, jA, jB, jC, jD, jE, jF, jG, jH, call1, call2, call3, call4, call5, call6, call7, call8, call13, call15, call16, call17, call19, call21, jI, jJ, jK, jL, jM, jN, jO, jP, jQ, jR, jS, jT, jU, jV, jW, jX, jY, nils, rows, jZ, ja, jb, jc, jd, q7, Book.r2]
  · right
    have q : (b.now == 1000000) = false := by simp [hm]
    have w1 : w64 (b.now + 1) = b.now + 1 := w64_of (by omega) (by omega)
    have e2 := i_tick_quiet (b.now + 1) b.svcs b.cpys b.brts (by have := hbn.c; omega) (done_quiet hbn h)
    have hv' := valid_tick hv (by omega)
    have e3 := i_StewValid_eq { b with now := b.now + 1 } ⟨hb.small.s, hb.small.c, hb.small.t⟩ ⟨hb.w.s, hb.w.t⟩
    rw [hv'] at e3
    have q0 : ((0 : Int) != 0) = false := rfl
    simp only [Book.e] at e3
    simp only [q, jA, jB, jC, jD, jE, jF, jG, jH, call1, call2, call3, call4, call5, call6, call7, call8, call13, call15, call16, call17, call19, call21, jI, jJ, jK, jL, jM, jN, jO, jP, jQ, jR, jS, jT, jU, jV, jW, jX, jY, nils, rows, jZ, ja, jb, jc, jd, w1, e2, e3, q0, Book.r2]
end Go.Ev
namespace Go.Ev
theorem ws_loop {body : List C → R} (n k : Nat) (S fin : List C) (hn : n ≤ 1000) (h1 : ∀ i : Nat, i < n → body (.i (i : Nat) :: S) = some (.again (.i ((i + 1 : Nat) : Int) :: S))) (h2 : body (.i (n : Nat) :: S) = some (.brk k fin)) : lim body (.i 0 :: S) = some (.brk k fin) := by
  have L : ∃ o, lim body (.i ((0 : Nat) : Int) :: S) = some o ∧ o = .brk k fin := by
    refine lim_exs (fun i : Nat => .i (i : Nat) :: S) (fun i => n - i) (fun i => i ≤ n) _ 0 (Nat.zero_le _) ?_
    intro i hi
    by_cases hlt : i < n
    · exact .inl ⟨i + 1, h1 i hlt, hlt, by omega⟩
    · have : i = n := by omega
      subst this
      exact .inr ⟨.brk k fin, h2, trivial, rfl⟩
  obtain ⟨o, h, rfl⟩ := L
  exact h
theorem w_wsBook_eq (b : Book) (hb : Bnd b) : w_wsBook (b.e ++ b.e) = some [.b true] := by
  have h8 := hb.s
  have hc := hb.c
  have ht := hb.t
  have l1 : lim (fun xs => w_wsBook.d1 (xs.getD 0 .nil) (xs.getD 1 .nil) (xs.getD 2 .nil) (xs.getD 3 .nil) (xs.getD 4 .nil) (xs.getD 5 .nil) (xs.getD 6 .nil) (xs.getD 7 .nil) (xs.getD 8 .nil)) (.i 0 :: (b.e ++ b.e)) = some (.brk 0 (b.e ++ b.e)) := by
    refine ws_loop b.svcs.length 0 (b.e ++ b.e) _ (by omega) (fun i hlt => ?_) ?_
    · have w1 : w64 ((i : Int) + 1) = ((i + 1 : Nat) : Int) := w64_nat (n := i + 1) (by omega)
      have p1 : (i : Int) < (b.svcs.length : Int) := by omega
      have g1 : (b.svcs.map Svc.e).getD i [] = b.svcs[i].e := getD_map_lt Svc.e hlt []
      simp only [Book.e, jA, jB, jC, jD, jE, jF, jG, jH, call1, call2, call3, call4, call5, call6, call7, call8, call13, call15, call16, call17, call19, call21, jI, jJ, jK, jL, jM, jN, jO, jP, jQ, jR, jS, jT, jU, jV, jW, jX, jY, nils, rows, jZ, ja, jb, jc, jd]
      simp only [w_wsBook.d1, jA, jB, jC, jD, jE, jF, jG, jH, call1, call2, call3, call4, call5, call6, call7, call8, call13, call15, call16, call17, call19, call21, jI, jJ, jK, jL, jM, jN, jO, jP, jQ, jR, jS, jT, jU, jV, jW, jX, jY, nils, rows, jZ, ja, jb, jc, jd, p1, g1, Svc.e, beq_self_eq_true, Bool.and_self, w1]
    · have p1 : ¬ (b.svcs.length : Int) < (b.svcs.length : Int) := by omega
      simp only [Book.e, jA, jB, jC, jD, jE, jF, jG, jH, call1, call2, call3, call4, call5, call6, call7, call8, call13, call15, call16, call17, call19, call21, jI, jJ, jK, jL, jM, jN, jO, jP, jQ, jR, jS, jT, jU, jV, jW, jX, jY, nils, rows, jZ, ja, jb, jc, jd]
      simp only [w_wsBook.d1, jA, jB, jC, jD, jE, jF, jG, jH, call1, call2, call3, call4, call5, call6, call7, call8, call13, call15, call16, call17, call19, call21, jI, jJ, jK, jL, jM, jN, jO, jP, jQ, jR, jS, jT, jU, jV, jW, jX, jY, nils, rows, jZ, ja, jb, jc, jd, p1]
  have l2 : lim (fun xs => w_wsBook.d2 (xs.getD 0 .nil) (xs.getD 1 .nil) (xs.getD 2 .nil) (xs.getD 3 .nil) (xs.getD 4 .nil) (xs.getD 5 .nil) (xs.getD 6 .nil) (xs.getD 7 .nil) (xs.getD 8 .nil)) (.i 0 :: (b.e ++ b.e)) = some (.brk 2 (b.e ++ b.e)) := by
    refine ws_loop b.cpys.length 2 (b.e ++ b.e) _ (by omega) (fun i hlt => ?_) ?_
    · have w1 : w64 ((i : Int) + 1) = ((i + 1 : Nat) : Int) := w64_nat (n := i + 1) (by omega)
      have p1 : (i : Int) < (b.cpys.length : Int) := by omega
      have g1 : (b.cpys.map Cpy.e).getD i [] = b.cpys[i].e := getD_map_lt Cpy.e hlt []
      simp only [Book.e, jA, jB, jC, jD, jE, jF, jG, jH, call1, call2, call3, call4, call5, call6, call7, call8, call13, call15, call16, call17, call19, call21, jI, jJ, jK, jL, jM, jN, jO, jP, jQ, jR, jS, jT, jU, jV, jW, jX, jY, nils, rows, jZ, ja, jb, jc, jd]
      simp only [w_wsBook.d2, jA, jB, jC, jD, jE, jF, jG, jH, call1, call2, call3, call4, call5, call6, call7, call8, call13, call15, call16, call17, call19, call21, jI, jJ, jK, jL, jM, jN, jO, jP, jQ, jR, jS, jT, jU, jV, jW, jX, jY, nils, rows, jZ, ja, jb, jc, jd, p1, g1, Cpy.e, beq_self_eq_true, Bool.and_self, w1]
    · have p1 : ¬ (b.cpys.length : Int) < (b.cpys.length : Int) := by omega
      simp only [Book.e, jA, jB, jC, jD, jE, jF, jG, jH, call1, call2, call3, call4, call5, call6, call7, call8, call13, call15, call16, call17, call19, call21, jI, jJ, jK, jL, jM, jN, jO, jP, jQ, jR, jS, jT, jU, jV, jW, jX, jY, nils, rows, jZ, ja, jb, jc, jd]
      simp only [w_wsBook.d2, jA, jB, jC, jD, jE, jF, jG, jH, call1, call2, call3, call4, call5, call6, call7, call8, call13, call15, call16, call17, call19, call21, jI, jJ, jK, jL, jM, jN, jO, jP, jQ, jR, jS, jT, jU, jV, jW, jX, jY, nils, rows, jZ, ja, jb, jc, jd, p1]
  have l3 : lim (fun xs => w_wsBook.d3 (xs.getD 0 .nil) (xs.getD 1 .nil) (xs.getD 2 .nil) (xs.getD 3 .nil) (xs.getD 4 .nil) (xs.getD 5 .nil) (xs.getD 6 .nil) (xs.getD 7 .nil) (xs.getD 8 .nil)) (.i 0 :: (b.e ++ b.e)) = some (.brk 4 []) := by
    refine ws_loop b.brts.length 4 (b.e ++ b.e) _ (by omega) (fun i hlt => ?_) ?_
    · have w1 : w64 ((i : Int) + 1) = ((i + 1 : Nat) : Int) := w64_nat (n := i + 1) (by omega)
      have p1 : (i : Int) < (b.brts.length : Int) := by omega
      have g1 : (b.brts.map Brt.e).getD i [] = b.brts[i].e := getD_map_lt Brt.e hlt []
      simp only [Book.e, jA, jB, jC, jD, jE, jF, jG, jH, call1, call2, call3, call4, call5, call6, call7, call8, call13, call15, call16, call17, call19, call21, jI, jJ, jK, jL, jM, jN, jO, jP, jQ, jR, jS, jT, jU, jV, jW, jX, jY, nils, rows, jZ, ja, jb, jc, jd]
      simp only [w_wsBook.d3, jA, jB, jC, jD, jE, jF, jG, jH, call1, call2, call3, call4, call5, call6, call7, call8, call13, call15, call16, call17, call19, call21, jI, jJ, jK, jL, jM, jN, jO, jP, jQ, jR, jS, jT, jU, jV, jW, jX, jY, nils, rows, jZ, ja, jb, jc, jd, p1, g1, Brt.e, beq_self_eq_true, Bool.and_self, w1]
    · have p1 : ¬ (b.brts.length : Int) < (b.brts.length : Int) := by omega
      simp only [Book.e, jA, jB, jC, jD, jE, jF, jG, jH, call1, call2, call3, call4, call5, call6, call7, call8, call13, call15, call16, call17, call19, call21, jI, jJ, jK, jL, jM, jN, jO, jP, jQ, jR, jS, jT, jU, jV, jW, jX, jY, nils, rows, jZ, ja, jb, jc, jd]
      simp only [w_wsBook.d3, jA, jB, jC, jD, jE, jF, jG, jH, call1, call2, call3, call4, call5, call6, call7, call8, call13, call15, call16, call17, call19, call21, jI, jJ, jK, jL, jM, jN, jO, jP, jQ, jR, jS, jT, jU, jV, jW, jX, jY, nils, rows, jZ, ja, jb, jc, jd, p1]
  have ne : ∀ n : Int, (n != n) = false := fun n => by simp
  simp only [Book.e, jA, jB, jC, jD, jE, jF, jG, jH, call1, call2, call3, call4, call5, call6, call7, call8, call13, call15, call16, call17, call19, call21, jI, jJ, jK, jL, jM, jN, jO, jP, jQ, jR, jS, jT, jU, jV, jW, jX, jY, nils, rows, jZ, ja, jb, jc, jd] at l1 l2 l3
  simp only [w_wsBook, w_wsBook.d7, Book.e, jA, jB, jC, jD, jE, jF, jG, jH, call1, call2, call3, call4, call5, call6, call7, call8, call13, call15, call16, call17, call19, call21, jI, jJ, jK, jL, jM, jN, jO, jP, jQ, jR, jS, jT, jU, jV, jW, jX, jY, nils, rows, jZ, ja, jb, jc, jd, ne]
  rw [l1]
  simp only [jA, jB, jC, jD, jE, jF, jG, jH, call1, call2, call3, call4, call5, call6, call7, call8, call13, call15, call16, call17, call19, call21, jI, jJ, jK, jL, jM, jN, jO, jP, jQ, jR, jS, jT, jU, jV, jW, jX, jY, nils, rows, jZ, ja, jb, jc, jd, w_wsBook.d6]
  rw [l2]
  simp only [jA, jB, jC, jD, jE, jF, jG, jH, call1, call2, call3, call4, call5, call6, call7, call8, call13, call15, call16, call17, call19, call21, jI, jJ, jK, jL, jM, jN, jO, jP, jQ, jR, jS, jT, jU, jV, jW, jX, jY, nils, rows, jZ, ja, jb, jc, jd, w_wsBook.d5]
  rw [l3]
  rfl
theorem ranks_len (b : Book) (hb : Big b) : ∃ zs : List Int, i_StewRank b.e = some [.l (zs.map inE)] ∧ s_StewRank b.e = some [.l (zs.map inE)] ∧ zs.length = 5 ∧ (doneB b = true → zs = [0, 0, 0, 0, 0]) := by
  cases hv : validB b with
  | true =>
    have hbn := validB_bnd hv hb.w
    refine ⟨rankZ b, i_StewRank_eq b hbn hv, s_StewRank_eq b hbn hv, rfl, fun h => ?_⟩
    simp only [doneB, Bool.and_eq_true] at h
    have hz := h.2.1
    simp only [rankZ, List.all_cons, List.all_nil, Bool.and_true, Bool.and_eq_true, beq_iff_eq] at hz
    obtain ⟨z0, z1, z2, z3, z4⟩ := hz
    rw [rankZ, z0, z1, z2, z3, z4]
  | false =>
    have e0 := i_StewValid_eq b hb.small hb.w.toNames
    have e1 := s_StewValid_eq b hb.small hb.w.toNames
    rw [hv] at e0 e1
    simp only [Book.e, jA, jB, jC, jD, jE, jF, jG, jH, call1, call2, call3, call4, call5, call6, call7, call8, call13, call15, call16, call17, call19, call21, jI, jJ, jK, jL, jM, jN, jO, jP, jQ, jR, jS, jT, jU, jV, jW, jX, jY, nils, rows, jZ, ja, jb, jc, jd] at e0 e1
    refine ⟨[0, 0, 0, 0, 0], ?_, ?_, rfl, fun _ => rfl⟩
    · simp only [i_StewRank, i_StewRank.d7, Book.e, jA, jB, jC, jD, jE, jF, jG, jH, call1, call2, call3, call4, call5, call6, call7, call8, call13, call15, call16, call17, call19, call21, jI, jJ, jK, jL, jM, jN, jO, jP, jQ, jR, jS, jT, jU, jV, jW, jX, jY, nils, rows, jZ, ja, jb, jc, jd, e0]; rfl
    · simp only [s_StewRank, s_StewRank.d7, Book.e, jA, jB, jC, jD, jE, jF, jG, jH, call1, call2, call3, call4, call5, call6, call7, call8, call13, call15, call16, call17, call19, call21, jI, jJ, jK, jL, jM, jN, jO, jP, jQ, jR, jS, jT, jU, jV, jW, jX, jY, nils, rows, jZ, ja, jb, jc, jd, e1]; rfl
theorem FnStewDone_true (z : List Int) (hz : ∀ n, n ∈ z → 0 ≤ n ∧ n ≤ 255) : w_FnStewDone [.l (z.map inE)] = some [.b true] := by
  simp only [w_FnStewDone, w_FnStewDone.d3, jA, jB, jC, jD, jE, jF, jG, jH, call1, call2, call3, call4, call5, call6, call7, call8, call13, call15, call16, call17, call19, call21, jI, jJ, jK, jL, jM, jN, jO, jP, jQ, jR, jS, jT, jU, jV, jW, jX, jY, nils, rows, jZ, ja, jb, jc, jd]
  by_cases hbig : (z.length : Int) > 1048576
  · simp only [hbig, jA, jB, jC, jD, jE, jF, jG, jH, call1, call2, call3, call4, call5, call6, call7, call8, call13, call15, call16, call17, call19, call21, jI, jJ, jK, jL, jM, jN, jO, jP, jQ, jR, jS, jT, jU, jV, jW, jX, jY, nils, rows, jZ, ja, jb, jc, jd]
  · obtain ⟨b, e1, hb⟩ := s_DrawStewDone_ex z hz
    have e2 := i_StewDone_eq b hb
    have e3 := s_StewDone_eq b hb
    obtain ⟨zs, e4, e5, h5, hzs⟩ := ranks_len b hb
    have e6 := w_wsCodes_eq zs (by omega)
    have bb : (doneB b == doneB b) = true := by simp
    have n5 : ((zs.length : Int) != 5) = false := by rw [h5]; rfl
    simp only [Book.e] at e1 e2 e3 e4 e5
    simp only [hbig, jA, jB, jC, jD, jE, jF, jG, jH, call1, call2, call3, call4, call5, call6, call7, call8, call13, call15, call16, call17, call19, call21, jI, jJ, jK, jL, jM, jN, jO, jP, jQ, jR, jS, jT, jU, jV, jW, jX, jY, nils, rows, jZ, ja, jb, jc, jd, e1, e2, e3, e4, e5, e6, bb, n5]
    have asks : ∀ (n : Nat) (k : Nat) (acc : Int), n + k = 7 → (doneB b = true → acc = 0) → ∃ acc' : Int, lim (fun xs => w_FnStewDone.d1 (xs.getD 0 .nil) (xs.getD 1 .nil) (xs.getD 2 .nil) (xs.getD 3 .nil) (xs.getD 4 .nil) (xs.getD 5 .nil) (xs.getD 6 .nil) (xs.getD 7 .nil)) [.b (doneB b), .i acc, .i (k : Nat), .i b.now, .l (b.svcs.map Svc.e), .l (b.cpys.map Cpy.e), .l (b.brts.map Brt.e), .l (zs.map inE)] = some (.brk 0 [.b (doneB b), .i acc', .i b.now, .l (b.svcs.map Svc.e), .l (b.cpys.map Cpy.e), .l (b.brts.map Brt.e), .l (zs.map inE)]) ∧ (doneB b = true → acc' = 0) := by
      intro n
      induction n with
      | zero =>
        intro k acc hk h0
        have p1 : ¬ (k : Int) ≤ 6 := by omega
        refine ⟨acc, lim_brk ?_, h0⟩
        simp only [jA, jB, jC, jD, jE, jF, jG, jH, call1, call2, call3, call4, call5, call6, call7, call8, call13, call15, call16, call17, call19, call21, jI, jJ, jK, jL, jM, jN, jO, jP, jQ, jR, jS, jT, jU, jV, jW, jX, jY, nils, rows, jZ, ja, jb, jc, jd]
        simp only [w_FnStewDone.d1, jA, jB, jC, jD, jE, jF, jG, jH, call1, call2, call3, call4, call5, call6, call7, call8, call13, call15, call16, call17, call19, call21, jI, jJ, jK, jL, jM, jN, jO, jP, jQ, jR, jS, jT, jU, jV, jW, jX, jY, nils, rows, jZ, ja, jb, jc, jd, p1]
      | succ n ih =>
        intro k acc hk h0
        obtain ⟨L, f1, hl, hL⟩ := i_StewAsk_ex (k : Int) b hb
        simp only [Book.e] at f1
        have w1 : w64 ((k : Int) + 1) = ((k + 1 : Nat) : Int) := w64_nat (n := k + 1) (by omega)
        have p1 : (k : Int) ≤ 6 := by omega
        obtain ⟨acc', g1, g2⟩ := ih (k + 1) (w64 (acc + (L.length : Int))) (by omega) (fun h => by rw [hL h, h0 h]; rfl)
        refine ⟨acc', ?_, g2⟩
        rw [lim_again (ys := [.b (doneB b), .i (w64 (acc + (L.length : Int))), .i ((k + 1 : Nat) : Int), .i b.now, .l (b.svcs.map Svc.e), .l (b.cpys.map Cpy.e), .l (b.brts.map Brt.e), .l (zs.map inE)])]
        · exact g1
        · simp only [jA, jB, jC, jD, jE, jF, jG, jH, call1, call2, call3, call4, call5, call6, call7, call8, call13, call15, call16, call17, call19, call21, jI, jJ, jK, jL, jM, jN, jO, jP, jQ, jR, jS, jT, jU, jV, jW, jX, jY, nils, rows, jZ, ja, jb, jc, jd]
          simp only [w_FnStewDone.d1, jA, jB, jC, jD, jE, jF, jG, jH, call1, call2, call3, call4, call5, call6, call7, call8, call13, call15, call16, call17, call19, call21, jI, jJ, jK, jL, jM, jN, jO, jP, jQ, jR, jS, jT, jU, jV, jW, jX, jY, nils, rows, jZ, ja, jb, jc, jd, p1, f1, w1]
    obtain ⟨acc, g1, g2⟩ := asks 6 1 0 rfl (fun _ => rfl)
    have one : ((1 : Nat) : Int) = 1 := rfl
    rw [one] at g1
    rw [g1]
    simp only [jA, jB, jC, jD, jE, jF, jG, jH, call1, call2, call3, call4, call5, call6, call7, call8, call13, call15, call16, call17, call19, call21, jI, jJ, jK, jL, jM, jN, jO, jP, jQ, jR, jS, jT, jU, jV, jW, jX, jY, nils, rows, jZ, ja, jb, jc, jd, w_FnStewDone.d2]
    cases hd : doneB b <;> simp only [jA, jB, jC, jD, jE, jF, jG, jH, call1, call2, call3, call4, call5, call6, call7, call8, call13, call15, call16, call17, call19, call21, jI, jJ, jK, jL, jM, jN, jO, jP, jQ, jR, jS, jT, jU, jV, jW, jX, jY, nils, rows, jZ, ja, jb, jc, jd]
    have hv : validB b = true := by simp only [doneB, Bool.and_eq_true] at hd; exact hd.1
    have hbn := validB_bnd hv hb.w
    have ws := w_wsBook_eq b hbn
    have hnow : 0 ≤ b.now ∧ b.now ≤ 1000000 := by
      simp only [validB, Bool.and_eq_true, within, decide_eq_true_eq] at hv
      exact hv.1.1.1.1.1.1
    have w1 : w64 (b.now + 1 - 1) = b.now := by rw [w64_of (by omega) (by omega)]; omega
    rw [hzs hd, g2 hd]
    have z1 : w64 (0 + 0) = 0 := rfl
    have t1 : ((0 : Int) == 0) = true := rfl
    have t2 : ((7 : Int) == 7) = true := rfl
    have t3 : ((0 : Int) == 7) = false := rfl
    have l5 : (([0, 0, 0, 0, 0] : List Int).length : Int) = 5 := rfl
    have d0 : (0 : Int) < 5 := by omega
    have d1 : (1 : Int) < 5 := by omega
    have d2 : (2 : Int) < 5 := by omega
    have d3 : (3 : Int) < 5 := by omega
    have d4 : (4 : Int) < 5 := by omega
    simp only [Book.e, jA, jB, jC, jD, jE, jF, jG, jH, call1, call2, call3, call4, call5, call6, call7, call8, call13, call15, call16, call17, call19, call21, jI, jJ, jK, jL, jM, jN, jO, jP, jQ, jR, jS, jT, jU, jV, jW, jX, jY, nils, rows, jZ, ja, jb, jc, jd] at ws
    rcases i_StewSea_done b hb hd with e7 | e7
    · simp only [Book.e, Book.r2, jA, jB, jC, jD, jE, jF, jG, jH, call1, call2, call3, call4, call5, call6, call7, call8, call13, call15, call16, call17, call19, call21, jI, jJ, jK, jL, jM, jN, jO, jP, jQ, jR, jS, jT, jU, jV, jW, jX, jY, nils, rows, jZ, ja, jb, jc, jd] at e7
      simp only [e7, jA, jB, jC, jD, jE, jF, jG, jH, call1, call2, call3, call4, call5, call6, call7, call8, call13, call15, call16, call17, call19, call21, jI, jJ, jK, jL, jM, jN, jO, jP, jQ, jR, jS, jT, jU, jV, jW, jX, jY, nils, rows, jZ, ja, jb, jc, jd, t1, t2, l5, d0, d1, d2, d3, d4, List.map_cons, List.map_nil, inE, z1]
    · simp only [Book.e, Book.r2, jA, jB, jC, jD, jE, jF, jG, jH, call1, call2, call3, call4, call5, call6, call7, call8, call13, call15, call16, call17, call19, call21, jI, jJ, jK, jL, jM, jN, jO, jP, jQ, jR, jS, jT, jU, jV, jW, jX, jY, nils, rows, jZ, ja, jb, jc, jd] at e7
      simp only [e7, jA, jB, jC, jD, jE, jF, jG, jH, call1, call2, call3, call4, call5, call6, call7, call8, call13, call15, call16, call17, call19, call21, jI, jJ, jK, jL, jM, jN, jO, jP, jQ, jR, jS, jT, jU, jV, jW, jX, jY, nils, rows, jZ, ja, jb, jc, jd, t1, t2, t3, l5, d0, d1, d2, d3, d4, List.map_cons, List.map_nil, inE, z1, w1, ws]
end Go.Ev
namespace Go.Ev
open Go.RowKit
def IsRow (k : IntKind) (w : World) (a : Option Addr) (len cap : Nat) (zs : List Int) : Prop :=
  (a = none ∧ len = 0 ∧ cap = 0 ∧ zs = []) ∨
  ∃ x, a = some x ∧ len ≤ cap ∧ cap ≤ maxLen ∧ zs.length = cap ∧ (∀ i, i < zs.length → w.cell? (x.add i) = some (.int k (zs.getD i 0))) ∧ ∀ n ∈ zs, (Lit.int k n).wf = true
theorem cell_some {w : World} {a : Addr} {v : Value} (h : w.cell? a = some v) : a.block < w.heap.size ∧ a.spot = none := by
  simp only [World.cell?] at h
  split at h
  · rename_i c _ _ hb
    refine ⟨?_, ?_⟩
    · exact (Array.getElem?_eq_some_iff.1 hb).1
    · split at h
      · simp at h
      · rename_i hs; simpa using hs
  · simp at h
theorem relc_bytes {T : Tys} {F : Nat → Prop} {w : World} {a : Option Addr} {len cap : Nat} {zs : List Int} {t : TypeId} {d : TD} (hd : tget T t = some d) (hcts : d.cts = [.int .u8]) (hF : ∀ k, k < w.heap.size → F k) (h : IsRow .u8 w a len cap zs) :
    RelC T F w (.sl t) (.l ((zs.take len).map inE)) (.slice a len cap) := by
  rcases h with ⟨rfl, rfl, rfl, rfl⟩ | ⟨x, rfl, hl, hm, hz, hc, hw⟩
  · exact .sl0 t none 0
  · rcases Nat.eq_zero_or_pos len with h0 | h0
    · subst h0
      rw [List.take_zero, List.map_nil]
      exact .sl0 t (some x) cap
    · have hc0 := hc 0 (by omega)
      have hx := cell_some hc0
      rw [Addr.add, if_pos rfl] at hx
      obtain ⟨g, o, sp⟩ := x
      obtain ⟨hg, hsp⟩ := hx
      simp only at hsp; subst hsp
      have hlen : ((zs.take len).map inE).length = len := by simp; omega
      have key := RelC.sl (T := T) (F := F) (w := w) t d ((zs.take len).map inE) g o cap (fun i _ => .int .u8 (zs.getD i 0)) hd (hF _ hg) (by omega)
        (fun i cs hi => by
          simp only [List.getElem?_map, Option.map_eq_some_iff] at hi
          obtain ⟨n, _, rfl⟩ := hi
          rw [hcts]; rfl)
        (fun i cs j c hi hj => by
          have hil : i < len := by
            have := (List.getElem?_eq_some_iff.1 hi).1
            omega
          simp only [List.getElem?_map, Option.map_eq_some_iff] at hi
          obtain ⟨n, hn, rfl⟩ := hi
          have hj0 : j = 0 := by
            have := (List.getElem?_eq_some_iff.1 hj).1
            simp only [inE, List.length_cons, List.length_nil] at this; omega
          subst hj0
          have h1 := hc i (by omega)
          rw [hcts]
          have ha : Addr.add ⟨g, o, none⟩ i = ⟨g, o + (i * [CT.int .u8].length + 0), none⟩ := by
            rw [Addr.add]; split
            · rename_i h; subst h; simp
            · simp
          rw [← ha]; exact h1)
        (fun i cs j c t' hi hj ht => by
          have hil : i < len := by
            have := (List.getElem?_eq_some_iff.1 hi).1
            omega
          simp only [List.getElem?_map, Option.map_eq_some_iff] at hi
          obtain ⟨n, hn, rfl⟩ := hi
          have hj0 : j = 0 := by
            have := (List.getElem?_eq_some_iff.1 hj).1
            simp only [inE, List.length_cons, List.length_nil] at this; omega
          subst hj0
          rw [hcts] at ht
          simp only [List.getElem?_cons_zero, Option.some.injEq] at ht
          subst ht
          simp only [inE, List.getElem?_cons_zero, Option.some.injEq] at hj
          subst hj
          rw [List.getElem?_take, if_pos hil] at hn
          rw [List.getD_eq_getElem?_getD, hn]
          exact .int .u8 n)
      rw [hlen] at key
      exact key
theorem wf_byte {n : Int} (h : (Lit.int .u8 n).wf = true) : 0 ≤ n ∧ n ≤ 255 := by
  simp only [Lit.wf, Bool.and_eq_true, decide_eq_true_eq] at h
  exact h
theorem IsRow.bytes {w : World} {a : Option Addr} {len cap : Nat} {zs : List Int} (h : IsRow .u8 w a len cap zs) : ∀ n, n ∈ zs.take len → 0 ≤ n ∧ n ≤ 255 := by
  intro n hn
  have hn' := List.mem_of_mem_take hn
  rcases h with ⟨_, _, _, rfl⟩ | ⟨x, _, _, _, _, _, hw⟩
  · simp at hn'
  · exact wf_byte (hw n hn')
theorem law1 {P : Program} {T : Tys} {f t : Nat} {d : TD} {Fn : List C → Option (List C)} (hf : FSOk P T f ⟨1, ⟨[(0, .d (.sl t))], []⟩, ⟨[(0, .d .bool)], []⟩, [], Fn⟩) (hd : tget T t = some d) (hcts : d.cts = [.int .u8])
    (a : Option Addr) (len cap : Nat) (zs : List Int) (W : World) (h : IsRow .u8 W a len cap zs) (hF : Fn [.l ((zs.take len).map inE)] = some [.b true]) :
    Calls P f #[.slice a len cap] W fun e W' => e = .returned (.bool true) ∧ Below W.heap.size W W' := by
  refine (hf.calls W (fun _ => False) (fun k => k < W.heap.size) (fun _ => .bool false) [.l ((zs.take len).map inE)] [.b true] #[.slice a len cap] ?_ rfl ?_ hF).mono ?_
  · exact ⟨fun b x h => (by cases h), fun b b' x x' g h => (by cases h), fun b x g h => (by cases h), fun k h => h, ⟨rfl, rfl, rfl, Nat.le_refl _, fun _ _ _ => rfl⟩, fun k h => h, fun k h => .inl h, fun n hn => (by cases hn)⟩
  · intro k hk
    have : k = 0 := by simp only at hk; omega
    subst this
    exact .c _ _ _ (relc_bytes hd hcts (fun k hk => hk) h)
  · rintro e W' ⟨v, F1, θ1, rfl, hw, hv, _⟩
    have hv' : RelV T F1 W' _ θ1 (.c .bool (.b true)) v := hv
    cases hv' with
    | c _ _ _ h =>
      cases h
      exact ⟨rfl, ⟨hw.keep.os, hw.keep.tape, hw.keep.output, hw.keep.size, fun k hk => hw.keep.old k hk (fun h => h)⟩⟩
end Go.Ev
