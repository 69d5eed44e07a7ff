/-
What is proved: the program's check of a system answers as the reference's, or escapes; what laws.FnSystemFinal does to trees: it returns true, or escapes. No condition but the lengths that each states. how a code that a law takes reads: a slice of bytes. No program's text is walked. a law whose lone run over the second program answers true over trees, or escapes, does so for every code that came in ('law_of_tree'). Conditions: those that the theorem states. the statement FnSystemFinalSaid: for every code the law returns true, and the code reads behind the call as it read before. No condition.
-/
import Derived.Test.YtjklkppncmhehaaSf39
import Derived.Test.YtjklkppncmhehaaSf42
import Derived.Test.YtjklkppncmhehaaRows
import Derived.Test.YtjklkppncmhehaaSf33
import Derived.WalkKit
import Derived.ProofKit
import Derived.OpenShut
import Derived.ChangeOld
import Derived.Lib.SmallJoins
import Derived.Test.YtjklkppncmhehaaSf25
import Derived.Test.YtjklkppncmhehaaSf41
import Derived.Conc.LeavingOf
set_option linter.unusedVariables false
set_option linter.unusedSimpArgs false
namespace Go.Proofs.Ytjklkppncmhehaa.T
open Go Go.RowKit
set_option maxRecDepth 100000
set_option maxHeartbeats 4000000
variable {E : List PanicEntry → World → Prop}
theorem less_ne {t g t' g' : Int} (h : lessB t g t' g' = true) : (decide (t = t') && decide (g = g')) = false := by
  simp only [lessB, decide_eq_true_eq] at h; simp only [Bool.and_eq_false_iff, decide_eq_false_iff_not]; omega
theorem cpB_eq {a b : GrpD} (ha : groupB a = true) (hb : groupB b = true) (m : Int) : cpB a b m = pairB a b m := by
  unfold cpB pairB vsB vsD; rw [ha, hb]; simp only [Bool.true_and, if_true]; have hsym : (decide ((stD b m).t = (stD a m).t) && decide ((stD b m).g = (stD a m).g)) = (decide ((stD a m).t = (stD b m).t) && decide ((stD a m).g = (stD b m).g)) := by
    rw [Bool.eq_iff_iff]; simp only [Bool.and_eq_true, decide_eq_true_eq]; exact ⟨fun h => ⟨h.1.symm, h.2.symm⟩, fun h => ⟨h.1.symm, h.2.symm⟩⟩
  rw [hsym]
  cases hl : lessB (stD a m).t (stD a m).g (stD b m).t (stD b m).g
  · cases (stD b m).f <;> simp
  · rw [less_ne hl]
    cases (stD b m).f <;> simp
theorem consB_eq {gs : List GrpD} (h5 : gs.length = 5) (h : allB gs.length (idB gs) = true) (m : Nat) : consB gs m = msgB gs m := by
  have hv : ∀ i, i < 5 → groupB (gAt gs i) = true := fun i hi => by
    rw [allB_iff] at h; have := h i (by omega)
    simp only [idB, Bool.and_eq_true] at this; exact this.1
  rw [Bool.eq_iff_iff, consB, msgB, h5, allB_iff, allB_iff]; refine forall_congr' fun i => forall_congr' fun hi => ?_; rw [crB, rowB, h5, allB_iff, allB_iff]; refine forall_congr' fun k => forall_congr' fun hk => ?_; rw [cpB_eq (hv i hi) (hv k hk)]
theorem SystemValid_T (gs : List GrpD) (h : sysLe gs 4294967290) : TC Tw.prog escE 10 [gR (sysT gs)] 0 [] (gB (sysB gs)) [] := by
  have hlen : gs.length ≤ maxLen := by have := h.1; simp only [maxLen]; omega
  refine TC.enter Tw.func10 rfl (by kernel_rfl) Tw.ntmps10 (by rw [Try.results10]) (by simp) (Fits.nil rfl) ?_
  by_cases h5 : gs.length = 5
  · (repeat' first | refine TW.seq ?_ | refine TW.block ?_ | ((first | refine TW.skip ?_ | refine TW.exit ?_ | refine TW.ret ?_); (try simp only [tQ, bQ, if_true, Nat.reduceEqDiff, reduceIte])) | (refine TW.reg Td.mixed rfl fun C K hC hK => ?_; simp [h5]; (repeat' first | refine And.intro ?_ ?_ | intro _ | refine iteI ?_ ?_ | (show (_ : Bool) = true; kernel_rfl) | (show _ ≤ _; first | omega | (simp; done) | (simp; omega)) | exact Or.inl rfl | (show _ < _; omega)); all_goals (refine hK _ ?_; clear hC hK C K; try simp only [tQ, bQ])) | (refine TW.cond rfl ?_ ?_ <;> intro hc <;> (try (cases hc; done))))
    refine TW.loop (fun (k : Nat) => ⟨[(0, gR (sysT gs)), (9, gR (sysT gs)), (10, gI .i64 5), (11, gI .i64 (k : Nat))], [], 0⟩) (fun k => k ≤ 5 ∧ ∀ i, i < k → idB gs i = true) (fun k => 5 - k) 0 ⟨by omega, fun i hi => by omega⟩ (Wk.same (by simp) (by simp) (by simp)) fun k hk => ?_
    obtain ⟨hk, hf⟩ := hk; by_cases hlt : k < 5
    · have he := gAt_some (gs := gs) (i := k) (by omega)
      have hV := GroupValid_T (E := escE) (gAt gs k) (h.2 _ (List.mem_of_getElem? he)); rw [validB_eq] at hV; have hltI : (k : Int) < 5 := by omega
      have hw1 : IntKind.i64.wrap ((k : Int) + 1) = (k : Int) + 1 := wrap_ok (by omega) (by omega)
      have hset : idB gs k = (groupB (gAt gs k) && decide ((gAt gs k).id = k)) := rfl
      have hq : sysB gs = false ∨ idB gs k = true := by
        cases h : idB gs k
        · exact .inl (by simp [sysB, allB_false (show k < gs.length by omega) h])
        · exact .inr rfl
      generalize gAt gs k = G at he hV hset
      cases hv : groupB G
      · rw [hv] at hV hset
        (repeat' first | refine TW.seq ?_ | refine TW.block ?_ | ((first | refine TW.skip ?_ | refine TW.exit ?_ | refine TW.ret ?_); (try simp only [tQ, bQ, if_true, Nat.reduceEqDiff, reduceIte])) | (refine TW.reg Td.mixed rfl fun C K hC hK => ?_; simp [hltI, he, grpT, hw1]; (repeat' first | refine And.intro ?_ ?_ | intro _ | refine iteI ?_ ?_ | (show (_ : Bool) = true; kernel_rfl) | (show _ ≤ _; first | omega | (simp; done) | (simp; omega)) | exact Or.inl rfl | (show _ < _; omega) | ((first | refine hC _ _ _ _ _ rfl (aC.plain rfl rfl (by simp; rfl) (by exact hV) (by simp) (by simp) ?_)); simp [hltI, he, grpT, hw1])); all_goals (refine hK _ ?_; clear hC hK C K; try simp only [tQ, bQ])) | (refine TW.cond rfl ?_ ?_ <;> intro hc <;> (try (cases hc; done))))
        refine Rets.nil (r := gB (sysB gs)) ?_ rfl; rcases hq with hq | hq
        · simp [hq]
        · rw [hset] at hq; cases hq
      · rw [hv] at hV hset
        by_cases hid : G.id = k
        · have hV2 := hV
          simp only [grpT, hid, List.map_cons, List.map_nil] at hV2; (repeat' first | refine TW.seq ?_ | refine TW.block ?_ | ((first | refine TW.skip ?_ | refine TW.exit ?_ | refine TW.ret ?_); (try simp only [tQ, bQ, if_true, Nat.reduceEqDiff, reduceIte])) | (refine TW.reg Td.mixed rfl fun C K hC hK => ?_; simp [hltI, he, grpT, hw1, hid]; (repeat' first | refine And.intro ?_ ?_ | intro _ | refine iteI ?_ ?_ | (show (_ : Bool) = true; kernel_rfl) | (show _ ≤ _; first | omega | (simp; done) | (simp; omega)) | exact Or.inl rfl | (show _ < _; omega) | ((first | refine hC _ _ _ _ _ rfl (aC.plain rfl rfl (by simp; rfl) (by exact hV2) (by simp) (by simp) ?_)); simp [hltI, he, grpT, hw1, hid])); all_goals (refine hK _ ?_; clear hC hK C K; try simp only [tQ, bQ])) | (refine TW.cond rfl ?_ ?_ <;> intro hc <;> (try (cases hc; done))))
          refine ⟨k + 1, ⟨by omega, fun i hi => ?_⟩, by omega, Wk.same (by simp) (by simp) (by simp)⟩
          by_cases e : i = k
          · subst e; rw [hset]; simpa using hid
          · exact hf i (by omega)
        · (repeat' first | refine TW.seq ?_ | refine TW.block ?_ | ((first | refine TW.skip ?_ | refine TW.exit ?_ | refine TW.ret ?_); (try simp only [tQ, bQ, if_true, Nat.reduceEqDiff, reduceIte])) | (refine TW.reg Td.mixed rfl fun C K hC hK => ?_; simp [hltI, he, grpT, hw1, hid]; (repeat' first | refine And.intro ?_ ?_ | intro _ | refine iteI ?_ ?_ | (show (_ : Bool) = true; kernel_rfl) | (show _ ≤ _; first | omega | (simp; done) | (simp; omega)) | exact Or.inl rfl | (show _ < _; omega) | ((first | refine hC _ _ _ _ _ rfl (aC.plain rfl rfl (by simp; rfl) (by exact hV) (by simp) (by simp) ?_)); simp [hltI, he, grpT, hw1, hid])); all_goals (refine hK _ ?_; clear hC hK C K; try simp only [tQ, bQ])) | (refine TW.cond rfl ?_ ?_ <;> intro hc <;> (try (cases hc; done))))
          refine Rets.nil (r := gB (sysB gs)) ?_ rfl; rcases hq with hq | hq
          · simp [hq]
          · rw [hset] at hq; simp [hid] at hq
    · obtain rfl : k = 5 := by omega
      have hall : allB gs.length (idB gs) = true := allB_true (by rw [h5]; exact hf)
      have hcm := consB_eq h5 hall; clear hf hk hlt; (repeat' first | refine TW.seq ?_ | refine TW.block ?_ | ((first | refine TW.skip ?_ | refine TW.exit ?_ | refine TW.ret ?_); (try simp only [tQ, bQ, if_true, Nat.reduceEqDiff, reduceIte])) | (refine TW.reg Td.mixed rfl fun C K hC hK => ?_; simp; (repeat' first | refine And.intro ?_ ?_ | intro _ | refine iteI ?_ ?_ | (show (_ : Bool) = true; kernel_rfl) | (show _ ≤ _; first | omega | (simp; done) | (simp; omega)) | exact Or.inl rfl | (show _ < _; omega)); all_goals (refine hK _ ?_; clear hC hK C K; try simp only [tQ, bQ])) | (refine TW.cond rfl ?_ ?_ <;> intro hc <;> (try (cases hc; done))))
      refine TW.loop (fun (m : Nat) => ⟨[(0, gR (sysT gs)), (26, gI .i64 (m : Nat))], [], 0⟩) (fun m => m ≤ 12 ∧ ∀ i, i < m → msgB gs i = true) (fun m => 12 - m) 0 ⟨by omega, fun i hi => by omega⟩ (Wk.same (by simp) (by simp) (by simp)) fun m hm => ?_
      obtain ⟨hm, hf⟩ := hm; by_cases hlt : m < 12
      · have hCo := consistent_T gs (m : Int) h h5
        rw [hcm] at hCo; have hltI : (m : Int) < 12 := by omega
        have hw1 : IntKind.i64.wrap ((m : Int) + 1) = (m : Int) + 1 := wrap_ok (by omega) (by omega)
        cases hms : msgB gs m
        · rw [hms] at hCo
          rw [show sysB gs = false by rw [sysB, allB_false hlt hms, Bool.and_false]]
          (repeat' first | refine TW.seq ?_ | refine TW.block ?_ | ((first | refine TW.skip ?_ | refine TW.exit ?_ | refine TW.ret ?_); (try simp only [tQ, bQ, if_true, Nat.reduceEqDiff, reduceIte])) | (refine TW.reg Td.mixed rfl fun C K hC hK => ?_; simp [hltI, hw1]; (repeat' first | refine And.intro ?_ ?_ | intro _ | refine iteI ?_ ?_ | (show (_ : Bool) = true; kernel_rfl) | (show _ ≤ _; first | omega | (simp; done) | (simp; omega)) | exact Or.inl rfl | (show _ < _; omega) | ((first | refine hC _ _ _ _ _ rfl (aC.plain rfl rfl (by simp; rfl) (by exact hCo) (by simp) (by simp) ?_)); simp [hltI, hw1])); all_goals (refine hK _ ?_; clear hC hK C K; try simp only [tQ, bQ])) | (refine TW.cond rfl ?_ ?_ <;> intro hc <;> (try (cases hc; done))))
          refine Rets.own [] [] (by simp; rfl) (by simp) (by simp) (by simp) (by simp) (by simp)
        · rw [hms] at hCo
          (repeat' first | refine TW.seq ?_ | refine TW.block ?_ | ((first | refine TW.skip ?_ | refine TW.exit ?_ | refine TW.ret ?_); (try simp only [tQ, bQ, if_true, Nat.reduceEqDiff, reduceIte])) | (refine TW.reg Td.mixed rfl fun C K hC hK => ?_; simp [hltI, hw1]; (repeat' first | refine And.intro ?_ ?_ | intro _ | refine iteI ?_ ?_ | (show (_ : Bool) = true; kernel_rfl) | (show _ ≤ _; first | omega | (simp; done) | (simp; omega)) | exact Or.inl rfl | (show _ < _; omega) | ((first | refine hC _ _ _ _ _ rfl (aC.plain rfl rfl (by simp; rfl) (by exact hCo) (by simp) (by simp) ?_)); simp [hltI, hw1])); all_goals (refine hK _ ?_; clear hC hK C K; try simp only [tQ, bQ])) | (refine TW.cond rfl ?_ ?_ <;> intro hc <;> (try (cases hc; done))))
          refine ⟨m + 1, ⟨by omega, fun i hi => ?_⟩, by omega, Wk.same (by simp) (by simp) (by simp)⟩
          by_cases e : i = m
          · subst e; exact hms
          · exact hf i (by omega)
      · obtain rfl : m = 12 := by omega
        rw [show sysB gs = true by rw [sysB, hall, allB_true hf]; simp [h5]]
        (repeat' first | refine TW.seq ?_ | refine TW.block ?_ | ((first | refine TW.skip ?_ | refine TW.exit ?_ | refine TW.ret ?_); (try simp only [tQ, bQ, if_true, Nat.reduceEqDiff, reduceIte])) | (refine TW.reg Td.mixed rfl fun C K hC hK => ?_; simp; (repeat' first | refine And.intro ?_ ?_ | intro _ | refine iteI ?_ ?_ | (show (_ : Bool) = true; kernel_rfl) | (show _ ≤ _; first | omega | (simp; done) | (simp; omega)) | exact Or.inl rfl | (show _ < _; omega)); all_goals (refine hK _ ?_; clear hC hK C K; try simp only [tQ, bQ])) | (refine TW.cond rfl ?_ ?_ <;> intro hc <;> (try (cases hc; done))))
        refine Rets.own [] [] (by simp; rfl) (by simp) (by simp) (by simp) (by simp) (by simp)
  · rw [show sysB gs = false by simp [sysB, h5]]
    have h5' : ¬ ((gs.length : Int) = 5) := by omega
    (repeat' first | refine TW.seq ?_ | refine TW.block ?_ | ((first | refine TW.skip ?_ | refine TW.exit ?_ | refine TW.ret ?_); (try simp only [tQ, bQ, if_true, Nat.reduceEqDiff, reduceIte])) | (refine TW.reg Td.mixed rfl fun C K hC hK => ?_; simp [h5']; (repeat' first | refine And.intro ?_ ?_ | intro _ | refine iteI ?_ ?_ | (show (_ : Bool) = true; kernel_rfl) | (show _ ≤ _; first | omega | (simp; done) | (simp; omega)) | exact Or.inl rfl | (show _ < _; omega)); all_goals (refine hK _ ?_; clear hC hK C K; try simp only [tQ, bQ])) | (refine TW.cond rfl ?_ ?_ <;> intro hc <;> (try (cases hc; done))))
    refine Rets.own [] [] (by simp; rfl) (by simp) (by simp) (by simp) (by simp) (by simp)
theorem StampLess_T (t g t' g' : Int) : TC Tw.prog E 13 [gSt (t, g), gSt (t', g')] 0 [] (gB (stampOk t g && stampOk t' g' && lessB t g t' g')) [] := by
  refine TC.enter Tw.func13 rfl (by kernel_rfl) Tw.ntmps13 (by rw [Try.results13]) (by simp) (Fits.nil rfl) ?_
  (repeat' first | refine TW.seq ?_ | refine TW.block ?_ | ((first | refine TW.skip ?_ | refine TW.exit ?_ | refine TW.ret ?_); (try simp only [tQ, bQ, if_true, Nat.reduceEqDiff, reduceIte])) | (refine TW.reg Td.mixed rfl fun C K hC hK => ?_; simp; (repeat' first | refine And.intro ?_ ?_ | intro _ | refine iteI ?_ ?_ | (show (_ : Bool) = true; kernel_rfl) | (show _ ≤ _; first | omega | (simp; done) | (simp; omega)) | exact Or.inl rfl | (show _ < _; omega) | ((first | refine hC _ _ _ _ _ rfl (aC.plain rfl rfl (by simp; rfl) (by exact StampValid_T _ _) (by simp) (by simp) ?_) | refine hC _ _ _ _ _ rfl (aC.plain rfl rfl (by simp; rfl) (by exact less_T _ _ _ _) (by simp) (by simp) ?_)); simp)); all_goals (refine hK _ ?_; clear hC hK C K; try simp only [tQ, bQ])) | (refine TW.cond rfl ?_ ?_ <;> intro hc <;> (try (cases hc; done))))
  all_goals
    refine Rets.nil (r := gB (stampOk t g && stampOk t' g' && lessB t g t' g')) ?_ rfl; simp_all
theorem SystemFinal_T (bs : List Int) (hb : ∀ b ∈ bs, 0 ≤ b ∧ b ≤ 255) : TC Tw.prog escE 4 [gR (bytesT bs)] 0 [] (gB true) [] := by
  have hD := DrawSystemValid_T (E := escE) bs ⟨fun b h => hb b (List.mem_of_mem_take h), by simp; omega⟩
  obtain ⟨hL, -, -, -⟩ := systemF_ok (pk (bs.take 2000)) 0; generalize (systemF (pk (bs.take 2000)) 0).1 = gs at *; have hL1 : sysLe gs 4294967290 := ⟨by have := hL.1; omega, fun g hg => by have := hL.2 g hg; exact ⟨by have := this.1; omega, by have := this.2; omega⟩⟩
  have hI := SystemValid_T gs hL1; have hS := specSystemValid_T (E := escE) gs ⟨by have := hL1.1; omega, fun g hg => by have := hL1.2 g hg; exact ⟨by have := this.1; omega, by have := this.2; omega⟩⟩
  refine TC.enter Tw.func4 rfl (by kernel_rfl) Tw.ntmps4 (by rw [Try.results4]) (by simp) (Fits.nil rfl) ?_
  by_cases hl : 1048576 < bs.length
  · have hl' : (1048576 : Int) < (bs.length : Int) := by omega
    (repeat' first | refine TW.seq ?_ | refine TW.block ?_ | ((first | refine TW.skip ?_ | refine TW.exit ?_ | refine TW.ret ?_); (try simp only [tQ, bQ, if_true, Nat.reduceEqDiff, reduceIte])) | (refine TW.reg Td.mixed rfl fun C K hC hK => ?_; simp [hl']; (repeat' first | refine And.intro ?_ ?_ | intro _ | refine iteI ?_ ?_ | (show (_ : Bool) = true; kernel_rfl) | (show _ ≤ _; first | omega | (simp; done) | (simp; omega)) | exact Or.inl rfl | (show _ < _; omega)); all_goals (refine hK _ ?_; clear hC hK C K; try simp only [tQ, bQ])) | (refine TW.cond rfl ?_ ?_ <;> intro hc <;> (try (cases hc; done))))
    refine Rets.own [] [] (by simp; rfl) (by simp) (by simp) (by simp) (by simp) (by simp)
  · have hl' : ¬ (1048576 : Int) < (bs.length : Int) := by omega
    cases hv : sysB gs
    · rw [hv] at hI hS
      (repeat' first | refine TW.seq ?_ | refine TW.block ?_ | ((first | refine TW.skip ?_ | refine TW.exit ?_ | refine TW.ret ?_); (try simp only [tQ, bQ, if_true, Nat.reduceEqDiff, reduceIte])) | (refine TW.reg Td.mixed rfl fun C K hC hK => ?_; simp [hl']; (repeat' first | refine And.intro ?_ ?_ | intro _ | refine iteI ?_ ?_ | (show (_ : Bool) = true; kernel_rfl) | (show _ ≤ _; first | omega | (simp; done) | (simp; omega)) | exact Or.inl rfl | (show _ < _; omega) | ((first | refine hC _ _ _ _ _ rfl (aC.plain rfl rfl (by simp; rfl) (by exact hD) (by simp) (by simp) ?_) | refine hC _ _ _ _ _ rfl (aC.plain rfl rfl (by simp; rfl) (by exact hI) (by simp) (by simp) ?_) | refine hC _ _ _ _ _ rfl (aC.plain rfl rfl (by simp; rfl) (by exact hS) (by simp) (by simp) ?_)); simp [hl'])); all_goals (refine hK _ ?_; clear hC hK C K; try simp only [tQ, bQ])) | (refine TW.cond rfl ?_ ?_ <;> intro hc <;> (try (cases hc; done))))
      refine Rets.own [] [] (by simp; rfl) (by simp) (by simp) (by simp) (by simp) (by simp)
    · rw [hv] at hI hS
      have hv' := hv; simp only [sysB, Bool.and_eq_true, decide_eq_true_eq] at hv'; obtain ⟨⟨h5, hid⟩, hmsg⟩ := hv'; have hcp : ∀ (m : Nat), m < 12 → ∀ i, i < 5 → ∀ k, k < 5 → cpB (gAt gs i) (gAt gs k) m = true := fun m hm i hi k hk => by
        rw [allB_iff] at hmsg; have h1 := hmsg m hm; rw [← consB_eq h5 hid, consB, allB_iff] at h1; have h2 := h1 i hi; rw [crB, allB_iff] at h2; exact h2 k hk
      (repeat' first | refine TW.seq ?_ | refine TW.block ?_ | ((first | refine TW.skip ?_ | refine TW.exit ?_ | refine TW.ret ?_); (try simp only [tQ, bQ, if_true, Nat.reduceEqDiff, reduceIte])) | (refine TW.reg Td.mixed rfl fun C K hC hK => ?_; simp [hl']; (repeat' first | refine And.intro ?_ ?_ | intro _ | refine iteI ?_ ?_ | (show (_ : Bool) = true; kernel_rfl) | (show _ ≤ _; first | omega | (simp; done) | (simp; omega)) | exact Or.inl rfl | (show _ < _; omega) | ((first | refine hC _ _ _ _ _ rfl (aC.plain rfl rfl (by simp; rfl) (by exact hD) (by simp) (by simp) ?_) | refine hC _ _ _ _ _ rfl (aC.plain rfl rfl (by simp; rfl) (by exact hI) (by simp) (by simp) ?_) | refine hC _ _ _ _ _ rfl (aC.plain rfl rfl (by simp; rfl) (by exact hS) (by simp) (by simp) ?_)); simp [hl'])); all_goals (refine hK _ ?_; clear hC hK C K; try simp only [tQ, bQ])) | (refine TW.cond rfl ?_ ?_ <;> intro hc <;> (try (cases hc; done))))
      refine TW.loop (fun (m : Nat) => ⟨[(3, gR (sysT gs)), (6, gI .i64 (m : Nat))], [], 0⟩) (fun m => m ≤ 12) (fun m => 12 - m) 0 (by omega) (Wk.same (by simp) (by simp) (by simp)) fun m hm => ?_
      by_cases hlm : m < 12
      · have hltM : (m : Int) < 12 := by omega
        have hwm : IntKind.i64.wrap ((m : Int) + 1) = (m : Int) + 1 := wrap_ok (by omega) (by omega)
        (repeat' first | refine TW.seq ?_ | refine TW.block ?_ | ((first | refine TW.skip ?_ | refine TW.exit ?_ | refine TW.ret ?_); (try simp only [tQ, bQ, if_true, Nat.reduceEqDiff, reduceIte])) | (refine TW.reg Td.mixed rfl fun C K hC hK => ?_; simp [hltM]; (repeat' first | refine And.intro ?_ ?_ | intro _ | refine iteI ?_ ?_ | (show (_ : Bool) = true; kernel_rfl) | (show _ ≤ _; first | omega | (simp; done) | (simp; omega)) | exact Or.inl rfl | (show _ < _; omega)); all_goals (refine hK _ ?_; clear hC hK C K; try simp only [tQ, bQ])) | (refine TW.cond rfl ?_ ?_ <;> intro hc <;> (try (cases hc; done))))
        refine TW.loop (fun (i : Nat) => ⟨[(3, gR (sysT gs)), (6, gI .i64 (m : Nat)), (7, gI .i64 (i : Nat))], [], 0⟩) (fun i => i ≤ 5) (fun i => 5 - i) 0 (by omega) (Wk.same (by simp) (by simp) (by simp)) fun i hi => ?_
        by_cases hli : i < 5
        · have hltJ : (i : Int) < 5 := by omega
          have hwi : IntKind.i64.wrap ((i : Int) + 1) = (i : Int) + 1 := wrap_ok (by omega) (by omega)
          (repeat' first | refine TW.seq ?_ | refine TW.block ?_ | ((first | refine TW.skip ?_ | refine TW.exit ?_ | refine TW.ret ?_); (try simp only [tQ, bQ, if_true, Nat.reduceEqDiff, reduceIte])) | (refine TW.reg Td.mixed rfl fun C K hC hK => ?_; simp [h5, hltJ]; (repeat' first | refine And.intro ?_ ?_ | intro _ | refine iteI ?_ ?_ | (show (_ : Bool) = true; kernel_rfl) | (show _ ≤ _; first | omega | (simp; done) | (simp; omega)) | exact Or.inl rfl | (show _ < _; omega)); all_goals (refine hK _ ?_; clear hC hK C K; try simp only [tQ, bQ])) | (refine TW.cond rfl ?_ ?_ <;> intro hc <;> (try (cases hc; done))))
          refine TW.loop (fun (k : Nat) => ⟨[(3, gR (sysT gs)), (6, gI .i64 (m : Nat)), (7, gI .i64 (i : Nat)), (8, gI .i64 (k : Nat))], [], 0⟩) (fun k => k ≤ 5) (fun k => 5 - k) 0 (by omega) (Wk.same (by simp) (by simp) (by simp)) fun k hk => ?_
          by_cases hlk : k < 5
          · have hltL : (k : Int) < 5 := by omega
            have hwk : IntKind.i64.wrap ((k : Int) + 1) = (k : Int) + 1 := wrap_ok (by omega) (by omega)
            have hei := gAt_some (gs := gs) (i := i) (by omega)
            have hek := gAt_some (gs := gs) (i := k) (by omega)
            have hA := GroupStamp_T (E := escE) (gAt gs i) m (hL1.2 _ (List.mem_of_getElem? hei)); have hB := GroupStamp_T (E := escE) (gAt gs k) m (hL1.2 _ (List.mem_of_getElem? hek)); have hc := hcp m hlm i hli k hlk; unfold cpB at hc; clear hI hS hD hcp; generalize vsB (gAt gs i) m = b1 at *; generalize vsD (gAt gs i) m = d1 at *; generalize vsB (gAt gs k) m = b2 at *; generalize vsD (gAt gs k) m = d2 at *
            cases b1 <;> cases b2
            case true.true =>
              cases hf1 : d1.f
              · (repeat' first | refine TW.seq ?_ | refine TW.block ?_ | ((first | refine TW.skip ?_ | refine TW.exit ?_ | refine TW.ret ?_); (try simp only [tQ, bQ, if_true, Nat.reduceEqDiff, reduceIte])) | (refine TW.reg Td.mixed rfl fun C K hC hK => ?_; simp [h5, hltL, hei, hek, grpT, entT, hf1, hwk]; (repeat' first | refine And.intro ?_ ?_ | intro _ | refine iteI ?_ ?_ | (show (_ : Bool) = true; kernel_rfl) | (show _ ≤ _; first | omega | (simp; done) | (simp; omega)) | exact Or.inl rfl | (show _ < _; omega) | ((first | refine hC _ _ _ _ _ rfl (aC.plain rfl rfl (by simp; rfl) (by exact hA) (by simp) (by simp) ?_) | refine hC _ _ _ _ _ rfl (aC.plain rfl rfl (by simp; rfl) (by exact hB) (by simp) (by simp) ?_)); simp [h5, hltL, hei, hek, grpT, entT, hf1, hwk])); all_goals (refine hK _ ?_; clear hC hK C K; try simp only [tQ, bQ])) | (refine TW.cond rfl ?_ ?_ <;> intro hc <;> (try (cases hc; done))))
                exact ⟨k + 1, by omega, by omega, Wk.same (by simp) (by simp) (by simp)⟩
              · rw [hf1] at hc
                simp only [Bool.and_self, Bool.not_true, Bool.false_or, Bool.true_and, Bool.not_eq_true', Bool.or_eq_false_iff] at hc; obtain ⟨c1, c2⟩ := hc
                cases hf2 : d2.f
                · (repeat' first | refine TW.seq ?_ | refine TW.block ?_ | ((first | refine TW.skip ?_ | refine TW.exit ?_ | refine TW.ret ?_); (try simp only [tQ, bQ, if_true, Nat.reduceEqDiff, reduceIte])) | (refine TW.reg Td.mixed rfl fun C K hC hK => ?_; simp [h5, hltL, hei, hek, grpT, entT, hf1, hf2, hwk, c1]; (repeat' first | refine And.intro ?_ ?_ | intro _ | refine iteI ?_ ?_ | (show (_ : Bool) = true; kernel_rfl) | (show _ ≤ _; first | omega | (simp; done) | (simp; omega)) | exact Or.inl rfl | (show _ < _; omega) | ((first | refine hC _ _ _ _ _ rfl (aC.plain rfl rfl (by simp; rfl) (by exact hA) (by simp) (by simp) ?_) | refine hC _ _ _ _ _ rfl (aC.plain rfl rfl (by simp; rfl) (by exact hB) (by simp) (by simp) ?_) | refine hC _ _ _ _ _ rfl (aC.plain rfl rfl (by simp; rfl) (by exact StampLess_T _ _ _ _) (by simp) (by simp) ?_)); simp [h5, hltL, hei, hek, grpT, entT, hf1, hf2, hwk, c1])); all_goals (refine hK _ ?_; clear hC hK C K; try simp only [tQ, bQ])) | (refine TW.cond rfl ?_ ?_ <;> intro hc <;> (try (cases hc; done))))
                  exact ⟨k + 1, by omega, by omega, Wk.same (by simp) (by simp) (by simp)⟩
                · rw [hf2, Bool.true_and, Bool.not_eq_false'] at c2
                  (repeat' first | refine TW.seq ?_ | refine TW.block ?_ | ((first | refine TW.skip ?_ | refine TW.exit ?_ | refine TW.ret ?_); (try simp only [tQ, bQ, if_true, Nat.reduceEqDiff, reduceIte])) | (refine TW.reg Td.mixed rfl fun C K hC hK => ?_; simp [h5, hltL, hei, hek, grpT, entT, hf1, hf2, hwk, c1, c2]; (repeat' first | refine And.intro ?_ ?_ | intro _ | refine iteI ?_ ?_ | (show (_ : Bool) = true; kernel_rfl) | (show _ ≤ _; first | omega | (simp; done) | (simp; omega)) | exact Or.inl rfl | (show _ < _; omega) | ((first | refine hC _ _ _ _ _ rfl (aC.plain rfl rfl (by simp; rfl) (by exact hA) (by simp) (by simp) ?_) | refine hC _ _ _ _ _ rfl (aC.plain rfl rfl (by simp; rfl) (by exact hB) (by simp) (by simp) ?_) | refine hC _ _ _ _ _ rfl (aC.plain rfl rfl (by simp; rfl) (by exact StampLess_T _ _ _ _) (by simp) (by simp) ?_)); simp [h5, hltL, hei, hek, grpT, entT, hf1, hf2, hwk, c1, c2])); all_goals (refine hK _ ?_; clear hC hK C K; try simp only [tQ, bQ])) | (refine TW.cond rfl ?_ ?_ <;> intro hc <;> (try (cases hc; done))))
                  exact ⟨k + 1, by omega, by omega, Wk.same (by simp) (by simp) (by simp)⟩
            all_goals
              (repeat' first | refine TW.seq ?_ | refine TW.block ?_ | ((first | refine TW.skip ?_ | refine TW.exit ?_ | refine TW.ret ?_); (try simp only [tQ, bQ, if_true, Nat.reduceEqDiff, reduceIte])) | (refine TW.reg Td.mixed rfl fun C K hC hK => ?_; simp [h5, hltL, hei, hek, grpT, entT, hwk]; (repeat' first | refine And.intro ?_ ?_ | intro _ | refine iteI ?_ ?_ | (show (_ : Bool) = true; kernel_rfl) | (show _ ≤ _; first | omega | (simp; done) | (simp; omega)) | exact Or.inl rfl | (show _ < _; omega) | ((first | refine hC _ _ _ _ _ rfl (aC.plain rfl rfl (by simp; rfl) (by exact hA) (by simp) (by simp) ?_) | refine hC _ _ _ _ _ rfl (aC.plain rfl rfl (by simp; rfl) (by exact hB) (by simp) (by simp) ?_)); simp [h5, hltL, hei, hek, grpT, entT, hwk])); all_goals (refine hK _ ?_; clear hC hK C K; try simp only [tQ, bQ])) | (refine TW.cond rfl ?_ ?_ <;> intro hc <;> (try (cases hc; done))))
              exact ⟨k + 1, by omega, by omega, Wk.same (by simp) (by simp) (by simp)⟩
          · obtain rfl : k = 5 := by omega
            (repeat' first | refine TW.seq ?_ | refine TW.block ?_ | ((first | refine TW.skip ?_ | refine TW.exit ?_ | refine TW.ret ?_); (try simp only [tQ, bQ, if_true, Nat.reduceEqDiff, reduceIte])) | (refine TW.reg Td.mixed rfl fun C K hC hK => ?_; simp [h5, hwi]; (repeat' first | refine And.intro ?_ ?_ | intro _ | refine iteI ?_ ?_ | (show (_ : Bool) = true; kernel_rfl) | (show _ ≤ _; first | omega | (simp; done) | (simp; omega)) | exact Or.inl rfl | (show _ < _; omega)); all_goals (refine hK _ ?_; clear hC hK C K; try simp only [tQ, bQ])) | (refine TW.cond rfl ?_ ?_ <;> intro hc <;> (try (cases hc; done))))
            exact ⟨i + 1, by omega, by omega, Wk.same (by simp) (by simp) (by simp)⟩
        · obtain rfl : i = 5 := by omega
          (repeat' first | refine TW.seq ?_ | refine TW.block ?_ | ((first | refine TW.skip ?_ | refine TW.exit ?_ | refine TW.ret ?_); (try simp only [tQ, bQ, if_true, Nat.reduceEqDiff, reduceIte])) | (refine TW.reg Td.mixed rfl fun C K hC hK => ?_; simp [h5, hwm]; (repeat' first | refine And.intro ?_ ?_ | intro _ | refine iteI ?_ ?_ | (show (_ : Bool) = true; kernel_rfl) | (show _ ≤ _; first | omega | (simp; done) | (simp; omega)) | exact Or.inl rfl | (show _ < _; omega)); all_goals (refine hK _ ?_; clear hC hK C K; try simp only [tQ, bQ])) | (refine TW.cond rfl ?_ ?_ <;> intro hc <;> (try (cases hc; done))))
          exact ⟨m + 1, by omega, by omega, Wk.same (by simp) (by simp) (by simp)⟩
      · obtain rfl : m = 12 := by omega
        (repeat' first | refine TW.seq ?_ | refine TW.block ?_ | ((first | refine TW.skip ?_ | refine TW.exit ?_ | refine TW.ret ?_); (try simp only [tQ, bQ, if_true, Nat.reduceEqDiff, reduceIte])) | (refine TW.reg Td.mixed rfl fun C K hC hK => ?_; simp; (repeat' first | refine And.intro ?_ ?_ | intro _ | refine iteI ?_ ?_ | (show (_ : Bool) = true; kernel_rfl) | (show _ ≤ _; first | omega | (simp; done) | (simp; omega)) | exact Or.inl rfl | (show _ < _; omega)); all_goals (refine hK _ ?_; clear hC hK C K; try simp only [tQ, bQ])) | (refine TW.cond rfl ?_ ?_ <;> intro hc <;> (try (cases hc; done))))
        refine Rets.own [] [] (by simp; rfl) (by simp) (by simp) (by simp) (by simp) (by simp)
end Go.Proofs.Ytjklkppncmhehaa.T
namespace Go.Proofs.Ytjklkppncmhehaa
open Go.ChangeShapes Go.WideShapes Go.ChangeAt Go.RowKit Go.Joins
theorem own : ownKnob Try.prog.godebug = none := by kernel_rfl
theorem laidOut : laidOutB Try.prog = true := by kernel_rfl
def bys (bs : List Int) : List Value := bs.map (Value.int .u8)
def Bytes (bs : List Int) : Prop := ∀ b ∈ bs, 0 ≤ b ∧ b ≤ 255
theorem wf_u8 {n : Int} (h : (Lit.int .u8 n).wf = true) : 0 ≤ n ∧ n ≤ 255 := by
  have := bounds_u8 h
  omega
set_option maxRecDepth 100000 in
/-- A code that came in reads as bytes. -/
theorem bytes_in {H : Type} {enc : TypeId × Value → H} {W : World} {r : Reach} {b0 : Nat} {v : Value} {d : DataW H} {p : List MemPlace}
    (hv : Value.okWide Try.prog W r b0 22 v) (h : DataW.Trod enc Try.prog W 0 (fun _ => true) true 22 v d p) :
    ∃ A n c bs, v = .slice A n c ∧ n ≤ c ∧ c ≤ maxLen ∧ Reads W W.heap.size 1 A n (bys bs) ∧ Bytes bs := by
  obtain ⟨A, n, c, rfl⟩ := okWide_slice Try.underlying22 hv; obtain ⟨fuel, hf⟩ := h; rcases open_ints Try.underlying22 Try.underlying5 (by kernel_rfl) hf with ⟨hcs, _⟩ | ⟨a, l, c', zs, hcs, _, hl, hm, hz, _, hcell, hwf⟩
  · simp [Value.cells] at hcs
    obtain ⟨rfl, rfl, rfl⟩ := hcs; exact ⟨none, 0, 0, [], rfl, Nat.le_refl _, Nat.zero_le _, Reads.none_, fun b hb => by simp at hb⟩
  · simp [Value.cells] at hcs
    obtain ⟨rfl, rfl, rfl⟩ := hcs; have hz' : zs.length = c := by simpa using hz
    refine ⟨some a, n, c, zs.take n, rfl, hl, hm, ⟨?_, fun h0 => ⟨a, rfl, ?_, fun j u hu => ?_⟩⟩, fun b hb => wf_u8 (hwf b (List.mem_of_mem_take hb))⟩
    · simp [bys]; omega
    · have h1 := hcell 0 (by omega)
      have := World.block_lt_of_cell? W (a.add 0) h1
      rwa [block_of_add] at this
    · unfold bys at hu
      rw [List.getElem?_map] at hu; have hj : j < n := by
        have := (List.getElem?_eq_some_iff.1 (show (zs.take n)[j]? = some ((zs.take n)[j]?.getD 0) from by
          cases hq : (zs.take n)[j]? with
          | none => rw [hq] at hu; cases hu
          | some z => rfl)).1
        rw [List.length_take] at this; omega
      rw [List.getElem?_take, if_pos hj] at hu; rw [hcell j (by omega), List.getD_eq_getElem?_getD]
      cases hq : zs[j]? with
      | none => rw [hq] at hu; cases hu
      | some z => rw [hq] at hu; exact hu
end Go.Proofs.Ytjklkppncmhehaa
namespace Go.Proofs.Ytjklkppncmhehaa.T
open Go Go.RowKit
theorem bytes_rep {W v : World} {A : Option Addr} {n c : Nat} {bs : List Int} (hA : Sr.SlIn W A) (hn : n ≤ c) (hc : c ≤ maxLen) (hr : Reads W W.heap.size 1 A n (bys bs)) (hv : ∀ q k z, W.cell? q = some (.int k z) → v.cell? q = some (.int k z)) (hz : v.heap.size = W.heap.size) :
    RRep v (fun b => b < v.heap.size) (.slice A n c) (bytesT bs) := by
  obtain ⟨hl, hr⟩ := hr; have hl : bs.length = n := by simpa [bys] using hl
  by_cases h0 : n = 0
  · subst h0
    obtain rfl : bs = [] := List.length_eq_zero_iff.1 hl
    exact .sl0 hc
  · obtain ⟨ad, rfl, hlt, hcell⟩ := hr (by omega)
    have hsp := (hA ad rfl).1; obtain ⟨b, o, sp⟩ := ad; simp only at hsp
    subst hsp; have hcl : ∀ (i : Nat) (e : List RT), (bs.map fun b => ([.v (.int .u8 b)] : List RT))[i]? = some e → ∃ x, bs[i]? = some x ∧ e = [.v (.int .u8 x)] := fun i e he => by
      rw [List.getElem?_map, Option.map_eq_some_iff] at he; obtain ⟨x, hx, rfl⟩ := he; exact ⟨x, hx, rfl⟩
    have := RRep.sl (w := v) (D := fun b => b < v.heap.size) (b := b) (o := o) (c := c) (k := 1) (xs := bs.map fun b => [.v (.int .u8 b)]) (fun i _ => .int .u8 (bs.getD i 0)) (by simp; omega) hc (by rw [hz]; exact hlt) (fun i e he => by obtain ⟨x, _, rfl⟩ := hcl i e he; rfl)
      (fun i e he j r hj => by
        obtain ⟨x, hx, rfl⟩ := hcl i e he; rcases j with _ | j
        · have := hcell i (.int .u8 x) (by simp [bys, hx])
          rw [add_lit] at this; rw [List.getD_eq_getElem?_getD, hx, show o + (i * 1 + 0) = o + i by omega]
          exact hv _ _ _ this
        · simp at hj)
      (fun i e he j r hj => by
        obtain ⟨x, hx, rfl⟩ := hcl i e he; rcases j with _ | j
        · cases hj
          rw [List.getD_eq_getElem?_getD, hx]; exact .v rfl
        · simp at hj)
    simpa [hl] using this
theorem law_of_tree {f : FuncId} {W : World} {A : Option Addr} {n c : Nat} {bs : List Int} (hA : Sr.SlIn W A) (hn : n ≤ c) (hc : c ≤ maxLen) (hr : Reads W W.heap.size 1 A n (bys bs)) (hT : TC Tw.prog escE f [gR (bytesT bs)] 0 [] (gB true) []) (v : World) (hv : ∀ q k z, W.cell? q = some (.int k z) → v.cell? q = some (.int k z)) (hz : v.heap.size = W.heap.size) :
    Calls Tw.prog f #[.slice A n c] v Sr.LawR := by
  refine (hT.2 v #[.slice A n c] (fun _ => none) (fun b => b < v.heap.size) rfl (fun i g hg => ?_) (fun k h => h) (fun b y h => by cases h) (fun b y g h => by cases h) (fun b y b' y' g h => by cases h)).mono ?_
  · rcases i with _ | i
    · cases hg
      exact .s (.r (bytes_rep hA hn hc hr hv hz))
    · simp at hg
  · rintro e w' (⟨ch, rfl, hE⟩ | ⟨x, ρ', D', rfl, hx, _⟩)
    · exact .inr hE
    · left
      rw [gB_rep hx]
end Go.Proofs.Ytjklkppncmhehaa.T
namespace Go.Proofs.Ytjklkppncmhehaa.fnSystemFinal
open Go.ChangeShapes Go.WideShapes Go.ChangeAt Go.RowKit Go.Conc Go.Joins
set_option maxRecDepth 100000 in
theorem lifted (os : Os) (started : os.Started) (H : Type) (enc : TypeId × Value → H) :
    ReturnsInLeavingWide {} Try.checked os 4 .any (Rows.fnSystemFinalSpec.pre6 enc Try.prog Try.f4 Rows.fnSystemFinalRow.domain false) (Rows.fnSystemFinalSpec.post enc Try.prog Try.f4 false true false false) := by
  refine returnsInLeavingWide_of_change_sized (C := Try.checked) own started Try.func4
    (ChangeSpec.witness6 (enc := enc) (C := Try.checked) false ⟨#[], #[.slice none 0 0], []⟩ 8 (by kernel_rfl) (by kernel_rfl) (by kernel_rfl) (by kernel_rfl)) ?_
  intro W base args ds gs before hval0 hW _ _ _; have hval : ∀ (j : Nat) t v, Try.f4.params[j]? = some t → args[j]? = some v → Value.okWide Try.prog W .any base t v := hval0
  have hW' := hW; obtain ⟨p, q, hA0, hV, rfl, hfz, hnd⟩ := hW; have hA : DataW.TrodAll enc Try.prog W 0 (fun _ => true) true Try.f4.params.toList args.toList ds p := hA0
  rw [Try.params4] at hA hval; obtain ⟨v0, vs0, d0, ds0, p0, q0, hargs, rfl, rfl, h0, r0⟩ := trodAll_cons hA; obtain ⟨rfl, rfl, rfl⟩ := trodAll_nil r0; obtain rfl : args = #[v0] := by cases args; simp_all
  obtain ⟨rfl, rfl⟩ := trodVars_none hV; have k0 := h0; have lt0 : ∀ x ∈ p0, x.block < W.heap.size := by obtain ⟨m, hm⟩ := k0; exact DataW.trod_lt m _ _ _ hm
  have hv0 := hval 0 22 v0 rfl rfl; obtain ⟨A, n, c, bs, rfl, hn, hc, hr, hb⟩ := bytes_in hv0 h0; clear hA0 hval0; obtain ⟨M, last, o, w', t', h1, h2, h3, h4⟩ := Sr.law_of_slice (f := 4) (n := n) (c := c) (by decide +kernel) (by decide +kernel) (Sr.slIn_of Try.underlying22 hv0) (fun v hcell hz => T.law_of_tree (Sr.slIn_of Try.underlying22 hv0) hn hc hr (T.SystemFinal_T bs hb) v hcell hz)
  refine ⟨M, last, o, w', t', h1, h2, h3, h4.mono fun v hF => ?_⟩
  obtain ⟨rfl, bel⟩ : v = .bool true ∧ Below W.heap.size W w' := hF; exact ⟨_, _, _, [], _, [], hW', trodAll_mk1 (shut_bool Try.underlying4 _), (trodAll_cons_mk (Below.trod laidOut (by kernel_rfl) (of_decide_eq_true (by kernel_rfl)) k0 bel lt0) trodAll_mk0), rfl, bel.frame _, fun h => by cases h⟩
theorem over : Rows.fnSystemFinalRow.holds Try.pinned (OpenSpec.ofChange Rows.fnSystemFinalSpec) :=
  OpenClaim.holds_of_wide_leaving 4 Try.f4 rfl rfl rfl rfl rfl rfl rfl ⟨rfl, rfl, rfl, rfl, rfl⟩ rfl rfl rfl rfl rfl (by kernel_rfl) Try.func4 (by kernel_rfl)
    (of_decide_eq_true (by kernel_rfl)) (by unfold Func.isWrapper; first | (rw [if_pos (by decide +kernel)]; kernel_rfl) | (rw [if_neg (by decide +kernel)]; exact ⟨rfl, rfl⟩))
    (fun os started H enc _ => lifted os started H enc)
theorem proved : Rows.FnSystemFinalSaid := over
#print axioms proved
end Go.Proofs.Ytjklkppncmhehaa.fnSystemFinal
