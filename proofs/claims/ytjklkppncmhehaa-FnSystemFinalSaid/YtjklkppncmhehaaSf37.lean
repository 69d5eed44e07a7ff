/-
What is proved: the program's check of a group is the reference's; the program's look-up of a message, and its question. No condition but the lengths that each states. the contract of impl.areEntries over the second program. Conditions: those that the theorem states. the contract of impl.clone at entries; those of impl.GroupValid, impl.GroupStamp at groups without entries, over the second program. Conditions: those that each theorem states.
-/
import Derived.Test.YtjklkppncmhehaaSf36
import Derived.Test.YtjklkppncmhehaaSf33
import Derived.BigQuiet
import Derived.Deep.RegionLaw
set_option linter.unusedVariables false
set_option linter.unusedSimpArgs false
namespace Go.Proofs.Ytjklkppncmhehaa.T
open Go Go.RowKit
set_option maxRecDepth 100000
set_option maxHeartbeats 4000000
variable {E : List PanicEntry → World → Prop}
theorem findFrom_neg (m : Int) : ∀ (es : List EntD) (k : Nat), findFrom m es k < 0 ↔ ∀ e ∈ es, e.m ≠ m
  | [], k => by simp [findFrom]
  | e :: es, k => by
    unfold findFrom; by_cases h : e.m = m
    · rw [if_pos h]
      simp only [List.mem_cons, forall_eq_or_imp]; constructor
      · intro h1; omega
      · intro h1; exact absurd h h1.1
    · rw [if_neg h, findFrom_neg m es (k + 1)]
      simp only [List.mem_cons, forall_eq_or_imp]; exact ⟨fun h1 => ⟨h, h1⟩, fun h1 => h1.2⟩
theorem findE_neg (es : List EntD) (m : Int) : findE es m < 0 ↔ ∀ e ∈ es, e.m ≠ m := findFrom_neg m es 0
theorem allB_iff {n : Nat} {c : Nat → Bool} : allB n c = true ↔ ∀ i, i < n → c i = true := by simp [allB]
theorem dupB_iff {es : List EntD} {k : Nat} {m : Int} : dupB es k m = false ↔ ∀ i, i < k → ∀ e, es[i]? = some e → e.m ≠ m := by
  unfold dupB; rw [List.any_eq_false]; constructor
  · intro h i hi e he
    have := h e (List.mem_of_getElem? (by rw [List.getElem?_take, if_pos hi]; exact he))
    simpa using this
  · intro h e he
    obtain ⟨i, hi⟩ := List.getElem?_of_mem he; rw [List.getElem?_take] at hi; split at hi
    · simpa using h i (by assumption) e hi
    · cases hi
theorem listC_iff {id clock : Int} {es : List EntD} {i : Nat} : listC id clock es i = true ↔ areC id clock es i = true ∧ distC es i = true := by
  unfold listC areC distC
  cases h : es[i]? with
  | none => simp
  | some e =>
    have hd : decide (findE (es.take i) e.m < 0) = !dupB es i e.m := by
      rw [Bool.eq_iff_iff, decide_eq_true_eq, findE_neg, Bool.not_eq_true', dupB, List.any_eq_false]; simp
    simp only [hd]
    cases isMsgB e.m <;> cases stampOk e.t e.g <;> cases decide (e.t ≤ clock) <;> cases e.f <;> cases decide (e.g = id) <;> cases dupB es i e.m <;> simp <;> exact Iff.rfl
theorem listB_iff {id clock : Int} {es : List EntD} : listB id clock es = true ↔ areB id clock es = true ∧ allB es.length (distC es) = true := by
  unfold listB areB; rw [allB_iff, allB_iff, allB_iff]; exact ⟨fun h => ⟨fun i hi => (listC_iff.1 (h i hi)).1, fun i hi => (listC_iff.1 (h i hi)).2⟩, fun h i hi => listC_iff.2 ⟨h.1 i hi, h.2 i hi⟩⟩
theorem dist_iff {es : List EntD} : allB es.length (distC es) = true ↔ ∀ (i j : Nat) (e d : EntD), j < i → es[i]? = some e → es[j]? = some d → d.m ≠ e.m := by
  rw [allB_iff]; constructor
  · intro h i j e d hji he hd
    have := h i (List.getElem?_eq_some_iff.1 he).1
    unfold distC at this; rw [he] at this; exact dupB_iff.1 (by simpa using this) j hji d hd
  · intro h i hi
    unfold distC; rw [List.getElem?_eq_getElem hi]; simp only [Bool.not_eq_true']; exact dupB_iff.2 fun j hj d hd => h i j _ d hj (List.getElem?_eq_getElem hi) hd
theorem dist_append {a b : List EntD} : allB (a ++ b).length (distC (a ++ b)) = true ↔ allB a.length (distC a) = true ∧ allB b.length (distC b) = true ∧ ∀ e ∈ a, ∀ d ∈ b, d.m ≠ e.m := by
  rw [dist_iff, dist_iff, dist_iff]; constructor
  · intro h
    refine ⟨fun i j e d hji he hd => ?_, fun i j e d hji he hd => ?_, fun e he d hd => ?_⟩
    · exact h i j e d hji (by rw [List.getElem?_append_left (List.getElem?_eq_some_iff.1 he).1]; exact he) (by rw [List.getElem?_append_left (List.getElem?_eq_some_iff.1 hd).1]; exact hd)
    · exact h (a.length + i) (a.length + j) e d (by omega) (by rw [List.getElem?_append_right (by omega)]; simpa using he) (by rw [List.getElem?_append_right (by omega)]; simpa using hd)
    · obtain ⟨i, hi⟩ := List.getElem?_of_mem he
      obtain ⟨j, hj⟩ := List.getElem?_of_mem hd; have hil := (List.getElem?_eq_some_iff.1 hi).1; exact fun e' => h (a.length + j) i d e (by omega) (by rw [List.getElem?_append_right (by omega)]; simpa using hj) (by rw [List.getElem?_append_left hil]; exact hi) e'.symm
  · rintro ⟨h1, h2, h3⟩ i j e d hji he hd
    rw [List.getElem?_append] at he hd; split at he
    · rw [if_pos (by omega)] at hd
      exact h1 i j e d hji he hd
    · split at hd
      · exact fun e' => h3 d (List.mem_of_getElem? hd) e (List.mem_of_getElem? he) e'.symm
      · exact h2 _ _ e d (by omega) he hd
theorem done_iff {g : GrpD} : allB g.done.length (doneC g) = true ↔ allB g.done.length (finC g.done) = true ∧ ∀ e ∈ g.done, ∀ d ∈ g.pend, d.m ≠ e.m := by
  rw [allB_iff, allB_iff]; constructor
  · intro h
    refine ⟨fun i hi => ?_, fun e he d hd => ?_⟩
    · have := h i hi
      unfold doneC at this; unfold finC; rw [List.getElem?_eq_getElem hi] at this ⊢; simp only [Bool.and_eq_true] at this; exact this.1
    · obtain ⟨i, hi, rfl⟩ := List.getElem_of_mem he
      have := h i hi
      unfold doneC at this; rw [List.getElem?_eq_getElem hi] at this; simp only [Bool.and_eq_true, decide_eq_true_eq] at this; exact (findE_neg _ _).1 this.2 d hd
  · rintro ⟨h1, h2⟩ i hi
    have := h1 i hi
    unfold finC at this; unfold doneC; rw [List.getElem?_eq_getElem hi] at this ⊢; simp only [Bool.and_eq_true, decide_eq_true_eq]; exact ⟨this, (findE_neg _ _).2 fun d hd => h2 _ (List.getElem_mem hi) d hd⟩
theorem validB_eq (g : GrpD) : validB g = groupB g := by
  rw [Bool.eq_iff_iff]; unfold validB groupB; simp only [Bool.and_eq_true, listB_iff, dist_append, done_iff, isTimeB]; constructor
  · rintro ⟨⟨⟨⟨⟨⟨a, b⟩, c⟩, d⟩, e, f, h⟩, i⟩, j⟩
    exact ⟨⟨⟨⟨⟨a, b⟩, c, f⟩, d, e⟩, i, h⟩, j⟩
  · rintro ⟨⟨⟨⟨⟨a, b⟩, c, f⟩, d, e⟩, i, h⟩, j⟩
    exact ⟨⟨⟨⟨⟨⟨a, b⟩, c⟩, d⟩, e, f, h⟩, i⟩, j⟩
def vsD (g : GrpD) (m : Int) : EntD := if groupB g = true then stD g m else EntD.zero
def vsB (g : GrpD) (m : Int) : Bool := groupB g && stB g m
theorem GroupStamp_T (g : GrpD) (m : Int) (h : grpLe g 4294967290) : TC Tw.prog E 12 [.a ((grpT g).map .r), gI .i64 m] 0 [] (.p [gEnt (vsD g m), gB (vsB g m)]) [] := by
  have hV := GroupValid_T (E := E) g h; rw [validB_eq] at hV; unfold vsD vsB; refine TC.enter Tw.func12 rfl (by kernel_rfl) Tw.ntmps12 (by rw [Try.results12]) (by simp) (Fits.nil rfl) ?_
  cases hv : groupB g
  · rw [if_neg (by simp)]
    rw [hv] at hV; (repeat' first | refine TW.seq ?_ | refine TW.block ?_ | ((first | refine TW.skip ?_ | refine TW.exit ?_ | refine TW.ret ?_); (try simp only [tQ, bQ, if_true, Nat.reduceEqDiff, reduceIte])) | (refine TW.reg Td.mixed rfl fun C K hC hK => ?_; simp [grpT]; (repeat' first | refine And.intro ?_ ?_ | intro _ | refine iteI ?_ ?_ | (show (_ : Bool) = true; kernel_rfl) | (show _ ≤ _; first | omega | (simp; done) | (simp; omega)) | exact Or.inl rfl | (show _ < _; omega) | ((first | refine hC _ _ _ _ _ rfl (aC.plain rfl rfl (by simp; rfl) (by exact hV) (by simp) (by simp) ?_)); simp [grpT])); all_goals (refine hK _ ?_; clear hC hK C K; try simp only [tQ, bQ])) | (refine TW.cond rfl ?_ ?_ <;> intro hc <;> (try (cases hc; done))))
    refine Rets.nil (r := .p [gEnt EntD.zero, gB false]) ?_ rfl; simp [entT, EntD.zero]
  · rw [if_pos rfl, Bool.true_and]
    rw [hv] at hV; (repeat' first | refine TW.seq ?_ | refine TW.block ?_ | ((first | refine TW.skip ?_ | refine TW.exit ?_ | refine TW.ret ?_); (try simp only [tQ, bQ, if_true, Nat.reduceEqDiff, reduceIte])) | (refine TW.reg Td.mixed rfl fun C K hC hK => ?_; simp [grpT]; (repeat' first | refine And.intro ?_ ?_ | intro _ | refine iteI ?_ ?_ | (show (_ : Bool) = true; kernel_rfl) | (show _ ≤ _; first | omega | (simp; done) | (simp; omega)) | exact Or.inl rfl | (show _ < _; omega) | ((first | refine hC _ _ _ _ _ rfl (aC.plain rfl rfl (by simp; rfl) (by exact hV) (by simp) (by simp) ?_)); simp [grpT])); all_goals (refine hK _ ?_; clear hC hK C K; try simp only [tQ, bQ])) | (refine TW.cond rfl ?_ ?_ <;> intro hc <;> (try (cases hc; done))))
    refine TW.loop (fun (k : Nat) => ⟨[(1, gI .i64 m), (4, .s (.ptr 1 0)), (17, .a [.r (entsT g.pend), .r (entsT g.done)]), (18, gI .i64 (k : Nat))], [(1, .box [.r (rI 0), .r (rI 0), .r (rI 0), .r (rB false)])], 2⟩)
      (fun k => k ≤ 2 ∧ (1 ≤ k → g.pend.find? (fun e => decide (e.m = m)) = none) ∧ (2 ≤ k → g.done.find? (fun e => decide (e.m = m)) = none)) (fun k => 2 - k) 0 ⟨by omega, fun h => by omega, fun h => by omega⟩
      (Wk.same (by simp [grpT]) (by simp) (by simp)) fun k hk => ?_
    obtain ⟨hk, k1, k2⟩ := hk; rcases k with _ | _ | _ | k
    · rcases findE_cases g.pend m with ⟨hp, hp'⟩ | ⟨j, e, hp, he, hp', _⟩
      · (repeat' first | refine TW.seq ?_ | refine TW.block ?_ | ((first | refine TW.skip ?_ | refine TW.exit ?_ | refine TW.ret ?_); (try simp only [tQ, bQ, if_true, Nat.reduceEqDiff, reduceIte])) | (refine TW.reg Td.mixed rfl fun C K hC hK => ?_; simp; (repeat' first | refine And.intro ?_ ?_ | intro _ | refine iteI ?_ ?_ | (show (_ : Bool) = true; kernel_rfl) | (show _ ≤ _; first | omega | (simp; done) | (simp; omega)) | exact Or.inl rfl | (show _ < _; omega)); all_goals (refine hK _ ?_; clear hC hK C K; try simp only [tQ, bQ])) | (refine TW.cond rfl ?_ ?_ <;> intro hc <;> (try (cases hc; done))))
        refine TW.region Td.mixed ⟨by simp, ?_⟩
        simp [vcOps, vcOp, tQ]; refine ⟨_, _, ⟨rfl, rfl⟩, _, Td.t42, _, _, ⟨rfl, rfl⟩, by decide, by decide, by decide, ?_⟩
        simp
        (repeat' first | refine TW.seq ?_ | refine TW.block ?_ | ((first | refine TW.skip ?_ | refine TW.exit ?_ | refine TW.ret ?_); (try simp only [tQ, bQ, if_true, Nat.reduceEqDiff, reduceIte])) | (refine TW.reg Td.mixed rfl fun C K hC hK => ?_; simp [hp]; (repeat' first | refine And.intro ?_ ?_ | intro _ | refine iteI ?_ ?_ | (show (_ : Bool) = true; kernel_rfl) | (show _ ≤ _; first | omega | (simp; done) | (simp; omega)) | exact Or.inl rfl | (show _ < _; omega) | ((first | refine hC _ _ _ _ _ rfl (aC.plain rfl rfl (by simp; rfl) (by exact indexOf_T _ _) (by simp) (by simp) ?_)); simp [hp])); all_goals (refine hK _ ?_; clear hC hK C K; try simp only [tQ, bQ])) | (refine TW.cond rfl ?_ ?_ <;> intro hc <;> (try (cases hc; done))))
        exact ⟨1, ⟨by omega, fun _ => by simpa using hp', fun h => by omega⟩, by omega, Wk.same (by simp) (by simp) (by simp)⟩
      · rw [show stD g m = e by simp [stD, stampE, hp'], show stB g m = true by simp [stB, stampE, hp']]
        (repeat' first | refine TW.seq ?_ | refine TW.block ?_ | ((first | refine TW.skip ?_ | refine TW.exit ?_ | refine TW.ret ?_); (try simp only [tQ, bQ, if_true, Nat.reduceEqDiff, reduceIte])) | (refine TW.reg Td.mixed rfl fun C K hC hK => ?_; simp; (repeat' first | refine And.intro ?_ ?_ | intro _ | refine iteI ?_ ?_ | (show (_ : Bool) = true; kernel_rfl) | (show _ ≤ _; first | omega | (simp; done) | (simp; omega)) | exact Or.inl rfl | (show _ < _; omega)); all_goals (refine hK _ ?_; clear hC hK C K; try simp only [tQ, bQ])) | (refine TW.cond rfl ?_ ?_ <;> intro hc <;> (try (cases hc; done))))
        refine TW.region Td.mixed ⟨by simp, ?_⟩
        simp [vcOps, vcOp, tQ]; refine ⟨_, _, ⟨rfl, rfl⟩, _, Td.t42, _, _, ⟨rfl, rfl⟩, by decide, by decide, by decide, ?_⟩
        simp
        (repeat' first | refine TW.seq ?_ | refine TW.block ?_ | ((first | refine TW.skip ?_ | refine TW.exit ?_ | refine TW.ret ?_); (try simp only [tQ, bQ, if_true, Nat.reduceEqDiff, reduceIte])) | (refine TW.reg Td.mixed rfl fun C K hC hK => ?_; simp [hp, he, entT]; (repeat' first | refine And.intro ?_ ?_ | intro _ | refine iteI ?_ ?_ | (show (_ : Bool) = true; kernel_rfl) | (show _ ≤ _; first | omega | (simp; done) | (simp; omega)) | exact Or.inl rfl | (show _ < _; omega) | ((first | refine hC _ _ _ _ _ rfl (aC.plain rfl rfl (by simp; rfl) (by exact indexOf_T _ _) (by simp) (by simp) ?_)); simp [hp, he, entT])); all_goals (refine hK _ ?_; clear hC hK C K; try simp only [tQ, bQ])) | (refine TW.cond rfl ?_ ?_ <;> intro hc <;> (try (cases hc; done))))
        refine Rets.nil (r := .p [gEnt e, gB true]) ?_ rfl; simp [entT]
    · have k1 := k1 (by omega)
      rcases findE_cases g.done m with ⟨hp, hp'⟩ | ⟨j, e, hp, he, hp', _⟩
      · (repeat' first | refine TW.seq ?_ | refine TW.block ?_ | ((first | refine TW.skip ?_ | refine TW.exit ?_ | refine TW.ret ?_); (try simp only [tQ, bQ, if_true, Nat.reduceEqDiff, reduceIte])) | (refine TW.reg Td.mixed rfl fun C K hC hK => ?_; simp; (repeat' first | refine And.intro ?_ ?_ | intro _ | refine iteI ?_ ?_ | (show (_ : Bool) = true; kernel_rfl) | (show _ ≤ _; first | omega | (simp; done) | (simp; omega)) | exact Or.inl rfl | (show _ < _; omega)); all_goals (refine hK _ ?_; clear hC hK C K; try simp only [tQ, bQ])) | (refine TW.cond rfl ?_ ?_ <;> intro hc <;> (try (cases hc; done))))
        refine TW.region Td.mixed ⟨by simp, ?_⟩
        simp [vcOps, vcOp, tQ]; refine ⟨_, _, ⟨rfl, rfl⟩, _, Td.t42, _, _, ⟨rfl, rfl⟩, by decide, by decide, by decide, ?_⟩
        simp
        (repeat' first | refine TW.seq ?_ | refine TW.block ?_ | ((first | refine TW.skip ?_ | refine TW.exit ?_ | refine TW.ret ?_); (try simp only [tQ, bQ, if_true, Nat.reduceEqDiff, reduceIte])) | (refine TW.reg Td.mixed rfl fun C K hC hK => ?_; simp [hp]; (repeat' first | refine And.intro ?_ ?_ | intro _ | refine iteI ?_ ?_ | (show (_ : Bool) = true; kernel_rfl) | (show _ ≤ _; first | omega | (simp; done) | (simp; omega)) | exact Or.inl rfl | (show _ < _; omega) | ((first | refine hC _ _ _ _ _ rfl (aC.plain rfl rfl (by simp; rfl) (by exact indexOf_T _ _) (by simp) (by simp) ?_)); simp [hp])); all_goals (refine hK _ ?_; clear hC hK C K; try simp only [tQ, bQ])) | (refine TW.cond rfl ?_ ?_ <;> intro hc <;> (try (cases hc; done))))
        exact ⟨2, ⟨by omega, fun _ => by simpa using k1, fun _ => by simpa using hp'⟩, by omega, Wk.same (by simp [show IntKind.i64.wrap 2 = 2 by decide]) (by simp) (by simp)⟩
      · rw [show stD g m = e by simp [stD, stampE, k1, hp'], show stB g m = true by simp [stB, stampE, k1, hp']]
        (repeat' first | refine TW.seq ?_ | refine TW.block ?_ | ((first | refine TW.skip ?_ | refine TW.exit ?_ | refine TW.ret ?_); (try simp only [tQ, bQ, if_true, Nat.reduceEqDiff, reduceIte])) | (refine TW.reg Td.mixed rfl fun C K hC hK => ?_; simp; (repeat' first | refine And.intro ?_ ?_ | intro _ | refine iteI ?_ ?_ | (show (_ : Bool) = true; kernel_rfl) | (show _ ≤ _; first | omega | (simp; done) | (simp; omega)) | exact Or.inl rfl | (show _ < _; omega)); all_goals (refine hK _ ?_; clear hC hK C K; try simp only [tQ, bQ])) | (refine TW.cond rfl ?_ ?_ <;> intro hc <;> (try (cases hc; done))))
        refine TW.region Td.mixed ⟨by simp, ?_⟩
        simp [vcOps, vcOp, tQ]; refine ⟨_, _, ⟨rfl, rfl⟩, _, Td.t42, _, _, ⟨rfl, rfl⟩, by decide, by decide, by decide, ?_⟩
        simp
        (repeat' first | refine TW.seq ?_ | refine TW.block ?_ | ((first | refine TW.skip ?_ | refine TW.exit ?_ | refine TW.ret ?_); (try simp only [tQ, bQ, if_true, Nat.reduceEqDiff, reduceIte])) | (refine TW.reg Td.mixed rfl fun C K hC hK => ?_; simp [hp, he, entT]; (repeat' first | refine And.intro ?_ ?_ | intro _ | refine iteI ?_ ?_ | (show (_ : Bool) = true; kernel_rfl) | (show _ ≤ _; first | omega | (simp; done) | (simp; omega)) | exact Or.inl rfl | (show _ < _; omega) | ((first | refine hC _ _ _ _ _ rfl (aC.plain rfl rfl (by simp; rfl) (by exact indexOf_T _ _) (by simp) (by simp) ?_)); simp [hp, he, entT])); all_goals (refine hK _ ?_; clear hC hK C K; try simp only [tQ, bQ])) | (refine TW.cond rfl ?_ ?_ <;> intro hc <;> (try (cases hc; done))))
        refine Rets.nil (r := .p [gEnt e, gB true]) ?_ rfl; simp [entT]
    · have k1 := k1 (by omega)
      have k2 := k2 (by omega)
      rw [show stD g m = EntD.zero by simp [stD, stampE, k1, k2], show stB g m = false by simp [stB, stampE, k1, k2]]
      (repeat' first | refine TW.seq ?_ | refine TW.block ?_ | ((first | refine TW.skip ?_ | refine TW.exit ?_ | refine TW.ret ?_); (try simp only [tQ, bQ, if_true, Nat.reduceEqDiff, reduceIte])) | (refine TW.reg Td.mixed rfl fun C K hC hK => ?_; simp; (repeat' first | refine And.intro ?_ ?_ | intro _ | refine iteI ?_ ?_ | (show (_ : Bool) = true; kernel_rfl) | (show _ ≤ _; first | omega | (simp; done) | (simp; omega)) | exact Or.inl rfl | (show _ < _; omega)); all_goals (refine hK _ ?_; clear hC hK C K; try simp only [tQ, bQ])) | (refine TW.cond rfl ?_ ?_ <;> intro hc <;> (try (cases hc; done))))
      refine Rets.nil (r := .p [gEnt EntD.zero, gB false]) ?_ rfl; simp [entT, EntD.zero]
    · omega
def ansT (g : GrpD) (m : Int) : List RT := [rI (vsD g m).m, rI (vsD g m).t, rI (vsD g m).g, rB (vsD g m).f, rB (vsB g m)]
theorem question_T (gs : List GrpD) (x m : Int) (h : sysLe gs 4294967290) (h0 : 0 ≤ x) (h1 : x < gs.length) :
    TC Tw.prog E 70 [gI .i64 x, .s (.rop [sysT gs] 0), .s (.rop [rI m] 0)] 0 [] (.a ((ansT (gAt gs x.toNat) m).map .r)) [] := by
  have hG := gAt_some (gs := gs) (i := x.toNat) (by omega)
  have hle := h.2 _ (List.mem_of_getElem? hG); generalize gAt gs x.toNat = G at *; refine TC.enter Tw.func70 rfl (by kernel_rfl) Tw.ntmps70 (by rw [Try.results70]) (by simp) (Fits.nil rfl) ?_
  (repeat' first | refine TW.seq ?_ | refine TW.block ?_ | ((first | refine TW.skip ?_ | refine TW.exit ?_ | refine TW.ret ?_); (try simp only [tQ, bQ, if_true, Nat.reduceEqDiff, reduceIte])) | (refine TW.reg Td.mixed rfl fun C K hC hK => ?_; simp [h0, hG, grpT, entT]; (repeat' first | refine And.intro ?_ ?_ | intro _ | refine iteI ?_ ?_ | (show (_ : Bool) = true; kernel_rfl) | (show _ ≤ _; first | omega | (simp; done) | (simp; omega)) | exact Or.inl rfl | (show _ < _; omega) | ((first | refine hC _ _ _ _ _ rfl (aC.plain rfl rfl (by simp; rfl) (by exact GroupStamp_T G m hle) (by simp) (by simp) ?_)); simp [h0, hG, grpT, entT])); all_goals (refine hK _ ?_; clear hC hK C K; try simp only [tQ, bQ])) | (refine TW.cond rfl ?_ ?_ <;> intro hc <;> (try (cases hc; done))))
  refine Rets.own [] [] (by simp; rfl) (by simp [ansT, entT]) (by simp) (by simp) (by simp [ansT, entT]) (by simp)
end Go.Proofs.Ytjklkppncmhehaa.T
namespace Go.Proofs.Ytjklkppncmhehaa
open Go Go.RowKit
def entOk (id clock : Int) (e : EntD) : Bool := isMsgB e.m && (stampOk e.t e.g && (decide (e.t ≤ clock) && (e.f || decide (e.g = id))))
def lessE (a b : EntD) : Bool := lessB a.t a.g b.t b.g
def areFrom (id clock : Int) : Option EntD → List EntD → Bool
  | _, [] => true
  | p, e :: es => entOk id clock e && ((match p with | none => true | some q => lessE q e) && areFrom id clock (some e) es)
def areB (id clock : Int) (es : List EntD) : Bool := areFrom id clock none es
theorem blk_cell {w w' : World} {g : Nat} {t : TypeId} {cs : Array Value} (h : Blk w g t cs) (hb : Below w.heap.size w w') : Blk w' g t cs := h.below hb h.lt
end Go.Proofs.Ytjklkppncmhehaa
namespace Go.Proofs.Ytjklkppncmhehaa
open Go Go.RowKit
end Go.Proofs.Ytjklkppncmhehaa
