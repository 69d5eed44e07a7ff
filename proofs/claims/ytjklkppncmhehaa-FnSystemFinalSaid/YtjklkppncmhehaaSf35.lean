/-
What is proved: what the program's small functions of stamps and entries do to trees. No condition but the lengths that each states. worlds as data, what the reference's events do to them, and that worlds keep their shape. No program's text is walked. No condition but those that the theorems state. what the reference's final stamp of a group does to trees. No condition but the lengths and ranges that each states.
-/
import Derived.Test.YtjklkppncmhehaaSf34
set_option linter.unusedVariables false
set_option linter.unusedSimpArgs false
namespace Go.Proofs.Ytjklkppncmhehaa.T
open Go Go.RowKit
set_option maxRecDepth 100000
set_option maxHeartbeats 4000000
variable {E : List PanicEntry → World → Prop}
theorem isGroup_T (n : Int) : TC Tw.prog E 33 [gI .i64 n] 0 [] (gB (isGrpB n)) [] := by
  refine TC.enter Tw.func33 rfl (by kernel_rfl) Tw.ntmps33 (by rw [Try.results33]) (by simp) (Fits.nil rfl) ?_
  (repeat' first | refine TW.seq ?_ | refine TW.block ?_ | ((first | refine TW.skip ?_ | refine TW.exit ?_ | refine TW.ret ?_); (try simp only [tQ, bQ, if_true, Nat.reduceEqDiff, reduceIte])) | (refine TW.reg Td.mixed rfl fun C K hC hK => ?_; simp; (repeat' first | refine And.intro ?_ ?_ | intro _ | refine iteI ?_ ?_ | (show (_ : Bool) = true; kernel_rfl) | (show _ ≤ _; first | omega | (simp; done) | (simp; omega)) | exact Or.inl rfl | (show _ < _; omega)); all_goals (refine hK _ ?_; clear hC hK C K; try simp only [tQ, bQ])) | (refine TW.cond rfl ?_ ?_ <;> intro hc <;> (try (cases hc; done))))
  all_goals refine Rets.nil (r := gB (isGrpB n)) ?_ rfl
  all_goals (first | (simp [isGrpB]; done) | (simp [isGrpB, *]; done) | (simp [isGrpB]; intros; omega) | (simp [isGrpB, *]; intros; omega) | (rw [Bool.eq_iff_iff]; simp [isGrpB, *]; intros; omega) | (simp [isGrpB, *]; rw [Bool.eq_iff_iff]; simp; intros; omega) | (intros; omega))
theorem isMessage_T (n : Int) : TC Tw.prog E 59 [gI .i64 n] 0 [] (gB (isMsgB n)) [] := by
  refine TC.enter Tw.func59 rfl (by kernel_rfl) Tw.ntmps59 (by rw [Try.results59]) (by simp) (Fits.nil rfl) ?_
  (repeat' first | refine TW.seq ?_ | refine TW.block ?_ | ((first | refine TW.skip ?_ | refine TW.exit ?_ | refine TW.ret ?_); (try simp only [tQ, bQ, if_true, Nat.reduceEqDiff, reduceIte])) | (refine TW.reg Td.mixed rfl fun C K hC hK => ?_; simp; (repeat' first | refine And.intro ?_ ?_ | intro _ | refine iteI ?_ ?_ | (show (_ : Bool) = true; kernel_rfl) | (show _ ≤ _; first | omega | (simp; done) | (simp; omega)) | exact Or.inl rfl | (show _ < _; omega)); all_goals (refine hK _ ?_; clear hC hK C K; try simp only [tQ, bQ])) | (refine TW.cond rfl ?_ ?_ <;> intro hc <;> (try (cases hc; done))))
  all_goals refine Rets.nil (r := gB (isMsgB n)) ?_ rfl
  all_goals (first | (simp [isMsgB]; done) | (simp [isMsgB, *]; done) | (simp [isMsgB]; intros; omega) | (simp [isMsgB, *]; intros; omega) | (rw [Bool.eq_iff_iff]; simp [isMsgB, *]; intros; omega) | (simp [isMsgB, *]; rw [Bool.eq_iff_iff]; simp; intros; omega) | (intros; omega))
theorem isTime_T (n : Int) : TC Tw.prog E 49 [gI .i64 n] 0 [] (gB (isTimeB n)) [] := by
  refine TC.enter Tw.func49 rfl (by kernel_rfl) Tw.ntmps49 (by rw [Try.results49]) (by simp) (Fits.nil rfl) ?_
  (repeat' first | refine TW.seq ?_ | refine TW.block ?_ | ((first | refine TW.skip ?_ | refine TW.exit ?_ | refine TW.ret ?_); (try simp only [tQ, bQ, if_true, Nat.reduceEqDiff, reduceIte])) | (refine TW.reg Td.mixed rfl fun C K hC hK => ?_; simp; (repeat' first | refine And.intro ?_ ?_ | intro _ | refine iteI ?_ ?_ | (show (_ : Bool) = true; kernel_rfl) | (show _ ≤ _; first | omega | (simp; done) | (simp; omega)) | exact Or.inl rfl | (show _ < _; omega)); all_goals (refine hK _ ?_; clear hC hK C K; try simp only [tQ, bQ])) | (refine TW.cond rfl ?_ ?_ <;> intro hc <;> (try (cases hc; done))))
  all_goals refine Rets.nil (r := gB (isTimeB n)) ?_ rfl
  all_goals (first | (simp [isTimeB]; done) | (simp [isTimeB, *]; done) | (simp [isTimeB]; intros; omega) | (simp [isTimeB, *]; intros; omega) | (rw [Bool.eq_iff_iff]; simp [isTimeB, *]; intros; omega) | (simp [isTimeB, *]; rw [Bool.eq_iff_iff]; simp; intros; omega) | (intros; omega))
theorem StampValid_T (t g : Int) : TC Tw.prog E 31 [gSt (t, g)] 0 [] (gB (stampOk t g)) [] := by
  refine TC.enter Tw.func31 rfl (by kernel_rfl) Tw.ntmps31 (by rw [Try.results31]) (by simp) (Fits.nil rfl) ?_
  (repeat' first | refine TW.seq ?_ | refine TW.block ?_ | ((first | refine TW.skip ?_ | refine TW.exit ?_ | refine TW.ret ?_); (try simp only [tQ, bQ, if_true, Nat.reduceEqDiff, reduceIte])) | (refine TW.reg Td.mixed rfl fun C K hC hK => ?_; simp; (repeat' first | refine And.intro ?_ ?_ | intro _ | refine iteI ?_ ?_ | (show (_ : Bool) = true; kernel_rfl) | (show _ ≤ _; first | omega | (simp; done) | (simp; omega)) | exact Or.inl rfl | (show _ < _; omega) | ((first | refine hC _ _ _ _ _ rfl (aC.plain rfl rfl (by simp; rfl) (by exact isGroup_T _) (by simp) (by simp) ?_)); simp)); all_goals (refine hK _ ?_; clear hC hK C K; try simp only [tQ, bQ])) | (refine TW.cond rfl ?_ ?_ <;> intro hc <;> (try (cases hc; done))))
  all_goals refine Rets.nil (r := gB (stampOk t g)) ?_ rfl
  all_goals (first | (simp [stampOk]; done) | (simp [stampOk, *]; done) | (simp [stampOk]; intros; omega) | (simp [stampOk, *]; intros; omega) | (rw [Bool.eq_iff_iff]; simp [stampOk, *]; intros; omega) | (simp [stampOk, *]; rw [Bool.eq_iff_iff]; simp; intros; omega) | (intros; omega))
theorem less_T (t g t' g' : Int) : TC Tw.prog E 32 [gSt (t, g), gSt (t', g')] 0 [] (gB (lessB t g t' g')) [] := by
  refine TC.enter Tw.func32 rfl (by kernel_rfl) Tw.ntmps32 (by rw [Try.results32]) (by simp) (Fits.nil rfl) ?_
  (repeat' first | refine TW.seq ?_ | refine TW.block ?_ | ((first | refine TW.skip ?_ | refine TW.exit ?_ | refine TW.ret ?_); (try simp only [tQ, bQ, if_true, Nat.reduceEqDiff, reduceIte])) | (refine TW.reg Td.mixed rfl fun C K hC hK => ?_; simp; (repeat' first | refine And.intro ?_ ?_ | intro _ | refine iteI ?_ ?_ | (show (_ : Bool) = true; kernel_rfl) | (show _ ≤ _; first | omega | (simp; done) | (simp; omega)) | exact Or.inl rfl | (show _ < _; omega)); all_goals (refine hK _ ?_; clear hC hK C K; try simp only [tQ, bQ])) | (refine TW.cond rfl ?_ ?_ <;> intro hc <;> (try (cases hc; done))))
  all_goals refine Rets.nil (r := gB (lessB t g t' g')) ?_ rfl
  all_goals (first | (simp [lessB]; done) | (simp [lessB, *]; done) | (simp [lessB]; intros; omega) | (simp [lessB, *]; intros; omega) | (rw [Bool.eq_iff_iff]; simp [lessB, *]; intros; omega) | (simp [lessB, *]; rw [Bool.eq_iff_iff]; simp; intros; omega) | (intros; omega))
def areC (id clock : Int) (es : List EntD) (i : Nat) : Bool := match es[i]? with
  | some e => isMsgB e.m && stampOk e.t e.g && decide (e.t ≤ clock) && (e.f || decide (e.g = id)) && (decide (i = 0) || (match es[i - 1]? with | some d => lessB d.t d.g e.t e.g | none => true))
  | none => true
def areB (id clock : Int) (es : List EntD) : Bool := allB es.length (areC id clock es)
theorem areEntries_T (g : GrpD) (es : List EntD) : TC Tw.prog E 50 [.a ((grpT g).map .r), gR (entsT es)] 0 [] (gB (areB g.id g.clock es)) [] := by
  refine TC.enter Tw.func50 rfl (by kernel_rfl) Tw.ntmps50 (by rw [Try.results50]) (by simp) (Fits.nil rfl) ?_
  refine TW.len 1 rfl fun hlen => ?_; simp only [List.length_map] at hlen; (repeat' first | refine TW.seq ?_ | refine TW.block ?_ | ((first | refine TW.skip ?_ | refine TW.exit ?_ | refine TW.ret ?_); (try simp only [tQ, bQ, if_true, Nat.reduceEqDiff, reduceIte])) | (refine TW.reg Td.mixed rfl fun C K hC hK => ?_; simp; (repeat' first | refine And.intro ?_ ?_ | intro _ | refine iteI ?_ ?_ | (show (_ : Bool) = true; kernel_rfl) | (show _ ≤ _; first | omega | (simp; done) | (simp; omega)) | exact Or.inl rfl | (show _ < _; omega)); all_goals (refine hK _ ?_; clear hC hK C K; try simp only [tQ, bQ])) | (refine TW.cond rfl ?_ ?_ <;> intro hc <;> (try (cases hc; done))))
  refine TW.loop (fun (k : Nat) => ⟨[(1, gR (entsT es)), (2, .s (.ptr 0 0)), (7, gR (entsT es)), (8, gI .i64 es.length), (9, gI .i64 (k : Nat))], [(0, .box ((grpT g).map .r))], 1⟩) (fun k => k ≤ es.length ∧ ∀ i, i < k → areC g.id g.clock es i = true) (fun k => es.length - k) 0 ⟨by omega, fun i hi => by omega⟩ (Wk.own [0] [] (by simp) (by simp) (by simp) (by simp) (by simp)) fun k hk => ?_
  obtain ⟨hk, hf⟩ := hk; by_cases hlt : k < es.length
  · have he : es[k]? = some es[k] := List.getElem?_eq_getElem hlt
    have hq : areB g.id g.clock es = false ∨ areC g.id g.clock es k = true := by
      cases h : areC g.id g.clock es k
      · exact .inl (by simp [areB, allB_false hlt h])
      · exact .inr rfl
    rcases k with _ | k
    · have hset : areC g.id g.clock es 0 = (isMsgB es[0].m && stampOk es[0].t es[0].g && decide (es[0].t ≤ g.clock) && (es[0].f || decide (es[0].g = g.id))) := by simp [areC, he]
      (repeat' first | refine TW.seq ?_ | refine TW.block ?_ | ((first | refine TW.skip ?_ | refine TW.exit ?_ | refine TW.ret ?_); (try simp only [tQ, bQ, if_true, Nat.reduceEqDiff, reduceIte])) | (refine TW.reg Td.mixed rfl fun C K hC hK => ?_; simp [hlt, he, grpT, entT]; (repeat' first | refine And.intro ?_ ?_ | intro _ | refine iteI ?_ ?_ | (show (_ : Bool) = true; kernel_rfl) | (show _ ≤ _; first | omega | (simp; done) | (simp; omega)) | exact Or.inl rfl | (show _ < _; omega) | ((first | refine hC _ _ _ _ _ rfl (aC.plain rfl rfl (by simp; rfl) (by exact isMessage_T _) (by simp) (by simp) ?_) | refine hC _ _ _ _ _ rfl (aC.plain rfl rfl (by simp; rfl) (by exact StampValid_T _ _) (by simp) (by simp) ?_) | refine hC _ _ _ _ _ rfl (aC.plain rfl rfl (by simp; rfl) (by exact less_T _ _ _ _) (by simp) (by simp) ?_)); simp [hlt, he, grpT, entT])); all_goals (refine hK _ ?_; clear hC hK C K; try simp only [tQ, bQ])) | (refine TW.cond rfl ?_ ?_ <;> intro hc <;> (try (cases hc; done))))
      all_goals first
        | (refine ⟨1, ⟨by omega, fun i hi => ?_⟩, by omega, Wk.own [0] [] (by simp) (by simp) (by simp [grpT]) (by simp) (by simp)⟩
           obtain rfl : i = 0 := by omega
           simp_all)
        | (refine Rets.nil (r := gB (areB g.id g.clock es)) ?_ rfl
           rcases hq with hq | hq
           · simp [hq]
           · exfalso
             first | (simp_all; done) | (clear hf; simp_all; done) | (clear hf; rw [hset] at hq; simp only [Bool.and_eq_true] at hq; rw [hq.2] at hc; cases hc) | (simp_all; omega))
    · have he' : es[k]? = some es[k] := List.getElem?_eq_getElem (by omega)
      have hw := wrap_nat (k := k) (by omega)
      have hw1 := wrap_add (k := k + 1) hlt hlen; simp only [Int.natCast_add, Int.natCast_one] at hw1; have hpos : (0 : Int) < (k : Int) + 1 := by omega
      have hltI : (k : Int) + 1 < (es.length : Int) := by omega
      have hset : areC g.id g.clock es (k + 1) = (isMsgB es[k + 1].m && stampOk es[k + 1].t es[k + 1].g && decide (es[k + 1].t ≤ g.clock) && (es[k + 1].f || decide (es[k + 1].g = g.id)) && lessB es[k].t es[k].g es[k + 1].t es[k + 1].g) := by simp [areC, he, he']
      (repeat' first | refine TW.seq ?_ | refine TW.block ?_ | ((first | refine TW.skip ?_ | refine TW.exit ?_ | refine TW.ret ?_); (try simp only [tQ, bQ, if_true, Nat.reduceEqDiff, reduceIte])) | (refine TW.reg Td.mixed rfl fun C K hC hK => ?_; simp [hlt, hk, he, he', hw, hw1, hpos, hltI, grpT, entT]; (repeat' first | refine And.intro ?_ ?_ | intro _ | refine iteI ?_ ?_ | (show (_ : Bool) = true; kernel_rfl) | (show _ ≤ _; first | omega | (simp; done) | (simp; omega)) | exact Or.inl rfl | (show _ < _; omega) | ((first | refine hC _ _ _ _ _ rfl (aC.plain rfl rfl (by simp; rfl) (by exact isMessage_T _) (by simp) (by simp) ?_) | refine hC _ _ _ _ _ rfl (aC.plain rfl rfl (by simp; rfl) (by exact StampValid_T _ _) (by simp) (by simp) ?_) | refine hC _ _ _ _ _ rfl (aC.plain rfl rfl (by simp; rfl) (by exact less_T _ _ _ _) (by simp) (by simp) ?_)); simp [hlt, hk, he, he', hw, hw1, hpos, hltI, grpT, entT])); all_goals (refine hK _ ?_; clear hC hK C K; try simp only [tQ, bQ])) | (refine TW.cond rfl ?_ ?_ <;> intro hc <;> (try (cases hc; done))))
      all_goals first
        | (refine ⟨k + 1 + 1, ⟨by omega, fun i hi => ?_⟩, by omega, Wk.own [0] [] (by simp) (by simp) (by simp [grpT]) (by simp) (by simp)⟩
           by_cases e : i = k + 1
           · subst e; simp_all
           · exact hf i (by omega))
        | (refine Rets.nil (r := gB (areB g.id g.clock es)) ?_ rfl
           rcases hq with hq | hq
           · simp [hq]
           · exfalso
             first | (simp_all; done) | (clear hf; simp_all; done) | (clear hf; rw [hset] at hq; simp only [Bool.and_eq_true] at hq; rw [hq.2] at hc; cases hc) | (simp_all; omega))
  · obtain rfl : k = es.length := by omega
    (repeat' first | refine TW.seq ?_ | refine TW.block ?_ | ((first | refine TW.skip ?_ | refine TW.exit ?_ | refine TW.ret ?_); (try simp only [tQ, bQ, if_true, Nat.reduceEqDiff, reduceIte])) | (refine TW.reg Td.mixed rfl fun C K hC hK => ?_; simp; (repeat' first | refine And.intro ?_ ?_ | intro _ | refine iteI ?_ ?_ | (show (_ : Bool) = true; kernel_rfl) | (show _ ≤ _; first | omega | (simp; done) | (simp; omega)) | exact Or.inl rfl | (show _ < _; omega)); all_goals (refine hK _ ?_; clear hC hK C K; try simp only [tQ, bQ])) | (refine TW.cond rfl ?_ ?_ <;> intro hc <;> (try (cases hc; done))))
    refine Rets.nil (r := gB (areB g.id g.clock es)) ?_ rfl; simp [areB, allB_true hf]
theorem cloneEntry_T (es : List EntD) (h : es.length ≤ 4294967296) : TC Tw.prog E 42 [gR (entsT es)] 0 [] (.s (.own 0)) [(0, entsB es)] := by
  refine TC.enter Tw.func42 rfl (by kernel_rfl) Tw.ntmps42 (by rw [Try.results42]) (by simp) (Fits.nil rfl) ?_
  (repeat' first | refine TW.seq ?_ | refine TW.block ?_ | ((first | refine TW.skip ?_ | refine TW.exit ?_ | refine TW.ret ?_); (try simp only [tQ, bQ, if_true, Nat.reduceEqDiff, reduceIte])) | (refine TW.reg Td.mixed rfl fun C K hC hK => ?_; simp [maxLen]; (repeat' first | refine And.intro ?_ ?_ | intro _ | refine iteI ?_ ?_ | (show (_ : Bool) = true; kernel_rfl) | (show _ ≤ _; first | omega | (simp; done) | (simp; omega)) | exact Or.inl rfl | (show _ < _; omega)); all_goals (refine hK _ ?_; clear hC hK C K; try simp only [tQ, bQ])) | (refine TW.cond rfl ?_ ?_ <;> intro hc <;> (try (cases hc; done))))
  refine Rets.own [1] [] (by simp; rfl) (by simp) (by simp) (by simp) (by simp) (by simp)
theorem indexOf_T (es : List EntD) (m : Int) : TC Tw.prog E 30 [gR (entsT es), gI .i64 m] 0 [] (gI .i64 (findE es m)) [] := by
  refine TC.enter Tw.func30 rfl (by kernel_rfl) Tw.ntmps30 (by rw [Try.results30]) (by simp) (Fits.nil rfl) ?_
  refine TW.len 0 rfl fun hlen => ?_; simp only [List.length_map] at hlen; (repeat' first | refine TW.seq ?_ | refine TW.block ?_ | ((first | refine TW.skip ?_ | refine TW.exit ?_ | refine TW.ret ?_); (try simp only [tQ, bQ, if_true, Nat.reduceEqDiff, reduceIte])) | (refine TW.reg Td.mixed rfl fun C K hC hK => ?_; simp; (repeat' first | refine And.intro ?_ ?_ | intro _ | refine iteI ?_ ?_ | (show (_ : Bool) = true; kernel_rfl) | (show _ ≤ _; first | omega | (simp; done) | (simp; omega)) | exact Or.inl rfl | (show _ < _; omega)); all_goals (refine hK _ ?_; clear hC hK C K; try simp only [tQ, bQ])) | (refine TW.cond rfl ?_ ?_ <;> intro hc <;> (try (cases hc; done))))
  refine TW.loop (fun (k : Nat) => ⟨[(1, gI .i64 m), (7, gR (entsT es)), (8, gI .i64 es.length), (9, gI .i64 (k : Nat))], [], 0⟩) (fun k => k ≤ es.length ∧ findFrom m (es.drop k) k = findE es m) (fun k => es.length - k) 0 ⟨by omega, rfl⟩ (Wk.same (by simp) (by simp) (by simp)) fun k hk => ?_
  obtain ⟨hk, hf⟩ := hk; by_cases hlt : k < es.length
  · have he : es[k]? = some es[k] := List.getElem?_eq_getElem hlt
    have hd := findFrom_drop (m := m) he; rw [hf] at hd; by_cases hm : es[k].m = m
    · rw [if_pos hm] at hd
      (repeat' first | refine TW.seq ?_ | refine TW.block ?_ | ((first | refine TW.skip ?_ | refine TW.exit ?_ | refine TW.ret ?_); (try simp only [tQ, bQ, if_true, Nat.reduceEqDiff, reduceIte])) | (refine TW.reg Td.mixed rfl fun C K hC hK => ?_; simp [hlt, he, entT, hm, wrap_add hlt hlen]; (repeat' first | refine And.intro ?_ ?_ | intro _ | refine iteI ?_ ?_ | (show (_ : Bool) = true; kernel_rfl) | (show _ ≤ _; first | omega | (simp; done) | (simp; omega)) | exact Or.inl rfl | (show _ < _; omega)); all_goals (refine hK _ ?_; clear hC hK C K; try simp only [tQ, bQ])) | (refine TW.cond rfl ?_ ?_ <;> intro hc <;> (try (cases hc; done))))
      refine Rets.nil (r := gI .i64 (findE es m)) ?_ rfl; simp [hd]
    · rw [if_neg hm] at hd
      (repeat' first | refine TW.seq ?_ | refine TW.block ?_ | ((first | refine TW.skip ?_ | refine TW.exit ?_ | refine TW.ret ?_); (try simp only [tQ, bQ, if_true, Nat.reduceEqDiff, reduceIte])) | (refine TW.reg Td.mixed rfl fun C K hC hK => ?_; simp [hlt, he, entT, hm, wrap_add hlt hlen]; (repeat' first | refine And.intro ?_ ?_ | intro _ | refine iteI ?_ ?_ | (show (_ : Bool) = true; kernel_rfl) | (show _ ≤ _; first | omega | (simp; done) | (simp; omega)) | exact Or.inl rfl | (show _ < _; omega)); all_goals (refine hK _ ?_; clear hC hK C K; try simp only [tQ, bQ])) | (refine TW.cond rfl ?_ ?_ <;> intro hc <;> (try (cases hc; done))))
      exact ⟨k + 1, ⟨by omega, hd.symm⟩, by omega, Wk.same (by simp) (by simp) (by simp)⟩
  · obtain rfl : k = es.length := by omega
    rw [List.drop_length] at hf; (repeat' first | refine TW.seq ?_ | refine TW.block ?_ | ((first | refine TW.skip ?_ | refine TW.exit ?_ | refine TW.ret ?_); (try simp only [tQ, bQ, if_true, Nat.reduceEqDiff, reduceIte])) | (refine TW.reg Td.mixed rfl fun C K hC hK => ?_; simp; (repeat' first | refine And.intro ?_ ?_ | intro _ | refine iteI ?_ ?_ | (show (_ : Bool) = true; kernel_rfl) | (show _ ≤ _; first | omega | (simp; done) | (simp; omega)) | exact Or.inl rfl | (show _ < _; omega)); all_goals (refine hK _ ?_; clear hC hK C K; try simp only [tQ, bQ])) | (refine TW.cond rfl ?_ ?_ <;> intro hc <;> (try (cases hc; done))))
    refine Rets.nil (r := gI .i64 (findE es m)) ?_ rfl; simp [← hf, findFrom]
end Go.Proofs.Ytjklkppncmhehaa.T
namespace Go.Proofs.Ytjklkppncmhehaa.T
open Go Go.RowKit
structure RndD where
  m : Int
  gs : List Int
  got : List (Int × Int)
structure PktD where
  k : Int
  m : Int
  g : Int
  t : Int
  s : Int
structure WorldD where
  sets : List (List Int)
  groups : List GrpD
  rounds : List RndD
  stopped : List Bool
  net : List PktD
def rndT (r : RndD) : List RT := [rI r.m, intsT r.gs, stsT r.got]
def pktT (p : PktD) : List RT := [rI p.k, rI p.m, rI p.g, rI p.t, rI p.s]
abbrev setsT (xs : List (List Int)) : RT := .sl 1 (xs.map fun s => [intsT s])
abbrev rndsT (rs : List RndD) : RT := .sl 3 (rs.map rndT)
abbrev bitsT (bs : List Bool) : RT := .sl 1 (bs.map fun b => [rB b])
abbrev netT (ps : List PktD) : RT := .sl 5 (ps.map pktT)
def wT (w : WorldD) : List RT := [setsT w.sets, sysT w.groups, rndsT w.rounds, bitsT w.stopped, netT w.net]
abbrev gW (w : WorldD) : GV := .a ((wT w).map .r)
/-! ### a final stamp -/
/-- What is final at the front is delivered. -/
def popD : List EntD → List EntD → List Int → List EntD × List EntD × List Int
  | [], d, told => ([], d, told)
  | e :: es, d, told => if e.f = true then popD es (d ++ [e]) (told ++ [e.m]) else (e :: es, d, told)
def lowD (es : List EntD) (t s : Int) : Nat := (es.takeWhile fun e => lessB e.t e.g t s).length
def sameD (es : List EntD) (n : Nat) (t s : Int) : Bool := match es[n]? with
  | some e => decide (e.t = t) && decide (e.g = s)
  | none => false
def putD (es : List EntD) (m t s : Int) : List EntD := es.take (lowD es t s) ++ [⟨m, t, s, true⟩] ++ es.drop (lowD es t s)
def finalD (g : GrpD) (m t s : Int) : GrpD × List Int × Bool := match g.pend[(findE g.pend m).toNat]? with
  | some e => if findE g.pend m < 0 ∨ e.f = true ∨ lessB t s e.t e.g = true then (g, [], false)
    else if sameD (g.pend.eraseIdx (findE g.pend m).toNat) (lowD (g.pend.eraseIdx (findE g.pend m).toNat) t s) t s = true then (g, [], false)
    else (⟨g.id, if g.clock < t then t else g.clock, (popD (putD (g.pend.eraseIdx (findE g.pend m).toNat) m t s) g.done []).1, (popD (putD (g.pend.eraseIdx (findE g.pend m).toNat) m t s) g.done []).2.1⟩, (popD (putD (g.pend.eraseIdx (findE g.pend m).toNat) m t s) g.done []).2.2, true)
  | none => (g, [], false)
/-! ### rounds -/
def gotC (r : RndD) (i : Nat) : Bool := match r.got[i]? with
  | some s => stampOk s.1 s.2 && hasI r.gs s.2 && (decide (i = 0) || (match r.got[i - 1]? with | some d => decide (d.2 < s.2) | none => true))
  | none => true
def rndB (r : RndD) : Bool := allB r.got.length (gotC r) && isMsgB r.m && setB r.gs
def ansB (r : RndD) (g : Int) : Bool := r.got.any fun s => decide (s.2 = g)
def missD (r : RndD) : List Int := if rndB r = true then r.gs.filter fun g => !ansB r g else []
def lowG (got : List (Int × Int)) (g : Int) : Nat := (got.takeWhile fun s => decide (s.2 < g)).length
def sameG (got : List (Int × Int)) (n : Nat) (g : Int) : Bool := match got[n]? with
  | some s => decide (s.2 = g)
  | none => false
def addD (r : RndD) (t s : Int) : RndD × Bool :=
  if hasI r.gs s = false ∨ sameG r.got (lowG r.got s) s = true then (r, false)
  else (⟨r.m, r.gs, r.got.take (lowG r.got s) ++ [(t, s)] ++ r.got.drop (lowG r.got s)⟩, true)
def maxL : List (Int × Int) → Int × Int
  | [] => (0, 0)
  | x :: xs => maxS x xs
def lastD (r : RndD) : (Int × Int) × Bool := if r.got.length < r.gs.length then ((0, 0), false) else (maxL r.got, true)
/-! ### recovery -/
def stAll (gs : List GrpD) (m : Int) : List Int → List (Int × Int) → (Int × Int) ⊕ List (Int × Int)
  | [], acc => .inr acc
  | g :: set, acc => if stB (gAt gs g.toNat) m && (stD (gAt gs g.toNat) m).f then .inl ((stD (gAt gs g.toNat) m).t, (stD (gAt gs g.toNat) m).g)
    else stAll gs m set (if stB (gAt gs g.toNat) m then acc ++ [((stD (gAt gs g.toNat) m).t, (stD (gAt gs g.toNat) m).g)] else acc)
def stampAllD (gs : List GrpD) (set : List Int) (m : Int) : (Int × Int) × Bool := match stAll gs m set [] with
  | .inl s => (s, true)
  | .inr l => if l.length < set.length then ((0, 0), false) else (maxL l, true)
def propAll (gs : List GrpD) (m : Int) (set : List Int) : List GrpD := set.foldl (fun gs g => gs.set g.toNat (proposeD (gAt gs g.toNat) m).1) gs
def finAll (gs : List GrpD) (m : Int) (s : Int × Int) (set : List Int) : List GrpD := set.foldl (fun gs g => gs.set g.toNat (finalD (gAt gs g.toNat) m s.1 s.2).1) gs
def knowAll (gs : List GrpD) (m : Int) (set : List Int) : Bool := set.all fun g => stB (gAt gs g.toNat) m && (stD (gAt gs g.toNat) m).f
def allD (gs : List GrpD) (set : List Int) (m : Int) : List GrpD × Bool :=
  if (stampAllD (propAll gs m set) set m).2 = true then (finAll (propAll gs m set) m (stampAllD (propAll gs m set) set m).1 set, knowAll (finAll (propAll gs m set) m (stampAllD (propAll gs m set) set m).1 set) m set)
  else (propAll gs m set, false)
/-! ### events -/
def setAt (w : WorldD) (m : Int) : List Int := w.sets.getD m.toNat []
def rndAt (w : WorldD) (m : Int) : RndD := w.rounds.getD m.toNat ⟨0, [], []⟩
def stopAt (w : WorldD) (m : Int) : Bool := w.stopped.getD m.toNat false
def postD (w : WorldD) (p : PktD) : WorldD := if w.net.length < 16 then ⟨w.sets, w.groups, w.rounds, w.stopped, w.net ++ [p]⟩ else w
def askD (w : WorldD) (m : Int) (gs : List Int) : WorldD := gs.foldl (fun w g => postD w ⟨1, m, g, 0, 0⟩) w
def tellL (w : WorldD) (m : Int) (s : Int × Int) (gs : List Int) : WorldD := gs.foldl (fun w g => postD w ⟨3, m, g, s.1, s.2⟩) w
def tellD (w : WorldD) (m : Int) : WorldD := if (lastD (rndAt w m)).2 = true then tellL w m (lastD (rndAt w m)).1 (setAt w m) else w
def bitsL (n : Int) : Nat → Int → List Int
  | 0, _ => []
  | k + 1, g => if n.tmod 2 = 1 then g :: bitsL (n.tdiv 2) k (g + 1) else bitsL (n.tdiv 2) k (g + 1)
def bitsD (n : Int) : List Int := bitsL n 5 0
def sendD (w : WorldD) (n : Int) : WorldD := if 1 ≤ n ∧ n ≤ 31 ∧ w.sets.length < 12 then askD ⟨w.sets ++ [bitsD n], w.groups, w.rounds ++ [⟨w.sets.length, bitsD n, []⟩], w.stopped ++ [false], w.net⟩ w.sets.length (bitsD n) else w
def hearD (w : WorldD) (p : PktD) : WorldD :=
  if p.k = 1 then
    if (proposeD (gAt w.groups p.g.toNat) p.m).2.2 = true then postD ⟨w.sets, w.groups.set p.g.toNat (proposeD (gAt w.groups p.g.toNat) p.m).1, w.rounds, w.stopped, w.net⟩ ⟨2, p.m, p.g, (proposeD (gAt w.groups p.g.toNat) p.m).2.1.1, (proposeD (gAt w.groups p.g.toNat) p.m).2.1.2⟩
    else ⟨w.sets, w.groups.set p.g.toNat (proposeD (gAt w.groups p.g.toNat) p.m).1, w.rounds, w.stopped, w.net⟩
  else if p.k = 2 then
    if stopAt w p.m = true then w
    else if (addD (rndAt w p.m) p.t p.s).2 = true then tellD ⟨w.sets, w.groups, w.rounds.set p.m.toNat (addD (rndAt w p.m) p.t p.s).1, w.stopped, w.net⟩ p.m
    else ⟨w.sets, w.groups, w.rounds.set p.m.toNat (addD (rndAt w p.m) p.t p.s).1, w.stopped, w.net⟩
  else if p.k = 3 then ⟨w.sets, w.groups.set p.g.toNat (finalD (gAt w.groups p.g.toNat) p.m p.t p.s).1, w.rounds, w.stopped, w.net⟩
  else w
def netD (w : WorldD) (k a : Int) : WorldD := if a < 0 then w else match w.net[a.toNat]? with
  | none => w
  | some p => if k = 4 then postD w p else if k = 2 then hearD ⟨w.sets, w.groups, w.rounds, w.stopped, w.net.eraseIdx a.toNat⟩ p else ⟨w.sets, w.groups, w.rounds, w.stopped, w.net.eraseIdx a.toNat⟩
def senderD (w : WorldD) (k a : Int) : WorldD := if a < 0 ∨ (w.sets.length : Int) ≤ a then w
  else if k = 5 then ⟨w.sets, w.groups, w.rounds, w.stopped.set a.toNat true, w.net⟩
  else if k = 6 then if stopAt w a = true then w else tellD (askD w a (missD (rndAt w a))) a
  else if k = 7 then if (allD w.groups (setAt w a) a).2 = true then ⟨w.sets, (allD w.groups (setAt w a) a).1, w.rounds, w.stopped, w.net⟩ else w
  else w
def doD (w : WorldD) (k a : Int) : WorldD := if k = 1 then sendD w a else if k = 2 ∨ k = 3 ∨ k = 4 then netD w k a else senderD w k a
/-! ### the shape of a world -/
def grpN (g : GrpD) (n : Nat) : Prop := g.pend.length + g.done.length ≤ n ∧ 0 ≤ g.clock
def setOk (s : List Int) : Prop := s ≠ [] ∧ s.length ≤ 5 ∧ ∀ g ∈ s, 0 ≤ g ∧ g < 5
def rndN (r : RndD) (n : Nat) : Prop := r.gs ≠ [] ∧ r.gs.length ≤ n + 5 ∧ r.got.length ≤ n
def pktOk (w : WorldD) (p : PktD) : Prop := 0 ≤ p.m ∧ p.m < w.sets.length ∧ 0 ≤ p.g ∧ p.g < 5
structure Shp (n : Nat) (w : WorldD) : Prop where
  g5 : w.groups.length = 5
  grp : ∀ g ∈ w.groups, grpN g n
  s12 : w.sets.length ≤ 12
  set : ∀ s ∈ w.sets, setOk s
  rl : w.rounds.length = w.sets.length
  rnd : ∀ r ∈ w.rounds, rndN r n
  sl : w.stopped.length = w.sets.length
  nl : w.net.length ≤ 16
  net : ∀ p ∈ w.net, pktOk w p
theorem grpN.mono {g : GrpD} {n n' : Nat} (h : grpN g n) (hn : n ≤ n') : grpN g n' := ⟨Nat.le_trans h.1 hn, h.2⟩
theorem rndN.mono {r : RndD} {n n' : Nat} (h : rndN r n) (hn : n ≤ n') : rndN r n' := ⟨h.1, by have := h.2.1; omega, by have := h.2.2; omega⟩
theorem Shp.mono {w : WorldD} {n n' : Nat} (h : Shp n w) (hn : n ≤ n') : Shp n' w := { h with grp := fun g hg => (h.grp g hg).mono hn, rnd := fun r hr => (h.rnd r hr).mono hn }
theorem popD_len : ∀ (es d : List EntD) (told : List Int), (popD es d told).1.length + (popD es d told).2.1.length = es.length + d.length
  | [], d, told => rfl
  | e :: es, d, told => by
    unfold popD; split
    · rw [popD_len es]; simp; omega
    · rfl
theorem propose_N {g : GrpD} {n : Nat} (m : Int) (h : grpN g n) : grpN (proposeD g m).1 (n + 1) := by
  have h1 : grpN g (n + 1) := h.mono (by omega)
  unfold proposeD; split
  · split <;> exact h1
  · split
    · exact h1
    · split
      · exact h1
      · exact ⟨by have := h.1; simp; omega, by have := h.2; simp only; omega⟩
theorem final_N {g : GrpD} {n : Nat} (m t s : Int) (h : grpN g n) : grpN (finalD g m t s).1 n := by
  unfold finalD; split
  · rename_i e he
    split
    · exact h
    · split
      · exact h
      · refine ⟨?_, by have := h.2; simp only; split <;> omega⟩
        simp only
        rw [popD_len]; have hlt : (findE g.pend m).toNat < g.pend.length := (List.getElem?_eq_some_iff.1 he).1
        have h1 := List.length_eraseIdx_of_lt hlt; have := h.1
        simp only [putD, List.length_append, List.length_take, List.length_drop, List.length_singleton]; omega
  · exact h
theorem gAt_mem {gs : List GrpD} {i : Nat} (h : i < gs.length) : gAt gs i ∈ gs := by
  unfold gAt; rw [List.getD_eq_getElem?_getD, List.getElem?_eq_getElem h]; exact List.getElem_mem h
theorem mem_set {α : Type} {xs : List α} {i : Nat} {a x : α} (h : x ∈ xs.set i a) : x = a ∨ x ∈ xs := (List.mem_or_eq_of_mem_set h).symm
theorem Shp.grpSet {w : WorldD} {n : Nat} (h : Shp n w) (i : Nat) {g : GrpD} (hg : grpN g n) : Shp n ⟨w.sets, w.groups.set i g, w.rounds, w.stopped, w.net⟩ :=
  { h with
    g5 := by simpa using h.g5
    grp := fun x hx => by
      rcases mem_set hx with rfl | hx
      · exact hg
      · exact h.grp x hx
    net := h.net }
theorem Shp.post {w : WorldD} {n : Nat} (h : Shp n w) {p : PktD} (hp : pktOk w p) : Shp n (postD w p) := by
  unfold postD; split
  · refine { h with nl := by simp; omega, net := fun x hx => ?_ }
    rcases List.mem_append.1 hx with hx | hx
    · exact h.net x hx
    · simp only [List.mem_singleton] at hx; subst hx; exact hp
  · exact h
theorem postD_sets (w : WorldD) (p : PktD) : (postD w p).sets = w.sets := by unfold postD; split <;> rfl
theorem Shp.posts {n : Nat} (f : Int → PktD) : ∀ (gs : List Int) (w : WorldD), Shp n w → (∀ g ∈ gs, pktOk w (f g)) → Shp n (gs.foldl (fun w g => postD w (f g)) w)
  | [], w, h, _ => h
  | g :: gs, w, h, hp => Shp.posts f gs _ (h.post (hp g (List.mem_cons_self ..))) fun x hx => by
    have := hp x (List.mem_cons_of_mem _ hx)
    unfold pktOk at *; rw [postD_sets]; exact this
theorem posts_sets (f : Int → PktD) : ∀ (gs : List Int) (w : WorldD), (gs.foldl (fun w g => postD w (f g)) w).sets = w.sets
  | [], w => rfl
  | g :: gs, w => by rw [List.foldl_cons, posts_sets f gs, postD_sets]
theorem setAt_ok {w : WorldD} {n : Nat} (h : Shp n w) {m : Int} (h0 : 0 ≤ m) (h1 : m < w.sets.length) : setOk (setAt w m) := by
  unfold setAt; rw [List.getD_eq_getElem?_getD, List.getElem?_eq_getElem (by omega)]
  exact h.set _ (List.getElem_mem _)
theorem rndAt_ok {w : WorldD} {n : Nat} (h : Shp n w) {m : Int} (h0 : 0 ≤ m) (h1 : m < w.sets.length) : rndN (rndAt w m) n := by
  unfold rndAt; rw [List.getD_eq_getElem?_getD, List.getElem?_eq_getElem (by rw [h.rl]; omega)]
  exact h.rnd _ (List.getElem_mem _)
theorem Shp.tell {w : WorldD} {n : Nat} (h : Shp n w) {m : Int} (h0 : 0 ≤ m) (h1 : m < w.sets.length) : Shp n (tellD w m) := by
  unfold tellD; split
  · refine Shp.posts (fun g => ⟨3, m, g, (lastD (rndAt w m)).1.1, (lastD (rndAt w m)).1.2⟩) _ w h fun g hg => ?_
    have := (setAt_ok h h0 h1).2.2 g hg
    exact ⟨h0, h1, this.1, this.2⟩
  · exact h
theorem add_N {r : RndD} {n : Nat} (t s : Int) (h : rndN r n) : rndN (addD r t s).1 (n + 1) := by
  unfold addD; split
  · exact h.mono (by omega)
  · refine ⟨h.1, by have := h.2.1; simp only; omega, ?_⟩
    have := h.2.2
    simp only [List.length_append, List.length_take, List.length_drop, List.length_singleton]; omega
theorem Shp.rndSet {w : WorldD} {n : Nat} (h : Shp n w) (i : Nat) {r : RndD} (hr : rndN r n) : Shp n ⟨w.sets, w.groups, w.rounds.set i r, w.stopped, w.net⟩ :=
  { h with
    rl := by simpa using h.rl
    rnd := fun x hx => by
      rcases mem_set hx with rfl | hx
      · exact hr
      · exact h.rnd x hx
    net := h.net }
theorem Shp.erase {w : WorldD} {n : Nat} (h : Shp n w) (i : Nat) : Shp n ⟨w.sets, w.groups, w.rounds, w.stopped, w.net.eraseIdx i⟩ :=
  { h with
    nl := Nat.le_trans (List.length_eraseIdx_le ..) h.nl
    net := fun p hp => h.net p (List.mem_of_mem_eraseIdx hp) }
theorem Shp.hear {w : WorldD} {n : Nat} (h : Shp n w) {p : PktD} (hp : pktOk w p) : Shp (n + 1) (hearD w p) := by
  obtain ⟨h0, h1, h2, h3⟩ := hp; have h' := h.mono (n' := n + 1) (by omega)
  have hg : grpN (gAt w.groups p.g.toNat) n := h.grp _ (gAt_mem (by rw [h.g5]; omega))
  unfold hearD; split
  · split
    · exact (h'.grpSet _ (propose_N _ hg)).post ⟨h0, h1, h2, h3⟩
    · exact h'.grpSet _ (propose_N _ hg)
  · split
    · split
      · exact h'
      · split
        · exact (h'.rndSet _ (add_N _ _ (rndAt_ok h h0 h1))).tell h0 h1
        · exact h'.rndSet _ (add_N _ _ (rndAt_ok h h0 h1))
    · split
      · exact h'.grpSet _ (final_N _ _ _ (hg.mono (by omega)))
      · exact h'
theorem Shp.netE {w : WorldD} {n : Nat} (h : Shp n w) (k a : Int) : Shp (n + 1) (netD w k a) := by
  have h' := h.mono (n' := n + 1) (by omega)
  unfold netD; split
  · exact h'
  · split
    · exact h'
    · rename_i p hp
      have hpm := List.mem_of_getElem? hp; split
      · exact h'.post (h.net p hpm)
      · split
        · exact (h.erase _).hear (h.net p hpm)
        · exact h'.erase _
theorem bitsL_ok : ∀ (k : Nat) (n g : Int), (bitsL n k g).length ≤ k ∧ ∀ x ∈ bitsL n k g, g ≤ x ∧ x < g + k
  | 0, n, g => ⟨Nat.le_refl _, fun x hx => by cases hx⟩
  | k + 1, n, g => by
    obtain ⟨h1, h2⟩ := bitsL_ok k (n.tdiv 2) (g + 1); unfold bitsL; split
    · refine ⟨by simp; omega, fun x hx => ?_⟩
      rcases List.mem_cons.1 hx with rfl | hx
      · omega
      · have := h2 x hx; omega
    · exact ⟨by omega, fun x hx => by have := h2 x hx; omega⟩
theorem bits_set : ∀ k, k < 31 → (setB (bitsD (k + 1 : Nat)) = true ∧ bitsD (k + 1 : Nat) ≠ []) := by decide +kernel
theorem bits_ok {n : Int} (h1 : 1 ≤ n) (h2 : n ≤ 31) : setB (bitsD n) = true ∧ setOk (bitsD n) := by
  obtain ⟨k, rfl⟩ : ∃ k : Nat, n = (k + 1 : Nat) := ⟨(n - 1).toNat, by omega⟩
  obtain ⟨a, b⟩ := bits_set k (by omega)
  obtain ⟨c, d⟩ := bitsL_ok 5 ((k + 1 : Nat) : Int) 0; exact ⟨a, b, c, fun g hg => by have := d g hg; omega⟩
theorem Shp.send {w : WorldD} {n : Nat} (h : Shp n w) (k : Int) : Shp n (sendD w k) := by
  unfold sendD; split
  · rename_i hk
    obtain ⟨h1, h2, h3⟩ := hk; obtain ⟨b1, b2⟩ := bits_ok h1 h2; refine Shp.posts (fun g => ⟨1, w.sets.length, g, 0, 0⟩) _ _ ⟨h.g5, h.grp, by simp; omega, fun s hs => ?_, by simp [h.rl], fun r hr => ?_, by simp [h.sl], h.nl, fun p hp => ?_⟩ fun g hg => ?_
    · rcases List.mem_append.1 hs with hs | hs
      · exact h.set s hs
      · simp only [List.mem_singleton] at hs; subst hs; exact b2
    · rcases List.mem_append.1 hr with hr | hr
      · exact h.rnd r hr
      · simp only [List.mem_singleton] at hr; subst hr; exact ⟨b2.1, by have := b2.2.1; simp only; omega, Nat.zero_le _⟩
    · obtain ⟨a, b, c⟩ := h.net p hp
      exact ⟨a, by simp; omega, c⟩
    · have := b2.2.2 g hg
      exact ⟨by simp only; omega, by simp; omega, this.1, this.2⟩
  · exact h
theorem propAll_N {n : Nat} (m : Int) : ∀ (set : List Int) (gs : List GrpD) (j : Nat), (∀ g ∈ set, 0 ≤ g ∧ g < 5) → gs.length = 5 → (∀ g ∈ gs, grpN g j) → j + set.length ≤ n → (propAll gs m set).length = 5 ∧ ∀ g ∈ propAll gs m set, grpN g n
  | [], gs, j, _, h5, hg, hn => ⟨h5, fun g h => (hg g h).mono (by simpa using hn)⟩
  | x :: set, gs, j, hs, h5, hg, hn => by
    unfold propAll; rw [List.foldl_cons]; refine propAll_N m set _ (j + 1) (fun g h => hs g (List.mem_cons_of_mem _ h)) (by simpa using h5) (fun g h => ?_) (by simp at hn; omega)
    rcases mem_set h with rfl | h
    · have := hs x (List.mem_cons_self ..)
      exact propose_N m (hg _ (gAt_mem (by omega)))
    · exact (hg g h).mono (by omega)
theorem finAll_N {n : Nat} (m : Int) (s : Int × Int) : ∀ (set : List Int) (gs : List GrpD), (∀ g ∈ set, 0 ≤ g ∧ g < 5) → gs.length = 5 → (∀ g ∈ gs, grpN g n) → (finAll gs m s set).length = 5 ∧ ∀ g ∈ finAll gs m s set, grpN g n
  | [], gs, _, h5, hg => ⟨h5, hg⟩
  | x :: set, gs, hs, h5, hg => by
    unfold finAll; rw [List.foldl_cons]; refine finAll_N m s set _ (fun g h => hs g (List.mem_cons_of_mem _ h)) (by simpa using h5) fun g h => ?_
    rcases mem_set h with rfl | h
    · have := hs x (List.mem_cons_self ..)
      exact final_N m _ _ (hg _ (gAt_mem (by omega)))
    · exact hg g h
theorem allD_N {n : Nat} (m : Int) (set : List Int) (gs : List GrpD) (hs : setOk set) (h5 : gs.length = 5) (hg : ∀ g ∈ gs, grpN g n) : (allD gs set m).1.length = 5 ∧ ∀ g ∈ (allD gs set m).1, grpN g (n + 5) := by
  obtain ⟨h1, h2⟩ := propAll_N (n := n + 5) m set gs n hs.2.2 h5 hg (by have := hs.2.1; omega)
  unfold allD; split
  · exact finAll_N m _ set _ hs.2.2 h1 h2
  · exact ⟨h1, h2⟩
theorem Shp.sender {w : WorldD} {n : Nat} (h : Shp n w) (k a : Int) : Shp (n + 5) (senderD w k a) := by
  have h' := h.mono (n' := n + 5) (by omega)
  unfold senderD; split
  · exact h'
  · rename_i ha
    have ha0 : 0 ≤ a := by omega
    have ha1 : a < w.sets.length := by omega
    split
    · exact { h' with sl := by simpa using h'.sl, net := h'.net }
    · split
      · split
        · exact h'
        · have hr := rndAt_ok h ha0 ha1
          have hm : ∀ g ∈ missD (rndAt w a), 0 ≤ g ∧ g < 5 := by
            intro g hg; unfold missD at hg; split at hg
            · rename_i hb
              have hg := (List.mem_filter.1 hg).1; simp only [rndB, Bool.and_eq_true] at hb; have hs := hb.2; simp only [setB, Bool.and_eq_true, allB, List.all_eq_true, List.mem_range] at hs; obtain ⟨i, hi, rfl⟩ := List.getElem_of_mem hg; have := hs.1 i hi
              simp only [setC, Bool.and_eq_true, isGrpB] at this; have := this.1
              rw [List.getD_eq_getElem?_getD, List.getElem?_eq_getElem hi] at this; simpa using this
            · cases hg
          have hA : Shp (n + 5) (askD w a (missD (rndAt w a))) := Shp.posts (fun g => ⟨1, a, g, 0, 0⟩) _ w h' fun g hg => ⟨ha0, ha1, (hm g hg).1, (hm g hg).2⟩
          refine hA.tell ha0 ?_; unfold askD; rw [posts_sets]; exact ha1
      · split
        · split
          · obtain ⟨h1, h2⟩ := allD_N (n := n) a (setAt w a) w.groups (setAt_ok h ha0 ha1) h.g5 h.grp
            exact { h' with g5 := h1, grp := h2, net := h'.net }
          · exact h'
        · exact h'
theorem Shp.event {w : WorldD} {n : Nat} (h : Shp n w) (k a : Int) : Shp (n + 5) (doD w k a) := by
  unfold doD; split
  · exact (h.send a).mono (by omega)
  · split
    · exact (h.netE k a).mono (by omega)
    · exact h.sender k a
end Go.Proofs.Ytjklkppncmhehaa.T
namespace Go.Proofs.Ytjklkppncmhehaa.T
open Go Go.RowKit
set_option maxRecDepth 100000
set_option maxHeartbeats 4000000
variable {E : List PanicEntry → World → Prop}
abbrev intsB (xs : List Int) : Blk := .rows 3 1 (xs.map fun n => [rI n])
theorem lowD_in {es : List EntD} {t s : Int} {k : Nat} {e : EntD} (hk : ∀ i, i < k → ∀ x, es[i]? = some x → lessB x.t x.g t s = true) (he : es[k]? = some e) (h : lessB e.t e.g t s = false) : lowD es t s = k := by
  unfold lowD; induction es generalizing k with
  | nil => simp at he
  | cons x es ih =>
    cases k with
    | zero =>
      cases he; rw [List.takeWhile_cons]; simp [h]
    | succ k =>
      have h0 := hk 0 (by omega) x rfl
      rw [List.takeWhile_cons, if_pos h0, List.length_cons, ih (k := k) (fun i hi y hy => hk (i + 1) (by omega) y (by simpa using hy)) (by simpa using he)]
theorem lowD_end {es : List EntD} {t s : Int} (hk : ∀ i, i < es.length → ∀ x, es[i]? = some x → lessB x.t x.g t s = true) : lowD es t s = es.length := by
  have h : es.takeWhile (fun e => lessB e.t e.g t s) = es := by
    induction es with
    | nil => rfl
    | cons x es ih =>
      rw [List.takeWhile_cons, if_pos (hk 0 (by simp) x rfl), ih fun i hi y hy => hk (i + 1) (by simp; omega) y (by simpa using hy)]
  unfold lowD; rw [h]
abbrev finalR (r : GrpD × List Int × Bool) : GV := .p [grpO r.1 0 1, .s (.own 2), gB r.2.2]
abbrev finalS (r : GrpD × List Int × Bool) : List (Nat × Blk) := [(0, entsB r.1.pend), (1, entsB r.1.done), (2, intsB r.2.1)]
theorem l11Final_T (g : GrpD) (m t s : Int) (h : grpN g 4294967290) : TC Tw.prog E 67 [.a ((grpT g).map .r), gI .i64 m, gSt (t, s)] 0 [] (finalR (finalD g m t s)) (finalS (finalD g m t s)) := by
  obtain ⟨hln, h0⟩ := h; have hle : grpLe g 4294967296 := ⟨by omega, by omega⟩
  refine TC.enter Tw.func67 rfl (by kernel_rfl) Tw.ntmps67 (by rw [Try.results67]) (by simp) (Fits.nil rfl) ?_
  rcases findE_cases g.pend m with ⟨hp, hp'⟩ | ⟨j, e, hp, he, hp', _⟩
  · have hr : finalD g m t s = (g, [], false) := by
      unfold finalD; split
      · rw [if_pos (.inl (by omega))]
      · rfl
    rw [hr]; (repeat' first | refine TW.seq ?_ | refine TW.block ?_ | ((first | refine TW.skip ?_ | refine TW.exit ?_ | refine TW.ret ?_); (try simp only [tQ, bQ, if_true, Nat.reduceEqDiff, reduceIte])) | (refine TW.reg Td.mixed rfl fun C K hC hK => ?_; simp [grpT, entT, hp]; (repeat' first | refine And.intro ?_ ?_ | intro _ | refine iteI ?_ ?_ | (show (_ : Bool) = true; kernel_rfl) | (show _ ≤ _; first | omega | (simp; done) | (simp; omega)) | exact Or.inl rfl | (show _ < _; omega) | ((first | refine hC _ _ _ _ _ rfl (aC.fresh rfl rfl [] (by simp; rfl) (by simp) 2 (by exact l11Copy_T _ hle) (by simp) (by simp) (by simp) ?_) | refine hC _ _ _ _ _ rfl (aC.plain rfl rfl (by simp; rfl) (by exact l11Find_T _ _) (by simp) (by simp) ?_) | refine hC _ _ _ _ _ rfl (aC.plain rfl rfl (by simp; rfl) (by exact l2Less_T _ _ _ _) (by simp) (by simp) ?_)); simp [grpT, entT, hp])); all_goals (refine hK _ ?_; clear hC hK C K; try simp only [tQ, bQ])) | (refine TW.cond rfl ?_ ?_ <;> intro hc <;> (try (cases hc; done))))
    refine Rets.own [3, 4, 6] [] (by simp; rfl) (by simp) (by simp) (by simp) (by simp) (by simp)
  · have hj : j < g.pend.length := (List.getElem?_eq_some_iff.1 he).1
    have htn : (findE g.pend m).toNat = j := by omega
    have hjn : ¬ ((j : Int) < 0) := by omega
    cases hf : e.f
    · cases hl : lessB t s e.t e.g
      · have hwj : IntKind.i64.wrap ((j : Int) + 1) = (j : Int) + 1 := wrap_ok (by omega) (by omega)
        generalize hrest : g.pend.take j ++ g.pend.drop (j + 1) = rest; have hrl : rest.length ≤ 4294967290 := by rw [← hrest]; simp; omega
        have hlen : rest.length ≤ maxLen := by simp only [maxLen]; omega
        have hers : g.pend.eraseIdx j = rest := by rw [List.eraseIdx_eq_take_drop_succ, hrest]
        have hfin : finalD g m t s = if sameD rest (lowD rest t s) t s = true then (g, [], false) else (⟨g.id, if g.clock < t then t else g.clock, (popD (putD rest m t s) g.done []).1, (popD (putD rest m t s) g.done []).2.1⟩, (popD (putD rest m t s) g.done []).2.2, true) := by
          unfold finalD; rw [htn, he]; simp only
          rw [if_neg (by simp [hp, hf, hl]), hers]
        (repeat' first | refine TW.seq ?_ | refine TW.block ?_ | ((first | refine TW.skip ?_ | refine TW.exit ?_ | refine TW.ret ?_); (try simp only [tQ, bQ, if_true, Nat.reduceEqDiff, reduceIte])) | (refine TW.reg Td.mixed rfl fun C K hC hK => ?_; simp [grpT, entT, hp, he, hjn, hf, hl, hwj, maxLen]; (repeat' first | refine And.intro ?_ ?_ | intro _ | refine iteI ?_ ?_ | (show (_ : Bool) = true; kernel_rfl) | (show _ ≤ _; first | omega | (simp; done) | (simp; omega)) | exact Or.inl rfl | (show _ < _; omega) | ((first | refine hC _ _ _ _ _ rfl (aC.fresh rfl rfl [] (by simp; rfl) (by simp) 2 (by exact l11Copy_T _ hle) (by simp) (by simp) (by simp) ?_) | refine hC _ _ _ _ _ rfl (aC.plain rfl rfl (by simp; rfl) (by exact l11Find_T _ _) (by simp) (by simp) ?_) | refine hC _ _ _ _ _ rfl (aC.plain rfl rfl (by simp; rfl) (by exact l2Less_T _ _ _ _) (by simp) (by simp) ?_)); simp [grpT, entT, hp, he, hjn, hf, hl, hwj, maxLen])); all_goals (refine hK _ ?_; clear hC hK C K; try simp only [tQ, bQ])) | (refine TW.cond rfl ?_ ?_ <;> intro hc <;> (try (cases hc; done))))
        refine TW.loop (fun (k : Nat) => ⟨[(1, gI .i64 m), (3, .s (.ptr 0 0)), (5, .s (.ptr 1 0)), (6, .s (.ptr 2 0)), (9, .s (.ptr 3 0)), (10, .s (.own 4)), (12, gR (entsT rest)), (13, gI .i64 (k : Nat))],
          [(0, .box ((grpT g).map .r)), (1, .box [.r (rI t), .r (rI s)]), (2, .box [.r (rI 0), .r (rI 0), .r .nil, .r .nil]), (3, .box [.r (rI g.id), .r (rI g.clock), .own 5, .own 6]), (4, intsB []), (5, entsB g.pend), (6, entsB g.done)], 7⟩) (fun k => k ≤ rest.length ∧ ∀ i, i < k → ∀ x, rest[i]? = some x → lessB x.t x.g t s = true) (fun k => rest.length - k) 0 ⟨by omega, fun i hi => by omega⟩
          (Wk.own [0, 1, 2, 5, 6, 3, 4] [9] (by simp) (by simp [← hrest]) (by simp [grpT]) (by simp) (by simp)) fun k hk => ?_
        obtain ⟨hk, hfk⟩ := hk; have hsl : (∃ x, rest[k]? = some x ∧ lessB x.t x.g t s = true) ∨ (∃ x, rest[k]? = some x ∧ lessB x.t x.g t s = false ∧ lowD rest t s = k) ∨ (k = rest.length ∧ lowD rest t s = k) := by
          rcases hx : rest[k]? with _ | x
          · have hkl : k = rest.length := by have := List.getElem?_eq_none_iff.1 hx; omega
            refine .inr (.inr ⟨hkl, ?_⟩); subst hkl; exact lowD_end hfk
          · cases hlx : lessB x.t x.g t s
            · exact .inr (.inl ⟨x, rfl, hlx, lowD_in hfk hx hlx⟩)
            · exact .inl ⟨x, rfl, hlx⟩
        rcases hsl with ⟨x, hx, hlx⟩ | hsl
        · have hlt : k < rest.length := (List.getElem?_eq_some_iff.1 hx).1
          have hltI : (k : Int) < (rest.length : Int) := by omega
          have hw1 := wrap_add hlt hlen; (repeat' first | refine TW.seq ?_ | refine TW.block ?_ | ((first | refine TW.skip ?_ | refine TW.exit ?_ | refine TW.ret ?_); (try simp only [tQ, bQ, if_true, Nat.reduceEqDiff, reduceIte])) | (refine TW.reg Td.mixed rfl fun C K hC hK => ?_; simp [hltI, hx, hlx, entT, hw1]; (repeat' first | refine And.intro ?_ ?_ | intro _ | refine iteI ?_ ?_ | (show (_ : Bool) = true; kernel_rfl) | (show _ ≤ _; first | omega | (simp; done) | (simp; omega)) | exact Or.inl rfl | (show _ < _; omega) | ((first | refine hC _ _ _ _ _ rfl (aC.plain rfl rfl (by simp; rfl) (by exact l2Less_T _ _ _ _) (by simp) (by simp) ?_)); simp [hltI, hx, hlx, entT, hw1])); all_goals (refine hK _ ?_; clear hC hK C K; try simp only [tQ, bQ])) | (refine TW.cond rfl ?_ ?_ <;> intro hc <;> (try (cases hc; done))))
          refine ⟨k + 1, ⟨by omega, fun i hi y hy => ?_⟩, by omega, Wk.own [0, 1, 2, 3, 4, 5, 6] [] (by simp) (by simp) (by simp [grpT]) (by simp) (by simp)⟩
          by_cases e : i = k
          · subst e; rw [hx] at hy; cases hy; exact hlx
          · exact hfk i (by omega) y hy
        · have hlow : lowD rest t s = k := by
            rcases hsl with ⟨_, _, _, h⟩ | ⟨_, h⟩ <;> exact h
          rw [hlow] at hfin; by_cases hsm : sameD rest k t s = true
          · rw [if_pos hsm] at hfin
            rw [hfin]; rcases hsl with ⟨x, hx, hlx, _⟩ | ⟨hkl, _⟩
            · have hlt : k < rest.length := (List.getElem?_eq_some_iff.1 hx).1
              have hltI : (k : Int) < (rest.length : Int) := by omega
              simp only [sameD, hx] at hsm; (repeat' first | refine TW.seq ?_ | refine TW.block ?_ | ((first | refine TW.skip ?_ | refine TW.exit ?_ | refine TW.ret ?_); (try simp only [tQ, bQ, if_true, Nat.reduceEqDiff, reduceIte])) | (refine TW.reg Td.mixed rfl fun C K hC hK => ?_; simp [hltI, hx, hlx, hsm, grpT, entT]; (repeat' first | refine And.intro ?_ ?_ | intro _ | refine iteI ?_ ?_ | (show (_ : Bool) = true; kernel_rfl) | (show _ ≤ _; first | omega | (simp; done) | (simp; omega)) | exact Or.inl rfl | (show _ < _; omega) | ((first | refine hC _ _ _ _ _ rfl (aC.plain rfl rfl (by simp; rfl) (by exact l2Less_T _ _ _ _) (by simp) (by simp) ?_)); simp [hltI, hx, hlx, hsm, grpT, entT])); all_goals (refine hK _ ?_; clear hC hK C K; try simp only [tQ, bQ])) | (refine TW.cond rfl ?_ ?_ <;> intro hc <;> (try (cases hc; done))))
              refine Rets.own [5, 6, 4] [] (by simp; rfl) (by simp) (by simp) (by simp) (by simp) (by simp)
            · subst hkl
              simp [sameD] at hsm
          · rw [if_neg hsm] at hfin
            rw [hfin]; have hput : putD rest m t s = rest.take k ++ [⟨m, t, s, true⟩] ++ rest.drop k := by rw [putD, hlow]
            rcases hsl with ⟨x, hx, hlx, _⟩ | ⟨hkl, _⟩; have hlt : k < rest.length := (List.getElem?_eq_some_iff.1 hx).1
            have hltI : (k : Int) < (rest.length : Int) := by omega
            have hsm' : (decide (x.t = t) && decide (x.g = s)) = false := by simpa [sameD, hx] using hsm
            (repeat' first | refine TW.seq ?_ | refine TW.block ?_ | ((first | refine TW.skip ?_ | refine TW.exit ?_ | refine TW.ret ?_); (try simp only [tQ, bQ, if_true, Nat.reduceEqDiff, reduceIte])) | (refine TW.reg Td.mixed rfl fun C K hC hK => ?_; simp [hltI, hx, hlx, hsm', grpT, entT, maxLen]; (repeat' first | refine And.intro ?_ ?_ | intro _ | refine iteI ?_ ?_ | (show (_ : Bool) = true; kernel_rfl) | (show _ ≤ _; first | omega | (simp; done) | (simp; omega)) | exact Or.inl rfl | (show _ < _; omega) | ((first | refine hC _ _ _ _ _ rfl (aC.plain rfl rfl (by simp; rfl) (by exact l2Less_T _ _ _ _) (by simp) (by simp) ?_)); simp [hltI, hx, hlx, hsm', grpT, entT, maxLen])); all_goals (refine hK _ ?_; clear hC hK C K; try simp only [tQ, bQ])) | (refine TW.cond rfl ?_ ?_ <;> intro hc <;> (try (cases hc; done))))
            rotate_left
            subst hkl; (repeat' first | refine TW.seq ?_ | refine TW.block ?_ | ((first | refine TW.skip ?_ | refine TW.exit ?_ | refine TW.ret ?_); (try simp only [tQ, bQ, if_true, Nat.reduceEqDiff, reduceIte])) | (refine TW.reg Td.mixed rfl fun C K hC hK => ?_; simp [grpT, entT, maxLen]; (repeat' first | refine And.intro ?_ ?_ | intro _ | refine iteI ?_ ?_ | (show (_ : Bool) = true; kernel_rfl) | (show _ ≤ _; first | omega | (simp; done) | (simp; omega)) | exact Or.inl rfl | (show _ < _; omega) | ((first | refine hC _ _ _ _ _ rfl (aC.plain rfl rfl (by simp; rfl) (by exact l2Less_T _ _ _ _) (by simp) (by simp) ?_)); simp [grpT, entT, maxLen])); all_goals (refine hK _ ?_; clear hC hK C K; try simp only [tQ, bQ])) | (refine TW.cond rfl ?_ ?_ <;> intro hc <;> (try (cases hc; done))))
            all_goals
              generalize hclk : (if g.clock < t then t else g.clock) = clk
              have hl0 : (putD rest m t s).length + g.done.length ≤ 4294967295 := by
                rw [hput, ← hrest]; simp
                omega
              refine TW.loop (fun (p : List EntD × List EntD × List Int) => ⟨[(6, .s (.ptr 0 0)), (9, .s (.ptr 1 0)), (10, .s (.own 2))], [(0, .box [.r (rI 0), .r (rI 0), .r .nil, .r .nil]), (1, .box [.r (rI g.id), .r (rI clk), .r (entsT p.1), .own 3]), (2, intsB p.2.2), (3, entsB p.2.1)], 4⟩)
                (fun p => p.1.length + p.2.1.length ≤ 4294967295 ∧ p.2.2.length + p.1.length ≤ 4294967295 ∧ popD p.1 p.2.1 p.2.2 = popD (putD rest m t s) g.done []) (fun p => p.1.length) (putD rest m t s, g.done, []) ⟨hl0, by simp; omega, rfl⟩
                (Wk.own [2, 3, 4, 6] [11] (by simp) (by simp) (by simp [hput, entT]) (by simp) (by simp)) fun p hp => ?_
              obtain ⟨es, d, told⟩ := p; obtain ⟨b1, b2, b3⟩ := hp; simp only at b1 b2 b3 ⊢
              rcases es with _ | ⟨x, es⟩
              · have hle2 : grpLe ⟨g.id, clk, [], d⟩ 4294967296 := ⟨by simp, by simp at b1; simp only; omega⟩
                rw [← b3]; simp only [popD]; (repeat' first | refine TW.seq ?_ | refine TW.block ?_ | ((first | refine TW.skip ?_ | refine TW.exit ?_ | refine TW.ret ?_); (try simp only [tQ, bQ, if_true, Nat.reduceEqDiff, reduceIte])) | (refine TW.reg Td.mixed rfl fun C K hC hK => ?_; simp [grpT, entT, maxLen]; (repeat' first | refine And.intro ?_ ?_ | intro _ | refine iteI ?_ ?_ | (show (_ : Bool) = true; kernel_rfl) | (show _ ≤ _; first | omega | (simp; done) | (simp; omega)) | exact Or.inl rfl | (show _ < _; omega) | ((first | refine hC _ _ _ _ _ rfl (aC.fresh rfl rfl [3] (by simp; rfl) (by simp) 2 (by exact l11Copy_T ⟨g.id, clk, [], d⟩ hle2) (by simp) (by simp) (by simp) ?_)); simp [grpT, entT, maxLen])); all_goals (refine hK _ ?_; clear hC hK C K; try simp only [tQ, bQ])) | (refine TW.cond rfl ?_ ?_ <;> intro hc <;> (try (cases hc; done))))
                refine Rets.own [4, 5, 2] [] (by simp; rfl) (by simp) (by simp) (by simp) (by simp) (by simp)
              · simp only [List.length_cons] at b1 b2
                cases hxf : x.f
                · have hle2 : grpLe ⟨g.id, clk, x :: es, d⟩ 4294967296 := ⟨by simp; omega, by simp only; omega⟩
                  rw [← b3]; simp only [popD, hxf, Bool.false_eq_true, if_false]; (repeat' first | refine TW.seq ?_ | refine TW.block ?_ | ((first | refine TW.skip ?_ | refine TW.exit ?_ | refine TW.ret ?_); (try simp only [tQ, bQ, if_true, Nat.reduceEqDiff, reduceIte])) | (refine TW.reg Td.mixed rfl fun C K hC hK => ?_; simp [grpT, entT, hxf, maxLen]; (repeat' first | refine And.intro ?_ ?_ | intro _ | refine iteI ?_ ?_ | (show (_ : Bool) = true; kernel_rfl) | (show _ ≤ _; first | omega | (simp; done) | (simp; omega)) | exact Or.inl rfl | (show _ < _; omega) | ((first | refine hC _ _ _ _ _ rfl (aC.fresh rfl rfl [3] (by simp; rfl) (by simp) 2 (by exact l11Copy_T ⟨g.id, clk, x :: es, d⟩ hle2) (by simp) (by simp) (by simp) ?_)); simp [grpT, entT, hxf, maxLen])); all_goals (refine hK _ ?_; clear hC hK C K; try simp only [tQ, bQ])) | (refine TW.cond rfl ?_ ?_ <;> intro hc <;> (try (cases hc; done))))
                  refine Rets.own [4, 5, 2] [] (by simp; rfl) (by simp [entT, hxf]) (by simp) (by simp) (by simp [entT, hxf]) (by simp)
                · (repeat' first | refine TW.seq ?_ | refine TW.block ?_ | ((first | refine TW.skip ?_ | refine TW.exit ?_ | refine TW.ret ?_); (try simp only [tQ, bQ, if_true, Nat.reduceEqDiff, reduceIte])) | (refine TW.reg Td.mixed rfl fun C K hC hK => ?_; simp [grpT, entT, hxf, maxLen]; (repeat' first | refine And.intro ?_ ?_ | intro _ | refine iteI ?_ ?_ | (show (_ : Bool) = true; kernel_rfl) | (show _ ≤ _; first | omega | (simp; done) | (simp; omega)) | exact Or.inl rfl | (show _ < _; omega)); all_goals (refine hK _ ?_; clear hC hK C K; try simp only [tQ, bQ])) | (refine TW.cond rfl ?_ ?_ <;> intro hc <;> (try (cases hc; done))))
                  refine ⟨(es, d ++ [x], told ++ [x.m]), ⟨by simp; omega, by simp; omega, ?_⟩, by simp, Wk.own [0, 1, 5, 7] [] (by simp) (by simp) (by simp [entT, hxf]) (by simp) (by simp)⟩
                  rw [← b3, popD, if_pos hxf]
      · have hr : finalD g m t s = (g, [], false) := by
          unfold finalD; rw [htn, he]; simp only
          rw [if_pos (.inr (.inr hl))]
        rw [hr]; (repeat' first | refine TW.seq ?_ | refine TW.block ?_ | ((first | refine TW.skip ?_ | refine TW.exit ?_ | refine TW.ret ?_); (try simp only [tQ, bQ, if_true, Nat.reduceEqDiff, reduceIte])) | (refine TW.reg Td.mixed rfl fun C K hC hK => ?_; simp [grpT, entT, hp, he, hjn, hf, hl]; (repeat' first | refine And.intro ?_ ?_ | intro _ | refine iteI ?_ ?_ | (show (_ : Bool) = true; kernel_rfl) | (show _ ≤ _; first | omega | (simp; done) | (simp; omega)) | exact Or.inl rfl | (show _ < _; omega) | ((first | refine hC _ _ _ _ _ rfl (aC.fresh rfl rfl [] (by simp; rfl) (by simp) 2 (by exact l11Copy_T _ hle) (by simp) (by simp) (by simp) ?_) | refine hC _ _ _ _ _ rfl (aC.plain rfl rfl (by simp; rfl) (by exact l11Find_T _ _) (by simp) (by simp) ?_) | refine hC _ _ _ _ _ rfl (aC.plain rfl rfl (by simp; rfl) (by exact l2Less_T _ _ _ _) (by simp) (by simp) ?_)); simp [grpT, entT, hp, he, hjn, hf, hl])); all_goals (refine hK _ ?_; clear hC hK C K; try simp only [tQ, bQ])) | (refine TW.cond rfl ?_ ?_ <;> intro hc <;> (try (cases hc; done))))
        refine Rets.own [3, 4, 6] [] (by simp; rfl) (by simp) (by simp) (by simp) (by simp) (by simp)
    · have hr : finalD g m t s = (g, [], false) := by
        unfold finalD; rw [htn, he]; simp only
        rw [if_pos (.inr (.inl hf))]
      rw [hr]; (repeat' first | refine TW.seq ?_ | refine TW.block ?_ | ((first | refine TW.skip ?_ | refine TW.exit ?_ | refine TW.ret ?_); (try simp only [tQ, bQ, if_true, Nat.reduceEqDiff, reduceIte])) | (refine TW.reg Td.mixed rfl fun C K hC hK => ?_; simp [grpT, entT, hp, he, hjn, hf]; (repeat' first | refine And.intro ?_ ?_ | intro _ | refine iteI ?_ ?_ | (show (_ : Bool) = true; kernel_rfl) | (show _ ≤ _; first | omega | (simp; done) | (simp; omega)) | exact Or.inl rfl | (show _ < _; omega) | ((first | refine hC _ _ _ _ _ rfl (aC.fresh rfl rfl [] (by simp; rfl) (by simp) 2 (by exact l11Copy_T _ hle) (by simp) (by simp) (by simp) ?_) | refine hC _ _ _ _ _ rfl (aC.plain rfl rfl (by simp; rfl) (by exact l11Find_T _ _) (by simp) (by simp) ?_) | refine hC _ _ _ _ _ rfl (aC.plain rfl rfl (by simp; rfl) (by exact l2Less_T _ _ _ _) (by simp) (by simp) ?_)); simp [grpT, entT, hp, he, hjn, hf])); all_goals (refine hK _ ?_; clear hC hK C K; try simp only [tQ, bQ])) | (refine TW.cond rfl ?_ ?_ <;> intro hc <;> (try (cases hc; done))))
      refine Rets.own [3, 4, 6] [] (by simp; rfl) (by simp) (by simp) (by simp) (by simp) (by simp)
end Go.Proofs.Ytjklkppncmhehaa.T
