/-
What is proved: what the reference's functions that look at groups do to trees. No condition but the lengths that each states. what the reference's check of a group does to trees. No condition but the lengths that it states. what the reference's check of a system does to trees. No condition but the lengths that it states. what the reference's greatest stamp and its proposal do to trees. No condition but the lengths and ranges that each states. what the reference's proposal does to trees. No condition but the lengths and ranges that each states.
-/
import Derived.Test.YtjklkppncmhehaaSf33
set_option linter.unusedVariables false
set_option linter.unusedSimpArgs false
namespace Go.Proofs.Ytjklkppncmhehaa.T
open Go Go.RowKit
set_option maxRecDepth 100000
set_option maxHeartbeats 4000000
variable {E : List PanicEntry → World → Prop}
theorem findFrom_cases (m : Int) : ∀ (es : List EntD) (k : Nat), (findFrom m es k = -1 ∧ es.find? (fun e => decide (e.m = m)) = none) ∨ ∃ j e, findFrom m es k = ((k + j : Nat) : Int) ∧ es[j]? = some e ∧ es.find? (fun e => decide (e.m = m)) = some e ∧ e.m = m
  | [], k => .inl ⟨rfl, rfl⟩
  | e :: es, k => by
    by_cases h : e.m = m
    · exact .inr ⟨0, e, by simp [findFrom, h], rfl, by simp [h], h⟩
    · rcases findFrom_cases m es (k + 1) with ⟨h1, h2⟩ | ⟨j, x, h1, h2, h3, h4⟩
      · exact .inl ⟨by simp [findFrom, h, h1], by simp [h, h2]⟩
      · exact .inr ⟨j + 1, x, by simp only [findFrom, h, if_false, h1]; omega, by simpa using h2, by simp [h, h3], h4⟩
theorem findE_cases (es : List EntD) (m : Int) : (findE es m = -1 ∧ es.find? (fun e => decide (e.m = m)) = none) ∨ ∃ (j : Nat) (e : EntD), findE es m = (j : Int) ∧ es[j]? = some e ∧ es.find? (fun e => decide (e.m = m)) = some e ∧ e.m = m := by
  rcases findFrom_cases m es 0 with h | ⟨j, e, h1, h2⟩
  · exact .inl h
  · exact .inr ⟨j, e, by simpa [findE] using h1, h2⟩
def stampE (g : GrpD) (m : Int) : Option EntD := match g.pend.find? (fun e => decide (e.m = m)) with
  | some e => some e
  | none => g.done.find? (fun e => decide (e.m = m))
abbrev gEnt (e : EntD) : GV := .a ((entT e).map .r)
def stampR (g : GrpD) (m : Int) : GV := match stampE g m with
  | some e => .p [gEnt e, gB true]
  | none => .p [gEnt EntD.zero, gB false]
theorem l11Stamp_T (g : GrpD) (m : Int) : TC Tw.prog E 28 [.a ((grpT g).map .r), gI .i64 m] 0 [] (stampR g m) [] := by
  refine TC.enter Tw.func28 rfl (by kernel_rfl) Tw.ntmps28 (by rw [Try.results28]) (by simp) (Fits.nil rfl) ?_
  rcases findE_cases g.pend m with ⟨hp, hp'⟩ | ⟨j, e, hp, he, hp', _⟩
  · rcases findE_cases g.done m with ⟨hd, hd'⟩ | ⟨j, e, hd, he, hd', _⟩
    · (repeat' first | refine TW.seq ?_ | refine TW.block ?_ | ((first | refine TW.skip ?_ | refine TW.exit ?_ | refine TW.ret ?_); (try simp only [tQ, bQ, if_true, Nat.reduceEqDiff, reduceIte])) | (refine TW.reg Td.mixed rfl fun C K hC hK => ?_; simp [grpT, hp, hd]; (repeat' first | refine And.intro ?_ ?_ | intro _ | refine iteI ?_ ?_ | (show (_ : Bool) = true; kernel_rfl) | (show _ ≤ _; first | omega | (simp; done) | (simp; omega)) | exact Or.inl rfl | (show _ < _; omega) | ((first | refine hC _ _ _ _ _ rfl (aC.plain rfl rfl (by simp; rfl) (by exact l11Find_T _ _) (by simp) (by simp) ?_)); simp [grpT, hp, hd])); all_goals (refine hK _ ?_; clear hC hK C K; try simp only [tQ, bQ])) | (refine TW.cond rfl ?_ ?_ <;> intro hc <;> (try (cases hc; done))))
      rw [show stampR g m = .p [gEnt EntD.zero, gB false] by simp [stampR, stampE, hp', hd']]
      refine Rets.nil (r := .p [gEnt EntD.zero, gB false]) ?_ rfl; simp [entT, EntD.zero]
    · (repeat' first | refine TW.seq ?_ | refine TW.block ?_ | ((first | refine TW.skip ?_ | refine TW.exit ?_ | refine TW.ret ?_); (try simp only [tQ, bQ, if_true, Nat.reduceEqDiff, reduceIte])) | (refine TW.reg Td.mixed rfl fun C K hC hK => ?_; simp [grpT, entT, hp, hd, he]; (repeat' first | refine And.intro ?_ ?_ | intro _ | refine iteI ?_ ?_ | (show (_ : Bool) = true; kernel_rfl) | (show _ ≤ _; first | omega | (simp; done) | (simp; omega)) | exact Or.inl rfl | (show _ < _; omega) | ((first | refine hC _ _ _ _ _ rfl (aC.plain rfl rfl (by simp; rfl) (by exact l11Find_T _ _) (by simp) (by simp) ?_)); simp [grpT, entT, hp, hd, he])); all_goals (refine hK _ ?_; clear hC hK C K; try simp only [tQ, bQ])) | (refine TW.cond rfl ?_ ?_ <;> intro hc <;> (try (cases hc; done))))
      rw [show stampR g m = .p [gEnt e, gB true] by simp [stampR, stampE, hp', hd']]
      refine Rets.nil (r := .p [gEnt e, gB true]) ?_ rfl; simp [entT]
  · (repeat' first | refine TW.seq ?_ | refine TW.block ?_ | ((first | refine TW.skip ?_ | refine TW.exit ?_ | refine TW.ret ?_); (try simp only [tQ, bQ, if_true, Nat.reduceEqDiff, reduceIte])) | (refine TW.reg Td.mixed rfl fun C K hC hK => ?_; simp [grpT, entT, hp, he]; (repeat' first | refine And.intro ?_ ?_ | intro _ | refine iteI ?_ ?_ | (show (_ : Bool) = true; kernel_rfl) | (show _ ≤ _; first | omega | (simp; done) | (simp; omega)) | exact Or.inl rfl | (show _ < _; omega) | ((first | refine hC _ _ _ _ _ rfl (aC.plain rfl rfl (by simp; rfl) (by exact l11Find_T _ _) (by simp) (by simp) ?_)); simp [grpT, entT, hp, he])); all_goals (refine hK _ ?_; clear hC hK C K; try simp only [tQ, bQ])) | (refine TW.cond rfl ?_ ?_ <;> intro hc <;> (try (cases hc; done))))
    rw [show stampR g m = .p [gEnt e, gB true] by simp [stampR, stampE, hp']]
    refine Rets.nil (r := .p [gEnt e, gB true]) ?_ rfl; simp [entT]
def listC (id clock : Int) (es : List EntD) (i : Nat) : Bool := match es[i]? with
  | some e => isMsgB e.m && stampOk e.t e.g && decide (e.t ≤ clock) && (decide (i = 0) || (match es[i - 1]? with | some d => lessB d.t d.g e.t e.g | none => true)) && decide (findE (es.take i) e.m < 0) && (e.f || decide (e.g = id))
  | none => true
def listB (id clock : Int) (es : List EntD) : Bool := allB es.length (listC id clock es)
theorem l11FindTake_T (es : List EntD) (k : Nat) (m : Int) : TC Tw.prog E 55 [.s (.r (.sl 4 (List.take k (List.map entT es)))), gI .i64 m] 0 [] (gI .i64 (findE (es.take k) m)) [] := by
  have := l11Find_T (E := E) (es.take k) m
  rwa [entsT, List.map_take] at this
theorem l11List_T (g : GrpD) (es : List EntD) : TC Tw.prog E 54 [.a ((grpT g).map .r), gR (entsT es)] 0 [] (gB (listB g.id g.clock es)) [] := by
  refine TC.enter Tw.func54 rfl (by kernel_rfl) Tw.ntmps54 (by rw [Try.results54]) (by simp) (Fits.nil rfl) ?_
  refine TW.len 1 rfl fun hlen => ?_; simp only [List.length_map] at hlen; (repeat' first | refine TW.seq ?_ | refine TW.block ?_ | ((first | refine TW.skip ?_ | refine TW.exit ?_ | refine TW.ret ?_); (try simp only [tQ, bQ, if_true, Nat.reduceEqDiff, reduceIte])) | (refine TW.reg Td.mixed rfl fun C K hC hK => ?_; simp; (repeat' first | refine And.intro ?_ ?_ | intro _ | refine iteI ?_ ?_ | (show (_ : Bool) = true; kernel_rfl) | (show _ ≤ _; first | omega | (simp; done) | (simp; omega)) | exact Or.inl rfl | (show _ < _; omega)); all_goals (refine hK _ ?_; clear hC hK C K; try simp only [tQ, bQ])) | (refine TW.cond rfl ?_ ?_ <;> intro hc <;> (try (cases hc; done))))
  refine TW.loop (fun k => ⟨[(1, gR (entsT es)), (2, .s (.ptr 0 0)), (5, gI .i64 (k : Nat))], [(0, .box ((grpT g).map .r))], 1⟩) (fun k => k ≤ es.length ∧ ∀ i, i < k → listC g.id g.clock es i = true) (fun k => es.length - k) 0 ⟨by omega, fun i hi => by omega⟩ (Wk.own [0] [] (by simp) (by simp) (by simp) (by simp) (by simp)) fun k hk => ?_
  obtain ⟨hk, hf⟩ := hk; by_cases hlt : k < es.length
  · have he : es[k]? = some es[k] := List.getElem?_eq_getElem hlt
    have hq : listB g.id g.clock es = false ∨ listC g.id g.clock es k = true := by
      cases h : listC g.id g.clock es k
      · exact .inl (by simp [listB, allB_false hlt h])
      · exact .inr rfl
    rcases k with _ | k
    · have hset : listC g.id g.clock es 0 = (isMsgB es[0].m && stampOk es[0].t es[0].g && decide (es[0].t ≤ g.clock) && decide (findE [] es[0].m < 0) && (es[0].f || decide (es[0].g = g.id))) := by simp [listC, he]; rfl
      (repeat' first | refine TW.seq ?_ | refine TW.block ?_ | ((first | refine TW.skip ?_ | refine TW.exit ?_ | refine TW.ret ?_); (try simp only [tQ, bQ, if_true, Nat.reduceEqDiff, reduceIte])) | (refine TW.reg Td.mixed rfl fun C K hC hK => ?_; simp [hlt, he, grpT, entT]; (repeat' first | refine And.intro ?_ ?_ | intro _ | refine iteI ?_ ?_ | (show (_ : Bool) = true; kernel_rfl) | (show _ ≤ _; first | omega | (simp; done) | (simp; omega)) | exact Or.inl rfl | (show _ < _; omega) | ((first | refine hC _ _ _ _ _ rfl (aC.plain rfl rfl (by simp; rfl) (by exact l11Message_T _) (by simp) (by simp) ?_) | refine hC _ _ _ _ _ rfl (aC.plain rfl rfl (by simp; rfl) (by exact specStampValid_T _ _) (by simp) (by simp) ?_) | refine hC _ _ _ _ _ rfl (aC.plain rfl rfl (by simp; rfl) (by exact l2Less_T _ _ _ _) (by simp) (by simp) ?_) | refine hC _ _ _ _ _ rfl (aC.plain rfl rfl (by simp; rfl) (by exact l11Find_T [] _) (by simp) (by simp) ?_)); simp [hlt, he, grpT, entT])); all_goals (refine hK _ ?_; clear hC hK C K; try simp only [tQ, bQ])) | (refine TW.cond rfl ?_ ?_ <;> intro hc <;> (try (cases hc; done))))
      all_goals first
        | (refine ⟨1, ⟨by omega, fun i hi => ?_⟩, by omega, Wk.own [0] [] (by simp) (by simp) (by simp [grpT]) (by simp) (by simp)⟩
           obtain rfl : i = 0 := by omega
           simp_all)
        | (refine Rets.nil (r := gB (listB g.id g.clock es)) ?_ rfl
           rcases hq with hq | hq
           · simp [hq]
           · exfalso
             first | (simp_all; done) | (simp_all; omega))
    · have he' : es[k]? = some es[k] := List.getElem?_eq_getElem (by omega)
      have hw := wrap_nat (k := k) (by omega)
      have hw1 := wrap_add (k := k + 1) hlt hlen; simp only [Int.natCast_add, Int.natCast_one] at hw1; have hpos : (0 : Int) < (k : Int) + 1 := by omega
      have hltI : (k : Int) + 1 < (es.length : Int) := by omega
      have hset : listC g.id g.clock es (k + 1) = (isMsgB es[k + 1].m && stampOk es[k + 1].t es[k + 1].g && decide (es[k + 1].t ≤ g.clock) && lessB es[k].t es[k].g es[k + 1].t es[k + 1].g && decide (findE (es.take (k + 1)) es[k + 1].m < 0) && (es[k + 1].f || decide (es[k + 1].g = g.id))) := by simp [listC, he, he']
      (repeat' first | refine TW.seq ?_ | refine TW.block ?_ | ((first | refine TW.skip ?_ | refine TW.exit ?_ | refine TW.ret ?_); (try simp only [tQ, bQ, if_true, Nat.reduceEqDiff, reduceIte])) | (refine TW.reg Td.mixed rfl fun C K hC hK => ?_; simp [hlt, hk, he, he', hw, hw1, hpos, hltI, grpT, entT]; (repeat' first | refine And.intro ?_ ?_ | intro _ | refine iteI ?_ ?_ | (show (_ : Bool) = true; kernel_rfl) | (show _ ≤ _; first | omega | (simp; done) | (simp; omega)) | exact Or.inl rfl | (show _ < _; omega) | ((first | refine hC _ _ _ _ _ rfl (aC.plain rfl rfl (by simp; rfl) (by exact l11Message_T _) (by simp) (by simp) ?_) | refine hC _ _ _ _ _ rfl (aC.plain rfl rfl (by simp; rfl) (by exact specStampValid_T _ _) (by simp) (by simp) ?_) | refine hC _ _ _ _ _ rfl (aC.plain rfl rfl (by simp; rfl) (by exact l2Less_T _ _ _ _) (by simp) (by simp) ?_) | refine hC _ _ _ _ _ rfl (aC.plain rfl rfl (by simp; rfl) (by exact l11FindTake_T _ _ _) (by simp) (by simp) ?_)); simp [hlt, hk, he, he', hw, hw1, hpos, hltI, grpT, entT])); all_goals (refine hK _ ?_; clear hC hK C K; try simp only [tQ, bQ])) | (refine TW.cond rfl ?_ ?_ <;> intro hc <;> (try (cases hc; done))))
      all_goals first
        | (refine ⟨k + 1 + 1, ⟨by omega, fun i hi => ?_⟩, by omega, Wk.own [0] [] (by simp) (by simp) (by simp [grpT]) (by simp) (by simp)⟩
           by_cases e : i = k + 1
           · subst e; simp_all
           · exact hf i (by omega))
        | (refine Rets.nil (r := gB (listB g.id g.clock es)) ?_ rfl
           rcases hq with hq | hq
           · simp [hq]
           · exfalso
             first | (simp_all; done) | (simp_all; omega))
  · obtain rfl : k = es.length := by omega
    (repeat' first | refine TW.seq ?_ | refine TW.block ?_ | ((first | refine TW.skip ?_ | refine TW.exit ?_ | refine TW.ret ?_); (try simp only [tQ, bQ, if_true, Nat.reduceEqDiff, reduceIte])) | (refine TW.reg Td.mixed rfl fun C K hC hK => ?_; simp; (repeat' first | refine And.intro ?_ ?_ | intro _ | refine iteI ?_ ?_ | (show (_ : Bool) = true; kernel_rfl) | (show _ ≤ _; first | omega | (simp; done) | (simp; omega)) | exact Or.inl rfl | (show _ < _; omega)); all_goals (refine hK _ ?_; clear hC hK C K; try simp only [tQ, bQ])) | (refine TW.cond rfl ?_ ?_ <;> intro hc <;> (try (cases hc; done))))
    refine Rets.nil (r := gB (listB g.id g.clock es)) ?_ rfl; simp [listB, allB_true hf]
end Go.Proofs.Ytjklkppncmhehaa.T
namespace Go.Proofs.Ytjklkppncmhehaa.T
open Go Go.RowKit
set_option maxRecDepth 100000
set_option maxHeartbeats 4000000
variable {E : List PanicEntry → World → Prop}
def doneC (g : GrpD) (i : Nat) : Bool := match g.done[i]? with
  | some e => e.f && decide (findE g.pend e.m < 0)
  | none => true
def headB (g : GrpD) : Bool := match g.pend with
  | [] => true
  | p :: _ => !p.f && (match g.done.getLast? with
    | some d => lessB d.t d.g p.t p.g
    | none => true)
def groupB (g : GrpD) : Bool := isGrpB g.id && decide (0 ≤ g.clock ∧ g.clock ≤ 999) && listB g.id g.clock g.pend && listB g.id g.clock g.done && allB g.done.length (doneC g) && headB g
theorem specGroupValid_T (g : GrpD) (h : grpLe g 4294967296) : TC Tw.prog E 27 [.a ((grpT g).map .r)] 0 [] (gB (groupB g)) [] := by
  obtain ⟨hpl, hdl⟩ := h; have hlen : g.done.length ≤ maxLen := by simp only [maxLen]; omega
  refine TC.enter Tw.func27 rfl (by kernel_rfl) Tw.ntmps27 (by rw [Try.results27]) (by simp) (Fits.nil rfl) ?_
  (repeat' first | refine TW.seq ?_ | refine TW.block ?_ | ((first | refine TW.skip ?_ | refine TW.exit ?_ | refine TW.ret ?_); (try simp only [tQ, bQ, if_true, Nat.reduceEqDiff, reduceIte])) | (refine TW.reg Td.mixed rfl fun C K hC hK => ?_; simp [grpT]; (repeat' first | refine And.intro ?_ ?_ | intro _ | refine iteI ?_ ?_ | (show (_ : Bool) = true; kernel_rfl) | (show _ ≤ _; first | omega | (simp; done) | (simp; omega)) | exact Or.inl rfl | (show _ < _; omega) | ((first | refine hC _ _ _ _ _ rfl (aC.plain rfl rfl (by simp; rfl) (by exact l1Group_T _) (by simp) (by simp) ?_) | refine hC _ _ _ _ _ rfl (aC.plain rfl rfl (by simp; rfl) (by exact l6In_T _ _ _) (by simp) (by simp) ?_) | refine hC _ _ _ _ _ rfl (aC.plain rfl rfl (by simp; rfl) (by exact l11List_T g _) (by simp) (by simp) ?_)); simp [grpT])); all_goals (refine hK _ ?_; clear hC hK C K; try simp only [tQ, bQ])) | (refine TW.cond rfl ?_ ?_ <;> intro hc <;> (try (cases hc; done))))
  any_goals (
    refine Rets.nil (r := gB (groupB g)) ?_ rfl; first | (simp_all [groupB]; done) | (simp_all [groupB]; intros; omega))
  refine TW.loop (fun k => ⟨[(1, .s (.ptr 0 0)), (3, gI .i64 (k : Nat))], [(0, .box ((grpT g).map .r))], 1⟩) (fun k => k ≤ g.done.length ∧ ∀ i, i < k → doneC g i = true) (fun k => g.done.length - k) 0 ⟨by omega, fun i hi => by omega⟩ (Wk.own [0] [] (by simp) (by simp) (by simp [grpT]) (by simp) (by simp)) fun k hk => ?_
  obtain ⟨hk, hf⟩ := hk; by_cases hlt : k < g.done.length
  · have he : g.done[k]? = some g.done[k] := List.getElem?_eq_getElem hlt
    have hset : doneC g k = (g.done[k].f && decide (findE g.pend g.done[k].m < 0)) := by simp [doneC, he]
    have hq : groupB g = false ∨ doneC g k = true := by
      cases h : doneC g k
      · exact .inl (by simp [groupB, allB_false hlt h])
      · exact .inr rfl
    (repeat' first | refine TW.seq ?_ | refine TW.block ?_ | ((first | refine TW.skip ?_ | refine TW.exit ?_ | refine TW.ret ?_); (try simp only [tQ, bQ, if_true, Nat.reduceEqDiff, reduceIte])) | (refine TW.reg Td.mixed rfl fun C K hC hK => ?_; simp [hlt, he, grpT, entT, wrap_add hlt hlen]; (repeat' first | refine And.intro ?_ ?_ | intro _ | refine iteI ?_ ?_ | (show (_ : Bool) = true; kernel_rfl) | (show _ ≤ _; first | omega | (simp; done) | (simp; omega)) | exact Or.inl rfl | (show _ < _; omega) | ((first | refine hC _ _ _ _ _ rfl (aC.plain rfl rfl (by simp; rfl) (by exact l11Find_T _ _) (by simp) (by simp) ?_)); simp [hlt, he, grpT, entT, wrap_add hlt hlen])); all_goals (refine hK _ ?_; clear hC hK C K; try simp only [tQ, bQ])) | (refine TW.cond rfl ?_ ?_ <;> intro hc <;> (try (cases hc; done))))
    all_goals first
      | (refine ⟨k + 1, ⟨by omega, fun i hi => ?_⟩, by omega, Wk.own [0] [] (by simp) (by simp) (by simp [grpT]) (by simp) (by simp)⟩
         by_cases e : i = k
         · subst e; simp_all
         · exact hf i (by omega))
      | (refine Rets.nil (r := gB (groupB g)) ?_ rfl
         rcases hq with hq | hq
         · simp [hq]
         · exfalso
           first | (simp_all; done) | (simp_all; omega))
  · obtain rfl : k = g.done.length := by omega
    have hall : allB g.done.length (doneC g) = true := allB_true hf
    clear hf; rcases hp : g.pend with _ | ⟨p, ps⟩
    · (repeat' first | refine TW.seq ?_ | refine TW.block ?_ | ((first | refine TW.skip ?_ | refine TW.exit ?_ | refine TW.ret ?_); (try simp only [tQ, bQ, if_true, Nat.reduceEqDiff, reduceIte])) | (refine TW.reg Td.mixed rfl fun C K hC hK => ?_; simp [grpT, hp]; (repeat' first | refine And.intro ?_ ?_ | intro _ | refine iteI ?_ ?_ | (show (_ : Bool) = true; kernel_rfl) | (show _ ≤ _; first | omega | (simp; done) | (simp; omega)) | exact Or.inl rfl | (show _ < _; omega)); all_goals (refine hK _ ?_; clear hC hK C K; try simp only [tQ, bQ])) | (refine TW.cond rfl ?_ ?_ <;> intro hc <;> (try (cases hc; done))))
      refine Rets.nil (r := gB (groupB g)) ?_ rfl; simp_all [groupB, headB]
    · have hps : ¬ ((ps.length : Int) + 1 = 0) := by omega
      rcases hn : g.done.length with _ | n
      · have hnil : g.done = [] := List.length_eq_zero_iff.1 hn
        (repeat' first | refine TW.seq ?_ | refine TW.block ?_ | ((first | refine TW.skip ?_ | refine TW.exit ?_ | refine TW.ret ?_); (try simp only [tQ, bQ, if_true, Nat.reduceEqDiff, reduceIte])) | (refine TW.reg Td.mixed rfl fun C K hC hK => ?_; simp [grpT, entT, hp, hn, hps]; (repeat' first | refine And.intro ?_ ?_ | intro _ | refine iteI ?_ ?_ | (show (_ : Bool) = true; kernel_rfl) | (show _ ≤ _; first | omega | (simp; done) | (simp; omega)) | exact Or.inl rfl | (show _ < _; omega) | ((first | refine hC _ _ _ _ _ rfl (aC.plain rfl rfl (by simp; rfl) (by exact l2Less_T _ _ _ _) (by simp) (by simp) ?_)); simp [grpT, entT, hp, hn, hps])); all_goals (refine hK _ ?_; clear hC hK C K; try simp only [tQ, bQ])) | (refine TW.cond rfl ?_ ?_ <;> intro hc <;> (try (cases hc; done))))
        all_goals
          refine Rets.nil (r := gB (groupB g)) ?_ rfl; simp_all [groupB, headB]
      · have hel : g.done[n]? = some g.done[n] := List.getElem?_eq_getElem (by omega)
        have hlast : g.done.getLast? = some g.done[n] := by rw [List.getLast?_eq_getElem?, show g.done.length - 1 = n by omega]; exact hel
        have hw := wrap_nat (k := n) (by omega)
        have hn0 : ¬ ((n : Int) + 1 = 0) := by omega
        (repeat' first | refine TW.seq ?_ | refine TW.block ?_ | ((first | refine TW.skip ?_ | refine TW.exit ?_ | refine TW.ret ?_); (try simp only [tQ, bQ, if_true, Nat.reduceEqDiff, reduceIte])) | (refine TW.reg Td.mixed rfl fun C K hC hK => ?_; simp [grpT, entT, hp, hn, hps, hn0, hw, hel]; (repeat' first | refine And.intro ?_ ?_ | intro _ | refine iteI ?_ ?_ | (show (_ : Bool) = true; kernel_rfl) | (show _ ≤ _; first | omega | (simp; done) | (simp; omega)) | exact Or.inl rfl | (show _ < _; omega) | ((first | refine hC _ _ _ _ _ rfl (aC.plain rfl rfl (by simp; rfl) (by exact l2Less_T _ _ _ _) (by simp) (by simp) ?_)); simp [grpT, entT, hp, hn, hps, hn0, hw, hel])); all_goals (refine hK _ ?_; clear hC hK C K; try simp only [tQ, bQ])) | (refine TW.cond rfl ?_ ?_ <;> intro hc <;> (try (cases hc; done))))
        all_goals
          refine Rets.nil (r := gB (groupB g)) ?_ rfl; simp_all [groupB, headB]
end Go.Proofs.Ytjklkppncmhehaa.T
namespace Go.Proofs.Ytjklkppncmhehaa.T
open Go Go.RowKit
set_option maxRecDepth 100000
set_option maxHeartbeats 4000000
variable {E : List PanicEntry → World → Prop}
def stD (g : GrpD) (m : Int) : EntD := (stampE g m).getD EntD.zero
def stB (g : GrpD) (m : Int) : Bool := (stampE g m).isSome
theorem l11Stamp_T2 (g : GrpD) (m : Int) : TC Tw.prog E 28 [.a ((grpT g).map .r), gI .i64 m] 0 [] (.p [gEnt (stD g m), gB (stB g m)]) [] := by
  have := l11Stamp_T (E := E) g m
  unfold stampR at this; unfold stD stB
  cases h : stampE g m with
  | none => rw [h] at this; exact this
  | some e => rw [h] at this; exact this
def pairB (a b : GrpD) (m : Int) : Bool :=
  !(stB a m && (stD a m).f) || !(stB b m && (if (stD b m).f then !(decide ((stD b m).t = (stD a m).t) && decide ((stD b m).g = (stD a m).g)) else lessB (stD a m).t (stD a m).g (stD b m).t (stD b m).g))
theorem pair_less {a b : GrpD} {m : Int} (h1 : stB a m = true) (h2 : (stD a m).f = true) (h3 : stB b m = true) (h4 : ¬ (stD b m).f = true) : pairB a b m = !lessB (stD a m).t (stD a m).g (stD b m).t (stD b m).g := by
  have h4 : (stD b m).f = false := by simpa using h4
  unfold pairB; rw [h1, h2, h3, h4]; simp
def gAt (gs : List GrpD) (i : Nat) : GrpD := gs.getD i ⟨0, 0, [], []⟩
def rowB (gs : List GrpD) (m i : Nat) : Bool := allB gs.length fun k => pairB (gAt gs i) (gAt gs k) m
def msgB (gs : List GrpD) (m : Nat) : Bool := allB gs.length (rowB gs m)
def idB (gs : List GrpD) (i : Nat) : Bool := groupB (gAt gs i) && decide ((gAt gs i).id = i)
def sysB (gs : List GrpD) : Bool := decide (gs.length = 5) && allB gs.length (idB gs) && allB 12 (msgB gs)
theorem specSystemValid_T (gs : List GrpD) (h : sysLe gs 4294967296) : TC Tw.prog E 11 [gR (sysT gs)] 0 [] (gB (sysB gs)) [] := by
  obtain ⟨hl, hg⟩ := h; have hlen : gs.length ≤ maxLen := by simp only [maxLen]; omega
  refine TC.enter Tw.func11 rfl (by kernel_rfl) Tw.ntmps11 (by rw [Try.results11]) (by simp) (Fits.nil rfl) ?_
  by_cases h5 : gs.length = 5
  · (repeat' first | refine TW.seq ?_ | refine TW.block ?_ | ((first | refine TW.skip ?_ | refine TW.exit ?_ | refine TW.ret ?_); (try simp only [tQ, bQ, if_true, Nat.reduceEqDiff, reduceIte])) | (refine TW.reg Td.mixed rfl fun C K hC hK => ?_; simp [h5]; (repeat' first | refine And.intro ?_ ?_ | intro _ | refine iteI ?_ ?_ | (show (_ : Bool) = true; kernel_rfl) | (show _ ≤ _; first | omega | (simp; done) | (simp; omega)) | exact Or.inl rfl | (show _ < _; omega)); all_goals (refine hK _ ?_; clear hC hK C K; try simp only [tQ, bQ])) | (refine TW.cond rfl ?_ ?_ <;> intro hc <;> (try (cases hc; done))))
    refine TW.loop (fun k => ⟨[(0, gR (sysT gs)), (3, gI .i64 (k : Nat))], [], 0⟩) (fun k => k ≤ 5 ∧ ∀ i, i < k → idB gs i = true) (fun k => 5 - k) 0 ⟨by omega, fun i hi => by omega⟩ (Wk.same (by simp) (by simp) (by simp)) fun k hk => ?_
    obtain ⟨hk, hf⟩ := hk; by_cases hlt : k < gs.length
    · have he : gs[k]? = some gs[k] := List.getElem?_eq_getElem hlt
      have hlt5 : (k : Int) < 5 := by omega
      have hset : idB gs k = (groupB gs[k] && decide (gs[k].id = k)) := by simp [idB, gAt, he]
      have hq : sysB gs = false ∨ idB gs k = true := by
        cases h : idB gs k
        · exact .inl (by simp [sysB, allB_false hlt h])
        · exact .inr rfl
      (repeat' first | refine TW.seq ?_ | refine TW.block ?_ | ((first | refine TW.skip ?_ | refine TW.exit ?_ | refine TW.ret ?_); (try simp only [tQ, bQ, if_true, Nat.reduceEqDiff, reduceIte])) | (refine TW.reg Td.mixed rfl fun C K hC hK => ?_; simp [h5, hlt5, hlt, he, grpT, wrap_add hlt hlen]; (repeat' first | refine And.intro ?_ ?_ | intro _ | refine iteI ?_ ?_ | (show (_ : Bool) = true; kernel_rfl) | (show _ ≤ _; first | omega | (simp; done) | (simp; omega)) | exact Or.inl rfl | (show _ < _; omega) | ((first | refine hC _ _ _ _ _ rfl (aC.plain rfl rfl (by simp; rfl) (by exact specGroupValid_T _ (hg _ (List.getElem_mem hlt))) (by simp) (by simp) ?_)); simp [h5, hlt5, hlt, he, grpT, wrap_add hlt hlen])); all_goals (refine hK _ ?_; clear hC hK C K; try simp only [tQ, bQ])) | (refine TW.cond rfl ?_ ?_ <;> intro hc <;> (try (cases hc; done))))
      all_goals first
        | (refine ⟨k + 1, ⟨by omega, fun i hi => ?_⟩, by omega, Wk.same (by simp) (by simp) (by simp)⟩
           by_cases e : i = k
           · subst e; simp_all
           · exact hf i (by omega))
        | (refine Rets.nil (r := gB (sysB gs)) ?_ rfl
           rcases hq with hq | hq
           · simp [hq]
           · exfalso
             first | (simp_all; done) | (simp_all; omega))
    · obtain rfl : k = 5 := by omega
      have hall : allB gs.length (idB gs) = true := allB_true (by rw [h5]; exact hf)
      clear hf hk hlt; (repeat' first | refine TW.seq ?_ | refine TW.block ?_ | ((first | refine TW.skip ?_ | refine TW.exit ?_ | refine TW.ret ?_); (try simp only [tQ, bQ, if_true, Nat.reduceEqDiff, reduceIte])) | (refine TW.reg Td.mixed rfl fun C K hC hK => ?_; simp [h5]; (repeat' first | refine And.intro ?_ ?_ | intro _ | refine iteI ?_ ?_ | (show (_ : Bool) = true; kernel_rfl) | (show _ ≤ _; first | omega | (simp; done) | (simp; omega)) | exact Or.inl rfl | (show _ < _; omega)); all_goals (refine hK _ ?_; clear hC hK C K; try simp only [tQ, bQ])) | (refine TW.cond rfl ?_ ?_ <;> intro hc <;> (try (cases hc; done))))
      refine TW.loop (fun m => ⟨[(0, gR (sysT gs)), (4, gI .i64 (m : Nat))], [], 0⟩) (fun m => m ≤ 12 ∧ ∀ i, i < m → msgB gs i = true) (fun m => 12 - m) 0 ⟨by omega, fun i hi => by omega⟩ (Wk.same (by simp) (by simp) (by simp)) fun m hm => ?_
      obtain ⟨hm, hf⟩ := hm; by_cases hlt : m < 12
      · have hqm : sysB gs = false ∨ msgB gs m = true := by
          cases h : msgB gs m
          · exact .inl (by simp [sysB, allB_false hlt h])
          · exact .inr rfl
        have hwm : IntKind.i64.wrap ((m : Int) + 1) = (m : Int) + 1 := wrap_ok (by omega) (by omega)
        have hlm : (m : Int) < 12 := by omega
        (repeat' first | refine TW.seq ?_ | refine TW.block ?_ | ((first | refine TW.skip ?_ | refine TW.exit ?_ | refine TW.ret ?_); (try simp only [tQ, bQ, if_true, Nat.reduceEqDiff, reduceIte])) | (refine TW.reg Td.mixed rfl fun C K hC hK => ?_; simp [hlm]; (repeat' first | refine And.intro ?_ ?_ | intro _ | refine iteI ?_ ?_ | (show (_ : Bool) = true; kernel_rfl) | (show _ ≤ _; first | omega | (simp; done) | (simp; omega)) | exact Or.inl rfl | (show _ < _; omega)); all_goals (refine hK _ ?_; clear hC hK C K; try simp only [tQ, bQ])) | (refine TW.cond rfl ?_ ?_ <;> intro hc <;> (try (cases hc; done))))
        refine TW.loop (fun i => ⟨[(0, gR (sysT gs)), (4, gI .i64 (m : Nat)), (5, gI .i64 (i : Nat))], [], 0⟩) (fun i => i ≤ 5 ∧ ∀ j, j < i → rowB gs m j = true) (fun i => 5 - i) 0 ⟨by omega, fun i hi => by omega⟩ (Wk.same (by simp) (by simp) (by simp)) fun i hi => ?_
        obtain ⟨hi, hfi⟩ := hi; by_cases hlti : i < gs.length
        · have hei : gs[i]? = some gs[i] := List.getElem?_eq_getElem hlti
          have hlt5 : (i : Int) < 5 := by omega
          (repeat' first | refine TW.seq ?_ | refine TW.block ?_ | ((first | refine TW.skip ?_ | refine TW.exit ?_ | refine TW.ret ?_); (try simp only [tQ, bQ, if_true, Nat.reduceEqDiff, reduceIte])) | (refine TW.reg Td.mixed rfl fun C K hC hK => ?_; simp [h5, hlt5, hlti, hei, grpT, entT]; (repeat' first | refine And.intro ?_ ?_ | intro _ | refine iteI ?_ ?_ | (show (_ : Bool) = true; kernel_rfl) | (show _ ≤ _; first | omega | (simp; done) | (simp; omega)) | exact Or.inl rfl | (show _ < _; omega) | ((first | refine hC _ _ _ _ _ rfl (aC.plain rfl rfl (by simp; rfl) (by exact l11Stamp_T2 _ _) (by simp) (by simp) ?_)); simp [h5, hlt5, hlti, hei, grpT, entT])); all_goals (refine hK _ ?_; clear hC hK C K; try simp only [tQ, bQ])) | (refine TW.cond rfl ?_ ?_ <;> intro hc <;> (try (cases hc; done))))
          have hqi : sysB gs = false ∨ rowB gs m i = true := by
            rcases hqm with h | h
            · exact .inl h
            · exact .inr (by simp only [msgB, allB, List.all_eq_true, List.mem_range] at h; exact h i hlti)
          refine TW.loop (fun k => ⟨[(0, gR (sysT gs)), (4, gI .i64 (m : Nat)), (5, gI .i64 (i : Nat)), (6, .s (.ptr 0 0)), (7, gB (stB gs[i] m)), (8, gI .i64 (k : Nat))], [(0, .box ((entT (stD gs[i] m)).map .r))], 1⟩) (fun k => k ≤ 5 ∧ ∀ j, j < k → pairB gs[i] (gAt gs j) m = true) (fun k => 5 - k) 0 ⟨by omega, fun j hj => by omega⟩ (Wk.own [0] [] (by simp) (by simp) (by simp [entT]) (by simp) (by simp)) fun k hk => ?_
          obtain ⟨hk, hfk⟩ := hk; by_cases hltk : k < gs.length
          · have hek : gs[k]? = some gs[k] := List.getElem?_eq_getElem hltk
            have hk5 : (k : Int) < 5 := by omega
            have hgi : gAt gs i = gs[i] := by simp [gAt, hei]
            have hgk : gAt gs k = gs[k] := by simp [gAt, hek]
            have hqp : sysB gs = false ∨ pairB gs[i] gs[k] m = true := by
              rcases hqi with h | h
              · exact .inl h
              · refine .inr ?_
                simp only [rowB, allB, List.all_eq_true, List.mem_range] at h; have := h k hltk
                rwa [hgi, hgk] at this
            (repeat' first | refine TW.seq ?_ | refine TW.block ?_ | ((first | refine TW.skip ?_ | refine TW.exit ?_ | refine TW.ret ?_); (try simp only [tQ, bQ, if_true, Nat.reduceEqDiff, reduceIte])) | (refine TW.reg Td.mixed rfl fun C K hC hK => ?_; simp [h5, hk5, hltk, hek, grpT, entT, wrap_add hltk hlen, wrap_add hlti hlen]; (repeat' first | refine And.intro ?_ ?_ | intro _ | refine iteI ?_ ?_ | (show (_ : Bool) = true; kernel_rfl) | (show _ ≤ _; first | omega | (simp; done) | (simp; omega)) | exact Or.inl rfl | (show _ < _; omega) | ((first | refine hC _ _ _ _ _ rfl (aC.plain rfl rfl (by simp; rfl) (by exact l11Stamp_T2 _ _) (by simp) (by simp) ?_) | refine hC _ _ _ _ _ rfl (aC.plain rfl rfl (by simp; rfl) (by exact l2Less_T _ _ _ _) (by simp) (by simp) ?_)); simp [h5, hk5, hltk, hek, grpT, entT, wrap_add hltk hlen, wrap_add hlti hlen])); all_goals (refine hK _ ?_; clear hC hK C K; try simp only [tQ, bQ])) | (refine TW.cond rfl ?_ ?_ <;> intro hc <;> (try (cases hc; done))))
            all_goals first
              | (refine ⟨k + 1, ⟨by omega, fun j hj => ?_⟩, by omega, Wk.own [0] [] (by simp) (by simp) (by simp [entT]) (by simp) (by simp)⟩
                 by_cases e : j = k
                 · subst e; rw [hgk]; first | (simp_all [pairB]; done) | (rw [pair_less (by assumption) (by assumption) (by assumption) (by assumption), hc]; rfl)
                 · exact hfk j (by omega))
              | (refine ⟨i + 1, ⟨by omega, fun j hj => ?_⟩, by omega, Wk.same (by simp) (by simp) (by simp)⟩
                 by_cases e : j = i
                 · subst e
                   simp only [rowB, hgi]; exact allB_true fun l _ => by simp_all [pairB]
                 · exact hfi j (by omega))
              | (refine Rets.nil (r := gB (sysB gs)) ?_ rfl
                 rcases hqp with hqp | hqp
                 · simp [hqp]
                 · exfalso
                   first | (simp_all [pairB]; done) | (rw [pair_less (by assumption) (by assumption) (by assumption) (by assumption), hc] at hqp; cases hqp))
          · obtain rfl : k = 5 := by omega
            have hgi : gAt gs i = gs[i] := by simp [gAt, hei]
            have hrow : rowB gs m i = true := by simp only [rowB, hgi]; exact allB_true (by rw [h5]; exact hfk)
            clear hfk hltk hk; (repeat' first | refine TW.seq ?_ | refine TW.block ?_ | ((first | refine TW.skip ?_ | refine TW.exit ?_ | refine TW.ret ?_); (try simp only [tQ, bQ, if_true, Nat.reduceEqDiff, reduceIte])) | (refine TW.reg Td.mixed rfl fun C K hC hK => ?_; simp [h5, grpT, entT, wrap_add hlti hlen]; (repeat' first | refine And.intro ?_ ?_ | intro _ | refine iteI ?_ ?_ | (show (_ : Bool) = true; kernel_rfl) | (show _ ≤ _; first | omega | (simp; done) | (simp; omega)) | exact Or.inl rfl | (show _ < _; omega)); all_goals (refine hK _ ?_; clear hC hK C K; try simp only [tQ, bQ])) | (refine TW.cond rfl ?_ ?_ <;> intro hc <;> (try (cases hc; done))))
            refine ⟨i + 1, ⟨by omega, fun j hj => ?_⟩, by omega, Wk.same (by simp) (by simp) (by simp)⟩
            by_cases e : j = i
            · subst e; exact hrow
            · exact hfi j (by omega)
        · obtain rfl : i = 5 := by omega
          have hmsg : msgB gs m = true := allB_true (by rw [h5]; exact hfi)
          clear hfi hlti hi; (repeat' first | refine TW.seq ?_ | refine TW.block ?_ | ((first | refine TW.skip ?_ | refine TW.exit ?_ | refine TW.ret ?_); (try simp only [tQ, bQ, if_true, Nat.reduceEqDiff, reduceIte])) | (refine TW.reg Td.mixed rfl fun C K hC hK => ?_; simp [h5, hwm]; (repeat' first | refine And.intro ?_ ?_ | intro _ | refine iteI ?_ ?_ | (show (_ : Bool) = true; kernel_rfl) | (show _ ≤ _; first | omega | (simp; done) | (simp; omega)) | exact Or.inl rfl | (show _ < _; omega)); all_goals (refine hK _ ?_; clear hC hK C K; try simp only [tQ, bQ])) | (refine TW.cond rfl ?_ ?_ <;> intro hc <;> (try (cases hc; done))))
          refine ⟨m + 1, ⟨by omega, fun j hj => ?_⟩, by omega, Wk.same (by simp) (by simp) (by simp)⟩
          by_cases e : j = m
          · subst e; exact hmsg
          · exact hf j (by omega)
      · obtain rfl : m = 12 := by omega
        (repeat' first | refine TW.seq ?_ | refine TW.block ?_ | ((first | refine TW.skip ?_ | refine TW.exit ?_ | refine TW.ret ?_); (try simp only [tQ, bQ, if_true, Nat.reduceEqDiff, reduceIte])) | (refine TW.reg Td.mixed rfl fun C K hC hK => ?_; simp; (repeat' first | refine And.intro ?_ ?_ | intro _ | refine iteI ?_ ?_ | (show (_ : Bool) = true; kernel_rfl) | (show _ ≤ _; first | omega | (simp; done) | (simp; omega)) | exact Or.inl rfl | (show _ < _; omega)); all_goals (refine hK _ ?_; clear hC hK C K; try simp only [tQ, bQ])) | (refine TW.cond rfl ?_ ?_ <;> intro hc <;> (try (cases hc; done))))
        refine Rets.nil (r := gB (sysB gs)) ?_ rfl; simp [sysB, h5, allB_true hf]; rw [← h5]; exact hall
  · have h5' : ¬ ((gs.length : Int) = 5) := by omega
    (repeat' first | refine TW.seq ?_ | refine TW.block ?_ | ((first | refine TW.skip ?_ | refine TW.exit ?_ | refine TW.ret ?_); (try simp only [tQ, bQ, if_true, Nat.reduceEqDiff, reduceIte])) | (refine TW.reg Td.mixed rfl fun C K hC hK => ?_; simp [h5, h5']; (repeat' first | refine And.intro ?_ ?_ | intro _ | refine iteI ?_ ?_ | (show (_ : Bool) = true; kernel_rfl) | (show _ ≤ _; first | omega | (simp; done) | (simp; omega)) | exact Or.inl rfl | (show _ < _; omega)); all_goals (refine hK _ ?_; clear hC hK C K; try simp only [tQ, bQ])) | (refine TW.cond rfl ?_ ?_ <;> intro hc <;> (try (cases hc; done))))
    refine Rets.nil (r := gB (sysB gs)) ?_ rfl; simp [sysB, h5]
end Go.Proofs.Ytjklkppncmhehaa.T
namespace Go.Proofs.Ytjklkppncmhehaa.T
open Go Go.RowKit
set_option maxRecDepth 100000
set_option maxHeartbeats 4000000
variable {E : List PanicEntry → World → Prop}
def stT (s : Int × Int) : List RT := [rI s.1, rI s.2]
abbrev stsT (xs : List (Int × Int)) : RT := .sl 2 (xs.map stT)
abbrev gSt (s : Int × Int) : GV := .a [.r (rI s.1), .r (rI s.2)]
def maxS (a : Int × Int) : List (Int × Int) → Int × Int
  | [] => a
  | x :: xs => maxS (if lessB a.1 a.2 x.1 x.2 = true then x else a) xs
theorem maxS_drop {a x : Int × Int} {xs : List (Int × Int)} {k : Nat} (h : xs[k]? = some x) : maxS a (xs.drop k) = maxS (if lessB a.1 a.2 x.1 x.2 = true then x else a) (xs.drop (k + 1)) := by
  obtain ⟨hk, he⟩ := List.getElem?_eq_some_iff.1 h; rw [List.drop_eq_getElem_cons hk, maxS, he]
theorem l2Max_T (x : Int × Int) (xs : List (Int × Int)) : TC Tw.prog E 120 [gR (stsT (x :: xs))] 0 [] (gSt (maxS x xs)) [] := by
  refine TC.enter Tw.func120 rfl (by kernel_rfl) Tw.ntmps120 (by rw [Try.results120]) (by simp) (Fits.nil rfl) ?_
  refine TW.len 0 rfl fun hlen => ?_; simp only [List.length_map] at hlen; generalize hys : x :: xs = ys at *; have h0 : ys[0]? = some x := by rw [← hys]; rfl
  have hM : maxS x xs = maxS x (ys.drop 1) := by rw [← hys]; rfl
  have hpos : 1 ≤ ys.length := by rw [← hys]; simp
  rw [hM]; clear hys hM; (repeat' first | refine TW.seq ?_ | refine TW.block ?_ | ((first | refine TW.skip ?_ | refine TW.exit ?_ | refine TW.ret ?_); (try simp only [tQ, bQ, if_true, Nat.reduceEqDiff, reduceIte])) | (refine TW.reg Td.mixed rfl fun C K hC hK => ?_; simp [h0, stT]; (repeat' first | refine And.intro ?_ ?_ | intro _ | refine iteI ?_ ?_ | (show (_ : Bool) = true; kernel_rfl) | (show _ ≤ _; first | omega | (simp; done) | (simp; omega)) | exact Or.inl rfl | (show _ < _; omega)); all_goals (refine hK _ ?_; clear hC hK C K; try simp only [tQ, bQ])) | (refine TW.cond rfl ?_ ?_ <;> intro hc <;> (try (cases hc; done))))
  refine TW.loop (fun (p : Nat × (Int × Int)) => ⟨[(0, gR (stsT ys)), (2, .s (.ptr 1 0)), (3, .s (.ptr 0 0)), (4, gI .i64 (p.1 : Nat))], [(0, .box [.r (rI p.2.1), .r (rI p.2.2)]), (1, .box [.r (rI 0), .r (rI 0)])], 2⟩) (fun p => p.1 ≤ ys.length ∧ maxS p.2 (ys.drop p.1) = maxS x (ys.drop 1)) (fun p => ys.length - p.1) (1, x) ⟨hpos, rfl⟩ (Wk.own [1, 0] [] (by simp) (by simp) (by simp) (by simp) (by simp)) fun p hp => ?_
  obtain ⟨k, b⟩ := p; obtain ⟨hk, hb⟩ := hp; simp only at hk hb ⊢
  by_cases hlt : k < ys.length
  · have he : ys[k]? = some ys[k] := List.getElem?_eq_getElem hlt
    have hd := maxS_drop (a := b) he; (repeat' first | refine TW.seq ?_ | refine TW.block ?_ | ((first | refine TW.skip ?_ | refine TW.exit ?_ | refine TW.ret ?_); (try simp only [tQ, bQ, if_true, Nat.reduceEqDiff, reduceIte])) | (refine TW.reg Td.mixed rfl fun C K hC hK => ?_; simp [hlt, he, stT, wrap_add hlt hlen]; (repeat' first | refine And.intro ?_ ?_ | intro _ | refine iteI ?_ ?_ | (show (_ : Bool) = true; kernel_rfl) | (show _ ≤ _; first | omega | (simp; done) | (simp; omega)) | exact Or.inl rfl | (show _ < _; omega) | ((first | refine hC _ _ _ _ _ rfl (aC.plain rfl rfl (by simp; rfl) (by exact l2Less_T _ _ _ _) (by simp) (by simp) ?_)); simp [hlt, he, stT, wrap_add hlt hlen])); all_goals (refine hK _ ?_; clear hC hK C K; try simp only [tQ, bQ])) | (refine TW.cond rfl ?_ ?_ <;> intro hc <;> (try (cases hc; done))))
    · exact ⟨(k + 1, ys[k]), ⟨by simp only; omega, by rw [← hb, hd, if_pos hc]⟩, by simp only; omega, Wk.own [0, 1] [] (by simp) (by simp) (by simp) (by simp) (by simp)⟩
    · exact ⟨(k + 1, b), ⟨by simp only; omega, by rw [← hb, hd, if_neg (by simp [hc])]⟩, by simp only; omega, Wk.own [0, 1] [] (by simp) (by simp) (by simp) (by simp) (by simp)⟩
  · obtain rfl : k = ys.length := by omega
    (repeat' first | refine TW.seq ?_ | refine TW.block ?_ | ((first | refine TW.skip ?_ | refine TW.exit ?_ | refine TW.ret ?_); (try simp only [tQ, bQ, if_true, Nat.reduceEqDiff, reduceIte])) | (refine TW.reg Td.mixed rfl fun C K hC hK => ?_; simp; (repeat' first | refine And.intro ?_ ?_ | intro _ | refine iteI ?_ ?_ | (show (_ : Bool) = true; kernel_rfl) | (show _ ≤ _; first | omega | (simp; done) | (simp; omega)) | exact Or.inl rfl | (show _ < _; omega)); all_goals (refine hK _ ?_; clear hC hK C K; try simp only [tQ, bQ])) | (refine TW.cond rfl ?_ ?_ <;> intro hc <;> (try (cases hc; done))))
    rw [List.drop_length] at hb; simp only [maxS] at hb; rw [← hb]; refine Rets.nil (r := gSt b) ?_ rfl; simp
end Go.Proofs.Ytjklkppncmhehaa.T
namespace Go.Proofs.Ytjklkppncmhehaa.T
open Go Go.RowKit
set_option maxRecDepth 100000
set_option maxHeartbeats 4000000
variable {E : List PanicEntry → World → Prop}
def proposeD (g : GrpD) (m : Int) : GrpD × (Int × Int) × Bool := match g.pend.find? (fun e => decide (e.m = m)) with
  | some e => if e.f = true then (g, (0, 0), false) else (g, (e.t, e.g), true)
  | none => match g.done.find? (fun e => decide (e.m = m)) with
    | some _ => (g, (0, 0), false)
    | none => if 999 ≤ g.clock then (g, (0, 0), false) else (⟨g.id, g.clock + 1, g.pend ++ [⟨m, g.clock + 1, g.id, false⟩], g.done⟩, (g.clock + 1, g.id), true)
abbrev proposeR (r : GrpD × (Int × Int) × Bool) : GV := .p [grpO r.1 0 1, gSt r.2.1, gB r.2.2]
abbrev grpS (g : GrpD) : List (Nat × Blk) := [(0, entsB g.pend), (1, entsB g.done)]
theorem l11Propose_T (g : GrpD) (m : Int) (h : grpLe g 4294967290) (h0 : 0 ≤ g.clock) : TC Tw.prog E 66 [.a ((grpT g).map .r), gI .i64 m] 0 [] (proposeR (proposeD g m)) (grpS (proposeD g m).1) := by
  obtain ⟨hpl, hdl⟩ := h; have hle : grpLe g 4294967296 := ⟨by omega, by omega⟩
  refine TC.enter Tw.func66 rfl (by kernel_rfl) Tw.ntmps66 (by rw [Try.results66]) (by simp) (Fits.nil rfl) ?_
  rcases findE_cases g.pend m with ⟨hp, hp'⟩ | ⟨j, e, hp, he, hp', _⟩
  · rcases findE_cases g.done m with ⟨hd, hd'⟩ | ⟨j, e, hd, he, hd', _⟩
    · by_cases h9 : 999 ≤ g.clock
      · have hr : proposeD g m = (g, (0, 0), false) := by simp [proposeD, hp', hd', h9]
        rw [hr]; (repeat' first | refine TW.seq ?_ | refine TW.block ?_ | ((first | refine TW.skip ?_ | refine TW.exit ?_ | refine TW.ret ?_); (try simp only [tQ, bQ, if_true, Nat.reduceEqDiff, reduceIte])) | (refine TW.reg Td.mixed rfl fun C K hC hK => ?_; simp [grpT, entT, hp, hd, h9]; (repeat' first | refine And.intro ?_ ?_ | intro _ | refine iteI ?_ ?_ | (show (_ : Bool) = true; kernel_rfl) | (show _ ≤ _; first | omega | (simp; done) | (simp; omega)) | exact Or.inl rfl | (show _ < _; omega) | ((first | refine hC _ _ _ _ _ rfl (aC.fresh rfl rfl [] (by simp; rfl) (by simp) 2 (by exact l11Copy_T _ hle) (by simp) (by simp) (by simp) ?_) | refine hC _ _ _ _ _ rfl (aC.plain rfl rfl (by simp; rfl) (by exact l11Find_T _ _) (by simp) (by simp) ?_)); simp [grpT, entT, hp, hd, h9])); all_goals (refine hK _ ?_; clear hC hK C K; try simp only [tQ, bQ])) | (refine TW.cond rfl ?_ ?_ <;> intro hc <;> (try (cases hc; done))))
        refine Rets.own [3, 4] [] (by simp; rfl) (by simp) (by simp) (by simp) (by simp) (by simp)
      · have hr : proposeD g m = (⟨g.id, g.clock + 1, g.pend ++ [⟨m, g.clock + 1, g.id, false⟩], g.done⟩, (g.clock + 1, g.id), true) := by simp [proposeD, hp', hd', h9]
        have hw : IntKind.i64.wrap (g.clock + 1) = g.clock + 1 := wrap_ok (by omega) (by omega)
        rw [hr]; (repeat' first | refine TW.seq ?_ | refine TW.block ?_ | ((first | refine TW.skip ?_ | refine TW.exit ?_ | refine TW.ret ?_); (try simp only [tQ, bQ, if_true, Nat.reduceEqDiff, reduceIte])) | (refine TW.reg Td.mixed rfl fun C K hC hK => ?_; simp [grpT, entT, hp, hd, h9, hw, maxLen]; (repeat' first | refine And.intro ?_ ?_ | intro _ | refine iteI ?_ ?_ | (show (_ : Bool) = true; kernel_rfl) | (show _ ≤ _; first | omega | (simp; done) | (simp; omega)) | exact Or.inl rfl | (show _ < _; omega) | ((first | refine hC _ _ _ _ _ rfl (aC.fresh rfl rfl [] (by simp; rfl) (by simp) 2 (by exact l11Copy_T _ hle) (by simp) (by simp) (by simp) ?_) | refine hC _ _ _ _ _ rfl (aC.plain rfl rfl (by simp; rfl) (by exact l11Find_T _ _) (by simp) (by simp) ?_)); simp [grpT, entT, hp, hd, h9, hw, maxLen])); all_goals (refine hK _ ?_; clear hC hK C K; try simp only [tQ, bQ])) | (refine TW.cond rfl ?_ ?_ <;> intro hc <;> (try (cases hc; done))))
        exact Rets.own [8, 4] [] (by simp; rfl) (by simp) (by simp) (by simp) (by simp [entT]) (by simp)
    · have hr : proposeD g m = (g, (0, 0), false) := by simp [proposeD, hp', hd']
      rw [hr]; (repeat' first | refine TW.seq ?_ | refine TW.block ?_ | ((first | refine TW.skip ?_ | refine TW.exit ?_ | refine TW.ret ?_); (try simp only [tQ, bQ, if_true, Nat.reduceEqDiff, reduceIte])) | (refine TW.reg Td.mixed rfl fun C K hC hK => ?_; simp [grpT, entT, hp, hd]; (repeat' first | refine And.intro ?_ ?_ | intro _ | refine iteI ?_ ?_ | (show (_ : Bool) = true; kernel_rfl) | (show _ ≤ _; first | omega | (simp; done) | (simp; omega)) | exact Or.inl rfl | (show _ < _; omega) | ((first | refine hC _ _ _ _ _ rfl (aC.fresh rfl rfl [] (by simp; rfl) (by simp) 2 (by exact l11Copy_T _ hle) (by simp) (by simp) (by simp) ?_) | refine hC _ _ _ _ _ rfl (aC.plain rfl rfl (by simp; rfl) (by exact l11Find_T _ _) (by simp) (by simp) ?_)); simp [grpT, entT, hp, hd])); all_goals (refine hK _ ?_; clear hC hK C K; try simp only [tQ, bQ])) | (refine TW.cond rfl ?_ ?_ <;> intro hc <;> (try (cases hc; done))))
      refine Rets.own [3, 4] [] (by simp; rfl) (by simp) (by simp) (by simp) (by simp) (by simp)
  · cases hf : e.f
    · have hr : proposeD g m = (g, (e.t, e.g), true) := by simp [proposeD, hp', hf]
      rw [hr]; (repeat' first | refine TW.seq ?_ | refine TW.block ?_ | ((first | refine TW.skip ?_ | refine TW.exit ?_ | refine TW.ret ?_); (try simp only [tQ, bQ, if_true, Nat.reduceEqDiff, reduceIte])) | (refine TW.reg Td.mixed rfl fun C K hC hK => ?_; simp [grpT, entT, hp, he, hf]; (repeat' first | refine And.intro ?_ ?_ | intro _ | refine iteI ?_ ?_ | (show (_ : Bool) = true; kernel_rfl) | (show _ ≤ _; first | omega | (simp; done) | (simp; omega)) | exact Or.inl rfl | (show _ < _; omega) | ((first | refine hC _ _ _ _ _ rfl (aC.fresh rfl rfl [] (by simp; rfl) (by simp) 2 (by exact l11Copy_T _ hle) (by simp) (by simp) (by simp) ?_) | refine hC _ _ _ _ _ rfl (aC.plain rfl rfl (by simp; rfl) (by exact l11Find_T _ _) (by simp) (by simp) ?_)); simp [grpT, entT, hp, he, hf])); all_goals (refine hK _ ?_; clear hC hK C K; try simp only [tQ, bQ])) | (refine TW.cond rfl ?_ ?_ <;> intro hc <;> (try (cases hc; done))))
      refine Rets.own [3, 4] [] (by simp; rfl) (by simp) (by simp) (by simp) (by simp) (by simp)
    · have hr : proposeD g m = (g, (0, 0), false) := by simp [proposeD, hp', hf]
      rw [hr]; (repeat' first | refine TW.seq ?_ | refine TW.block ?_ | ((first | refine TW.skip ?_ | refine TW.exit ?_ | refine TW.ret ?_); (try simp only [tQ, bQ, if_true, Nat.reduceEqDiff, reduceIte])) | (refine TW.reg Td.mixed rfl fun C K hC hK => ?_; simp [grpT, entT, hp, he, hf]; (repeat' first | refine And.intro ?_ ?_ | intro _ | refine iteI ?_ ?_ | (show (_ : Bool) = true; kernel_rfl) | (show _ ≤ _; first | omega | (simp; done) | (simp; omega)) | exact Or.inl rfl | (show _ < _; omega) | ((first | refine hC _ _ _ _ _ rfl (aC.fresh rfl rfl [] (by simp; rfl) (by simp) 2 (by exact l11Copy_T _ hle) (by simp) (by simp) (by simp) ?_) | refine hC _ _ _ _ _ rfl (aC.plain rfl rfl (by simp; rfl) (by exact l11Find_T _ _) (by simp) (by simp) ?_)); simp [grpT, entT, hp, he, hf])); all_goals (refine hK _ ?_; clear hC hK C K; try simp only [tQ, bQ])) | (refine TW.cond rfl ?_ ?_ <;> intro hc <;> (try (cases hc; done))))
      refine Rets.own [3, 4] [] (by simp; rfl) (by simp) (by simp) (by simp) (by simp) (by simp)
end Go.Proofs.Ytjklkppncmhehaa.T
