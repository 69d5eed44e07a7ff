/-
What is proved: what the program's check of a group, and its look-up, do to trees; the check is the reference's. No condition but the lengths that each states. what the reference's recovery does to trees. No condition but the lengths and ranges that each states.
-/
import Derived.Test.YtjklkppncmhehaaSf35
set_option linter.unusedVariables false
set_option linter.unusedSimpArgs false
namespace Go.Proofs.Ytjklkppncmhehaa.T
open Go Go.RowKit
set_option maxRecDepth 100000
set_option maxHeartbeats 4000000
variable {E : List PanicEntry → World → Prop}
def seenL (es : List EntD) (k : Nat) : List Bool := (List.range 12).map fun m => (es.take k).any fun e => decide (e.m = (m : Nat))
def seenC (es : List EntD) (k : Nat) : List TV := (seenL es k).map fun b => .r (rB b)
theorem seenC_len (es : List EntD) (k : Nat) : (seenC es k).length = 12 := by simp [seenC, seenL]
def dupB (es : List EntD) (k : Nat) (m : Int) : Bool := (es.take k).any fun e => decide (e.m = m)
theorem seenC_get (es : List EntD) (k : Nat) {m : Int} (h0 : 0 ≤ m) (h1 : m < 12) : List.take 1 (List.drop m.toNat (seenC es k)) = [.r (rB (dupB es k m))] := by
  have hlt : m.toNat < (seenC es k).length := by rw [seenC_len]; omega
  rw [List.drop_eq_getElem_cons hlt]; simp only [List.take_succ_cons, List.take_zero, seenC, seenL, List.getElem_map, List.getElem_range, dupB]; rw [show ((m.toNat : Nat) : Int) = m by omega]
theorem seenC_set (es : List EntD) (k : Nat) {e : EntD} (he : es[k]? = some e) (h0 : 0 ≤ e.m) (h1 : e.m < 12) : List.take e.m.toNat (seenC es k) ++ .r (rB true) :: List.drop (e.m.toNat + 1) (seenC es k) = seenC es (k + 1) := by
  have hlt : e.m.toNat < (seenC es k).length := by rw [seenC_len]; omega
  have hse : (seenC es k).set e.m.toNat (.r (rB true)) = List.take e.m.toNat (seenC es k) ++ .r (rB true) :: List.drop (e.m.toNat + 1) (seenC es k) := by rw [List.set_eq_take_append_cons_drop, if_pos hlt]
  rw [← hse]; apply List.ext_getElem
  · simp [seenC_len]
  · intro i h2 h3
    have hi : i < 12 := by rw [seenC_len] at h3; exact h3
    rw [List.getElem_set]; simp only [seenC, seenL, List.getElem_map, List.getElem_range]; rw [List.take_add_one, he, List.any_append]; by_cases hm : e.m.toNat = i
    · rw [if_pos hm]
      simp only [Option.toList_some, List.any_cons, List.any_nil, Bool.or_false]; rw [show decide (e.m = (i : Nat)) = true by simp; omega, Bool.or_true]
    · rw [if_neg hm]
      simp only [Option.toList_some, List.any_cons, List.any_nil, Bool.or_false]; rw [show decide (e.m = (i : Nat)) = false by simp; omega, Bool.or_false]
theorem seenC_r {es : List EntD} {k : Nat} {x : TV} (h : x ∈ seenC es k) : ∃ b, x = .r (rB b) := by
  obtain ⟨b, _, rfl⟩ := List.mem_map.1 h; exact ⟨b, rfl⟩
def distC (es : List EntD) (i : Nat) : Bool := match es[i]? with
  | some e => !dupB es i e.m
  | none => true
def finC (es : List EntD) (i : Nat) : Bool := match es[i]? with
  | some e => e.f
  | none => true
def validB (g : GrpD) : Bool := isGrpB g.id && isTimeB g.clock && areB g.id g.clock g.pend && areB g.id g.clock g.done && allB (g.done ++ g.pend).length (distC (g.done ++ g.pend)) && allB g.done.length (finC g.done) && headB g
theorem areB_msg {id clock : Int} {es : List EntD} (h : areB id clock es = true) {e : EntD} (he : e ∈ es) : 0 ≤ e.m ∧ e.m < 12 := by
  obtain ⟨i, hi, rfl⟩ := List.getElem_of_mem he; simp only [areB, allB, List.all_eq_true, List.mem_range] at h; have := h i hi
  unfold areC at this; rw [List.getElem?_eq_getElem hi] at this; simp only [Bool.and_eq_true, isMsgB, decide_eq_true_eq] at this; exact this.1.1.1.1
theorem GroupValid_T (g : GrpD) (h : grpLe g 4294967290) : TC Tw.prog E 25 [.a ((grpT g).map .r)] 0 [] (gB (validB g)) [] := by
  obtain ⟨hpl, hdl⟩ := h; have hlen : g.done.length ≤ maxLen := by simp only [maxLen]; omega
  refine TC.enter Tw.func25 rfl (by kernel_rfl) Tw.ntmps25 (by rw [Try.results25]) (by simp) (Fits.nil rfl) ?_
  cases hv : isGrpB g.id && isTimeB g.clock && areB g.id g.clock g.pend && areB g.id g.clock g.done
  · rw [show validB g = false by rw [validB, hv]; simp]
    (repeat' first | refine TW.seq ?_ | refine TW.block ?_ | ((first | refine TW.skip ?_ | refine TW.exit ?_ | refine TW.ret ?_); (try simp only [tQ, bQ, if_true, Nat.reduceEqDiff, reduceIte])) | (refine TW.reg Td.mixed rfl fun C K hC hK => ?_; simp [grpT]; (repeat' first | refine And.intro ?_ ?_ | intro _ | refine iteI ?_ ?_ | (show (_ : Bool) = true; kernel_rfl) | (show _ ≤ _; first | omega | (simp; done) | (simp; omega)) | exact Or.inl rfl | (show _ < _; omega) | ((first | refine hC _ _ _ _ _ rfl (aC.plain rfl rfl (by simp; rfl) (by exact isGroup_T _) (by simp) (by simp) ?_) | refine hC _ _ _ _ _ rfl (aC.plain rfl rfl (by simp; rfl) (by exact isTime_T _) (by simp) (by simp) ?_) | refine hC _ _ _ _ _ rfl (aC.plain rfl rfl (by simp; rfl) (by exact areEntries_T g _) (by simp) (by simp) ?_)); simp [grpT])); all_goals (refine hK _ ?_; clear hC hK C K; try simp only [tQ, bQ])) | (refine TW.cond rfl ?_ ?_ <;> intro hc <;> (try (cases hc; done))))
    all_goals first
      | (refine Rets.own [] [] (by simp; rfl) (by simp) (by simp) (by simp) (by simp) (by simp))
      | (exfalso; simp_all)
  · have hv' := hv
    simp only [Bool.and_eq_true] at hv'; obtain ⟨⟨⟨v1, v2⟩, v3⟩, v4⟩ := hv'; generalize hes : g.done ++ g.pend = es; have hel : es.length ≤ 8589934580 := by rw [← hes]; simp; omega
    have helm : es.length ≤ maxLen := by simp only [maxLen]; omega
    have hmsg : ∀ e ∈ es, 0 ≤ e.m ∧ e.m < 12 := fun e he => by
      rw [← hes] at he; rcases List.mem_append.1 he with he | he
      · exact areB_msg v4 he
      · exact areB_msg v3 he
    have hvB : validB g = (allB es.length (distC es) && allB g.done.length (finC g.done) && headB g) := by
      rw [validB, hv, hes, Bool.true_and]
    have hcl := cloneEntry_T (E := E) g.done (by omega)
    have hsc0 : seenC es 0 = [.r (rB false), .r (rB false), .r (rB false), .r (rB false), .r (rB false), .r (rB false), .r (rB false), .r (rB false), .r (rB false), .r (rB false), .r (rB false), .r (rB false)] := by simp [seenC, seenL, List.range_succ]
    (repeat' first | refine TW.seq ?_ | refine TW.block ?_ | ((first | refine TW.skip ?_ | refine TW.exit ?_ | refine TW.ret ?_); (try simp only [tQ, bQ, if_true, Nat.reduceEqDiff, reduceIte])) | (refine TW.reg Td.mixed rfl fun C K hC hK => ?_; simp [grpT, v1, v2, v3, v4, maxLen]; (repeat' first | refine And.intro ?_ ?_ | intro _ | refine iteI ?_ ?_ | (show (_ : Bool) = true; kernel_rfl) | (show _ ≤ _; first | omega | (simp; done) | (simp; omega)) | exact Or.inl rfl | (show _ < _; omega) | ((first | refine hC _ _ _ _ _ rfl (aC.plain rfl rfl (by simp; rfl) (by exact isGroup_T _) (by simp) (by simp) ?_) | refine hC _ _ _ _ _ rfl (aC.plain rfl rfl (by simp; rfl) (by exact isTime_T _) (by simp) (by simp) ?_) | refine hC _ _ _ _ _ rfl (aC.plain rfl rfl (by simp; rfl) (by exact areEntries_T g _) (by simp) (by simp) ?_) | refine hC _ _ _ _ _ rfl (aC.fresh rfl rfl [] (by simp; rfl) (by simp) 1 (by exact hcl) (by simp) (by simp) (by simp) ?_)); simp [grpT, v1, v2, v3, v4, maxLen])); all_goals (refine hK _ ?_; clear hC hK C K; try simp only [tQ, bQ])) | (refine TW.cond rfl ?_ ?_ <;> intro hc <;> (try (cases hc; done))))
    refine TW.loop (fun (k : Nat) => ⟨[(1, .s (.ptr 0 0)), (3, .s (.ptr 1 0)), (38, gR (entsT es)), (39, gI .i64 es.length), (40, gI .i64 (k : Nat))], [(0, .box ((grpT g).map .r)), (1, .box (seenC es k))], 2⟩) (fun k => k ≤ es.length ∧ ∀ i, i < k → distC es i = true) (fun k => es.length - k) 0 ⟨by omega, fun i hi => by omega⟩
      (Wk.own [0, 1] [3] (by simp) (by simp [← hes]) (by simp [grpT, hsc0]) (by simp) (by simp)) fun k hk => ?_
    obtain ⟨hk, hf⟩ := hk; by_cases hlt : k < es.length
    · have he : es[k]? = some es[k] := List.getElem?_eq_getElem hlt
      have hltI : (k : Int) < (es.length : Int) := by omega
      have hw1 := wrap_add hlt helm; obtain ⟨m0, m1⟩ := hmsg _ (List.getElem_mem hlt); generalize es[k] = e at he m0 m1; have hget := seenC_get es k m0 m1; have hset := seenC_set es k he m0 m1; have hln := seenC_len es k; have hdc : distC es k = !dupB es k e.m := by rw [distC, he]
      cases hd : dupB es k e.m
      · rw [hd] at hget
        (repeat' first | refine TW.seq ?_ | refine TW.block ?_ | ((first | refine TW.skip ?_ | refine TW.exit ?_ | refine TW.ret ?_); (try simp only [tQ, bQ, if_true, Nat.reduceEqDiff, reduceIte])) | (refine TW.reg Td.mixed rfl fun C K hC hK => ?_; simp [hltI, he, m0, hget, hset, hln, entT, grpT, hw1]; (repeat' first | refine And.intro ?_ ?_ | intro _ | refine iteI ?_ ?_ | (show (_ : Bool) = true; kernel_rfl) | (show _ ≤ _; first | omega | (simp; done) | (simp; omega)) | exact Or.inl rfl | (show _ < _; omega)); all_goals (refine hK _ ?_; clear hC hK C K; try simp only [tQ, bQ])) | (refine TW.cond rfl ?_ ?_ <;> intro hc <;> (try (cases hc; done))))
        refine ⟨k + 1, ⟨by omega, fun i hi => ?_⟩, by omega, Wk.own [0, 1] [] (by simp) (by simp) (by simp [grpT]; exact ⟨fun a ha => by obtain ⟨c, rfl⟩ := seenC_r ha; rfl, fun b x hx hb => by obtain ⟨c, rfl⟩ := seenC_r hx; cases hb⟩) (by simp) (by simp)⟩
        by_cases e : i = k
        · subst e; rw [hdc, hd]; rfl
        · exact hf i (by omega)
      · rw [hd] at hget
        rw [show validB g = false by rw [hvB, allB_false hlt (by rw [hdc, hd]; rfl)]; rfl]
        (repeat' first | refine TW.seq ?_ | refine TW.block ?_ | ((first | refine TW.skip ?_ | refine TW.exit ?_ | refine TW.ret ?_); (try simp only [tQ, bQ, if_true, Nat.reduceEqDiff, reduceIte])) | (refine TW.reg Td.mixed rfl fun C K hC hK => ?_; simp [hltI, he, m0, hget, hln, entT, grpT]; (repeat' first | refine And.intro ?_ ?_ | intro _ | refine iteI ?_ ?_ | (show (_ : Bool) = true; kernel_rfl) | (show _ ≤ _; first | omega | (simp; done) | (simp; omega)) | exact Or.inl rfl | (show _ < _; omega)); all_goals (refine hK _ ?_; clear hC hK C K; try simp only [tQ, bQ])) | (refine TW.cond rfl ?_ ?_ <;> intro hc <;> (try (cases hc; done))))
        refine Rets.own [] [] (by simp; rfl) (by simp) (by simp) (by simp) (by simp) (by simp)
    · obtain rfl : k = es.length := by omega
      have hall : allB es.length (distC es) = true := allB_true hf
      rw [hall, Bool.true_and] at hvB; clear hf; (repeat' first | refine TW.seq ?_ | refine TW.block ?_ | ((first | refine TW.skip ?_ | refine TW.exit ?_ | refine TW.ret ?_); (try simp only [tQ, bQ, if_true, Nat.reduceEqDiff, reduceIte])) | (refine TW.reg Td.mixed rfl fun C K hC hK => ?_; simp [grpT]; (repeat' first | refine And.intro ?_ ?_ | intro _ | refine iteI ?_ ?_ | (show (_ : Bool) = true; kernel_rfl) | (show _ ≤ _; first | omega | (simp; done) | (simp; omega)) | exact Or.inl rfl | (show _ < _; omega)); all_goals (refine hK _ ?_; clear hC hK C K; try simp only [tQ, bQ])) | (refine TW.cond rfl ?_ ?_ <;> intro hc <;> (try (cases hc; done))))
      refine TW.loop (fun (k : Nat) => ⟨[(1, .s (.ptr 0 0)), (53, gR (entsT g.done)), (54, gI .i64 g.done.length), (55, gI .i64 (k : Nat))], [(0, .box ((grpT g).map .r))], 1⟩) (fun k => k ≤ g.done.length ∧ ∀ i, i < k → finC g.done i = true) (fun k => g.done.length - k) 0 ⟨by omega, fun i hi => by omega⟩
        (Wk.own [0] [] (by simp) (by simp) (by simp [grpT]) (by simp) (by simp)) fun k hk => ?_
      obtain ⟨hk, hf⟩ := hk; by_cases hlt : k < g.done.length
      · have he : g.done[k]? = some g.done[k] := List.getElem?_eq_getElem hlt
        have hltI : (k : Int) < (g.done.length : Int) := by omega
        have hw1 := wrap_add hlt hlen; generalize g.done[k] = e at he; have hdc : finC g.done k = e.f := by rw [finC, he]
        cases hd : e.f
        · rw [show validB g = false by rw [hvB, allB_false hlt (by rw [hdc, hd])]; rfl]
          (repeat' first | refine TW.seq ?_ | refine TW.block ?_ | ((first | refine TW.skip ?_ | refine TW.exit ?_ | refine TW.ret ?_); (try simp only [tQ, bQ, if_true, Nat.reduceEqDiff, reduceIte])) | (refine TW.reg Td.mixed rfl fun C K hC hK => ?_; simp [hltI, he, hd, entT, grpT]; (repeat' first | refine And.intro ?_ ?_ | intro _ | refine iteI ?_ ?_ | (show (_ : Bool) = true; kernel_rfl) | (show _ ≤ _; first | omega | (simp; done) | (simp; omega)) | exact Or.inl rfl | (show _ < _; omega)); all_goals (refine hK _ ?_; clear hC hK C K; try simp only [tQ, bQ])) | (refine TW.cond rfl ?_ ?_ <;> intro hc <;> (try (cases hc; done))))
          refine Rets.own [] [] (by simp; rfl) (by simp) (by simp) (by simp) (by simp) (by simp)
        · (repeat' first | refine TW.seq ?_ | refine TW.block ?_ | ((first | refine TW.skip ?_ | refine TW.exit ?_ | refine TW.ret ?_); (try simp only [tQ, bQ, if_true, Nat.reduceEqDiff, reduceIte])) | (refine TW.reg Td.mixed rfl fun C K hC hK => ?_; simp [hltI, he, hd, entT, grpT, hw1]; (repeat' first | refine And.intro ?_ ?_ | intro _ | refine iteI ?_ ?_ | (show (_ : Bool) = true; kernel_rfl) | (show _ ≤ _; first | omega | (simp; done) | (simp; omega)) | exact Or.inl rfl | (show _ < _; omega)); all_goals (refine hK _ ?_; clear hC hK C K; try simp only [tQ, bQ])) | (refine TW.cond rfl ?_ ?_ <;> intro hc <;> (try (cases hc; done))))
          refine ⟨k + 1, ⟨by omega, fun i hi => ?_⟩, by omega, Wk.own [0] [] (by simp) (by simp) (by simp [grpT]) (by simp) (by simp)⟩
          by_cases e : i = k
          · subst e; rw [hdc, hd]
          · exact hf i (by omega)
      · obtain rfl : k = g.done.length := by omega
        have hall2 : allB g.done.length (finC g.done) = true := allB_true hf
        rw [hall2, Bool.true_and] at hvB; clear hf hes hel helm hmsg hall hv hcl hsc0; rw [hvB]; rcases hp : g.pend with _ | ⟨p, ps⟩
        · (repeat' first | refine TW.seq ?_ | refine TW.block ?_ | ((first | refine TW.skip ?_ | refine TW.exit ?_ | refine TW.ret ?_); (try simp only [tQ, bQ, if_true, Nat.reduceEqDiff, reduceIte])) | (refine TW.reg Td.mixed rfl fun C K hC hK => ?_; simp [grpT, hp]; (repeat' first | refine And.intro ?_ ?_ | intro _ | refine iteI ?_ ?_ | (show (_ : Bool) = true; kernel_rfl) | (show _ ≤ _; first | omega | (simp; done) | (simp; omega)) | exact Or.inl rfl | (show _ < _; omega)); all_goals (refine hK _ ?_; clear hC hK C K; try simp only [tQ, bQ])) | (refine TW.cond rfl ?_ ?_ <;> intro hc <;> (try (cases hc; done))))
          refine Rets.nil (r := gB (headB g)) ?_ rfl; simp [headB, hp]
        · have hps : ¬ ((ps.length : Int) + 1 = 0) := by omega
          rcases hn : g.done.length with _ | n
          · have hnil : g.done = [] := List.length_eq_zero_iff.1 hn
            (repeat' first | refine TW.seq ?_ | refine TW.block ?_ | ((first | refine TW.skip ?_ | refine TW.exit ?_ | refine TW.ret ?_); (try simp only [tQ, bQ, if_true, Nat.reduceEqDiff, reduceIte])) | (refine TW.reg Td.mixed rfl fun C K hC hK => ?_; simp [grpT, entT, hp, hn, hps]; (repeat' first | refine And.intro ?_ ?_ | intro _ | refine iteI ?_ ?_ | (show (_ : Bool) = true; kernel_rfl) | (show _ ≤ _; first | omega | (simp; done) | (simp; omega)) | exact Or.inl rfl | (show _ < _; omega) | ((first | refine hC _ _ _ _ _ rfl (aC.plain rfl rfl (by simp; rfl) (by exact less_T _ _ _ _) (by simp) (by simp) ?_)); simp [grpT, entT, hp, hn, hps])); all_goals (refine hK _ ?_; clear hC hK C K; try simp only [tQ, bQ])) | (refine TW.cond rfl ?_ ?_ <;> intro hc <;> (try (cases hc; done))))
            all_goals
              refine Rets.nil (r := gB (headB g)) ?_ rfl; simp_all [headB]
          · have hel : g.done[n]? = some g.done[n] := List.getElem?_eq_getElem (by omega)
            have hlast : g.done.getLast? = some g.done[n] := by rw [List.getLast?_eq_getElem?, show g.done.length - 1 = n by omega]; exact hel
            have hw := wrap_nat (k := n) (by omega)
            have hn0 : ¬ ((n : Int) + 1 = 0) := by omega
            (repeat' first | refine TW.seq ?_ | refine TW.block ?_ | ((first | refine TW.skip ?_ | refine TW.exit ?_ | refine TW.ret ?_); (try simp only [tQ, bQ, if_true, Nat.reduceEqDiff, reduceIte])) | (refine TW.reg Td.mixed rfl fun C K hC hK => ?_; simp [grpT, entT, hp, hn, hps, hn0, hw, hel]; (repeat' first | refine And.intro ?_ ?_ | intro _ | refine iteI ?_ ?_ | (show (_ : Bool) = true; kernel_rfl) | (show _ ≤ _; first | omega | (simp; done) | (simp; omega)) | exact Or.inl rfl | (show _ < _; omega) | ((first | refine hC _ _ _ _ _ rfl (aC.plain rfl rfl (by simp; rfl) (by exact less_T _ _ _ _) (by simp) (by simp) ?_)); simp [grpT, entT, hp, hn, hps, hn0, hw, hel])); all_goals (refine hK _ ?_; clear hC hK C K; try simp only [tQ, bQ])) | (refine TW.cond rfl ?_ ?_ <;> intro hc <;> (try (cases hc; done))))
            all_goals
              refine Rets.nil (r := gB (headB g)) ?_ rfl; simp_all [headB]
end Go.Proofs.Ytjklkppncmhehaa.T
namespace Go.Proofs.Ytjklkppncmhehaa.T
open Go Go.RowKit
set_option maxRecDepth 100000
set_option maxHeartbeats 4000000
variable {E : List PanicEntry → World → Prop}
def rangeOk (set : List Int) : Prop := ∀ g ∈ set, 0 ≤ g ∧ g < 5
theorem stAll_drop (gs : List GrpD) (m : Int) {set : List Int} {k : Nat} {g : Int} (h : set[k]? = some g) (acc : List (Int × Int)) : stAll gs m (set.drop k) acc = if stB (gAt gs g.toNat) m && (stD (gAt gs g.toNat) m).f then .inl ((stD (gAt gs g.toNat) m).t, (stD (gAt gs g.toNat) m).g)
    else stAll gs m (set.drop (k + 1)) (if stB (gAt gs g.toNat) m then acc ++ [((stD (gAt gs g.toNat) m).t, (stD (gAt gs g.toNat) m).g)] else acc) := by
  obtain ⟨hk, he⟩ := List.getElem?_eq_some_iff.1 h; rw [List.drop_eq_getElem_cons hk, stAll, he]
theorem l13Stamp_T (gs : List GrpD) (set : List Int) (m : Int) (h5 : gs.length = 5) (hr : rangeOk set) (hn : set ≠ []) (hsl : set.length ≤ 5) : TC Tw.prog E 113 [gR (sysT gs), gR (intsT set), gI .i64 m] 0 [] (.p [gSt (stampAllD gs set m).1, gB (stampAllD gs set m).2]) [] := by
  have hpos : 0 < set.length := List.length_pos_iff.2 hn
  have hlen : set.length ≤ maxLen := by simp only [maxLen]; omega
  refine TC.enter Tw.func113 rfl (by kernel_rfl) Tw.ntmps113 (by rw [Try.results113]) (by simp) (Fits.nil rfl) ?_
  (repeat' first | refine TW.seq ?_ | refine TW.block ?_ | ((first | refine TW.skip ?_ | refine TW.exit ?_ | refine TW.ret ?_); (try simp only [tQ, bQ, if_true, Nat.reduceEqDiff, reduceIte])) | (refine TW.reg Td.mixed rfl fun C K hC hK => ?_; simp; (repeat' first | refine And.intro ?_ ?_ | intro _ | refine iteI ?_ ?_ | (show (_ : Bool) = true; kernel_rfl) | (show _ ≤ _; first | omega | (simp; done) | (simp; omega)) | exact Or.inl rfl | (show _ < _; omega)); all_goals (refine hK _ ?_; clear hC hK C K; try simp only [tQ, bQ])) | (refine TW.cond rfl ?_ ?_ <;> intro hc <;> (try (cases hc; done))))
  refine TW.loop (fun (p : Nat × List (Int × Int)) => ⟨[(0, gR (sysT gs)), (1, gR (intsT set)), (2, gI .i64 m), (6, .s (.ptr 0 0)), (8, .s (.own 1)), (9, gI .i64 (p.1 : Nat))], [(0, .box [.r (rI 0), .r (rI 0)]), (1, .rows 37 2 (p.2.map stT))], 2⟩)
    (fun p => p.1 ≤ set.length ∧ p.2.length ≤ p.1 ∧ stAll gs m (set.drop p.1) p.2 = stAll gs m set []) (fun p => set.length - p.1) (0, []) ⟨by simp, by simp, rfl⟩ (Wk.own [0, 1] [] (by simp) (by simp) (by simp) (by simp) (by simp)) fun p hp => ?_
  obtain ⟨k, acc⟩ := p; obtain ⟨hk, ha, hst⟩ := hp; simp only at hk ha hst ⊢
  by_cases hlt : k < set.length
  · have he : set[k]? = some set[k] := List.getElem?_eq_getElem hlt
    obtain ⟨g0, g1⟩ := hr _ (List.getElem_mem hlt); generalize hx : set[k] = x at he g0 g1; have hltI : (k : Int) < (set.length : Int) := by omega
    have hxl : x.toNat < gs.length := by omega
    have hg : gs[x.toNat]? = some (gAt gs x.toNat) := by rw [gAt, List.getD_eq_getElem?_getD, List.getElem?_eq_getElem hxl]; rfl
    have hw1 := wrap_add hlt hlen; have hd := stAll_drop gs m he acc; rw [hst] at hd; generalize gAt gs x.toNat = G at hg hd; clear hxl
    cases hb : stB G m
    · simp only [hb, Bool.false_and, Bool.false_eq_true, if_false] at hd
      (repeat' first | refine TW.seq ?_ | refine TW.block ?_ | ((first | refine TW.skip ?_ | refine TW.exit ?_ | refine TW.ret ?_); (try simp only [tQ, bQ, if_true, Nat.reduceEqDiff, reduceIte])) | (refine TW.reg Td.mixed rfl fun C K hC hK => ?_; simp [hltI, he, g0, hg, hb, grpT, entT, hw1, maxLen]; (repeat' first | refine And.intro ?_ ?_ | intro _ | refine iteI ?_ ?_ | (show (_ : Bool) = true; kernel_rfl) | (show _ ≤ _; first | omega | (simp; done) | (simp; omega)) | exact Or.inl rfl | (show _ < _; omega) | ((first | refine hC _ _ _ _ _ rfl (aC.plain rfl rfl (by simp; rfl) (by exact l11Stamp_T2 _ _) (by simp) (by simp) ?_)); simp [hltI, he, g0, hg, hb, grpT, entT, hw1, maxLen])); all_goals (refine hK _ ?_; clear hC hK C K; try simp only [tQ, bQ])) | (refine TW.cond rfl ?_ ?_ <;> intro hc <;> (try (cases hc; done))))
      exact ⟨(k + 1, acc), ⟨by simp only; omega, by simp only; omega, hd.symm⟩, by simp only; omega, Wk.own [0, 1] [] (by simp) (by simp) (by simp) (by simp) (by simp)⟩
    · cases hf : (stD G m).f
      · simp only [hb, hf, Bool.and_false, Bool.false_eq_true, if_false, if_true] at hd
        (repeat' first | refine TW.seq ?_ | refine TW.block ?_ | ((first | refine TW.skip ?_ | refine TW.exit ?_ | refine TW.ret ?_); (try simp only [tQ, bQ, if_true, Nat.reduceEqDiff, reduceIte])) | (refine TW.reg Td.mixed rfl fun C K hC hK => ?_; simp [hltI, he, g0, hg, hb, hf, grpT, entT, hw1, maxLen]; (repeat' first | refine And.intro ?_ ?_ | intro _ | refine iteI ?_ ?_ | (show (_ : Bool) = true; kernel_rfl) | (show _ ≤ _; first | omega | (simp; done) | (simp; omega)) | exact Or.inl rfl | (show _ < _; omega) | ((first | refine hC _ _ _ _ _ rfl (aC.plain rfl rfl (by simp; rfl) (by exact l11Stamp_T2 _ _) (by simp) (by simp) ?_)); simp [hltI, he, g0, hg, hb, hf, grpT, entT, hw1, maxLen])); all_goals (refine hK _ ?_; clear hC hK C K; try simp only [tQ, bQ])) | (refine TW.cond rfl ?_ ?_ <;> intro hc <;> (try (cases hc; done))))
        exact ⟨(k + 1, acc ++ [((stD G m).t, (stD G m).g)]), ⟨by simp only; omega, by simp; omega, hd.symm⟩, by simp only; omega, Wk.own [0, 4] [] (by simp) (by simp) (by simp [stT]) (by simp) (by simp)⟩
      · simp only [hb, hf, Bool.and_true, if_true] at hd
        (repeat' first | refine TW.seq ?_ | refine TW.block ?_ | ((first | refine TW.skip ?_ | refine TW.exit ?_ | refine TW.ret ?_); (try simp only [tQ, bQ, if_true, Nat.reduceEqDiff, reduceIte])) | (refine TW.reg Td.mixed rfl fun C K hC hK => ?_; simp [hltI, he, g0, hg, hb, hf, grpT, entT, hw1, maxLen]; (repeat' first | refine And.intro ?_ ?_ | intro _ | refine iteI ?_ ?_ | (show (_ : Bool) = true; kernel_rfl) | (show _ ≤ _; first | omega | (simp; done) | (simp; omega)) | exact Or.inl rfl | (show _ < _; omega) | ((first | refine hC _ _ _ _ _ rfl (aC.plain rfl rfl (by simp; rfl) (by exact l11Stamp_T2 _ _) (by simp) (by simp) ?_)); simp [hltI, he, g0, hg, hb, hf, grpT, entT, hw1, maxLen])); all_goals (refine hK _ ?_; clear hC hK C K; try simp only [tQ, bQ])) | (refine TW.cond rfl ?_ ?_ <;> intro hc <;> (try (cases hc; done))))
        rw [show stampAllD gs set m = (((stD G m).t, (stD G m).g), true) by rw [stampAllD, hd]]
        refine Rets.nil (r := .p [gSt ((stD G m).t, (stD G m).g), gB true]) ?_ rfl; simp
  · obtain rfl : k = set.length := by omega
    rw [List.drop_length, stAll] at hst; have hS : stampAllD gs set m = if acc.length < set.length then ((0, 0), false) else (maxL acc, true) := by rw [stampAllD, ← hst]
    rw [hS]; by_cases hl : acc.length < set.length
    · have hl' : (acc.length : Int) < (set.length : Int) := by omega
      rw [if_pos hl]; (repeat' first | refine TW.seq ?_ | refine TW.block ?_ | ((first | refine TW.skip ?_ | refine TW.exit ?_ | refine TW.ret ?_); (try simp only [tQ, bQ, if_true, Nat.reduceEqDiff, reduceIte])) | (refine TW.reg Td.mixed rfl fun C K hC hK => ?_; simp [hl']; (repeat' first | refine And.intro ?_ ?_ | intro _ | refine iteI ?_ ?_ | (show (_ : Bool) = true; kernel_rfl) | (show _ ≤ _; first | omega | (simp; done) | (simp; omega)) | exact Or.inl rfl | (show _ < _; omega)); all_goals (refine hK _ ?_; clear hC hK C K; try simp only [tQ, bQ])) | (refine TW.cond rfl ?_ ?_ <;> intro hc <;> (try (cases hc; done))))
      refine Rets.nil (r := .p [gSt (0, 0), gB false]) ?_ rfl; simp
    · rw [if_neg hl]
      rcases acc with _ | ⟨x, xs⟩
      · exact absurd hpos hl
      · have hl' : ¬ (xs.length : Int) + 1 < (set.length : Int) := by simp at hl; omega
        (repeat' first | refine TW.seq ?_ | refine TW.block ?_ | ((first | refine TW.skip ?_ | refine TW.exit ?_ | refine TW.ret ?_); (try simp only [tQ, bQ, if_true, Nat.reduceEqDiff, reduceIte])) | (refine TW.reg Td.mixed rfl fun C K hC hK => ?_; simp [hl']; (repeat' first | refine And.intro ?_ ?_ | intro _ | refine iteI ?_ ?_ | (show (_ : Bool) = true; kernel_rfl) | (show _ ≤ _; first | omega | (simp; done) | (simp; omega)) | exact Or.inl rfl | (show _ < _; omega) | ((first | refine hC _ _ _ _ _ rfl (aC.peek rfl rfl [1] (by simp; rfl) (by simp) (by exact l2Max_T x xs) (by simp) ?_)); simp [hl'])); all_goals (refine hK _ ?_; clear hC hK C K; try simp only [tQ, bQ])) | (refine TW.cond rfl ?_ ?_ <;> intro hc <;> (try (cases hc; done))))
        refine Rets.nil (r := .p [gSt (maxL (x :: xs)), gB true]) ?_ rfl; simp [maxL]
theorem foldl_take_succ {α β : Type} (f : β → α → β) (b : β) {xs : List α} {k : Nat} {x : α} (h : xs[k]? = some x) : (xs.take (k + 1)).foldl f b = f ((xs.take k).foldl f b) x := by
  rw [List.take_add_one, h, List.foldl_append]; rfl
theorem gAt_some {gs : List GrpD} {i : Nat} (h : i < gs.length) : gs[i]? = some (gAt gs i) := by
  rw [gAt, List.getD_eq_getElem?_getD, List.getElem?_eq_getElem h]; rfl
theorem rangeOk.take {set : List Int} (h : rangeOk set) (k : Nat) : rangeOk (set.take k) := fun g hg => h g (List.mem_of_mem_take hg)
theorem knowAll_false {gs : List GrpD} {m : Int} {set : List Int} {k : Nat} (h : knowAll gs m (set.take k) = false) : knowAll gs m set = false := by
  simp only [knowAll, List.all_eq_false] at h ⊢; obtain ⟨x, hx, h⟩ := h; exact ⟨x, List.mem_of_mem_take hx, h⟩
theorem knowAll_succ {gs : List GrpD} {m : Int} {set : List Int} {k : Nat} {x : Int} (h : set[k]? = some x) : knowAll gs m (set.take (k + 1)) = (knowAll gs m (set.take k) && (stB (gAt gs x.toNat) m && (stD (gAt gs x.toNat) m).f)) := by
  rw [knowAll, List.take_add_one, h, List.all_append]; simp [knowAll]
abbrev sysB' (gs : List GrpD) : Blk := .rows 44 4 (gs.map grpT)
theorem l13All_T (gs : List GrpD) (set : List Int) (m : Int) (h5 : gs.length = 5) (hg : ∀ g ∈ gs, grpN g 4294967000) (hr : rangeOk set) (hn : set ≠ []) (hsl : set.length ≤ 5) : TC Tw.prog E 91 [gR (sysT gs), gR (intsT set), gI .i64 m] 0 [] (.p [.s (.own 0), gB (allD gs set m).2]) [(0, sysB' (allD gs set m).1)] := by
  have hpos : 0 < set.length := List.length_pos_iff.2 hn
  have hlen : set.length ≤ maxLen := by simp only [maxLen]; omega
  have hcp : sysLe gs 4294967296 := ⟨by omega, fun g h => by have := (hg g h).1; exact ⟨by omega, by omega⟩⟩
  refine TC.enter Tw.func91 rfl (by kernel_rfl) Tw.ntmps91 (by rw [Try.results91]) (by simp) (Fits.nil rfl) ?_
  (repeat' first | refine TW.seq ?_ | refine TW.block ?_ | ((first | refine TW.skip ?_ | refine TW.exit ?_ | refine TW.ret ?_); (try simp only [tQ, bQ, if_true, Nat.reduceEqDiff, reduceIte])) | (refine TW.reg Td.mixed rfl fun C K hC hK => ?_; simp; (repeat' first | refine And.intro ?_ ?_ | intro _ | refine iteI ?_ ?_ | (show (_ : Bool) = true; kernel_rfl) | (show _ ≤ _; first | omega | (simp; done) | (simp; omega)) | exact Or.inl rfl | (show _ < _; omega) | ((first | refine hC _ _ _ _ _ rfl (aC.fresh rfl rfl [] (by simp; rfl) (by simp) 1 (by exact l13Copy_T gs hcp) (by simp) (by simp) (by simp) ?_)); simp)); all_goals (refine hK _ ?_; clear hC hK C K; try simp only [tQ, bQ])) | (refine TW.cond rfl ?_ ?_ <;> intro hc <;> (try (cases hc; done))))
  refine TW.loop (fun (k : Nat) => ⟨[(1, gR (intsT set)), (2, gI .i64 m), (8, .s (.own 0)), (9, gI .i64 (k : Nat))], [(0, sysB' (propAll gs m (set.take k)))], 1⟩) (fun k => k ≤ set.length) (fun k => set.length - k) 0 (by omega) (Wk.own [0] [] (by simp) (by simp) (by simp [propAll]) (by simp) (by simp)) fun k hk => ?_
  by_cases hlt : k < set.length
  · have he : set[k]? = some set[k] := List.getElem?_eq_getElem hlt
    obtain ⟨g0, g1⟩ := hr _ (List.getElem_mem hlt); generalize hx : set[k] = x at he g0 g1; have hltI : (k : Int) < (set.length : Int) := by omega
    have hw1 := wrap_add hlt hlen; obtain ⟨n5, nN⟩ := propAll_N (n := 4294967005) m (set.take k) gs 4294967000 (hr.take k) h5 hg (by simp; omega)
    have hs1 : propAll gs m (set.take (k + 1)) = (propAll gs m (set.take k)).set x.toNat (proposeD (gAt (propAll gs m (set.take k)) x.toNat) m).1 := foldl_take_succ _ _ he
    have hxl : x.toNat < (propAll gs m (set.take k)).length := by omega
    have hG := gAt_some hxl; have hN := nN _ (List.mem_of_getElem? hG); have hle : grpLe (gAt (propAll gs m (set.take k)) x.toNat) 4294967290 := by have := hN.1; exact ⟨by omega, by omega⟩
    have hx5 : x < 5 := g1
    generalize propAll gs m (set.take k) = gk at *; generalize hGe : gAt gk x.toNat = G at *; (repeat' first | refine TW.seq ?_ | refine TW.block ?_ | ((first | refine TW.skip ?_ | refine TW.exit ?_ | refine TW.ret ?_); (try simp only [tQ, bQ, if_true, Nat.reduceEqDiff, reduceIte])) | (refine TW.reg Td.mixed rfl fun C K hC hK => ?_; simp [hltI, he, g0, hG, grpT, hw1, maxLen]; (repeat' first | refine And.intro ?_ ?_ | intro _ | refine iteI ?_ ?_ | (show (_ : Bool) = true; kernel_rfl) | (show _ ≤ _; first | omega | (simp; done) | (simp; omega)) | exact Or.inl rfl | (show _ < _; omega) | ((first | refine hC _ _ _ _ _ rfl (aC.fresh rfl rfl [] (by simp; rfl) (by simp) 2 (by exact l11Propose_T _ m hle hN.2) (by simp) (by simp) (by simp) ?_)); simp [hltI, he, g0, hG, grpT, hw1, maxLen])); all_goals (refine hK _ ?_; clear hC hK C K; try simp only [tQ, bQ])) | (refine TW.cond rfl ?_ ?_ <;> intro hc <;> (try (cases hc; done))))
    exact ⟨k + 1, by omega, by omega, Wk.own [0] [] (by simp) (by simp) (by simp [hs1, grpT]) (by simp) (by simp)⟩
  · obtain rfl : k = set.length := by omega
    obtain ⟨n5, nN⟩ := propAll_N (n := 4294967005) m set gs 4294967000 hr h5 hg (by omega)
    have hA : allD gs set m = if (stampAllD (propAll gs m set) set m).2 = true then (finAll (propAll gs m set) m (stampAllD (propAll gs m set) set m).1 set, knowAll (finAll (propAll gs m set) m (stampAllD (propAll gs m set) set m).1 set) m set)
      else (propAll gs m set, false) := rfl
    rw [hA]; simp only [List.take_length]; generalize propAll gs m set = g1 at *; clear hA
    cases hok : (stampAllD g1 set m).2
    · rw [if_neg (by simp)]
      (repeat' first | refine TW.seq ?_ | refine TW.block ?_ | ((first | refine TW.skip ?_ | refine TW.exit ?_ | refine TW.ret ?_); (try simp only [tQ, bQ, if_true, Nat.reduceEqDiff, reduceIte])) | (refine TW.reg Td.mixed rfl fun C K hC hK => ?_; simp [hok]; (repeat' first | refine And.intro ?_ ?_ | intro _ | refine iteI ?_ ?_ | (show (_ : Bool) = true; kernel_rfl) | (show _ ≤ _; first | omega | (simp; done) | (simp; omega)) | exact Or.inl rfl | (show _ < _; omega) | ((first | refine hC _ _ _ _ _ rfl (aC.peek rfl rfl [0] (by simp; rfl) (by simp) (by exact l13Stamp_T g1 set m n5 hr hn hsl) (by simp) ?_)); simp [hok])); all_goals (refine hK _ ?_; clear hC hK C K; try simp only [tQ, bQ])) | (refine TW.cond rfl ?_ ?_ <;> intro hc <;> (try (cases hc; done))))
      refine TW.loop (fun (_ : Unit) => ⟨[(1, gR (intsT set)), (2, gI .i64 m), (8, .s (.own 0)), (14, gB false), (15, gI .i64 0)], [(0, sysB' g1)], 1⟩) (fun _ => True) (fun _ => 0) () trivial (Wk.own [0] [] (by simp) (by simp) (by simp) (by simp) (by simp)) fun _ _ => ?_
      (repeat' first | refine TW.seq ?_ | refine TW.block ?_ | ((first | refine TW.skip ?_ | refine TW.exit ?_ | refine TW.ret ?_); (try simp only [tQ, bQ, if_true, Nat.reduceEqDiff, reduceIte])) | (refine TW.reg Td.mixed rfl fun C K hC hK => ?_; simp; (repeat' first | refine And.intro ?_ ?_ | intro _ | refine iteI ?_ ?_ | (show (_ : Bool) = true; kernel_rfl) | (show _ ≤ _; first | omega | (simp; done) | (simp; omega)) | exact Or.inl rfl | (show _ < _; omega)); all_goals (refine hK _ ?_; clear hC hK C K; try simp only [tQ, bQ])) | (refine TW.cond rfl ?_ ?_ <;> intro hc <;> (try (cases hc; done))))
      all_goals
        refine TW.loop (fun (_ : Unit) => ⟨[(1, gR (intsT set)), (2, gI .i64 m), (8, .s (.own 0)), (14, gB false), (19, gI .i64 0)], [(0, sysB' g1)], 1⟩) (fun _ => True) (fun _ => 0) () trivial (Wk.own [0] [] (by simp) (by simp) (by simp) (by simp) (by simp)) fun _ _ => ?_
        (repeat' first | refine TW.seq ?_ | refine TW.block ?_ | ((first | refine TW.skip ?_ | refine TW.exit ?_ | refine TW.ret ?_); (try simp only [tQ, bQ, if_true, Nat.reduceEqDiff, reduceIte])) | (refine TW.reg Td.mixed rfl fun C K hC hK => ?_; simp; (repeat' first | refine And.intro ?_ ?_ | intro _ | refine iteI ?_ ?_ | (show (_ : Bool) = true; kernel_rfl) | (show _ ≤ _; first | omega | (simp; done) | (simp; omega)) | exact Or.inl rfl | (show _ < _; omega)); all_goals (refine hK _ ?_; clear hC hK C K; try simp only [tQ, bQ])) | (refine TW.cond rfl ?_ ?_ <;> intro hc <;> (try (cases hc; done))))
        all_goals refine Rets.own [0] [] (by simp; rfl) (by simp) (by simp) (by simp) (by simp) (by simp)
    · rw [if_pos rfl]
      generalize hs : (stampAllD g1 set m).1 = s; (repeat' first | refine TW.seq ?_ | refine TW.block ?_ | ((first | refine TW.skip ?_ | refine TW.exit ?_ | refine TW.ret ?_); (try simp only [tQ, bQ, if_true, Nat.reduceEqDiff, reduceIte])) | (refine TW.reg Td.mixed rfl fun C K hC hK => ?_; simp [hok, hs]; (repeat' first | refine And.intro ?_ ?_ | intro _ | refine iteI ?_ ?_ | (show (_ : Bool) = true; kernel_rfl) | (show _ ≤ _; first | omega | (simp; done) | (simp; omega)) | exact Or.inl rfl | (show _ < _; omega) | ((first | refine hC _ _ _ _ _ rfl (aC.peek rfl rfl [0] (by simp; rfl) (by simp) (by exact l13Stamp_T g1 set m n5 hr hn hsl) (by simp) ?_)); simp [hok, hs])); all_goals (refine hK _ ?_; clear hC hK C K; try simp only [tQ, bQ])) | (refine TW.cond rfl ?_ ?_ <;> intro hc <;> (try (cases hc; done))))
      refine TW.loop (fun (k : Nat) => ⟨[(1, gR (intsT set)), (2, gI .i64 m), (8, .s (.own 0)), (13, .s (.ptr 1 0)), (14, gB true), (15, gI .i64 (k : Nat))], [(0, sysB' (finAll g1 m s (set.take k))), (1, .box [.r (rI s.1), .r (rI s.2)])], 2⟩) (fun k => k ≤ set.length) (fun k => set.length - k) 0 (by omega) (Wk.own [0, 1] [] (by simp) (by simp) (by simp [finAll]) (by simp) (by simp)) fun k hk => ?_
      by_cases hlt : k < set.length
      · have he : set[k]? = some set[k] := List.getElem?_eq_getElem hlt
        obtain ⟨g0, g1'⟩ := hr _ (List.getElem_mem hlt); generalize hx : set[k] = x at he g0 g1'; have hltI : (k : Int) < (set.length : Int) := by omega
        have hw1 := wrap_add hlt hlen; obtain ⟨f5, fN⟩ := finAll_N (n := 4294967005) m s (set.take k) g1 (hr.take k) n5 nN; have hs1 : finAll g1 m s (set.take (k + 1)) = (finAll g1 m s (set.take k)).set x.toNat (finalD (gAt (finAll g1 m s (set.take k)) x.toNat) m s.1 s.2).1 := foldl_take_succ _ _ he
        have hxl : x.toNat < (finAll g1 m s (set.take k)).length := by omega
        have hG := gAt_some hxl; have hN := fN _ (List.mem_of_getElem? hG); have hle := hN.mono (n' := 4294967290) (by omega)
        generalize finAll g1 m s (set.take k) = gk at *; generalize hGe : gAt gk x.toNat = G at *; (repeat' first | refine TW.seq ?_ | refine TW.block ?_ | ((first | refine TW.skip ?_ | refine TW.exit ?_ | refine TW.ret ?_); (try simp only [tQ, bQ, if_true, Nat.reduceEqDiff, reduceIte])) | (refine TW.reg Td.mixed rfl fun C K hC hK => ?_; simp [hltI, he, g0, hG, grpT, hw1, maxLen]; (repeat' first | refine And.intro ?_ ?_ | intro _ | refine iteI ?_ ?_ | (show (_ : Bool) = true; kernel_rfl) | (show _ ≤ _; first | omega | (simp; done) | (simp; omega)) | exact Or.inl rfl | (show _ < _; omega) | ((first | refine hC _ _ _ _ _ rfl (aC.fresh rfl rfl [] (by simp; rfl) (by simp) 3 (by exact l11Final_T _ m _ _ hle) (by simp) (by simp) (by simp) ?_)); simp [hltI, he, g0, hG, grpT, hw1, maxLen])); all_goals (refine hK _ ?_; clear hC hK C K; try simp only [tQ, bQ])) | (refine TW.cond rfl ?_ ?_ <;> intro hc <;> (try (cases hc; done))))
        exact ⟨k + 1, by omega, by omega, Wk.own [0, 1] [] (by simp) (by simp) (by simp [hs1, grpT]) (by simp) (by simp)⟩
      · obtain rfl : k = set.length := by omega
        simp only [List.take_length]; obtain ⟨f5, -⟩ := finAll_N (n := 4294967005) m s set g1 hr n5 nN; generalize finAll g1 m s set = g2 at *; (repeat' first | refine TW.seq ?_ | refine TW.block ?_ | ((first | refine TW.skip ?_ | refine TW.exit ?_ | refine TW.ret ?_); (try simp only [tQ, bQ, if_true, Nat.reduceEqDiff, reduceIte])) | (refine TW.reg Td.mixed rfl fun C K hC hK => ?_; simp; (repeat' first | refine And.intro ?_ ?_ | intro _ | refine iteI ?_ ?_ | (show (_ : Bool) = true; kernel_rfl) | (show _ ≤ _; first | omega | (simp; done) | (simp; omega)) | exact Or.inl rfl | (show _ < _; omega)); all_goals (refine hK _ ?_; clear hC hK C K; try simp only [tQ, bQ])) | (refine TW.cond rfl ?_ ?_ <;> intro hc <;> (try (cases hc; done))))
        refine TW.loop (fun (k : Nat) => ⟨[(1, gR (intsT set)), (2, gI .i64 m), (8, .s (.own 0)), (14, gB (knowAll g2 m (set.take k))), (19, gI .i64 (k : Nat))], [(0, sysB' g2)], 1⟩) (fun k => k ≤ set.length) (fun k => set.length - k) 0 (by omega) (Wk.own [0] [] (by simp) (by simp [knowAll]) (by simp) (by simp) (by simp)) fun k hk => ?_
        cases hkn : knowAll g2 m (set.take k)
        · rw [knowAll_false hkn]
          (repeat' first | refine TW.seq ?_ | refine TW.block ?_ | ((first | refine TW.skip ?_ | refine TW.exit ?_ | refine TW.ret ?_); (try simp only [tQ, bQ, if_true, Nat.reduceEqDiff, reduceIte])) | (refine TW.reg Td.mixed rfl fun C K hC hK => ?_; simp; (repeat' first | refine And.intro ?_ ?_ | intro _ | refine iteI ?_ ?_ | (show (_ : Bool) = true; kernel_rfl) | (show _ ≤ _; first | omega | (simp; done) | (simp; omega)) | exact Or.inl rfl | (show _ < _; omega)); all_goals (refine hK _ ?_; clear hC hK C K; try simp only [tQ, bQ])) | (refine TW.cond rfl ?_ ?_ <;> intro hc <;> (try (cases hc; done))))
          all_goals refine Rets.own [0] [] (by simp; rfl) (by simp) (by simp) (by simp) (by simp) (by simp)
        · by_cases hlt : k < set.length
          · have he : set[k]? = some set[k] := List.getElem?_eq_getElem hlt
            obtain ⟨g0, g1'⟩ := hr _ (List.getElem_mem hlt); generalize hx : set[k] = x at he g0 g1'; have hltI : (k : Int) < (set.length : Int) := by omega
            have hw1 := wrap_add hlt hlen; have hs1 := knowAll_succ (gs := g2) (m := m) he; rw [hkn, Bool.true_and] at hs1; have hxl : x.toNat < g2.length := by omega
            have hG := gAt_some hxl; generalize hGe : gAt g2 x.toNat = G at *
            cases hb : stB G m
            · rw [hb, Bool.false_and] at hs1
              (repeat' first | refine TW.seq ?_ | refine TW.block ?_ | ((first | refine TW.skip ?_ | refine TW.exit ?_ | refine TW.ret ?_); (try simp only [tQ, bQ, if_true, Nat.reduceEqDiff, reduceIte])) | (refine TW.reg Td.mixed rfl fun C K hC hK => ?_; simp [hltI, he, g0, hG, hb, grpT, entT, hw1]; (repeat' first | refine And.intro ?_ ?_ | intro _ | refine iteI ?_ ?_ | (show (_ : Bool) = true; kernel_rfl) | (show _ ≤ _; first | omega | (simp; done) | (simp; omega)) | exact Or.inl rfl | (show _ < _; omega) | ((first | refine hC _ _ _ _ _ rfl (aC.plain rfl rfl (by simp; rfl) (by exact l11Stamp_T2 _ _) (by simp) (by simp) ?_)); simp [hltI, he, g0, hG, hb, grpT, entT, hw1])); all_goals (refine hK _ ?_; clear hC hK C K; try simp only [tQ, bQ])) | (refine TW.cond rfl ?_ ?_ <;> intro hc <;> (try (cases hc; done))))
              exact ⟨k + 1, by omega, by omega, Wk.own [0] [] (by simp) (by simp [hs1]) (by simp) (by simp) (by simp)⟩
            · rw [hb, Bool.true_and] at hs1
              (repeat' first | refine TW.seq ?_ | refine TW.block ?_ | ((first | refine TW.skip ?_ | refine TW.exit ?_ | refine TW.ret ?_); (try simp only [tQ, bQ, if_true, Nat.reduceEqDiff, reduceIte])) | (refine TW.reg Td.mixed rfl fun C K hC hK => ?_; simp [hltI, he, g0, hG, hb, grpT, entT, hw1]; (repeat' first | refine And.intro ?_ ?_ | intro _ | refine iteI ?_ ?_ | (show (_ : Bool) = true; kernel_rfl) | (show _ ≤ _; first | omega | (simp; done) | (simp; omega)) | exact Or.inl rfl | (show _ < _; omega) | ((first | refine hC _ _ _ _ _ rfl (aC.plain rfl rfl (by simp; rfl) (by exact l11Stamp_T2 _ _) (by simp) (by simp) ?_)); simp [hltI, he, g0, hG, hb, grpT, entT, hw1])); all_goals (refine hK _ ?_; clear hC hK C K; try simp only [tQ, bQ])) | (refine TW.cond rfl ?_ ?_ <;> intro hc <;> (try (cases hc; done))))
              exact ⟨k + 1, by omega, by omega, Wk.own [0] [] (by simp) (by simp [hs1]) (by simp) (by simp) (by simp)⟩
          · obtain rfl : k = set.length := by omega
            rw [List.take_length] at hkn; rw [hkn]; (repeat' first | refine TW.seq ?_ | refine TW.block ?_ | ((first | refine TW.skip ?_ | refine TW.exit ?_ | refine TW.ret ?_); (try simp only [tQ, bQ, if_true, Nat.reduceEqDiff, reduceIte])) | (refine TW.reg Td.mixed rfl fun C K hC hK => ?_; simp; (repeat' first | refine And.intro ?_ ?_ | intro _ | refine iteI ?_ ?_ | (show (_ : Bool) = true; kernel_rfl) | (show _ ≤ _; first | omega | (simp; done) | (simp; omega)) | exact Or.inl rfl | (show _ < _; omega)); all_goals (refine hK _ ?_; clear hC hK C K; try simp only [tQ, bQ])) | (refine TW.cond rfl ?_ ?_ <;> intro hc <;> (try (cases hc; done))))
            refine Rets.own [0] [] (by simp; rfl) (by simp) (by simp) (by simp) (by simp) (by simp)
end Go.Proofs.Ytjklkppncmhehaa.T
