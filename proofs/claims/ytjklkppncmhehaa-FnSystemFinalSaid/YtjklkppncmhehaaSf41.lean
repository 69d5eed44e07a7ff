/-
What is proved: what the reference's events do to trees ('l51Do_T'). No condition but the shape of the world. what the reader of a code does to trees: it opens, and it picks a number. No condition but the lengths and ranges that each states. what the small draws do to trees: a stamp, an event, new groups and worlds. No condition but the ranges that each states.
-/
import Derived.Test.YtjklkppncmhehaaSf40
import Derived.Test.YtjklkppncmhehaaSf39
set_option linter.unusedVariables false
set_option linter.unusedSimpArgs false
namespace Go.Proofs.Ytjklkppncmhehaa.T
open Go Go.RowKit
set_option maxRecDepth 100000
set_option maxHeartbeats 4000000
variable {E : List PanicEntry → World → Prop}
theorem l51Hear_T (w : WorldD) (p : PktD) (h : ShpN w) (hp : pktOk w p) : TC Tw.prog E 88 [gW w, gP p] 0 [] (gW (hearD w p)) [] := by
  obtain ⟨h0, h1, h2, h3⟩ := hp; have hg5 := h.g5; have hrl := h.rl; have hsl := h.sl; have hG := gAt_some (gs := w.groups) (i := p.g.toNat) (by omega)
  have hGN := h.grp _ (List.mem_of_getElem? hG); have hR := rnd_some h h0 h1; have hS := stop_some h h0 h1; have hRl := h.rnd' h0 h1; refine TC.enter Tw.func88 rfl (by kernel_rfl) Tw.ntmps88 (by rw [Try.results88]) (by simp) (Fits.nil rfl) ?_
  unfold hearD; by_cases k1 : p.k = 1
  · rw [if_pos k1]
    generalize gAt w.groups p.g.toNat = G at *; have hGl : grpLe G 4294967290 := by have := hGN.1; exact ⟨by omega, by omega⟩
    cases hb : (proposeD G p.m).2.2
    · rw [if_neg (by simp)]
      (repeat' first | refine TW.seq ?_ | refine TW.block ?_ | ((first | refine TW.skip ?_ | refine TW.exit ?_ | refine TW.ret ?_); (try simp only [tQ, bQ, if_true, Nat.reduceEqDiff, reduceIte])) | (refine TW.reg Td.mixed rfl fun C K hC hK => ?_; simp [wT, pktT, grpT, k1, h2, hG, hb]; (repeat' first | refine And.intro ?_ ?_ | intro _ | refine iteI ?_ ?_ | (show (_ : Bool) = true; kernel_rfl) | (show _ ≤ _; first | omega | (simp; done) | (simp; omega)) | exact Or.inl rfl | (show _ < _; omega) | ((first | refine hC _ _ _ _ _ rfl (aC.fresh rfl rfl [] (by simp; rfl) (by simp) 5 (by exact l51Copy_T w h) (by simp) (by simp) (by simp) ?_) | refine hC _ _ _ _ _ rfl (aC.fresh rfl rfl [] (by simp; rfl) (by simp) 2 (by exact l11Propose_T G p.m hGl hGN.2) (by simp) (by simp) (by simp) ?_)); simp [wT, pktT, grpT, k1, h2, hG, hb])); all_goals (refine hK _ ?_; clear hC hK C K; try simp only [tQ, bQ])) | (refine TW.cond rfl ?_ ?_ <;> intro hc <;> (try (cases hc; done))))
      refine Rets.own [] [3, 4, 5, 6, 7] (by simp; rfl) (by simp [wT, grpT]) (by simp) (by simp) (by simp [wT, grpT]) (by simp)
    · rw [if_pos rfl]
      have hP := l51Post_T (E := E) ⟨w.sets, w.groups.set p.g.toNat (proposeD G p.m).1, w.rounds, w.stopped, w.net⟩ ⟨2, p.m, p.g, (proposeD G p.m).2.1.1, (proposeD G p.m).2.1.2⟩ h.nl; generalize postD ⟨w.sets, w.groups.set p.g.toNat (proposeD G p.m).1, w.rounds, w.stopped, w.net⟩ ⟨2, p.m, p.g, (proposeD G p.m).2.1.1, (proposeD G p.m).2.1.2⟩ = v at *; simp [gW, wT, sysT, grpT] at hP; (repeat' first | refine TW.seq ?_ | refine TW.block ?_ | ((first | refine TW.skip ?_ | refine TW.exit ?_ | refine TW.ret ?_); (try simp only [tQ, bQ, if_true, Nat.reduceEqDiff, reduceIte])) | (refine TW.reg Td.mixed rfl fun C K hC hK => ?_; simp [wT, pktT, grpT, k1, h2, hG, hb]; (repeat' first | refine And.intro ?_ ?_ | intro _ | refine iteI ?_ ?_ | (show (_ : Bool) = true; kernel_rfl) | (show _ ≤ _; first | omega | (simp; done) | (simp; omega)) | exact Or.inl rfl | (show _ < _; omega) | ((first | refine hC _ _ _ _ _ rfl (aC.fresh rfl rfl [] (by simp; rfl) (by simp) 5 (by exact l51Copy_T w h) (by simp) (by simp) (by simp) ?_) | refine hC _ _ _ _ _ rfl (aC.fresh rfl rfl [] (by simp; rfl) (by simp) 2 (by exact l11Propose_T G p.m hGl hGN.2) (by simp) (by simp) (by simp) ?_) | refine hC _ _ _ _ _ rfl (aC.fresh rfl rfl [3, 4, 5, 6, 7] (by simp; rfl) (by simp) 0 (by exact hP) (by simp) (by simp) (by simp) ?_)); simp [wT, pktT, grpT, k1, h2, hG, hb])); all_goals (refine hK _ ?_; clear hC hK C K; try simp only [tQ, bQ])) | (refine TW.cond rfl ?_ ?_ <;> intro hc <;> (try (cases hc; done))))
      refine Rets.own [] [] (by simp; rfl) (by simp [wT]) (by simp) (by simp) (by simp [wT]) (by simp)
  · rw [if_neg k1]
    by_cases k2 : p.k = 2
    · rw [if_pos k2]
      cases hst : stopAt w p.m
      · rw [if_neg (by simp)]
        generalize hre : rndAt w p.m = r at *
        cases hb : (addD r p.t p.s).2
        · rw [if_neg (by simp)]
          (repeat' first | refine TW.seq ?_ | refine TW.block ?_ | ((first | refine TW.skip ?_ | refine TW.exit ?_ | refine TW.ret ?_); (try simp only [tQ, bQ, if_true, Nat.reduceEqDiff, reduceIte])) | (refine TW.reg Td.mixed rfl fun C K hC hK => ?_; simp [wT, pktT, rndT, k2, h0, hS, hst, hR, hb]; (repeat' first | refine And.intro ?_ ?_ | intro _ | refine iteI ?_ ?_ | (show (_ : Bool) = true; kernel_rfl) | (show _ ≤ _; first | omega | (simp; done) | (simp; omega)) | exact Or.inl rfl | (show _ < _; omega) | ((first | refine hC _ _ _ _ _ rfl (aC.fresh rfl rfl [] (by simp; rfl) (by simp) 5 (by exact l51Copy_T w h) (by simp) (by simp) (by simp) ?_) | refine hC _ _ _ _ _ rfl (aC.fresh rfl rfl [] (by simp; rfl) (by simp) 2 (by exact l12Add_T r p.t p.s hRl) (by simp) (by simp) (by simp) ?_)); simp [wT, pktT, rndT, k2, h0, hS, hst, hR, hb])); all_goals (refine hK _ ?_; clear hC hK C K; try simp only [tQ, bQ])) | (refine TW.cond rfl ?_ ?_ <;> intro hc <;> (try (cases hc; done))))
          refine Rets.own [] [3, 4, 5, 6, 7] (by simp; rfl) (by simp [wT, rndT]) (by simp) (by simp) (by simp [wT, rndT]) (by simp)
        · rw [if_pos rfl]
          have hrn := rndAt_ok h h0 h1; rw [hre] at hrn; have hT := l51Tell_T (E := E) ⟨w.sets, w.groups, w.rounds.set p.m.toNat (addD r p.t p.s).1, w.stopped, w.net⟩ p.m ((h.mono (Nat.le_succ _)).rndSet p.m.toNat (add_N p.t p.s hrn)) h0 h1; generalize tellD ⟨w.sets, w.groups, w.rounds.set p.m.toNat (addD r p.t p.s).1, w.stopped, w.net⟩ p.m = v at *; simp [gW, wT, rndsT, rndT] at hT; (repeat' first | refine TW.seq ?_ | refine TW.block ?_ | ((first | refine TW.skip ?_ | refine TW.exit ?_ | refine TW.ret ?_); (try simp only [tQ, bQ, if_true, Nat.reduceEqDiff, reduceIte])) | (refine TW.reg Td.mixed rfl fun C K hC hK => ?_; simp [wT, pktT, rndT, k2, h0, hS, hst, hR, hb]; (repeat' first | refine And.intro ?_ ?_ | intro _ | refine iteI ?_ ?_ | (show (_ : Bool) = true; kernel_rfl) | (show _ ≤ _; first | omega | (simp; done) | (simp; omega)) | exact Or.inl rfl | (show _ < _; omega) | ((first | refine hC _ _ _ _ _ rfl (aC.fresh rfl rfl [] (by simp; rfl) (by simp) 5 (by exact l51Copy_T w h) (by simp) (by simp) (by simp) ?_) | refine hC _ _ _ _ _ rfl (aC.fresh rfl rfl [] (by simp; rfl) (by simp) 2 (by exact l12Add_T r p.t p.s hRl) (by simp) (by simp) (by simp) ?_) | refine hC _ _ _ _ _ rfl (aC.fresh rfl rfl [3, 4, 5, 6, 7] (by simp; rfl) (by simp) 0 (by exact hT) (by simp) (by simp) (by simp) ?_)); simp [wT, pktT, rndT, k2, h0, hS, hst, hR, hb])); all_goals (refine hK _ ?_; clear hC hK C K; try simp only [tQ, bQ])) | (refine TW.cond rfl ?_ ?_ <;> intro hc <;> (try (cases hc; done))))
          refine Rets.own [] [] (by simp; rfl) (by simp [wT]) (by simp) (by simp) (by simp [wT]) (by simp)
      · rw [if_pos rfl]
        (repeat' first | refine TW.seq ?_ | refine TW.block ?_ | ((first | refine TW.skip ?_ | refine TW.exit ?_ | refine TW.ret ?_); (try simp only [tQ, bQ, if_true, Nat.reduceEqDiff, reduceIte])) | (refine TW.reg Td.mixed rfl fun C K hC hK => ?_; simp [wT, pktT, k2, h0, hS, hst]; (repeat' first | refine And.intro ?_ ?_ | intro _ | refine iteI ?_ ?_ | (show (_ : Bool) = true; kernel_rfl) | (show _ ≤ _; first | omega | (simp; done) | (simp; omega)) | exact Or.inl rfl | (show _ < _; omega) | ((first | refine hC _ _ _ _ _ rfl (aC.fresh rfl rfl [] (by simp; rfl) (by simp) 5 (by exact l51Copy_T w h) (by simp) (by simp) (by simp) ?_)); simp [wT, pktT, k2, h0, hS, hst])); all_goals (refine hK _ ?_; clear hC hK C K; try simp only [tQ, bQ])) | (refine TW.cond rfl ?_ ?_ <;> intro hc <;> (try (cases hc; done))))
        refine Rets.own [] [3, 4, 5, 6, 7] (by simp; rfl) (by simp [wT]) (by simp) (by simp) (by simp [wT]) (by simp)
    · rw [if_neg k2]
      by_cases k3 : p.k = 3
      · rw [if_pos k3]
        generalize gAt w.groups p.g.toNat = G at *; have hGl := hGN.mono (n' := 4294967290) (by omega)
        (repeat' first | refine TW.seq ?_ | refine TW.block ?_ | ((first | refine TW.skip ?_ | refine TW.exit ?_ | refine TW.ret ?_); (try simp only [tQ, bQ, if_true, Nat.reduceEqDiff, reduceIte])) | (refine TW.reg Td.mixed rfl fun C K hC hK => ?_; simp [wT, pktT, grpT, k3, h2, hG]; (repeat' first | refine And.intro ?_ ?_ | intro _ | refine iteI ?_ ?_ | (show (_ : Bool) = true; kernel_rfl) | (show _ ≤ _; first | omega | (simp; done) | (simp; omega)) | exact Or.inl rfl | (show _ < _; omega) | ((first | refine hC _ _ _ _ _ rfl (aC.fresh rfl rfl [] (by simp; rfl) (by simp) 5 (by exact l51Copy_T w h) (by simp) (by simp) (by simp) ?_) | refine hC _ _ _ _ _ rfl (aC.fresh rfl rfl [] (by simp; rfl) (by simp) 3 (by exact l11Final_T G p.m p.t p.s hGl) (by simp) (by simp) (by simp) ?_)); simp [wT, pktT, grpT, k3, h2, hG])); all_goals (refine hK _ ?_; clear hC hK C K; try simp only [tQ, bQ])) | (refine TW.cond rfl ?_ ?_ <;> intro hc <;> (try (cases hc; done))))
        refine Rets.own [] [3, 4, 5, 6, 7] (by simp; rfl) (by simp [wT, grpT]) (by simp) (by simp) (by simp [wT, grpT]) (by simp)
      · rw [if_neg k3]
        (repeat' first | refine TW.seq ?_ | refine TW.block ?_ | ((first | refine TW.skip ?_ | refine TW.exit ?_ | refine TW.ret ?_); (try simp only [tQ, bQ, if_true, Nat.reduceEqDiff, reduceIte])) | (refine TW.reg Td.mixed rfl fun C K hC hK => ?_; simp [wT, pktT, k1, k2, k3]; (repeat' first | refine And.intro ?_ ?_ | intro _ | refine iteI ?_ ?_ | (show (_ : Bool) = true; kernel_rfl) | (show _ ≤ _; first | omega | (simp; done) | (simp; omega)) | exact Or.inl rfl | (show _ < _; omega) | ((first | refine hC _ _ _ _ _ rfl (aC.fresh rfl rfl [] (by simp; rfl) (by simp) 5 (by exact l51Copy_T w h) (by simp) (by simp) (by simp) ?_)); simp [wT, pktT, k1, k2, k3])); all_goals (refine hK _ ?_; clear hC hK C K; try simp only [tQ, bQ])) | (refine TW.cond rfl ?_ ?_ <;> intro hc <;> (try (cases hc; done))))
        refine Rets.own [] [3, 4, 5, 6, 7] (by simp; rfl) (by simp [wT]) (by simp) (by simp) (by simp [wT]) (by simp)
abbrev gE (k a : Int) : GV := .a [.r (rI k), .r (rI a)]
theorem l51Net_T (w : WorldD) (k a : Int) (h : ShpN w) : TC Tw.prog E 79 [gW w, gE k a] 0 [] (gW (netD w k a)) [] := by
  have hnl := h.nl; have hw : IntKind.i64.wrap ((w.net.length : Int) - 1) = (w.net.length : Int) - 1 := wrap_ok (by omega) (by omega)
  refine TC.enter Tw.func79 rfl (by kernel_rfl) Tw.ntmps79 (by rw [Try.results79]) (by simp) (Fits.nil rfl) ?_
  unfold netD; by_cases ha : a < 0
  · rw [if_pos ha]
    have ha' : ¬ 0 ≤ a := by omega
    (repeat' first | refine TW.seq ?_ | refine TW.block ?_ | ((first | refine TW.skip ?_ | refine TW.exit ?_ | refine TW.ret ?_); (try simp only [tQ, bQ, if_true, Nat.reduceEqDiff, reduceIte])) | (refine TW.reg Td.mixed rfl fun C K hC hK => ?_; simp [wT, hw, ha']; (repeat' first | refine And.intro ?_ ?_ | intro _ | refine iteI ?_ ?_ | (show (_ : Bool) = true; kernel_rfl) | (show _ ≤ _; first | omega | (simp; done) | (simp; omega)) | exact Or.inl rfl | (show _ < _; omega) | ((first | refine hC _ _ _ _ _ rfl (aC.plain rfl rfl (by simp; rfl) (by exact l6In_T _ _ _) (by simp) (by simp) ?_)); simp [wT, hw, ha'])); all_goals (refine hK _ ?_; clear hC hK C K; try simp only [tQ, bQ])) | (refine TW.cond rfl ?_ ?_ <;> intro hc <;> (try (cases hc; done))))
    refine Rets.own [] [] (by simp; rfl) (by simp [wT]) (by simp) (by simp) (by simp [wT]) (by simp)
  · rw [if_neg ha]
    have ha0 : 0 ≤ a := by omega
    rcases hn : w.net[a.toNat]? with _ | p
    · have hge := List.getElem?_eq_none_iff.1 hn
      have hin : ¬ a ≤ (w.net.length : Int) - 1 := by omega
      have hin2 : ¬ a < (w.net.length : Int) := by omega
      (repeat' first | refine TW.seq ?_ | refine TW.block ?_ | ((first | refine TW.skip ?_ | refine TW.exit ?_ | refine TW.ret ?_); (try simp only [tQ, bQ, if_true, Nat.reduceEqDiff, reduceIte])) | (refine TW.reg Td.mixed rfl fun C K hC hK => ?_; simp [wT, hw, ha0, hin, hin2]; (repeat' first | refine And.intro ?_ ?_ | intro _ | refine iteI ?_ ?_ | (show (_ : Bool) = true; kernel_rfl) | (show _ ≤ _; first | omega | (simp; done) | (simp; omega)) | exact Or.inl rfl | (show _ < _; omega) | ((first | refine hC _ _ _ _ _ rfl (aC.plain rfl rfl (by simp; rfl) (by exact l6In_T _ _ _) (by simp) (by simp) ?_)); simp [wT, hw, ha0, hin, hin2])); all_goals (refine hK _ ?_; clear hC hK C K; try simp only [tQ, bQ])) | (refine TW.cond rfl ?_ ?_ <;> intro hc <;> (try (cases hc; done))))
      refine Rets.own [] [] (by simp; rfl) (by simp [wT]) (by simp) (by simp) (by simp [wT]) (by simp)
    · have hlt := (List.getElem?_eq_some_iff.1 hn).1
      have hin : a ≤ (w.net.length : Int) - 1 := by omega
      have hin2 : a < (w.net.length : Int) := by omega
      have hpk := h.net p (List.mem_of_getElem? hn); simp only
      by_cases k4 : k = 4
      · rw [if_pos k4]
        (repeat' first | refine TW.seq ?_ | refine TW.block ?_ | ((first | refine TW.skip ?_ | refine TW.exit ?_ | refine TW.ret ?_); (try simp only [tQ, bQ, if_true, Nat.reduceEqDiff, reduceIte])) | (refine TW.reg Td.mixed rfl fun C K hC hK => ?_; simp [wT, pktT, hw, ha0, hin, hn, k4]; (repeat' first | refine And.intro ?_ ?_ | intro _ | refine iteI ?_ ?_ | (show (_ : Bool) = true; kernel_rfl) | (show _ ≤ _; first | omega | (simp; done) | (simp; omega)) | exact Or.inl rfl | (show _ < _; omega) | ((first | refine hC _ _ _ _ _ rfl (aC.plain rfl rfl (by simp; rfl) (by exact l6In_T _ _ _) (by simp) (by simp) ?_) | refine hC _ _ _ _ _ rfl (aC.plain rfl rfl (by simp; rfl) (by exact l51Post_T w p hnl) (by simp) (by simp) ?_)); simp [wT, pktT, hw, ha0, hin, hn, k4])); all_goals (refine hK _ ?_; clear hC hK C K; try simp only [tQ, bQ])) | (refine TW.cond rfl ?_ ?_ <;> intro hc <;> (try (cases hc; done))))
        refine Rets.own [] [] (by simp; rfl) (by simp [wT]) (by simp) (by simp) (by simp [wT]) (by simp)
      · rw [if_neg k4]
        have hwa : IntKind.i64.wrap (a + 1) = a + 1 := wrap_ok (by omega) (by omega)
        have hta : (a + 1).toNat = a.toNat + 1 := by omega
        have ha1 : 0 ≤ a + 1 := by omega
        have her := List.eraseIdx_eq_take_drop_succ w.net a.toNat; have hH := l51Hear_T (E := E) ⟨w.sets, w.groups, w.rounds, w.stopped, w.net.eraseIdx a.toNat⟩ p (h.erase _) hpk; by_cases k2 : k = 2
        · rw [if_pos k2]
          generalize hearD ⟨w.sets, w.groups, w.rounds, w.stopped, w.net.eraseIdx a.toNat⟩ p = v at *; simp [gW, wT, netT, her] at hH; (repeat' first | refine TW.seq ?_ | refine TW.block ?_ | ((first | refine TW.skip ?_ | refine TW.exit ?_ | refine TW.ret ?_); (try simp only [tQ, bQ, if_true, Nat.reduceEqDiff, reduceIte])) | (refine TW.reg Td.mixed rfl fun C K hC hK => ?_; simp [wT, pktT, hw, ha0, ha1, hin, hn, k2, hwa, hta, maxLen]; (repeat' first | refine And.intro ?_ ?_ | intro _ | refine iteI ?_ ?_ | (show (_ : Bool) = true; kernel_rfl) | (show _ ≤ _; first | omega | (simp; done) | (simp; omega)) | exact Or.inl rfl | (show _ < _; omega) | ((first | refine hC _ _ _ _ _ rfl (aC.plain rfl rfl (by simp; rfl) (by exact l6In_T _ _ _) (by simp) (by simp) ?_) | refine hC _ _ _ _ _ rfl (aC.fresh rfl rfl [6] (by simp; rfl) (by simp) 0 (by exact hH) (by simp) (by simp) (by simp) ?_)); simp [wT, pktT, hw, ha0, ha1, hin, hn, k2, hwa, hta, maxLen])); all_goals (refine hK _ ?_; clear hC hK C K; try simp only [tQ, bQ])) | (refine TW.cond rfl ?_ ?_ <;> intro hc <;> (try (cases hc; done))))
          refine Rets.own [] [] (by simp; rfl) (by simp [wT]) (by simp) (by simp) (by simp [wT]) (by simp)
        · rw [if_neg k2]
          (repeat' first | refine TW.seq ?_ | refine TW.block ?_ | ((first | refine TW.skip ?_ | refine TW.exit ?_ | refine TW.ret ?_); (try simp only [tQ, bQ, if_true, Nat.reduceEqDiff, reduceIte])) | (refine TW.reg Td.mixed rfl fun C K hC hK => ?_; simp [wT, pktT, hw, ha0, ha1, hin, hn, k4, k2, hwa, hta, maxLen]; (repeat' first | refine And.intro ?_ ?_ | intro _ | refine iteI ?_ ?_ | (show (_ : Bool) = true; kernel_rfl) | (show _ ≤ _; first | omega | (simp; done) | (simp; omega)) | exact Or.inl rfl | (show _ < _; omega) | ((first | refine hC _ _ _ _ _ rfl (aC.plain rfl rfl (by simp; rfl) (by exact l6In_T _ _ _) (by simp) (by simp) ?_)); simp [wT, pktT, hw, ha0, ha1, hin, hn, k4, k2, hwa, hta, maxLen])); all_goals (refine hK _ ?_; clear hC hK C K; try simp only [tQ, bQ])) | (refine TW.cond rfl ?_ ?_ <;> intro hc <;> (try (cases hc; done))))
          refine Rets.own [] [6] (by simp; rfl) (by simp [wT, her]) (by simp) (by simp) (by simp [wT, her]) (by simp)
theorem ask_shp {w : WorldD} {n : Nat} (h : Shp n w) {a : Int} (ha0 : 0 ≤ a) (ha1 : a < w.sets.length) : Shp n (askD w a (missD (rndAt w a))) ∧ (askD w a (missD (rndAt w a))).sets = w.sets := by
  refine ⟨Shp.posts (fun g => ⟨1, a, g, 0, 0⟩) _ w h fun g hg => ?_, posts_sets _ _ _⟩
  unfold missD at hg; split at hg
  · rename_i hb
    have hg := (List.mem_filter.1 hg).1; simp only [rndB, Bool.and_eq_true] at hb; have hs := hb.2; simp only [setB, Bool.and_eq_true, allB, List.all_eq_true, List.mem_range] at hs; obtain ⟨i, hi, rfl⟩ := List.getElem_of_mem hg; have := hs.1 i hi
    simp only [setC, Bool.and_eq_true, isGrpB] at this; have := this.1
    rw [List.getD_eq_getElem?_getD, List.getElem?_eq_getElem hi] at this; have : 0 ≤ (rndAt w a).gs[i] ∧ (rndAt w a).gs[i] < 5 := by simpa using this
    exact ⟨ha0, ha1, this.1, this.2⟩
  · cases hg
theorem l51Sender_T (w : WorldD) (k a : Int) (h : ShpN w) : TC Tw.prog E 80 [gW w, gE k a] 0 [] (gW (senderD w k a)) [] := by
  have hs12 := h.s12; have hsl := h.sl; have hw : IntKind.i64.wrap ((w.sets.length : Int) - 1) = (w.sets.length : Int) - 1 := wrap_ok (by omega) (by omega)
  refine TC.enter Tw.func80 rfl (by kernel_rfl) Tw.ntmps80 (by rw [Try.results80]) (by simp) (Fits.nil rfl) ?_
  unfold senderD; by_cases ha : a < 0 ∨ (w.sets.length : Int) ≤ a
  · rw [if_pos ha]
    have hin : ¬ (0 ≤ a ∧ a ≤ (w.sets.length : Int) - 1) := by omega
    (repeat' first | refine TW.seq ?_ | refine TW.block ?_ | ((first | refine TW.skip ?_ | refine TW.exit ?_ | refine TW.ret ?_); (try simp only [tQ, bQ, if_true, Nat.reduceEqDiff, reduceIte])) | (refine TW.reg Td.mixed rfl fun C K hC hK => ?_; simp [wT, hw, hin]; (repeat' first | refine And.intro ?_ ?_ | intro _ | refine iteI ?_ ?_ | (show (_ : Bool) = true; kernel_rfl) | (show _ ≤ _; first | omega | (simp; done) | (simp; omega)) | exact Or.inl rfl | (show _ < _; omega) | ((first | refine hC _ _ _ _ _ rfl (aC.plain rfl rfl (by simp; rfl) (by exact l6In_T _ _ _) (by simp) (by simp) ?_)); simp [wT, hw, hin])); all_goals (refine hK _ ?_; clear hC hK C K; try simp only [tQ, bQ])) | (refine TW.cond rfl ?_ ?_ <;> intro hc <;> (try (cases hc; done))))
    refine Rets.own [] [] (by simp; rfl) (by simp [wT]) (by simp) (by simp) (by simp [wT]) (by simp)
  · rw [if_neg ha]
    have ha0 : 0 ≤ a := by omega
    have ha1 : a < w.sets.length := by omega
    have hin : a ≤ (w.sets.length : Int) - 1 := by omega
    have hR := rnd_some h ha0 ha1; have hS := stop_some h ha0 ha1; have hSt := set_some ha0 ha1; by_cases k5 : k = 5
    · rw [if_pos k5]
      (repeat' first | refine TW.seq ?_ | refine TW.block ?_ | ((first | refine TW.skip ?_ | refine TW.exit ?_ | refine TW.ret ?_); (try simp only [tQ, bQ, if_true, Nat.reduceEqDiff, reduceIte])) | (refine TW.reg Td.mixed rfl fun C K hC hK => ?_; simp [wT, hw, ha0, hin, k5, hS]; (repeat' first | refine And.intro ?_ ?_ | intro _ | refine iteI ?_ ?_ | (show (_ : Bool) = true; kernel_rfl) | (show _ ≤ _; first | omega | (simp; done) | (simp; omega)) | exact Or.inl rfl | (show _ < _; omega) | ((first | refine hC _ _ _ _ _ rfl (aC.plain rfl rfl (by simp; rfl) (by exact l6In_T _ _ _) (by simp) (by simp) ?_) | refine hC _ _ _ _ _ rfl (aC.fresh rfl rfl [] (by simp; rfl) (by simp) 5 (by exact l51Copy_T w h) (by simp) (by simp) (by simp) ?_)); simp [wT, hw, ha0, hin, k5, hS])); all_goals (refine hK _ ?_; clear hC hK C K; try simp only [tQ, bQ])) | (refine TW.cond rfl ?_ ?_ <;> intro hc <;> (try (cases hc; done))))
      refine Rets.own [] [3, 4, 5, 6, 7] (by simp; rfl) (by simp [wT]) (by simp) (by simp) (by simp [wT]) (by simp)
    · rw [if_neg k5]
      by_cases k6 : k = 6
      · rw [if_pos k6]
        cases hst : stopAt w a
        · rw [if_neg (by simp)]
          have hRl := h.rnd' ha0 ha1; have hM := specRoundMissing_T (E := E) (rndAt w a) ⟨by have := hRl.1; omega, by have := hRl.2; omega⟩
          have hA := l51Ask_T (E := E) w a (missD (rndAt w a)) h.nl; obtain ⟨as1, as2⟩ := ask_shp h ha0 ha1; have hT := l51Tell_T (E := E) (askD w a (missD (rndAt w a))) a as1 ha0 (by rw [as2]; exact ha1)
          generalize tellD (askD w a (missD (rndAt w a))) a = v at *; generalize askD w a (missD (rndAt w a)) = u at *; generalize missD (rndAt w a) = ms at *; generalize rndAt w a = r at *; (repeat' first | refine TW.seq ?_ | refine TW.block ?_ | ((first | refine TW.skip ?_ | refine TW.exit ?_ | refine TW.ret ?_); (try simp only [tQ, bQ, if_true, Nat.reduceEqDiff, reduceIte])) | (refine TW.reg Td.mixed rfl fun C K hC hK => ?_; simp [wT, rndT, hw, ha0, hin, k5, k6, hS, hst, hR]; (repeat' first | refine And.intro ?_ ?_ | intro _ | refine iteI ?_ ?_ | (show (_ : Bool) = true; kernel_rfl) | (show _ ≤ _; first | omega | (simp; done) | (simp; omega)) | exact Or.inl rfl | (show _ < _; omega) | ((first | refine hC _ _ _ _ _ rfl (aC.plain rfl rfl (by simp; rfl) (by exact l6In_T _ _ _) (by simp) (by simp) ?_) | refine hC _ _ _ _ _ rfl (aC.plain rfl rfl (by simp; rfl) (by exact hM) (by simp) (by simp) ?_) | refine hC _ _ _ _ _ rfl (aC.plain rfl rfl (by simp; rfl) (by exact hA) (by simp) (by simp) ?_) | refine hC _ _ _ _ _ rfl (aC.plain rfl rfl (by simp; rfl) (by exact hT) (by simp) (by simp) ?_)); simp [wT, rndT, hw, ha0, hin, k5, k6, hS, hst, hR])); all_goals (refine hK _ ?_; clear hC hK C K; try simp only [tQ, bQ])) | (refine TW.cond rfl ?_ ?_ <;> intro hc <;> (try (cases hc; done))))
          refine Rets.own [] [] (by simp; rfl) (by simp [wT]) (by simp) (by simp) (by simp [wT]) (by simp)
        · rw [if_pos rfl]
          (repeat' first | refine TW.seq ?_ | refine TW.block ?_ | ((first | refine TW.skip ?_ | refine TW.exit ?_ | refine TW.ret ?_); (try simp only [tQ, bQ, if_true, Nat.reduceEqDiff, reduceIte])) | (refine TW.reg Td.mixed rfl fun C K hC hK => ?_; simp [wT, hw, ha0, hin, k5, k6, hS, hst]; (repeat' first | refine And.intro ?_ ?_ | intro _ | refine iteI ?_ ?_ | (show (_ : Bool) = true; kernel_rfl) | (show _ ≤ _; first | omega | (simp; done) | (simp; omega)) | exact Or.inl rfl | (show _ < _; omega) | ((first | refine hC _ _ _ _ _ rfl (aC.plain rfl rfl (by simp; rfl) (by exact l6In_T _ _ _) (by simp) (by simp) ?_)); simp [wT, hw, ha0, hin, k5, k6, hS, hst])); all_goals (refine hK _ ?_; clear hC hK C K; try simp only [tQ, bQ])) | (refine TW.cond rfl ?_ ?_ <;> intro hc <;> (try (cases hc; done))))
          refine Rets.own [] [] (by simp; rfl) (by simp [wT]) (by simp) (by simp) (by simp [wT]) (by simp)
      · rw [if_neg k6]
        by_cases k7 : k = 7
        · rw [if_pos k7]
          have hso := setAt_ok h ha0 ha1; have hL := l13All_T (E := E) w.groups (setAt w a) a h.g5 (fun g hg => (h.grp g hg).mono (by omega)) hso.2.2 hso.1 hso.2.1
          generalize allD w.groups (setAt w a) a = A at *; generalize setAt w a = S at *
          cases hb : A.2
          · rw [if_neg (by simp)]
            (repeat' first | refine TW.seq ?_ | refine TW.block ?_ | ((first | refine TW.skip ?_ | refine TW.exit ?_ | refine TW.ret ?_); (try simp only [tQ, bQ, if_true, Nat.reduceEqDiff, reduceIte])) | (refine TW.reg Td.mixed rfl fun C K hC hK => ?_; simp [wT, hw, ha0, hin, k5, k6, k7, hSt, hb]; (repeat' first | refine And.intro ?_ ?_ | intro _ | refine iteI ?_ ?_ | (show (_ : Bool) = true; kernel_rfl) | (show _ ≤ _; first | omega | (simp; done) | (simp; omega)) | exact Or.inl rfl | (show _ < _; omega) | ((first | refine hC _ _ _ _ _ rfl (aC.plain rfl rfl (by simp; rfl) (by exact l6In_T _ _ _) (by simp) (by simp) ?_) | refine hC _ _ _ _ _ rfl (aC.fresh rfl rfl [] (by simp; rfl) (by simp) 1 (by exact hL) (by simp) (by simp) (by simp) ?_)); simp [wT, hw, ha0, hin, k5, k6, k7, hSt, hb])); all_goals (refine hK _ ?_; clear hC hK C K; try simp only [tQ, bQ])) | (refine TW.cond rfl ?_ ?_ <;> intro hc <;> (try (cases hc; done))))
            refine Rets.own [] [] (by simp; rfl) (by simp [wT]) (by simp) (by simp) (by simp [wT]) (by simp)
          · rw [if_pos rfl]
            (repeat' first | refine TW.seq ?_ | refine TW.block ?_ | ((first | refine TW.skip ?_ | refine TW.exit ?_ | refine TW.ret ?_); (try simp only [tQ, bQ, if_true, Nat.reduceEqDiff, reduceIte])) | (refine TW.reg Td.mixed rfl fun C K hC hK => ?_; simp [wT, hw, ha0, hin, k5, k6, k7, hSt, hb]; (repeat' first | refine And.intro ?_ ?_ | intro _ | refine iteI ?_ ?_ | (show (_ : Bool) = true; kernel_rfl) | (show _ ≤ _; first | omega | (simp; done) | (simp; omega)) | exact Or.inl rfl | (show _ < _; omega) | ((first | refine hC _ _ _ _ _ rfl (aC.plain rfl rfl (by simp; rfl) (by exact l6In_T _ _ _) (by simp) (by simp) ?_) | refine hC _ _ _ _ _ rfl (aC.fresh rfl rfl [] (by simp; rfl) (by simp) 1 (by exact hL) (by simp) (by simp) (by simp) ?_)); simp [wT, hw, ha0, hin, k5, k6, k7, hSt, hb])); all_goals (refine hK _ ?_; clear hC hK C K; try simp only [tQ, bQ])) | (refine TW.cond rfl ?_ ?_ <;> intro hc <;> (try (cases hc; done))))
            refine Rets.own [] [3] (by simp; rfl) (by simp [wT]) (by simp) (by simp) (by simp [wT]) (by simp)
        · rw [if_neg k7]
          (repeat' first | refine TW.seq ?_ | refine TW.block ?_ | ((first | refine TW.skip ?_ | refine TW.exit ?_ | refine TW.ret ?_); (try simp only [tQ, bQ, if_true, Nat.reduceEqDiff, reduceIte])) | (refine TW.reg Td.mixed rfl fun C K hC hK => ?_; simp [wT, hw, ha0, hin, k5, k6, k7]; (repeat' first | refine And.intro ?_ ?_ | intro _ | refine iteI ?_ ?_ | (show (_ : Bool) = true; kernel_rfl) | (show _ ≤ _; first | omega | (simp; done) | (simp; omega)) | exact Or.inl rfl | (show _ < _; omega) | ((first | refine hC _ _ _ _ _ rfl (aC.plain rfl rfl (by simp; rfl) (by exact l6In_T _ _ _) (by simp) (by simp) ?_)); simp [wT, hw, ha0, hin, k5, k6, k7])); all_goals (refine hK _ ?_; clear hC hK C K; try simp only [tQ, bQ])) | (refine TW.cond rfl ?_ ?_ <;> intro hc <;> (try (cases hc; done))))
          refine Rets.own [] [] (by simp; rfl) (by simp [wT]) (by simp) (by simp) (by simp [wT]) (by simp)
theorem l51Do_T (w : WorldD) (k a : Int) (h : ShpN w) : TC Tw.prog E 63 [gW w, gE k a] 0 [] (gW (doD w k a)) [] := by
  refine TC.enter Tw.func63 rfl (by kernel_rfl) Tw.ntmps63 (by rw [Try.results63]) (by simp) (Fits.nil rfl) ?_
  unfold doD; by_cases k1 : k = 1
  · rw [if_pos k1]
    (repeat' first | refine TW.seq ?_ | refine TW.block ?_ | ((first | refine TW.skip ?_ | refine TW.exit ?_ | refine TW.ret ?_); (try simp only [tQ, bQ, if_true, Nat.reduceEqDiff, reduceIte])) | (refine TW.reg Td.mixed rfl fun C K hC hK => ?_; simp [wT, k1]; (repeat' first | refine And.intro ?_ ?_ | intro _ | refine iteI ?_ ?_ | (show (_ : Bool) = true; kernel_rfl) | (show _ ≤ _; first | omega | (simp; done) | (simp; omega)) | exact Or.inl rfl | (show _ < _; omega) | ((first | refine hC _ _ _ _ _ rfl (aC.plain rfl rfl (by simp; rfl) (by exact l51Send_T w a h) (by simp) (by simp) ?_)); simp [wT, k1])); all_goals (refine hK _ ?_; clear hC hK C K; try simp only [tQ, bQ])) | (refine TW.cond rfl ?_ ?_ <;> intro hc <;> (try (cases hc; done))))
    refine Rets.own [] [] (by simp; rfl) (by simp [wT]) (by simp) (by simp) (by simp [wT]) (by simp)
  · rw [if_neg k1]
    by_cases k2 : k = 2
    · rw [if_pos (.inl k2)]
      (repeat' first | refine TW.seq ?_ | refine TW.block ?_ | ((first | refine TW.skip ?_ | refine TW.exit ?_ | refine TW.ret ?_); (try simp only [tQ, bQ, if_true, Nat.reduceEqDiff, reduceIte])) | (refine TW.reg Td.mixed rfl fun C K hC hK => ?_; simp [wT, k2]; (repeat' first | refine And.intro ?_ ?_ | intro _ | refine iteI ?_ ?_ | (show (_ : Bool) = true; kernel_rfl) | (show _ ≤ _; first | omega | (simp; done) | (simp; omega)) | exact Or.inl rfl | (show _ < _; omega) | ((first | refine hC _ _ _ _ _ rfl (aC.plain rfl rfl (by simp; rfl) (by exact l51Net_T w 2 a h) (by simp) (by simp) ?_)); simp [wT, k2])); all_goals (refine hK _ ?_; clear hC hK C K; try simp only [tQ, bQ])) | (refine TW.cond rfl ?_ ?_ <;> intro hc <;> (try (cases hc; done))))
      refine Rets.own [] [] (by simp; rfl) (by simp [wT, k2]) (by simp) (by simp) (by simp [wT, k2]) (by simp)
    · by_cases k3 : k = 3
      · rw [if_pos (.inr (.inl k3))]
        (repeat' first | refine TW.seq ?_ | refine TW.block ?_ | ((first | refine TW.skip ?_ | refine TW.exit ?_ | refine TW.ret ?_); (try simp only [tQ, bQ, if_true, Nat.reduceEqDiff, reduceIte])) | (refine TW.reg Td.mixed rfl fun C K hC hK => ?_; simp [wT, k3]; (repeat' first | refine And.intro ?_ ?_ | intro _ | refine iteI ?_ ?_ | (show (_ : Bool) = true; kernel_rfl) | (show _ ≤ _; first | omega | (simp; done) | (simp; omega)) | exact Or.inl rfl | (show _ < _; omega) | ((first | refine hC _ _ _ _ _ rfl (aC.plain rfl rfl (by simp; rfl) (by exact l51Net_T w 3 a h) (by simp) (by simp) ?_)); simp [wT, k3])); all_goals (refine hK _ ?_; clear hC hK C K; try simp only [tQ, bQ])) | (refine TW.cond rfl ?_ ?_ <;> intro hc <;> (try (cases hc; done))))
        refine Rets.own [] [] (by simp; rfl) (by simp [wT, k3]) (by simp) (by simp) (by simp [wT, k3]) (by simp)
      · by_cases k4 : k = 4
        · rw [if_pos (.inr (.inr k4))]
          (repeat' first | refine TW.seq ?_ | refine TW.block ?_ | ((first | refine TW.skip ?_ | refine TW.exit ?_ | refine TW.ret ?_); (try simp only [tQ, bQ, if_true, Nat.reduceEqDiff, reduceIte])) | (refine TW.reg Td.mixed rfl fun C K hC hK => ?_; simp [wT, k4]; (repeat' first | refine And.intro ?_ ?_ | intro _ | refine iteI ?_ ?_ | (show (_ : Bool) = true; kernel_rfl) | (show _ ≤ _; first | omega | (simp; done) | (simp; omega)) | exact Or.inl rfl | (show _ < _; omega) | ((first | refine hC _ _ _ _ _ rfl (aC.plain rfl rfl (by simp; rfl) (by exact l51Net_T w 4 a h) (by simp) (by simp) ?_)); simp [wT, k4])); all_goals (refine hK _ ?_; clear hC hK C K; try simp only [tQ, bQ])) | (refine TW.cond rfl ?_ ?_ <;> intro hc <;> (try (cases hc; done))))
          refine Rets.own [] [] (by simp; rfl) (by simp [wT, k4]) (by simp) (by simp) (by simp [wT, k4]) (by simp)
        · rw [if_neg (by omega)]
          (repeat' first | refine TW.seq ?_ | refine TW.block ?_ | ((first | refine TW.skip ?_ | refine TW.exit ?_ | refine TW.ret ?_); (try simp only [tQ, bQ, if_true, Nat.reduceEqDiff, reduceIte])) | (refine TW.reg Td.mixed rfl fun C K hC hK => ?_; simp [wT, k1, k2, k3, k4]; (repeat' first | refine And.intro ?_ ?_ | intro _ | refine iteI ?_ ?_ | (show (_ : Bool) = true; kernel_rfl) | (show _ ≤ _; first | omega | (simp; done) | (simp; omega)) | exact Or.inl rfl | (show _ < _; omega) | ((first | refine hC _ _ _ _ _ rfl (aC.plain rfl rfl (by simp; rfl) (by exact l51Sender_T w k a h) (by simp) (by simp) ?_)); simp [wT, k1, k2, k3, k4])); all_goals (refine hK _ ?_; clear hC hK C K; try simp only [tQ, bQ])) | (refine TW.cond rfl ?_ ?_ <;> intro hc <;> (try (cases hc; done))))
          refine Rets.own [] [] (by simp; rfl) (by simp [wT]) (by simp) (by simp) (by simp [wT]) (by simp)
end Go.Proofs.Ytjklkppncmhehaa.T
namespace Go.Proofs.Ytjklkppncmhehaa.T
open Go Go.RowKit
set_option maxRecDepth 100000
set_option maxHeartbeats 4000000
variable {E : List PanicEntry → World → Prop}
abbrev bytesT (bs : List Int) : RT := .sl 1 (bs.map fun b => [.v (.int .u8 b)])
abbrev rdC (bs : List Int) (p : Int) : List TV := [.r (bytesT bs), .r (rI p)]
abbrev rdB (bs : List Int) (p : Int) : Blk := .box (rdC bs p)
abbrev gRd : GV := .s (.ptr 0 0)
structure RdOk (bs : List Int) : Prop where
  byte : ∀ b ∈ bs, 0 ≤ b ∧ b ≤ 255
  len : bs.length ≤ 2000
def byteAt (bs : List Int) (k : Int) : Int := bs.getD k.toNat 0
def mixX (bs : List Int) (k : Int) : Int := byteAt bs (k.tmod bs.length) * 131 + byteAt bs ((k * 7 + 3).tmod bs.length) * 1117 + k * 29 + k.tdiv bs.length * 53
def mixV (x : Int) : Int := IntKind.i64.wrap (BitVec.ofInt 64 x ^^^ BitVec.ofInt 64 (x.tdiv 64)).toNat
def pk (bs : List Int) (k n : Int) : Int := if n < 1 then 0 else if bs = [] then 0 else if k < bs.length then (byteAt bs k).tmod n else (mixV (mixX bs k)).tmod n
theorem byteAt_ok {bs : List Int} (h : RdOk bs) (k : Int) : 0 ≤ byteAt bs k ∧ byteAt bs k ≤ 255 := by
  unfold byteAt; rw [List.getD_eq_getElem?_getD]
  cases hb : bs[k.toNat]? with
  | none => exact ⟨by simp, by simp⟩
  | some b => exact h.byte b (List.mem_of_getElem? hb)
theorem byteAt_some {bs : List Int} {k : Int} (h1 : k.toNat < bs.length) : bs[k.toNat]? = some (byteAt bs k) := by
  unfold byteAt; rw [List.getD_eq_getElem?_getD, List.getElem?_eq_getElem h1]; rfl
theorem mixV_nonneg {x : Int} (h0 : 0 ≤ x) (h1 : x ≤ 1000000000000000) : 0 ≤ mixV x := by
  unfold mixV; have h2 : x.tdiv 64 = x / 64 := Int.tdiv_eq_ediv_of_nonneg h0
  obtain ⟨a, rfl⟩ := Int.eq_ofNat_of_zero_le h0; rw [h2, show ((a : Nat) : Int) / 64 = ((a / 64 : Nat) : Int) by omega]
  have ha : ∀ n : Nat, n < 2 ^ 62 → (BitVec.ofInt 64 (n : Int)).toNat = n := fun n hn => by
    rw [BitVec.ofInt_natCast, BitVec.toNat_ofNat]; exact Nat.mod_eq_of_lt (by omega)
  rw [BitVec.toNat_xor, ha a (by omega), ha (a / 64) (by omega)]
  have hx : a ^^^ (a / 64) < 2 ^ 62 := Nat.xor_lt_two_pow (by omega) (by omega)
  rw [wrap_ok (by omega) (by omega)]
  omega
theorem mixX_ok {bs : List Int} (h : RdOk bs) {k : Int} (h0 : 0 ≤ k) (h1 : k ≤ 1000000000) : 0 ≤ mixX bs k ∧ mixX bs k ≤ 1000000000000000 := by
  have a := byteAt_ok h (k.tmod bs.length); have b := byteAt_ok h ((k * 7 + 3).tmod bs.length); have hq : k.tdiv bs.length = k / bs.length := Int.tdiv_eq_ediv_of_nonneg h0
  have h2 : 0 ≤ k / (bs.length : Int) := Int.ediv_nonneg h0 (by omega)
  have h3 : k / (bs.length : Int) ≤ k := Int.ediv_le_self _ h0
  unfold mixX; rw [hq]; generalize k / (bs.length : Int) = q at *; omega
theorem pk0 {bs : List Int} (h : RdOk bs) {k n : Int} (h0 : 0 ≤ k) (h1 : k ≤ 1000000000) : 0 ≤ pk bs k n := by
  unfold pk; split
  · exact Int.le_refl 0
  · split
    · exact Int.le_refl 0
    · split
      · exact Int.tmod_nonneg _ (byteAt_ok h k).1
      · have := mixX_ok h h0 h1
        exact Int.tmod_nonneg _ (mixV_nonneg this.1 this.2)
theorem pk_lt {bs : List Int} (h : RdOk bs) {k n : Int} (h0 : 0 ≤ k) (h1 : k ≤ 1000000000) (hn : 1 ≤ n) : pk bs k n < n := by
  unfold pk; split
  · omega
  · split
    · omega
    · split
      · rw [Int.tmod_eq_emod_of_nonneg (byteAt_ok h k).1]; exact Int.emod_lt_of_pos _ (by omega)
      · have := mixX_ok h h0 h1
        rw [Int.tmod_eq_emod_of_nonneg (mixV_nonneg this.1 this.2)]; exact Int.emod_lt_of_pos _ (by omega)
theorem pick_T {bs : List Int} (h : RdOk bs) (p n : Int) (h0 : 0 ≤ p) (h1 : p ≤ 1000000000) : TC Tw.prog E 47 [gRd, gI .i64 n] 1 [(0, rdB bs p)] (gI .i64 (pk bs p n)) [(0, rdB bs (p + 1))] := by
  have hw1 : IntKind.i64.wrap (p + 1) = p + 1 := wrap_ok (by omega) (by omega)
  have hw0 : IntKind.i64.wrap p = p := wrap_ok (by omega) (by omega)
  refine TC.enter Tw.func47 rfl (by kernel_rfl) Tw.ntmps47 (by rw [Try.results47]) (by simp) (Fits.of (by simp [stoOk, Blk.live]) (by simp) (by simp)) ?_
  unfold pk; by_cases hn : n < 1
  · rw [if_pos hn]
    (repeat' first | refine TW.seq ?_ | refine TW.block ?_ | ((first | refine TW.skip ?_ | refine TW.exit ?_ | refine TW.ret ?_); (try simp only [tQ, bQ, if_true, Nat.reduceEqDiff, reduceIte])) | (refine TW.reg Td.mixed rfl fun C K hC hK => ?_; simp [hw1, hn]; (repeat' first | refine And.intro ?_ ?_ | intro _ | refine iteI ?_ ?_ | (show (_ : Bool) = true; kernel_rfl) | (show _ ≤ _; first | omega | (simp; done) | (simp; omega)) | exact Or.inl rfl | (show _ < _; omega)); all_goals (refine hK _ ?_; clear hC hK C K; try simp only [tQ, bQ])) | (refine TW.cond rfl ?_ ?_ <;> intro hc <;> (try (cases hc; done))))
    exact Rets.own [] [] (by simp; rfl) (by simp) (by simp) (by simp) (by simp) (by simp)
  · rw [if_neg hn]
    have hn0 : ¬ n = 0 := by omega
    by_cases hb : bs = []
    · rw [if_pos hb]
      subst hb; (repeat' first | refine TW.seq ?_ | refine TW.block ?_ | ((first | refine TW.skip ?_ | refine TW.exit ?_ | refine TW.ret ?_); (try simp only [tQ, bQ, if_true, Nat.reduceEqDiff, reduceIte])) | (refine TW.reg Td.mixed rfl fun C K hC hK => ?_; simp [hw1, hn]; (repeat' first | refine And.intro ?_ ?_ | intro _ | refine iteI ?_ ?_ | (show (_ : Bool) = true; kernel_rfl) | (show _ ≤ _; first | omega | (simp; done) | (simp; omega)) | exact Or.inl rfl | (show _ < _; omega)); all_goals (refine hK _ ?_; clear hC hK C K; try simp only [tQ, bQ])) | (refine TW.cond rfl ?_ ?_ <;> intro hc <;> (try (cases hc; done))))
      exact Rets.own [] [] (by simp; rfl) (by simp) (by simp) (by simp) (by simp) (by simp)
    · rw [if_neg hb]
      have hl : 0 < bs.length := List.length_pos_iff.2 hb
      have hl' : ¬ (bs.length : Int) = 0 := by omega
      by_cases hk : p < bs.length
      · rw [if_pos hk]
        have he := byteAt_some (bs := bs) (k := p) (by omega)
        have hB := byteAt_ok h p; have hget : ∀ hh, bs[p.toNat]'hh = byteAt bs p := fun hh => by rw [List.getElem?_eq_getElem hh] at he; exact Option.some.inj he
        generalize byteAt bs p = B at *; have hwB : IntKind.i64.wrap B = B := wrap_ok (by omega) (by omega)
        (repeat' first | refine TW.seq ?_ | refine TW.block ?_ | ((first | refine TW.skip ?_ | refine TW.exit ?_ | refine TW.ret ?_); (try simp only [tQ, bQ, if_true, Nat.reduceEqDiff, reduceIte])) | (refine TW.reg Td.mixed rfl fun C K hC hK => ?_; simp [hw1, hw0, hn, hn0, hb, hk, h0, he, hget, hwB]; (repeat' first | refine And.intro ?_ ?_ | intro _ | refine iteI ?_ ?_ | (show (_ : Bool) = true; kernel_rfl) | (show _ ≤ _; first | omega | (simp; done) | (simp; omega)) | exact Or.inl rfl | (show _ < _; omega)); all_goals (refine hK _ ?_; clear hC hK C K; try simp only [tQ, bQ])) | (refine TW.cond rfl ?_ ?_ <;> intro hc <;> (try (cases hc; done))))
        exact Rets.own [] [] (by simp; rfl) (by simp) (by simp) (by simp) (by simp) (by simp)
      · rw [if_neg hk]
        have hX := mixX_ok h h0 h1; have hlI : (0 : Int) < bs.length := by omega
        have hm1 : 0 ≤ p.tmod bs.length := Int.tmod_nonneg _ h0
        have hm2 : 0 ≤ (p * 7 + 3).tmod bs.length := Int.tmod_nonneg _ (by omega)
        have hm1' : p.tmod bs.length < bs.length := by rw [Int.tmod_eq_emod_of_nonneg h0]; exact Int.emod_lt_of_pos _ hlI
        have hm2' : (p * 7 + 3).tmod bs.length < bs.length := by rw [Int.tmod_eq_emod_of_nonneg (by omega)]; exact Int.emod_lt_of_pos _ hlI
        have he1 := byteAt_some (bs := bs) (k := p.tmod bs.length) (by omega)
        have he2 := byteAt_some (bs := bs) (k := (p * 7 + 3).tmod bs.length) (by omega)
        have hB1 := byteAt_ok h (p.tmod bs.length); have hB2 := byteAt_ok h ((p * 7 + 3).tmod bs.length); have hq : p.tdiv bs.length = p / bs.length := Int.tdiv_eq_ediv_of_nonneg h0
        have hq0 : 0 ≤ p.tdiv bs.length := by rw [hq]; exact Int.ediv_nonneg h0 (by omega)
        have hq1 : p.tdiv bs.length ≤ p := by rw [hq]; exact Int.ediv_le_self _ h0
        have hmv : (mixV (mixX bs p)).tmod n = (IntKind.i64.wrap (BitVec.ofInt 64 (mixX bs p) ^^^ BitVec.ofInt 64 ((mixX bs p).tdiv 64)).toNat).tmod n := rfl
        rw [hmv]; have hx64 : IntKind.i64.wrap ((mixX bs p).tdiv 64) = (mixX bs p).tdiv 64 := by
          rw [Int.tdiv_eq_ediv_of_nonneg hX.1]; exact wrap_ok (by omega) (by omega)
        unfold mixX at *; generalize byteAt bs (p.tmod bs.length) = B1 at *; generalize byteAt bs ((p * 7 + 3).tmod bs.length) = B2 at *; generalize hQ : p.tdiv bs.length = Q at *; clear hq hmv; have w1 : IntKind.i64.wrap B1 = B1 := wrap_ok (by omega) (by omega)
        have w2 : IntKind.i64.wrap B2 = B2 := wrap_ok (by omega) (by omega)
        have w3 : IntKind.i64.wrap (B1 * 131) = B1 * 131 := wrap_ok (by omega) (by omega)
        have w4 : IntKind.i64.wrap (B2 * 1117) = B2 * 1117 := wrap_ok (by omega) (by omega)
        have w5 : IntKind.i64.wrap (B1 * 131 + B2 * 1117) = B1 * 131 + B2 * 1117 := wrap_ok (by omega) (by omega)
        have w6 : IntKind.i64.wrap (p * 7) = p * 7 := wrap_ok (by omega) (by omega)
        have w7 : IntKind.i64.wrap (p * 7 + 3) = p * 7 + 3 := wrap_ok (by omega) (by omega)
        have w8 : IntKind.i64.wrap (p * 29) = p * 29 := wrap_ok (by omega) (by omega)
        have w9 : IntKind.i64.wrap (B1 * 131 + B2 * 1117 + p * 29) = B1 * 131 + B2 * 1117 + p * 29 := wrap_ok (by omega) (by omega)
        have w10 : IntKind.i64.wrap Q = Q := wrap_ok (by omega) (by omega)
        have w11 : IntKind.i64.wrap (Q * 53) = Q * 53 := wrap_ok (by omega) (by omega)
        have w12 : IntKind.i64.wrap (B1 * 131 + B2 * 1117 + p * 29 + Q * 53) = B1 * 131 + B2 * 1117 + p * 29 + Q * 53 := wrap_ok (by omega) (by omega)
        generalize hXe : B1 * 131 + B2 * 1117 + p * 29 + Q * 53 = X at *; (repeat' first | refine TW.seq ?_ | refine TW.block ?_ | ((first | refine TW.skip ?_ | refine TW.exit ?_ | refine TW.ret ?_); (try simp only [tQ, bQ, if_true, Nat.reduceEqDiff, reduceIte])) | (refine TW.reg Td.mixed rfl fun C K hC hK => ?_; simp [hw1, hw0, hn, hn0, hb, hk, he1, he2, hm1, hm2, hQ, w1, w2, w3, w4, w5, w6, w7, w8, w9, w10, w11, w12, hXe, hx64]; (repeat' first | refine And.intro ?_ ?_ | intro _ | refine iteI ?_ ?_ | (show (_ : Bool) = true; kernel_rfl) | (show _ ≤ _; first | omega | (simp; done) | (simp; omega)) | exact Or.inl rfl | (show _ < _; omega)); all_goals (refine hK _ ?_; clear hC hK C K; try simp only [tQ, bQ])) | (refine TW.cond rfl ?_ ?_ <;> intro hc <;> (try (cases hc; done))))
        exact Rets.own [] [] (by simp; rfl) (by simp [IntKind.bits]) (by simp) (by simp) (by simp) (by simp)
theorem l6Open_T (bs : List Int) : TC Tw.prog E 24 [gR (bytesT bs)] 0 [] gRd [(0, rdB (bs.take 2000) 0)] := by
  refine TC.enter Tw.func24 rfl (by kernel_rfl) Tw.ntmps24 (by rw [Try.results24]) (by simp) (Fits.nil rfl) ?_
  by_cases hl : 2000 < bs.length
  · have hl' : (2000 : Int) < (bs.length : Int) := by omega
    (repeat' first | refine TW.seq ?_ | refine TW.block ?_ | ((first | refine TW.skip ?_ | refine TW.exit ?_ | refine TW.ret ?_); (try simp only [tQ, bQ, if_true, Nat.reduceEqDiff, reduceIte])) | (refine TW.reg Td.mixed rfl fun C K hC hK => ?_; simp [hl']; (repeat' first | refine And.intro ?_ ?_ | intro _ | refine iteI ?_ ?_ | (show (_ : Bool) = true; kernel_rfl) | (show _ ≤ _; first | omega | (simp; done) | (simp; omega)) | exact Or.inl rfl | (show _ < _; omega)); all_goals (refine hK _ ?_; clear hC hK C K; try simp only [tQ, bQ])) | (refine TW.cond rfl ?_ ?_ <;> intro hc <;> (try (cases hc; done))))
    refine Rets.own [0] [] (by simp; rfl) (by simp) (by simp) (by simp) (by simp) (by simp)
  · have hl' : ¬ (2000 : Int) < (bs.length : Int) := by omega
    rw [List.take_of_length_le (by omega)]
    (repeat' first | refine TW.seq ?_ | refine TW.block ?_ | ((first | refine TW.skip ?_ | refine TW.exit ?_ | refine TW.ret ?_); (try simp only [tQ, bQ, if_true, Nat.reduceEqDiff, reduceIte])) | (refine TW.reg Td.mixed rfl fun C K hC hK => ?_; simp [hl']; (repeat' first | refine And.intro ?_ ?_ | intro _ | refine iteI ?_ ?_ | (show (_ : Bool) = true; kernel_rfl) | (show _ ≤ _; first | omega | (simp; done) | (simp; omega)) | exact Or.inl rfl | (show _ < _; omega)); all_goals (refine hK _ ?_; clear hC hK C K; try simp only [tQ, bQ])) | (refine TW.cond rfl ?_ ?_ <;> intro hc <;> (try (cases hc; done))))
    refine Rets.own [0] [] (by simp; rfl) (by simp) (by simp) (by simp) (by simp) (by simp)
end Go.Proofs.Ytjklkppncmhehaa.T
namespace Go.Proofs.Ytjklkppncmhehaa.T
open Go Go.RowKit
set_option maxRecDepth 100000
set_option maxHeartbeats 4000000
variable {E : List PanicEntry → World → Prop}
abbrev grp0 (id : Int) : GrpD := ⟨id, 0, [], []⟩
theorem specGroupNew_T (id : Int) (h : isGrpB id = true) : TC Tw.prog E 19 [gI .i64 id] 0 [] (.p [.a [.r (rI id), .r (rI 0), .own 0, .own 1], gB true]) [(0, entsB []), (1, entsB [])] := by
  refine TC.enter Tw.func19 rfl (by kernel_rfl) Tw.ntmps19 (by rw [Try.results19]) (by simp) (Fits.nil rfl) ?_
  (repeat' first | refine TW.seq ?_ | refine TW.block ?_ | ((first | refine TW.skip ?_ | refine TW.exit ?_ | refine TW.ret ?_); (try simp only [tQ, bQ, if_true, Nat.reduceEqDiff, reduceIte])) | (refine TW.reg Td.mixed rfl fun C K hC hK => ?_; simp [h]; (repeat' first | refine And.intro ?_ ?_ | intro _ | refine iteI ?_ ?_ | (show (_ : Bool) = true; kernel_rfl) | (show _ ≤ _; first | omega | (simp; done) | (simp; omega)) | exact Or.inl rfl | (show _ < _; omega) | ((first | refine hC _ _ _ _ _ rfl (aC.plain rfl rfl (by simp; rfl) (by exact l1Group_T _) (by simp) (by simp) ?_)); simp [h])); all_goals (refine hK _ ?_; clear hC hK C K; try simp only [tQ, bQ])) | (refine TW.cond rfl ?_ ?_ <;> intro hc <;> (try (cases hc; done))))
  refine Rets.own [1, 2] [] (by simp; rfl) (by simp) (by simp) (by simp) (by simp) (by simp)
def newD : WorldD := ⟨[], [grp0 0, grp0 1, grp0 2, grp0 3, grp0 4], [], [], []⟩
def newK (k : Nat) : List GrpD := (List.range k).map fun i => grp0 (i : Nat)
theorem newK_succ (k : Nat) : newK (k + 1) = newK k ++ [grp0 (k : Nat)] := by simp [newK, List.range_succ]
theorem newK_len (k : Nat) : (newK k).length = k := by simp [newK]
def newI : Nat → TState
  | 0 => ⟨[(0, .s (.ptr 0 0)), (1, .s (.ptr 1 0)), (2, gI .i64 0)], [(0, .box [.r .nil, .r .nil, .r .nil, .r .nil, .r .nil]), (1, .box [.r (.sl 1 []), .r .nil, .r (.sl 3 []), .r (.sl 1 []), .r (.sl 5 [])])], 2⟩
  | k + 1 => ⟨[(0, .s (.ptr 0 0)), (1, .s (.ptr 1 0)), (2, gI .i64 ((k : Int) + 1))], [(0, .box [.r .nil, .r .nil, .r .nil, .r .nil, .r .nil]), (1, .box [.r (.sl 1 []), .own 2, .r (.sl 3 []), .r (.sl 1 []), .r (.sl 5 [])]), (2, sysB' (newK (k + 1)))], 3⟩
theorem specWorldNew_T : TC Tw.prog E 7 [] 0 [] (gW newD) [] := by
  refine TC.enter Tw.func7 rfl (by kernel_rfl) Tw.ntmps7 (by rw [Try.results7]) (by simp) (Fits.nil rfl) ?_
  (repeat' first | refine TW.seq ?_ | refine TW.block ?_ | ((first | refine TW.skip ?_ | refine TW.exit ?_ | refine TW.ret ?_); (try simp only [tQ, bQ, if_true, Nat.reduceEqDiff, reduceIte])) | (refine TW.reg Td.mixed rfl fun C K hC hK => ?_; simp; (repeat' first | refine And.intro ?_ ?_ | intro _ | refine iteI ?_ ?_ | (show (_ : Bool) = true; kernel_rfl) | (show _ ≤ _; first | omega | (simp; done) | (simp; omega)) | exact Or.inl rfl | (show _ < _; omega)); all_goals (refine hK _ ?_; clear hC hK C K; try simp only [tQ, bQ])) | (refine TW.cond rfl ?_ ?_ <;> intro hc <;> (try (cases hc; done))))
  refine TW.loop newI (fun k => k ≤ 5) (fun k => 5 - k) 0 (by omega) (Wk.own [0, 5] [1, 2, 3, 4] (by simp) (by simp [newI]) (by simp [newI]) (by simp [newI]) (by simp [newI])) fun k hk => ?_
  by_cases hlt : k < 5
  · have hltI : (k : Int) < 5 := by omega
    have hg : isGrpB (k : Int) = true := by simp [isGrpB]; omega
    have hw1 : IntKind.i64.wrap ((k : Int) + 1) = (k : Int) + 1 := wrap_ok (by omega) (by omega)
    rcases k with _ | k
    · unfold newI
      (repeat' first | refine TW.seq ?_ | refine TW.block ?_ | ((first | refine TW.skip ?_ | refine TW.exit ?_ | refine TW.ret ?_); (try simp only [tQ, bQ, if_true, Nat.reduceEqDiff, reduceIte])) | (refine TW.reg Td.mixed rfl fun C K hC hK => ?_; simp [maxLen]; (repeat' first | refine And.intro ?_ ?_ | intro _ | refine iteI ?_ ?_ | (show (_ : Bool) = true; kernel_rfl) | (show _ ≤ _; first | omega | (simp; done) | (simp; omega)) | exact Or.inl rfl | (show _ < _; omega) | ((first | refine hC _ _ _ _ _ rfl (aC.fresh rfl rfl [] (by simp; rfl) (by simp) 2 (by exact specGroupNew_T 0 rfl) (by simp) (by simp) (by simp) ?_)); simp [maxLen])); all_goals (refine hK _ ?_; clear hC hK C K; try simp only [tQ, bQ])) | (refine TW.cond rfl ?_ ?_ <;> intro hc <;> (try (cases hc; done))))
      exact ⟨1, by omega, by omega, Wk.own [0, 1, 6] [] (by simp) (by simp [newI]) (by simp [newI, newK, grpT]) (by simp [newI]) (by simp [newI])⟩
    · have hl := newK_len (k + 1)
      unfold newI; simp only [Int.natCast_add, Int.natCast_one] at hltI hg hw1; (repeat' first | refine TW.seq ?_ | refine TW.block ?_ | ((first | refine TW.skip ?_ | refine TW.exit ?_ | refine TW.ret ?_); (try simp only [tQ, bQ, if_true, Nat.reduceEqDiff, reduceIte])) | (refine TW.reg Td.mixed rfl fun C K hC hK => ?_; simp [hltI, hw1, maxLen]; (repeat' first | refine And.intro ?_ ?_ | intro _ | refine iteI ?_ ?_ | (show (_ : Bool) = true; kernel_rfl) | (show _ ≤ _; first | omega | (simp; done) | (simp; omega)) | exact Or.inl rfl | (show _ < _; omega) | ((first | refine hC _ _ _ _ _ rfl (aC.fresh rfl rfl [] (by simp; rfl) (by simp) 2 (by exact specGroupNew_T _ hg) (by simp) (by simp) (by simp) ?_)); simp [hltI, hw1, maxLen])); all_goals (refine hK _ ?_; clear hC hK C K; try simp only [tQ, bQ])) | (refine TW.cond rfl ?_ ?_ <;> intro hc <;> (try (cases hc; done))))
      exact ⟨k + 2, by omega, by omega, Wk.own [0, 1, 7] [] (by simp) (by simp [newI]) (by simp [newI, newK_succ (k + 1), grpT]) (by simp [newI]) (by simp [newI])⟩
  · obtain rfl : k = 5 := by omega
    unfold newI; (repeat' first | refine TW.seq ?_ | refine TW.block ?_ | ((first | refine TW.skip ?_ | refine TW.exit ?_ | refine TW.ret ?_); (try simp only [tQ, bQ, if_true, Nat.reduceEqDiff, reduceIte])) | (refine TW.reg Td.mixed rfl fun C K hC hK => ?_; simp; (repeat' first | refine And.intro ?_ ?_ | intro _ | refine iteI ?_ ?_ | (show (_ : Bool) = true; kernel_rfl) | (show _ ≤ _; first | omega | (simp; done) | (simp; omega)) | exact Or.inl rfl | (show _ < _; omega)); all_goals (refine hK _ ?_; clear hC hK C K; try simp only [tQ, bQ])) | (refine TW.cond rfl ?_ ?_ <;> intro hc <;> (try (cases hc; done))))
    refine Rets.own [] [2] (by simp; rfl) (by simp [newD, wT, newK, List.range_succ]) (by simp) (by simp) (by simp [newD, wT, newK, List.range_succ]) (by simp)
theorem newD_shp : Shp 0 newD := by
  refine ⟨rfl, ?_, by decide, ?_, rfl, ?_, rfl, by decide, ?_⟩
  · simp [newD, grpN]
  · simp [newD]
  · simp [newD]
  · simp [newD]
def tbl (xs : List Int) (k : Int) : Int := xs.getD k.toNat 0
theorem tbl_some {xs : List Int} {k : Int} (h0 : 0 ≤ k) (h1 : k < xs.length) : (xs.map fun n => [rI n])[k.toNat]? = some [rI (tbl xs k)] := by
  rw [List.getElem?_map, tbl, List.getD_eq_getElem?_getD, List.getElem?_eq_getElem (by omega)]
  rfl
def stampF (o : Int → Int → Int) (p : Int) : (Int × Int) × Int :=
  if o (p + 2) 24 = 0 then ((tbl [0, -1, 999, 1000] (o (p + 3) 4), o (p + 1) 5), p + 4)
  else if o (p + 2) 24 = 1 then ((1 + o p 8, o (p + 3) 7 - 1), p + 4) else ((1 + o p 8, o (p + 1) 5), p + 3)
theorem l91Stamp_T {bs : List Int} (h : RdOk bs) (p : Int) (h0 : 0 ≤ p) (h1 : p ≤ 999999990) : TC Tw.prog E 68 [gRd] 1 [(0, rdB bs p)] (gSt (stampF (pk bs) p).1) [(0, rdB bs (stampF (pk bs) p).2)] := by
  have q0 := pk0 h (k := p) (n := 8) h0 (by omega)
  have q0' := pk_lt h (k := p) (n := 8) h0 (by omega) (by omega)
  have q3 := pk0 h (k := p + 3) (n := 4) (by omega) (by omega)
  have q3' := pk_lt h (k := p + 3) (n := 4) (by omega) (by omega) (by omega)
  have q4 := pk0 h (k := p + 3) (n := 7) (by omega) (by omega)
  have q4' := pk_lt h (k := p + 3) (n := 7) (by omega) (by omega) (by omega)
  have w1 : IntKind.i64.wrap (1 + pk bs p 8) = 1 + pk bs p 8 := wrap_ok (by omega) (by omega)
  have w2 : IntKind.i64.wrap (pk bs (p + 3) 7 - 1) = pk bs (p + 3) 7 - 1 := wrap_ok (by omega) (by omega)
  have ht := tbl_some (xs := [0, -1, 999, 1000]) q3 (by simpa using q3')
  simp only [List.map_cons, List.map_nil] at ht; have e2 : p + 1 + 1 = p + 2 := by omega
  have e3 : p + 2 + 1 = p + 3 := by omega
  have e4 : p + 3 + 1 = p + 4 := by omega
  refine TC.enter Tw.func68 rfl (by kernel_rfl) Tw.ntmps68 (by rw [Try.results68]) (by simp) (Fits.of (by simp [stoOk, Blk.live]) (by simp) (by simp)) ?_
  by_cases c0 : pk bs (p + 2) 24 = 0
  · rw [show stampF (pk bs) p = ((tbl [0, -1, 999, 1000] (pk bs (p + 3) 4), pk bs (p + 1) 5), p + 4) by rw [stampF, if_pos c0]]
    (repeat' first | refine TW.seq ?_ | refine TW.block ?_ | ((first | refine TW.skip ?_ | refine TW.exit ?_ | refine TW.ret ?_); (try simp only [tQ, bQ, if_true, Nat.reduceEqDiff, reduceIte])) | (refine TW.reg Td.mixed rfl fun C K hC hK => ?_; simp [w1, c0, e2, e3, e4, ht, q3]; (repeat' first | refine And.intro ?_ ?_ | intro _ | refine iteI ?_ ?_ | (show (_ : Bool) = true; kernel_rfl) | (show _ ≤ _; first | omega | (simp; done) | (simp; omega)) | exact Or.inl rfl | (show _ < _; omega) | ((first | refine hC _ _ _ _ _ rfl (aC.rd rfl rfl (by simp; rfl) (by rfl) (by simp; rfl) (by exact pick_T h _ _ (by omega) (by omega)) (by simp) (by simp) (by simp) (by simp) (by simp) ?_)); simp [w1, c0, e2, e3, e4, ht, q3])); all_goals (refine hK _ ?_; clear hC hK C K; try simp only [tQ, bQ])) | (refine TW.cond rfl ?_ ?_ <;> intro hc <;> (try (cases hc; done))))
    refine Rets.own [] [] (by simp; rfl) (by simp) (by simp) (by simp) (by simp) (by simp)
  · by_cases c1 : pk bs (p + 2) 24 = 1
    · rw [show stampF (pk bs) p = ((1 + pk bs p 8, pk bs (p + 3) 7 - 1), p + 4) by rw [stampF, if_neg c0, if_pos c1]]
      (repeat' first | refine TW.seq ?_ | refine TW.block ?_ | ((first | refine TW.skip ?_ | refine TW.exit ?_ | refine TW.ret ?_); (try simp only [tQ, bQ, if_true, Nat.reduceEqDiff, reduceIte])) | (refine TW.reg Td.mixed rfl fun C K hC hK => ?_; simp [w1, w2, c1, e2, e3, e4]; (repeat' first | refine And.intro ?_ ?_ | intro _ | refine iteI ?_ ?_ | (show (_ : Bool) = true; kernel_rfl) | (show _ ≤ _; first | omega | (simp; done) | (simp; omega)) | exact Or.inl rfl | (show _ < _; omega) | ((first | refine hC _ _ _ _ _ rfl (aC.rd rfl rfl (by simp; rfl) (by rfl) (by simp; rfl) (by exact pick_T h _ _ (by omega) (by omega)) (by simp) (by simp) (by simp) (by simp) (by simp) ?_)); simp [w1, w2, c1, e2, e3, e4])); all_goals (refine hK _ ?_; clear hC hK C K; try simp only [tQ, bQ])) | (refine TW.cond rfl ?_ ?_ <;> intro hc <;> (try (cases hc; done))))
      refine Rets.own [] [] (by simp; rfl) (by simp) (by simp) (by simp) (by simp) (by simp)
    · rw [show stampF (pk bs) p = ((1 + pk bs p 8, pk bs (p + 1) 5), p + 3) by rw [stampF, if_neg c0, if_neg c1]]
      (repeat' first | refine TW.seq ?_ | refine TW.block ?_ | ((first | refine TW.skip ?_ | refine TW.exit ?_ | refine TW.ret ?_); (try simp only [tQ, bQ, if_true, Nat.reduceEqDiff, reduceIte])) | (refine TW.reg Td.mixed rfl fun C K hC hK => ?_; simp [w1, c0, c1, e2, e3, e4]; (repeat' first | refine And.intro ?_ ?_ | intro _ | refine iteI ?_ ?_ | (show (_ : Bool) = true; kernel_rfl) | (show _ ≤ _; first | omega | (simp; done) | (simp; omega)) | exact Or.inl rfl | (show _ < _; omega) | ((first | refine hC _ _ _ _ _ rfl (aC.rd rfl rfl (by simp; rfl) (by rfl) (by simp; rfl) (by exact pick_T h _ _ (by omega) (by omega)) (by simp) (by simp) (by simp) (by simp) (by simp) ?_)); simp [w1, c0, c1, e2, e3, e4])); all_goals (refine hK _ ?_; clear hC hK C K; try simp only [tQ, bQ])) | (refine TW.cond rfl ?_ ?_ <;> intro hc <;> (try (cases hc; done))))
      refine Rets.own [] [] (by simp; rfl) (by simp) (by simp) (by simp) (by simp) (by simp)
end Go.Proofs.Ytjklkppncmhehaa.T
