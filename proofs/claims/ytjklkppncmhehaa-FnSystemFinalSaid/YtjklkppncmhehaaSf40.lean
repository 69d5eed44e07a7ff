/-
What is proved: what the reference's events that send do to trees. No condition but the lengths and ranges that each states. what the reference's events do to trees. No condition but the lengths and ranges that each states.
-/
import Derived.Test.YtjklkppncmhehaaSf39
import Derived.Test.YtjklkppncmhehaaSf36
set_option linter.unusedVariables false
set_option linter.unusedSimpArgs false
namespace Go.Proofs.Ytjklkppncmhehaa.T
open Go Go.RowKit
set_option maxRecDepth 100000
set_option maxHeartbeats 4000000
variable {E : List PanicEntry → World → Prop}
abbrev setsB (xs : List (List Int)) : Blk := .rows 52 1 (xs.map fun s => [intsT s])
abbrev rndsB (rs : List RndD) : Blk := .rows 55 3 (rs.map rndT)
abbrev bitsB (bs : List Bool) : Blk := .rows 4 1 (bs.map fun b => [rB b])
abbrev netB (ps : List PktD) : Blk := .rows 57 5 (ps.map pktT)
abbrev wO : GV := .a [.own 0, .own 1, .own 2, .own 3, .own 4]
abbrev wS (w : WorldD) : List (Nat × Blk) := [(0, setsB w.sets), (1, sysB' w.groups), (2, rndsB w.rounds), (3, bitsB w.stopped), (4, netB w.net)]
abbrev gP (p : PktD) : GV := .a ((pktT p).map .r)
abbrev ShpN (w : WorldD) : Prop := Shp 4294900000 w
theorem ShpN.sys {w : WorldD} (h : ShpN w) : sysLe w.groups 4294967296 := ⟨by have := h.g5; omega, fun g hg => by have := (h.grp g hg).1; exact ⟨by omega, by omega⟩⟩
theorem l51Copy_T (w : WorldD) (h : ShpN w) : TC Tw.prog E 75 [gW w] 0 [] wO (wS w) := by
  have hs12 := h.s12; have hrl := h.rl; have hsl := h.sl; have hnl := h.nl; have hlen : w.sets.length ≤ maxLen := by simp only [maxLen]; omega
  refine TC.enter Tw.func75 rfl (by kernel_rfl) Tw.ntmps75 (by rw [Try.results75]) (by simp) (Fits.nil rfl) ?_
  (repeat' first | refine TW.seq ?_ | refine TW.block ?_ | ((first | refine TW.skip ?_ | refine TW.exit ?_ | refine TW.ret ?_); (try simp only [tQ, bQ, if_true, Nat.reduceEqDiff, reduceIte])) | (refine TW.reg Td.mixed rfl fun C K hC hK => ?_; simp [wT, maxLen]; (repeat' first | refine And.intro ?_ ?_ | intro _ | refine iteI ?_ ?_ | (show (_ : Bool) = true; kernel_rfl) | (show _ ≤ _; first | omega | (simp; done) | (simp; omega)) | exact Or.inl rfl | (show _ < _; omega) | ((first | refine hC _ _ _ _ _ rfl (aC.fresh rfl rfl [] (by simp; rfl) (by simp) 1 (by exact l13Copy_T w.groups h.sys) (by simp) (by simp) (by simp) ?_)); simp [wT, maxLen])); all_goals (refine hK _ ?_; clear hC hK C K; try simp only [tQ, bQ])) | (refine TW.cond rfl ?_ ?_ <;> intro hc <;> (try (cases hc; done))))
  refine TW.loop (fun (k : Nat) => ⟨[(1, .s (.ptr 0 0)), (2, .s (.ptr 2 0)), (3, .s (.ptr 1 0)), (4, gI .i64 (k : Nat))], [(0, .box ((wT w).map .r)), (1, .box [.own 3, .own 4, .own 5, .own 6, .own 7]), (2, .box [.r .nil, .r .nil, .r .nil, .r .nil, .r .nil]),
      (3, setsB (w.sets.take k)), (4, sysB' w.groups), (5, rndsB (w.rounds.take k)), (6, bitsB w.stopped), (7, netB w.net)], 8⟩) (fun k => k ≤ w.sets.length) (fun k => w.sets.length - k) 0 (by omega)
    (Wk.own [0, 9, 1, 2, 3, 4, 6, 8] [] (by simp) (by simp) (by simp [wT]) (by simp) (by simp)) fun k hk => ?_
  by_cases hlt : k < w.sets.length
  · have he : w.sets[k]? = some w.sets[k] := List.getElem?_eq_getElem hlt
    have hltr : k < w.rounds.length := by omega
    have her : w.rounds[k]? = some w.rounds[k] := List.getElem?_eq_getElem hltr
    have hso := h.set _ (List.getElem_mem hlt); have hro := h.rnd _ (List.getElem_mem hltr); have hltI : (k : Int) < (w.sets.length : Int) := by omega
    have hw1 := wrap_add hlt hlen; have hks : k ≤ 12 := by omega
    generalize w.sets[k] = S at he hso; generalize w.rounds[k] = r at her hro; obtain ⟨-, hS5, -⟩ := hso; have hr : rndLe r 4294967296 := ⟨by have := hro.2.1; omega, by have := hro.2.2; omega⟩
    have hts : (List.take k (w.sets.map fun s => [intsT s])).length ≤ 12 := by simp; omega
    have htr : (List.take k (w.rounds.map rndT)).length ≤ 12 := by simp; omega
    (repeat' first | refine TW.seq ?_ | refine TW.block ?_ | ((first | refine TW.skip ?_ | refine TW.exit ?_ | refine TW.ret ?_); (try simp only [tQ, bQ, if_true, Nat.reduceEqDiff, reduceIte])) | (refine TW.reg Td.mixed rfl fun C K hC hK => ?_; simp [hltI, he, her, wT, rndT, hw1, maxLen]; (repeat' first | refine And.intro ?_ ?_ | intro _ | refine iteI ?_ ?_ | (show (_ : Bool) = true; kernel_rfl) | (show _ ≤ _; first | omega | (simp; done) | (simp; omega)) | exact Or.inl rfl | (show _ < _; omega) | ((first | refine hC _ _ _ _ _ rfl (aC.fresh rfl rfl [] (by simp; rfl) (by simp) 2 (by exact l12Copy_T r hr) (by simp) (by simp) (by simp) ?_)); simp [hltI, he, her, wT, rndT, hw1, maxLen])); all_goals (refine hK _ ?_; clear hC hK C K; try simp only [tQ, bQ])) | (refine TW.cond rfl ?_ ?_ <;> intro hc <;> (try (cases hc; done))))
    exact ⟨k + 1, by omega, by omega, Wk.own [0, 1, 2, 11, 4, 15, 6, 7] [] (by simp) (by simp) (by simp [wT, take_map_succ he, take_map_succ her, rndT]) (by simp) (by simp)⟩
  · obtain rfl : k = w.sets.length := by omega
    (repeat' first | refine TW.seq ?_ | refine TW.block ?_ | ((first | refine TW.skip ?_ | refine TW.exit ?_ | refine TW.ret ?_); (try simp only [tQ, bQ, if_true, Nat.reduceEqDiff, reduceIte])) | (refine TW.reg Td.mixed rfl fun C K hC hK => ?_; simp [wT]; (repeat' first | refine And.intro ?_ ?_ | intro _ | refine iteI ?_ ?_ | (show (_ : Bool) = true; kernel_rfl) | (show _ ≤ _; first | omega | (simp; done) | (simp; omega)) | exact Or.inl rfl | (show _ < _; omega)); all_goals (refine hK _ ?_; clear hC hK C K; try simp only [tQ, bQ])) | (refine TW.cond rfl ?_ ?_ <;> intro hc <;> (try (cases hc; done))))
    refine Rets.own [3, 4, 5, 6, 7] [] (by simp; rfl) (by simp [← hrl]) (by simp) (by simp) (by simp [← hrl]) (by simp)
theorem l51Post_T (w : WorldD) (p : PktD) (h : w.net.length ≤ 16) : TC Tw.prog E 87 [gW w, gP p] 0 [] (gW (postD w p)) [] := by
  refine TC.enter Tw.func87 rfl (by kernel_rfl) Tw.ntmps87 (by rw [Try.results87]) (by simp) (Fits.nil rfl) ?_
  by_cases hl : w.net.length < 16
  · have hl' : (w.net.length : Int) < 16 := by omega
    rw [postD, if_pos hl]; (repeat' first | refine TW.seq ?_ | refine TW.block ?_ | ((first | refine TW.skip ?_ | refine TW.exit ?_ | refine TW.ret ?_); (try simp only [tQ, bQ, if_true, Nat.reduceEqDiff, reduceIte])) | (refine TW.reg Td.mixed rfl fun C K hC hK => ?_; simp [wT, pktT, hl', maxLen]; (repeat' first | refine And.intro ?_ ?_ | intro _ | refine iteI ?_ ?_ | (show (_ : Bool) = true; kernel_rfl) | (show _ ≤ _; first | omega | (simp; done) | (simp; omega)) | exact Or.inl rfl | (show _ < _; omega)); all_goals (refine hK _ ?_; clear hC hK C K; try simp only [tQ, bQ])) | (refine TW.cond rfl ?_ ?_ <;> intro hc <;> (try (cases hc; done))))
    refine Rets.own [] [6] (by simp; rfl) (by simp [wT, pktT]) (by simp) (by simp) (by simp [wT, pktT]) (by simp)
  · have hl' : ¬ (w.net.length : Int) < 16 := by omega
    rw [postD, if_neg hl]; (repeat' first | refine TW.seq ?_ | refine TW.block ?_ | ((first | refine TW.skip ?_ | refine TW.exit ?_ | refine TW.ret ?_); (try simp only [tQ, bQ, if_true, Nat.reduceEqDiff, reduceIte])) | (refine TW.reg Td.mixed rfl fun C K hC hK => ?_; simp [wT, pktT, hl']; (repeat' first | refine And.intro ?_ ?_ | intro _ | refine iteI ?_ ?_ | (show (_ : Bool) = true; kernel_rfl) | (show _ ≤ _; first | omega | (simp; done) | (simp; omega)) | exact Or.inl rfl | (show _ < _; omega)); all_goals (refine hK _ ?_; clear hC hK C K; try simp only [tQ, bQ])) | (refine TW.cond rfl ?_ ?_ <;> intro hc <;> (try (cases hc; done))))
    refine Rets.own [] [] (by simp; rfl) (by simp [wT]) (by simp) (by simp) (by simp [wT]) (by simp)
theorem posts_net (f : Int → PktD) : ∀ (gs : List Int) (w : WorldD), w.net.length ≤ 16 → (gs.foldl (fun w g => postD w (f g)) w).net.length ≤ 16
  | [], w, h => h
  | g :: gs, w, h => posts_net f gs _ (by show (postD w (f g)).net.length ≤ 16; unfold postD; split; (simp; omega); exact h)
theorem l51Ask_T (w : WorldD) (m : Int) (gs : List Int) (h : w.net.length ≤ 16) : TC Tw.prog E 78 [gW w, gI .i64 m, gR (intsT gs)] 0 [] (gW (askD w m gs)) [] := by
  refine TC.enter Tw.func78 rfl (by kernel_rfl) Tw.ntmps78 (by rw [Try.results78]) (by simp) (Fits.nil rfl) ?_
  refine TW.len 2 rfl fun hlen => ?_; simp only [List.length_map] at hlen; (repeat' first | refine TW.seq ?_ | refine TW.block ?_ | ((first | refine TW.skip ?_ | refine TW.exit ?_ | refine TW.ret ?_); (try simp only [tQ, bQ, if_true, Nat.reduceEqDiff, reduceIte])) | (refine TW.reg Td.mixed rfl fun C K hC hK => ?_; simp; (repeat' first | refine And.intro ?_ ?_ | intro _ | refine iteI ?_ ?_ | (show (_ : Bool) = true; kernel_rfl) | (show _ ≤ _; first | omega | (simp; done) | (simp; omega)) | exact Or.inl rfl | (show _ < _; omega)); all_goals (refine hK _ ?_; clear hC hK C K; try simp only [tQ, bQ])) | (refine TW.cond rfl ?_ ?_ <;> intro hc <;> (try (cases hc; done))))
  refine TW.loop (fun (k : Nat) => ⟨[(1, gI .i64 m), (2, gR (intsT gs)), (3, .s (.ptr 0 0)), (6, .s (.ptr 1 0)), (7, gI .i64 (k : Nat))], [(0, .box ((wT (askD w m (gs.take k))).map .r)), (1, .box [.r .nil, .r .nil, .r .nil, .r .nil, .r .nil])], 2⟩) (fun k => k ≤ gs.length) (fun k => gs.length - k) 0 (by omega)
    (Wk.own [0, 1] [] (by simp) (by simp) (by simp [wT, askD]) (by simp) (by simp)) fun k hk => ?_
  by_cases hlt : k < gs.length
  · have he : gs[k]? = some gs[k] := List.getElem?_eq_getElem hlt
    have hltI : (k : Int) < (gs.length : Int) := by omega
    have hw1 := wrap_add hlt hlen; generalize gs[k] = x at he; have hs1 : askD w m (gs.take (k + 1)) = postD (askD w m (gs.take k)) ⟨1, m, x, 0, 0⟩ := foldl_take_succ _ _ he
    have hn : (askD w m (gs.take k)).net.length ≤ 16 := posts_net (fun g => ⟨1, m, g, 0, 0⟩) _ _ h
    generalize askD w m (gs.take k) = v at *; (repeat' first | refine TW.seq ?_ | refine TW.block ?_ | ((first | refine TW.skip ?_ | refine TW.exit ?_ | refine TW.ret ?_); (try simp only [tQ, bQ, if_true, Nat.reduceEqDiff, reduceIte])) | (refine TW.reg Td.mixed rfl fun C K hC hK => ?_; simp [hltI, he, wT, hw1]; (repeat' first | refine And.intro ?_ ?_ | intro _ | refine iteI ?_ ?_ | (show (_ : Bool) = true; kernel_rfl) | (show _ ≤ _; first | omega | (simp; done) | (simp; omega)) | exact Or.inl rfl | (show _ < _; omega) | ((first | refine hC _ _ _ _ _ rfl (aC.plain rfl rfl (by simp; rfl) (by exact l51Post_T v ⟨1, m, x, 0, 0⟩ hn) (by simp) (by simp) ?_)); simp [hltI, he, wT, hw1])); all_goals (refine hK _ ?_; clear hC hK C K; try simp only [tQ, bQ])) | (refine TW.cond rfl ?_ ?_ <;> intro hc <;> (try (cases hc; done))))
    exact ⟨k + 1, by omega, by omega, Wk.own [0, 1] [] (by simp) (by simp) (by simp [hs1, wT]) (by simp) (by simp)⟩
  · obtain rfl : k = gs.length := by omega
    rw [List.take_length]; (repeat' first | refine TW.seq ?_ | refine TW.block ?_ | ((first | refine TW.skip ?_ | refine TW.exit ?_ | refine TW.ret ?_); (try simp only [tQ, bQ, if_true, Nat.reduceEqDiff, reduceIte])) | (refine TW.reg Td.mixed rfl fun C K hC hK => ?_; simp [wT]; (repeat' first | refine And.intro ?_ ?_ | intro _ | refine iteI ?_ ?_ | (show (_ : Bool) = true; kernel_rfl) | (show _ ≤ _; first | omega | (simp; done) | (simp; omega)) | exact Or.inl rfl | (show _ < _; omega)); all_goals (refine hK _ ?_; clear hC hK C K; try simp only [tQ, bQ])) | (refine TW.cond rfl ?_ ?_ <;> intro hc <;> (try (cases hc; done))))
    refine Rets.own [] [] (by simp; rfl) (by simp [wT]) (by simp) (by simp) (by simp [wT]) (by simp)
theorem l51Tell_T {n : Nat} (w : WorldD) (m : Int) (h : Shp n w) (h0 : 0 ≤ m) (h1 : m < w.sets.length) : TC Tw.prog E 89 [gW w, gI .i64 m] 0 [] (gW (tellD w m)) [] := by
  have hl12 := h.s12; have hrl := h.rl; have hm : m.toNat < w.rounds.length := by omega
  have hms : m.toNat < w.sets.length := by omega
  have her : w.rounds[m.toNat]? = some (rndAt w m) := by rw [rndAt, List.getD_eq_getElem?_getD, List.getElem?_eq_getElem hm]; rfl
  have hes : w.sets[m.toNat]? = some (setAt w m) := by rw [setAt, List.getD_eq_getElem?_getD, List.getElem?_eq_getElem hms]; rfl
  obtain ⟨-, hS5, -⟩ := setAt_ok h h0 h1; have hro := rndAt_ok h h0 h1; have hlen : (setAt w m).length ≤ maxLen := by simp only [maxLen]; omega
  rw [tellD]; generalize rndAt w m = r at *; refine TC.enter Tw.func89 rfl (by kernel_rfl) Tw.ntmps89 (by rw [Try.results89]) (by simp) (Fits.nil rfl) ?_
  cases hb : (lastD r).2
  · rw [if_neg (by simp)]
    (repeat' first | refine TW.seq ?_ | refine TW.block ?_ | ((first | refine TW.skip ?_ | refine TW.exit ?_ | refine TW.ret ?_); (try simp only [tQ, bQ, if_true, Nat.reduceEqDiff, reduceIte])) | (refine TW.reg Td.mixed rfl fun C K hC hK => ?_; simp [h0, her, wT, rndT, hb]; (repeat' first | refine And.intro ?_ ?_ | intro _ | refine iteI ?_ ?_ | (show (_ : Bool) = true; kernel_rfl) | (show _ ≤ _; first | omega | (simp; done) | (simp; omega)) | exact Or.inl rfl | (show _ < _; omega) | ((first | refine hC _ _ _ _ _ rfl (aC.plain rfl rfl (by simp; rfl) (by exact l12Final_T r hro.1) (by simp) (by simp) ?_)); simp [h0, her, wT, rndT, hb])); all_goals (refine hK _ ?_; clear hC hK C K; try simp only [tQ, bQ])) | (refine TW.cond rfl ?_ ?_ <;> intro hc <;> (try (cases hc; done))))
    refine TW.loop (fun (_ : Unit) => ⟨[(1, gI .i64 m), (2, .s (.ptr 0 0)), (4, .s (.ptr 1 0)), (6, gB false), (7, gI .i64 0)], [(0, .box ((wT w).map .r)), (1, .box [.r .nil, .r .nil, .r .nil, .r .nil, .r .nil])], 2⟩) (fun _ => True) (fun _ => 0) () trivial
      (Wk.own [0, 1] [] (by simp) (by simp) (by simp [wT]) (by simp) (by simp)) fun _ _ => ?_
    (repeat' first | refine TW.seq ?_ | refine TW.block ?_ | ((first | refine TW.skip ?_ | refine TW.exit ?_ | refine TW.ret ?_); (try simp only [tQ, bQ, if_true, Nat.reduceEqDiff, reduceIte])) | (refine TW.reg Td.mixed rfl fun C K hC hK => ?_; simp [h0, hes, wT]; (repeat' first | refine And.intro ?_ ?_ | intro _ | refine iteI ?_ ?_ | (show (_ : Bool) = true; kernel_rfl) | (show _ ≤ _; first | omega | (simp; done) | (simp; omega)) | exact Or.inl rfl | (show _ < _; omega)); all_goals (refine hK _ ?_; clear hC hK C K; try simp only [tQ, bQ])) | (refine TW.cond rfl ?_ ?_ <;> intro hc <;> (try (cases hc; done))))
    all_goals refine Rets.own [] [] (by simp; rfl) (by simp [wT]) (by simp) (by simp) (by simp [wT]) (by simp)
  · rw [if_pos rfl]
    generalize hs : (lastD r).1 = s; (repeat' first | refine TW.seq ?_ | refine TW.block ?_ | ((first | refine TW.skip ?_ | refine TW.exit ?_ | refine TW.ret ?_); (try simp only [tQ, bQ, if_true, Nat.reduceEqDiff, reduceIte])) | (refine TW.reg Td.mixed rfl fun C K hC hK => ?_; simp [h0, her, wT, rndT, hb, hs]; (repeat' first | refine And.intro ?_ ?_ | intro _ | refine iteI ?_ ?_ | (show (_ : Bool) = true; kernel_rfl) | (show _ ≤ _; first | omega | (simp; done) | (simp; omega)) | exact Or.inl rfl | (show _ < _; omega) | ((first | refine hC _ _ _ _ _ rfl (aC.plain rfl rfl (by simp; rfl) (by exact l12Final_T r hro.1) (by simp) (by simp) ?_)); simp [h0, her, wT, rndT, hb, hs])); all_goals (refine hK _ ?_; clear hC hK C K; try simp only [tQ, bQ])) | (refine TW.cond rfl ?_ ?_ <;> intro hc <;> (try (cases hc; done))))
    generalize hS : setAt w m = S at *; refine TW.loop (fun (k : Nat) => ⟨[(1, gI .i64 m), (2, .s (.ptr 0 0)), (4, .s (.ptr 1 0)), (5, .s (.ptr 2 0)), (6, gB true), (7, gI .i64 (k : Nat))], [(0, .box ((wT (tellL w m s (S.take k))).map .r)), (1, .box [.r .nil, .r .nil, .r .nil, .r .nil, .r .nil]), (2, .box [.r (rI s.1), .r (rI s.2)])], 3⟩) (fun k => k ≤ S.length) (fun k => S.length - k) 0 (by omega)
      (Wk.own [0, 1, 2] [] (by simp) (by simp) (by simp [wT, tellL]) (by simp) (by simp)) fun k hk => ?_
    have hts : (tellL w m s (S.take k)).sets = w.sets := posts_sets (fun g => ⟨3, m, g, s.1, s.2⟩) _ _
    by_cases hlt : k < S.length
    · have he : S[k]? = some S[k] := List.getElem?_eq_getElem hlt
      have hltI : (k : Int) < (S.length : Int) := by omega
      have hw1 := wrap_add hlt hlen; generalize S[k] = x at he; have hs1 : tellL w m s (S.take (k + 1)) = postD (tellL w m s (S.take k)) ⟨3, m, x, s.1, s.2⟩ := foldl_take_succ _ _ he
      have hn : (tellL w m s (S.take k)).net.length ≤ 16 := posts_net (fun g => ⟨3, m, g, s.1, s.2⟩) _ _ h.nl
      generalize tellL w m s (S.take k) = v at *; rw [← hts] at hes; (repeat' first | refine TW.seq ?_ | refine TW.block ?_ | ((first | refine TW.skip ?_ | refine TW.exit ?_ | refine TW.ret ?_); (try simp only [tQ, bQ, if_true, Nat.reduceEqDiff, reduceIte])) | (refine TW.reg Td.mixed rfl fun C K hC hK => ?_; simp [hltI, h0, hes, he, wT, hw1]; (repeat' first | refine And.intro ?_ ?_ | intro _ | refine iteI ?_ ?_ | (show (_ : Bool) = true; kernel_rfl) | (show _ ≤ _; first | omega | (simp; done) | (simp; omega)) | exact Or.inl rfl | (show _ < _; omega) | ((first | refine hC _ _ _ _ _ rfl (aC.plain rfl rfl (by simp; rfl) (by exact l51Post_T v ⟨3, m, x, s.1, s.2⟩ hn) (by simp) (by simp) ?_)); simp [hltI, h0, hes, he, wT, hw1])); all_goals (refine hK _ ?_; clear hC hK C K; try simp only [tQ, bQ])) | (refine TW.cond rfl ?_ ?_ <;> intro hc <;> (try (cases hc; done))))
      exact ⟨k + 1, by omega, by omega, Wk.own [0, 1, 2] [] (by simp) (by simp) (by simp [hs1, wT]) (by simp) (by simp)⟩
    · obtain rfl : k = S.length := by omega
      rw [List.take_length] at *; rw [← hts] at hes; (repeat' first | refine TW.seq ?_ | refine TW.block ?_ | ((first | refine TW.skip ?_ | refine TW.exit ?_ | refine TW.ret ?_); (try simp only [tQ, bQ, if_true, Nat.reduceEqDiff, reduceIte])) | (refine TW.reg Td.mixed rfl fun C K hC hK => ?_; simp [h0, hes, wT]; (repeat' first | refine And.intro ?_ ?_ | intro _ | refine iteI ?_ ?_ | (show (_ : Bool) = true; kernel_rfl) | (show _ ≤ _; first | omega | (simp; done) | (simp; omega)) | exact Or.inl rfl | (show _ < _; omega)); all_goals (refine hK _ ?_; clear hC hK C K; try simp only [tQ, bQ])) | (refine TW.cond rfl ?_ ?_ <;> intro hc <;> (try (cases hc; done))))
      refine Rets.own [] [] (by simp; rfl) (by simp [wT]) (by simp) (by simp) (by simp [wT]) (by simp)
theorem l51Bits_T (n : Int) (h0 : 0 ≤ n) (h1 : n ≤ 31) : TC Tw.prog E 76 [gI .i64 n] 0 [] (gR (intsT (bitsD n))) [] := by
  refine TC.enter Tw.func76 rfl (by kernel_rfl) Tw.ntmps76 (by rw [Try.results76]) (by simp) (Fits.nil rfl) ?_
  (repeat' first | refine TW.seq ?_ | refine TW.block ?_ | ((first | refine TW.skip ?_ | refine TW.exit ?_ | refine TW.ret ?_); (try simp only [tQ, bQ, if_true, Nat.reduceEqDiff, reduceIte])) | (refine TW.reg Td.mixed rfl fun C K hC hK => ?_; simp; (repeat' first | refine And.intro ?_ ?_ | intro _ | refine iteI ?_ ?_ | (show (_ : Bool) = true; kernel_rfl) | (show _ ≤ _; first | omega | (simp; done) | (simp; omega)) | exact Or.inl rfl | (show _ < _; omega)); all_goals (refine hK _ ?_; clear hC hK C K; try simp only [tQ, bQ])) | (refine TW.cond rfl ?_ ?_ <;> intro hc <;> (try (cases hc; done))))
  refine TW.loop (fun (p : Nat × Int × List Int) => ⟨[(0, gI .i64 p.2.1), (3, .s (.own 0)), (4, gI .i64 (p.1 : Nat))], [(0, intsB p.2.2)], 1⟩) (fun p => p.1 ≤ 5 ∧ p.2.2.length ≤ p.1 ∧ 0 ≤ p.2.1 ∧ p.2.1 ≤ 31 ∧ p.2.2 ++ bitsL p.2.1 (5 - p.1) (p.1 : Nat) = bitsD n) (fun p => 5 - p.1) (0, n, []) ⟨by simp, by simp, h0, h1, rfl⟩
    (Wk.own [0] [] (by simp) (by simp) (by simp) (by simp) (by simp)) fun p hp => ?_
  obtain ⟨k, n', out⟩ := p; obtain ⟨hk, hl, q0, q1, hq⟩ := hp; simp only at hk hl q0 q1 hq ⊢
  by_cases hlt : k < 5
  · have hltI : (k : Int) < 5 := by omega
    have hw1 : IntKind.i64.wrap ((k : Int) + 1) = (k : Int) + 1 := wrap_ok (by omega) (by omega)
    have ht : n'.tdiv 2 = n' / 2 := Int.tdiv_eq_ediv_of_nonneg q0
    have hw2 : IntKind.i64.wrap (n'.tdiv 2) = n'.tdiv 2 := wrap_ok (by rw [ht]; omega) (by rw [ht]; omega)
    rw [show 5 - k = (5 - (k + 1)) + 1 by omega, bitsL] at hq
    by_cases hb : n'.tmod 2 = 1
    · rw [if_pos hb] at hq
      (repeat' first | refine TW.seq ?_ | refine TW.block ?_ | ((first | refine TW.skip ?_ | refine TW.exit ?_ | refine TW.ret ?_); (try simp only [tQ, bQ, if_true, Nat.reduceEqDiff, reduceIte])) | (refine TW.reg Td.mixed rfl fun C K hC hK => ?_; simp [hltI, hw1, hw2, hb, maxLen]; (repeat' first | refine And.intro ?_ ?_ | intro _ | refine iteI ?_ ?_ | (show (_ : Bool) = true; kernel_rfl) | (show _ ≤ _; first | omega | (simp; done) | (simp; omega)) | exact Or.inl rfl | (show _ < _; omega)); all_goals (refine hK _ ?_; clear hC hK C K; try simp only [tQ, bQ])) | (refine TW.cond rfl ?_ ?_ <;> intro hc <;> (try (cases hc; done))))
      exact ⟨(k + 1, n'.tdiv 2, out ++ [(k : Int)]), ⟨by simp only; omega, by simp; omega, by simp only [ht]; omega, by simp only [ht]; omega, by simpa using hq⟩, by simp only; omega, Wk.own [2] [] (by simp) (by simp) (by simp) (by simp) (by simp)⟩
    · rw [if_neg hb] at hq
      (repeat' first | refine TW.seq ?_ | refine TW.block ?_ | ((first | refine TW.skip ?_ | refine TW.exit ?_ | refine TW.ret ?_); (try simp only [tQ, bQ, if_true, Nat.reduceEqDiff, reduceIte])) | (refine TW.reg Td.mixed rfl fun C K hC hK => ?_; simp [hltI, hw1, hw2, hb, maxLen]; (repeat' first | refine And.intro ?_ ?_ | intro _ | refine iteI ?_ ?_ | (show (_ : Bool) = true; kernel_rfl) | (show _ ≤ _; first | omega | (simp; done) | (simp; omega)) | exact Or.inl rfl | (show _ < _; omega)); all_goals (refine hK _ ?_; clear hC hK C K; try simp only [tQ, bQ])) | (refine TW.cond rfl ?_ ?_ <;> intro hc <;> (try (cases hc; done))))
      exact ⟨(k + 1, n'.tdiv 2, out), ⟨by simp only; omega, by simp only; omega, by simp only [ht]; omega, by simp only [ht]; omega, by simpa using hq⟩, by simp only; omega, Wk.own [0] [] (by simp) (by simp) (by simp) (by simp) (by simp)⟩
  · obtain rfl : k = 5 := by omega
    simp only [Nat.sub_self, bitsL, List.append_nil] at hq; subst hq; (repeat' first | refine TW.seq ?_ | refine TW.block ?_ | ((first | refine TW.skip ?_ | refine TW.exit ?_ | refine TW.ret ?_); (try simp only [tQ, bQ, if_true, Nat.reduceEqDiff, reduceIte])) | (refine TW.reg Td.mixed rfl fun C K hC hK => ?_; simp; (repeat' first | refine And.intro ?_ ?_ | intro _ | refine iteI ?_ ?_ | (show (_ : Bool) = true; kernel_rfl) | (show _ ≤ _; first | omega | (simp; done) | (simp; omega)) | exact Or.inl rfl | (show _ < _; omega)); all_goals (refine hK _ ?_; clear hC hK C K; try simp only [tQ, bQ])) | (refine TW.cond rfl ?_ ?_ <;> intro hc <;> (try (cases hc; done))))
    refine Rets.own [] [0] (by simp; rfl) (by simp) (by simp) (by simp) (by simp) (by simp)
end Go.Proofs.Ytjklkppncmhehaa.T
namespace Go.Proofs.Ytjklkppncmhehaa.T
open Go Go.RowKit
set_option maxRecDepth 100000
set_option maxHeartbeats 4000000
variable {E : List PanicEntry → World → Prop}
theorem ShpN.rnd' {w : WorldD} (h : ShpN w) {m : Int} (h0 : 0 ≤ m) (h1 : m < w.sets.length) : rndLe (rndAt w m) 4294967290 := by
  have := rndAt_ok h h0 h1
  exact ⟨by have := this.2.1; omega, by have := this.2.2; omega⟩
theorem rnd_some {w : WorldD} (h : ShpN w) {m : Int} (h0 : 0 ≤ m) (h1 : m < w.sets.length) : w.rounds[m.toNat]? = some (rndAt w m) := by
  have := h.rl
  rw [rndAt, List.getD_eq_getElem?_getD, List.getElem?_eq_getElem (by omega)]
  rfl
theorem set_some {w : WorldD} {m : Int} (h0 : 0 ≤ m) (h1 : m < w.sets.length) : w.sets[m.toNat]? = some (setAt w m) := by
  rw [setAt, List.getD_eq_getElem?_getD, List.getElem?_eq_getElem (by omega)]
  rfl
theorem stop_some {w : WorldD} (h : ShpN w) {m : Int} (h0 : 0 ≤ m) (h1 : m < w.sets.length) : w.stopped[m.toNat]? = some (stopAt w m) := by
  have := h.sl
  rw [stopAt, List.getD_eq_getElem?_getD, List.getElem?_eq_getElem (by omega)]
  rfl
theorem specRoundMissing_T (r : RndD) (h : rndLe r 4294967296) : TC Tw.prog E 90 [.a ((rndT r).map .r)] 0 [] (gR (intsT (missD r))) [] := by
  obtain ⟨hgl, hl⟩ := h; have hlen : r.got.length ≤ maxLen := by simp only [maxLen]; omega
  have hlen2 : r.gs.length ≤ maxLen := by simp only [maxLen]; omega
  refine TC.enter Tw.func90 rfl (by kernel_rfl) Tw.ntmps90 (by rw [Try.results90]) (by simp) (Fits.nil rfl) ?_
  cases hv : rndB r
  · rw [show missD r = [] by rw [missD, hv]; rfl]
    (repeat' first | refine TW.seq ?_ | refine TW.block ?_ | ((first | refine TW.skip ?_ | refine TW.exit ?_ | refine TW.ret ?_); (try simp only [tQ, bQ, if_true, Nat.reduceEqDiff, reduceIte])) | (refine TW.reg Td.mixed rfl fun C K hC hK => ?_; simp [rndT, hv]; (repeat' first | refine And.intro ?_ ?_ | intro _ | refine iteI ?_ ?_ | (show (_ : Bool) = true; kernel_rfl) | (show _ ≤ _; first | omega | (simp; done) | (simp; omega)) | exact Or.inl rfl | (show _ < _; omega) | ((first | refine hC _ _ _ _ _ rfl (aC.plain rfl rfl (by simp; rfl) (by exact specRoundValid_T r ⟨hgl, hl⟩) (by simp) (by simp) ?_)); simp [rndT, hv])); all_goals (refine hK _ ?_; clear hC hK C K; try simp only [tQ, bQ])) | (refine TW.cond rfl ?_ ?_ <;> intro hc <;> (try (cases hc; done))))
    refine Rets.own [] [1] (by simp; rfl) (by simp) (by simp) (by simp) (by simp) (by simp)
  · rw [show missD r = r.gs.filter fun g => !ansB r g by rw [missD, hv]; rfl]
    (repeat' first | refine TW.seq ?_ | refine TW.block ?_ | ((first | refine TW.skip ?_ | refine TW.exit ?_ | refine TW.ret ?_); (try simp only [tQ, bQ, if_true, Nat.reduceEqDiff, reduceIte])) | (refine TW.reg Td.mixed rfl fun C K hC hK => ?_; simp [rndT, hv]; (repeat' first | refine And.intro ?_ ?_ | intro _ | refine iteI ?_ ?_ | (show (_ : Bool) = true; kernel_rfl) | (show _ ≤ _; first | omega | (simp; done) | (simp; omega)) | exact Or.inl rfl | (show _ < _; omega) | ((first | refine hC _ _ _ _ _ rfl (aC.plain rfl rfl (by simp; rfl) (by exact specRoundValid_T r ⟨hgl, hl⟩) (by simp) (by simp) ?_)); simp [rndT, hv])); all_goals (refine hK _ ?_; clear hC hK C K; try simp only [tQ, bQ])) | (refine TW.cond rfl ?_ ?_ <;> intro hc <;> (try (cases hc; done))))
    refine TW.loop (fun (k : Nat) => ⟨[(1, .s (.ptr 0 0)), (3, .s (.own 1)), (4, gI .i64 (k : Nat))], [(0, .box ((rndT r).map .r)), (1, intsB ((r.gs.take k).filter fun g => !ansB r g))], 2⟩) (fun k => k ≤ r.gs.length) (fun k => r.gs.length - k) 0 (by omega)
      (Wk.own [0, 1] [] (by simp) (by simp) (by simp [rndT]) (by simp) (by simp)) fun k hk => ?_
    by_cases hlt : k < r.gs.length
    · have he : r.gs[k]? = some r.gs[k] := List.getElem?_eq_getElem hlt
      have hltI : (k : Int) < (r.gs.length : Int) := by omega
      have hw1 := wrap_add hlt hlen2; generalize r.gs[k] = x at he; have hfl : ((r.gs.take k).filter fun g => !ansB r g).length ≤ 4294967296 := Nat.le_trans (List.length_filter_le _ _) (by simp; omega)
      have hs1 : (r.gs.take (k + 1)).filter (fun g => !ansB r g) = (r.gs.take k).filter (fun g => !ansB r g) ++ if ansB r x = true then [] else [x] := by
        rw [List.take_add_one, he, List.filter_append]
        cases h : ansB r x <;> simp [h]
      generalize (r.gs.take k).filter (fun g => !ansB r g) = out at *
      (repeat' first | refine TW.seq ?_ | refine TW.block ?_ | ((first | refine TW.skip ?_ | refine TW.exit ?_ | refine TW.ret ?_); (try simp only [tQ, bQ, if_true, Nat.reduceEqDiff, reduceIte])) | (refine TW.reg Td.mixed rfl fun C K hC hK => ?_; simp [hltI, rndT]; (repeat' first | refine And.intro ?_ ?_ | intro _ | refine iteI ?_ ?_ | (show (_ : Bool) = true; kernel_rfl) | (show _ ≤ _; first | omega | (simp; done) | (simp; omega)) | exact Or.inl rfl | (show _ < _; omega)); all_goals (refine hK _ ?_; clear hC hK C K; try simp only [tQ, bQ])) | (refine TW.cond rfl ?_ ?_ <;> intro hc <;> (try (cases hc; done))))
      refine TW.loop (fun (j : Nat) => ⟨[(1, .s (.ptr 0 0)), (3, .s (.own 1)), (4, gI .i64 (k : Nat)), (5, gB ((r.got.take j).any fun s => decide (s.2 = x))), (6, gI .i64 (j : Nat))], [(0, .box ((rndT r).map .r)), (1, intsB out)], 2⟩) (fun j => j ≤ r.got.length) (fun j => r.got.length - j) 0 (by omega)
        (Wk.own [0, 1] [] (by simp) (by simp) (by simp [rndT]) (by simp) (by simp)) fun j hj => ?_
      by_cases hltj : j < r.got.length
      · have hej : r.got[j]? = some r.got[j] := List.getElem?_eq_getElem hltj
        have hltJ : (j : Int) < (r.got.length : Int) := by omega
        have hwj := wrap_add hltj hlen; generalize r.got[j] = y at hej; have hsj : ((r.got.take (j + 1)).any fun s => decide (s.2 = x)) = ((r.got.take j).any (fun s => decide (s.2 = x)) || decide (y.2 = x)) := by
          rw [List.take_add_one, hej, List.any_append]; simp
        generalize (r.got.take j).any (fun s => decide (s.2 = x)) = f at *
        cases f
        · (repeat' first | refine TW.seq ?_ | refine TW.block ?_ | ((first | refine TW.skip ?_ | refine TW.exit ?_ | refine TW.ret ?_); (try simp only [tQ, bQ, if_true, Nat.reduceEqDiff, reduceIte])) | (refine TW.reg Td.mixed rfl fun C K hC hK => ?_; simp [hltJ, hltI, he, hej, hwj, rndT, stT]; (repeat' first | refine And.intro ?_ ?_ | intro _ | refine iteI ?_ ?_ | (show (_ : Bool) = true; kernel_rfl) | (show _ ≤ _; first | omega | (simp; done) | (simp; omega)) | exact Or.inl rfl | (show _ < _; omega)); all_goals (refine hK _ ?_; clear hC hK C K; try simp only [tQ, bQ])) | (refine TW.cond rfl ?_ ?_ <;> intro hc <;> (try (cases hc; done))))
          exact ⟨j + 1, by omega, by omega, Wk.own [0, 1] [] (by simp) (by simp [hsj]) (by simp [rndT]) (by simp) (by simp)⟩
        · (repeat' first | refine TW.seq ?_ | refine TW.block ?_ | ((first | refine TW.skip ?_ | refine TW.exit ?_ | refine TW.ret ?_); (try simp only [tQ, bQ, if_true, Nat.reduceEqDiff, reduceIte])) | (refine TW.reg Td.mixed rfl fun C K hC hK => ?_; simp [hltJ, hltI, he, hej, hwj, rndT, stT]; (repeat' first | refine And.intro ?_ ?_ | intro _ | refine iteI ?_ ?_ | (show (_ : Bool) = true; kernel_rfl) | (show _ ≤ _; first | omega | (simp; done) | (simp; omega)) | exact Or.inl rfl | (show _ < _; omega)); all_goals (refine hK _ ?_; clear hC hK C K; try simp only [tQ, bQ])) | (refine TW.cond rfl ?_ ?_ <;> intro hc <;> (try (cases hc; done))))
          exact ⟨j + 1, by omega, by omega, Wk.own [0, 1] [] (by simp) (by simp [hsj]) (by simp [rndT]) (by simp) (by simp)⟩
      · obtain rfl : j = r.got.length := by omega
        rw [List.take_length, show (r.got.any fun s => decide (s.2 = x)) = ansB r x from rfl]
        cases ha : ansB r x
        · rw [ha] at hs1
          (repeat' first | refine TW.seq ?_ | refine TW.block ?_ | ((first | refine TW.skip ?_ | refine TW.exit ?_ | refine TW.ret ?_); (try simp only [tQ, bQ, if_true, Nat.reduceEqDiff, reduceIte])) | (refine TW.reg Td.mixed rfl fun C K hC hK => ?_; simp [hltI, he, hw1, rndT, maxLen]; (repeat' first | refine And.intro ?_ ?_ | intro _ | refine iteI ?_ ?_ | (show (_ : Bool) = true; kernel_rfl) | (show _ ≤ _; first | omega | (simp; done) | (simp; omega)) | exact Or.inl rfl | (show _ < _; omega)); all_goals (refine hK _ ?_; clear hC hK C K; try simp only [tQ, bQ])) | (refine TW.cond rfl ?_ ?_ <;> intro hc <;> (try (cases hc; done))))
          exact ⟨k + 1, by omega, by omega, Wk.own [0, 3] [] (by simp) (by simp) (by simp [rndT, hs1]) (by simp) (by simp)⟩
        · rw [ha] at hs1
          (repeat' first | refine TW.seq ?_ | refine TW.block ?_ | ((first | refine TW.skip ?_ | refine TW.exit ?_ | refine TW.ret ?_); (try simp only [tQ, bQ, if_true, Nat.reduceEqDiff, reduceIte])) | (refine TW.reg Td.mixed rfl fun C K hC hK => ?_; simp [hltI, he, hw1, rndT, maxLen]; (repeat' first | refine And.intro ?_ ?_ | intro _ | refine iteI ?_ ?_ | (show (_ : Bool) = true; kernel_rfl) | (show _ ≤ _; first | omega | (simp; done) | (simp; omega)) | exact Or.inl rfl | (show _ < _; omega)); all_goals (refine hK _ ?_; clear hC hK C K; try simp only [tQ, bQ])) | (refine TW.cond rfl ?_ ?_ <;> intro hc <;> (try (cases hc; done))))
          exact ⟨k + 1, by omega, by omega, Wk.own [0, 1] [] (by simp) (by simp) (by simp [rndT, hs1]) (by simp) (by simp)⟩
    · obtain rfl : k = r.gs.length := by omega
      rw [List.take_length]; (repeat' first | refine TW.seq ?_ | refine TW.block ?_ | ((first | refine TW.skip ?_ | refine TW.exit ?_ | refine TW.ret ?_); (try simp only [tQ, bQ, if_true, Nat.reduceEqDiff, reduceIte])) | (refine TW.reg Td.mixed rfl fun C K hC hK => ?_; simp [rndT]; (repeat' first | refine And.intro ?_ ?_ | intro _ | refine iteI ?_ ?_ | (show (_ : Bool) = true; kernel_rfl) | (show _ ≤ _; first | omega | (simp; done) | (simp; omega)) | exact Or.inl rfl | (show _ < _; omega)); all_goals (refine hK _ ?_; clear hC hK C K; try simp only [tQ, bQ])) | (refine TW.cond rfl ?_ ?_ <;> intro hc <;> (try (cases hc; done))))
      refine Rets.own [] [1] (by simp; rfl) (by simp) (by simp) (by simp) (by simp) (by simp)
theorem l51Send_T (w : WorldD) (n : Int) (h : ShpN w) : TC Tw.prog E 62 [gW w, gI .i64 n] 0 [] (gW (sendD w n)) [] := by
  have hs12 := h.s12; have hrl := h.rl; have hsl := h.sl; have hnl := h.nl; refine TC.enter Tw.func62 rfl (by kernel_rfl) Tw.ntmps62 (by rw [Try.results62]) (by simp) (Fits.nil rfl) ?_
  by_cases hn : 1 ≤ n ∧ n ≤ 31
  · by_cases hl : w.sets.length < 12
    · have hl' : ¬ 12 ≤ (w.sets.length : Int) := by omega
      obtain ⟨b1, b2⟩ := bits_ok hn.1 hn.2; have hms : isMsgB (w.sets.length : Int) = true := by simp [isMsgB]; omega
      have hB := l51Bits_T (E := E) n (by omega) hn.2
      have hA := l51Ask_T (E := E) ⟨w.sets ++ [bitsD n], w.groups, w.rounds ++ [⟨w.sets.length, bitsD n, []⟩], w.stopped ++ [false], w.net⟩ w.sets.length (bitsD n) hnl; rw [sendD, if_pos ⟨hn.1, hn.2, hl⟩]; generalize bitsD n = S at *; generalize askD ⟨w.sets ++ [S], w.groups, w.rounds ++ [⟨w.sets.length, S, []⟩], w.stopped ++ [false], w.net⟩ w.sets.length S = v at *; simp [gW, wT, setsT, rndsT, bitsT, rndT] at hA; have hR := specRoundNew_T (E := E) (w.sets.length : Int) S hms b1 (by have := b2.2.1; omega)
      (repeat' first | refine TW.seq ?_ | refine TW.block ?_ | ((first | refine TW.skip ?_ | refine TW.exit ?_ | refine TW.ret ?_); (try simp only [tQ, bQ, if_true, Nat.reduceEqDiff, reduceIte])) | (refine TW.reg Td.mixed rfl fun C K hC hK => ?_; simp [wT, hn, hl', hms, maxLen]; (repeat' first | refine And.intro ?_ ?_ | intro _ | refine iteI ?_ ?_ | (show (_ : Bool) = true; kernel_rfl) | (show _ ≤ _; first | omega | (simp; done) | (simp; omega)) | exact Or.inl rfl | (show _ < _; omega) | ((first | refine hC _ _ _ _ _ rfl (aC.plain rfl rfl (by simp; rfl) (by exact l6In_T _ _ _) (by simp) (by simp) ?_) | refine hC _ _ _ _ _ rfl (aC.fresh rfl rfl [] (by simp; rfl) (by simp) 5 (by exact l51Copy_T w h) (by simp) (by simp) (by simp) ?_) | refine hC _ _ _ _ _ rfl (aC.plain rfl rfl (by simp; rfl) (by exact hB) (by simp) (by simp) ?_) | refine hC _ _ _ _ _ rfl (aC.fresh rfl rfl [] (by simp; rfl) (by simp) 2 (by exact hR) (by simp) (by simp) (by simp) ?_) | refine hC _ _ _ _ _ rfl (aC.fresh rfl rfl [11, 3, 13, 15, 6] (by simp; rfl) (by simp) 0 (by exact hA) (by simp) (by simp) (by simp) ?_)); simp [wT, hn, hl', hms, maxLen])); all_goals (refine hK _ ?_; clear hC hK C K; try simp only [tQ, bQ])) | (refine TW.cond rfl ?_ ?_ <;> intro hc <;> (try (cases hc; done))))
      refine Rets.own [] [] (by simp; rfl) (by simp [wT]) (by simp) (by simp) (by simp [wT]) (by simp)
    · have hl' : 12 ≤ (w.sets.length : Int) := by omega
      rw [sendD, if_neg (by omega)]
      (repeat' first | refine TW.seq ?_ | refine TW.block ?_ | ((first | refine TW.skip ?_ | refine TW.exit ?_ | refine TW.ret ?_); (try simp only [tQ, bQ, if_true, Nat.reduceEqDiff, reduceIte])) | (refine TW.reg Td.mixed rfl fun C K hC hK => ?_; simp [wT, hn, hl']; (repeat' first | refine And.intro ?_ ?_ | intro _ | refine iteI ?_ ?_ | (show (_ : Bool) = true; kernel_rfl) | (show _ ≤ _; first | omega | (simp; done) | (simp; omega)) | exact Or.inl rfl | (show _ < _; omega) | ((first | refine hC _ _ _ _ _ rfl (aC.plain rfl rfl (by simp; rfl) (by exact l6In_T _ _ _) (by simp) (by simp) ?_)); simp [wT, hn, hl'])); all_goals (refine hK _ ?_; clear hC hK C K; try simp only [tQ, bQ])) | (refine TW.cond rfl ?_ ?_ <;> intro hc <;> (try (cases hc; done))))
      refine Rets.own [] [] (by simp; rfl) (by simp [wT]) (by simp) (by simp) (by simp [wT]) (by simp)
  · rw [sendD, if_neg (by omega)]
    (repeat' first | refine TW.seq ?_ | refine TW.block ?_ | ((first | refine TW.skip ?_ | refine TW.exit ?_ | refine TW.ret ?_); (try simp only [tQ, bQ, if_true, Nat.reduceEqDiff, reduceIte])) | (refine TW.reg Td.mixed rfl fun C K hC hK => ?_; simp [wT, hn]; (repeat' first | refine And.intro ?_ ?_ | intro _ | refine iteI ?_ ?_ | (show (_ : Bool) = true; kernel_rfl) | (show _ ≤ _; first | omega | (simp; done) | (simp; omega)) | exact Or.inl rfl | (show _ < _; omega) | ((first | refine hC _ _ _ _ _ rfl (aC.plain rfl rfl (by simp; rfl) (by exact l6In_T _ _ _) (by simp) (by simp) ?_)); simp [wT, hn])); all_goals (refine hK _ ?_; clear hC hK C K; try simp only [tQ, bQ])) | (refine TW.cond rfl ?_ ?_ <;> intro hc <;> (try (cases hc; done))))
    refine Rets.own [] [] (by simp; rfl) (by simp [wT]) (by simp) (by simp) (by simp [wT]) (by simp)
end Go.Proofs.Ytjklkppncmhehaa.T
