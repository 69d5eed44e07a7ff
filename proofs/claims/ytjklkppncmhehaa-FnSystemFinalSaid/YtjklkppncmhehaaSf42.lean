/-
What is proved: what the draws of an event and of a world do to trees. No condition but the ranges that each states. what the draw of a world does to trees. No condition but the ranges that each states. what the draws of a group and of a system do to trees. No condition but the ranges that each states. what the draw of a system does to trees. No condition but the ranges that each states.
-/
import Derived.Test.YtjklkppncmhehaaSf41
set_option linter.unusedVariables false
set_option linter.unusedSimpArgs false
namespace Go.Proofs.Ytjklkppncmhehaa.T
open Go Go.RowKit
set_option maxRecDepth 100000
set_option maxHeartbeats 4000000
variable {E : List PanicEntry → World → Prop}
def mx (n : Nat) : Int := if (n : Int) < 1 then 1 else n
theorem mx_ok (n : Nat) : 1 ≤ mx n := by unfold mx; split <;> omega
def eventK (o : Int → Int → Int) (p : Int) (n s : Nat) : Int × Int × Int :=
  if o (p + 1) 20 = 0 ∨ o (p + 1) 20 = 1 then (1, 1 + o (p + 2) 31, p + 3)
  else if o (p + 1) 20 = 2 then (3, o p (mx n), p + 2)
  else if o (p + 1) 20 = 3 then (4, o p (mx n), p + 2)
  else if o (p + 1) 20 = 4 then (5, o (p + 2) (mx s), p + 3)
  else if o (p + 1) 20 = 5 ∨ o (p + 1) 20 = 6 then (6, o (p + 2) (mx s), p + 3)
  else if o (p + 1) 20 = 7 then if o (p + 2) 3 = 0 then (7, o (p + 3) (mx s), p + 4) else (2, o p (mx n), p + 3)
  else if o (p + 2) 2 = 0 then (2, 0, p + 3) else (2, o p (mx n), p + 3)
def eventT (o : Int → Int → Int) (e : Int × Int × Int) : Int × Int × Int :=
  if o e.2.2 40 = 0 then (o (e.2.2 + 1) 10 - 1, e.2.1, e.2.2 + 2) else if o e.2.2 40 = 1 then (e.1, o (e.2.2 + 1) 36 - 2, e.2.2 + 2) else (e.1, e.2.1, e.2.2 + 1)
def eventF (o : Int → Int → Int) (p : Int) (w : WorldD) : Int × Int × Int := eventT o (eventK o p w.net.length w.sets.length)
theorem eventF_place (o : Int → Int → Int) (p : Int) (w : WorldD) : p + 3 ≤ (eventF o p w).2.2 ∧ (eventF o p w).2.2 ≤ p + 6 := by
  have h : p + 2 ≤ (eventK o p w.net.length w.sets.length).2.2 ∧ (eventK o p w.net.length w.sets.length).2.2 ≤ p + 4 := by
    unfold eventK; repeat' split
    all_goals (simp only; omega)
  unfold eventF eventT; repeat' split
  all_goals (simp only; omega)
set_option maxHeartbeats 8000000 in
theorem l92Event_T {bs : List Int} (h : RdOk bs) (p : Int) (w : WorldD) (h0 : 0 ≤ p) (h1 : p ≤ 999999980) (hn : w.net.length ≤ 16) (hs : w.sets.length ≤ 12) :
    TC Tw.prog E 64 [gRd, gW w] 1 [(0, rdB bs p)] (gE (eventF (pk bs) p w).1 (eventF (pk bs) p w).2.1) [(0, rdB bs (eventF (pk bs) p w).2.2)] := by
  have q1 := pk0 h (k := p + 2) (n := 31) (by omega) (by omega)
  have q1' := pk_lt h (k := p + 2) (n := 31) (by omega) (by omega) (by omega)
  have w1 : IntKind.i64.wrap (1 + pk bs (p + 2) 31) = 1 + pk bs (p + 2) 31 := wrap_ok (by omega) (by omega)
  have wA : ∀ k, 0 ≤ k → k ≤ 1000000000 → IntKind.i64.wrap (pk bs k 10 - 1) = pk bs k 10 - 1 := fun k a b => by
    have := pk0 h (k := k) (n := 10) a b
    have := pk_lt h (k := k) (n := 10) a b (by omega)
    exact wrap_ok (by omega) (by omega)
  have wB : ∀ k, 0 ≤ k → k ≤ 1000000000 → IntKind.i64.wrap (pk bs k 36 - 2) = pk bs k 36 - 2 := fun k a b => by
    have := pk0 h (k := k) (n := 36) a b
    have := pk_lt h (k := k) (n := 36) a b (by omega)
    exact wrap_ok (by omega) (by omega)
  have a3 := wA (p + 3) (by omega) (by omega)
  have a4 := wA (p + 4) (by omega) (by omega)
  have a5 := wA (p + 5) (by omega) (by omega)
  have b3 := wB (p + 3) (by omega) (by omega)
  have b4 := wB (p + 4) (by omega) (by omega)
  have b5 := wB (p + 5) (by omega) (by omega)
  clear wA wB q1 q1'; have e2 : p + 1 + 1 = p + 2 := by omega
  have e3 : p + 2 + 1 = p + 3 := by omega
  have e4 : p + 3 + 1 = p + 4 := by omega
  have e5 : p + 4 + 1 = p + 5 := by omega
  have e6 : p + 5 + 1 = p + 6 := by omega
  have m1 : (if (w.net.length : Int) < 1 then (1 : Int) else w.net.length) = mx w.net.length := rfl
  have m2 : (if (w.sets.length : Int) < 1 then (1 : Int) else w.sets.length) = mx w.sets.length := rfl
  have hm1 := mx_ok w.net.length; have hm2 := mx_ok w.sets.length; refine TC.enter Tw.func64 rfl (by kernel_rfl) Tw.ntmps64 (by rw [Try.results64]) (by simp) (Fits.of (by simp [stoOk, Blk.live]) (by simp) (by simp [wT])) ?_
  (repeat' first | refine TW.seq ?_ | refine TW.block ?_ | ((first | refine TW.skip ?_ | refine TW.exit ?_ | refine TW.ret ?_); (try simp only [tQ, bQ, if_true, Nat.reduceEqDiff, reduceIte])) | (refine TW.reg Td.mixed rfl fun C K hC hK => ?_; simp [wT, w1, m1, m2, e2, e3, e4, e5, e6, a3, a4, a5, b3, b4, b5]; (repeat' first | refine And.intro ?_ ?_ | intro _ | refine iteI ?_ ?_ | (show (_ : Bool) = true; kernel_rfl) | (show _ ≤ _; first | omega | (simp; done) | (simp; omega)) | exact Or.inl rfl | (show _ < _; omega) | ((first | refine hC _ _ _ _ _ rfl (aC.rd rfl rfl (by simp; rfl) (by rfl) (by simp; rfl) (by exact pick_T h _ _ (by omega) (by omega)) (by simp) (by simp) (by simp) (by simp) (by simp) ?_)); simp [wT, w1, m1, m2, e2, e3, e4, e5, e6, a3, a4, a5, b3, b4, b5])); all_goals (refine hK _ ?_; clear hC hK C K; try simp only [tQ, bQ])) | (refine TW.cond rfl ?_ ?_ <;> intro hc <;> (try (cases hc; done))))
  all_goals
    clear hm1 hm2 hn hs h0 h1 h w1 a3 a4 a5 b3 b4 b5 m1 m2; simp only [decide_eq_true_eq, decide_eq_false_iff_not] at *; have f2 : p + 2 + 2 = p + 4 := by omega
    have f3 : p + 3 + 2 = p + 5 := by omega
    have f4 : p + 4 + 2 = p + 6 := by omega
    first
      | (exfalso; omega)
      | (refine Rets.own [] [] (by simp; rfl) (by simp [eventF, eventT, eventK, *]) (by simp) (by simp) (by simp [eventF, eventT, eventK, *]) (by simp))
end Go.Proofs.Ytjklkppncmhehaa.T
namespace Go.Proofs.Ytjklkppncmhehaa.T
open Go Go.RowKit
set_option maxRecDepth 100000
set_option maxHeartbeats 4000000
variable {E : List PanicEntry → World → Prop}
def worldL (o : Int → Int → Int) : Nat → Nat → Int → WorldD → WorldD × Int
  | 0, _, p, w => (w, p + 1)
  | n + 1, i, p, w => if (i : Int) < o p 70 then worldL o n (i + 1) (eventF o (p + 1) w).2.2 (doD w (eventF o (p + 1) w).1 (eventF o (p + 1) w).2.1) else (w, p + 1)
def worldF (o : Int → Int → Int) (p : Int) : WorldD × Int := worldL o 70 0 (p + 1) (sendD newD (1 + o p 31))
theorem worldL_ok (o : Int → Int → Int) : ∀ (n i : Nat) (p : Int) (w : WorldD) (N : Nat), Shp N w → p + 1 ≤ (worldL o n i p w).2 ∧ (worldL o n i p w).2 ≤ p + 1 + 7 * n ∧ Shp (N + 5 * n) (worldL o n i p w).1
  | 0, i, p, w, N, h => ⟨by simp [worldL], by simp [worldL], by simpa [worldL] using h⟩
  | n + 1, i, p, w, N, h => by
    unfold worldL; split
    · have h1 := eventF_place o (p + 1) w
      obtain ⟨a, b, c⟩ := worldL_ok o n (i + 1) (eventF o (p + 1) w).2.2 (doD w (eventF o (p + 1) w).1 (eventF o (p + 1) w).2.1) (N + 5) (h.event _ _); exact ⟨by omega, by omega, by rw [show N + 5 * (n + 1) = N + 5 + 5 * n by omega]; exact c⟩
    · exact ⟨by simp only; omega, by simp only; omega, h.mono (by omega)⟩
theorem worldF_ok (o : Int → Int → Int) (p : Int) : p + 2 ≤ (worldF o p).2 ∧ (worldF o p).2 ≤ p + 500 ∧ Shp 350 (worldF o p).1 := by
  obtain ⟨a, b, c⟩ := worldL_ok o 70 0 (p + 1) (sendD newD (1 + o p 31)) 0 (newD_shp.send _); unfold worldF; exact ⟨by omega, by omega, c⟩
theorem l92World_T {bs : List Int} (h : RdOk bs) (p : Int) (h0 : 0 ≤ p) (h1 : p ≤ 999990000) :
    TC Tw.prog E 45 [gRd] 1 [(0, rdB bs p)] (gW (worldF (pk bs) p).1) [(0, rdB bs (worldF (pk bs) p).2)] := by
  have q1 := pk0 h (k := p) (n := 31) h0 (by omega)
  have q1' := pk_lt h (k := p) (n := 31) h0 (by omega) (by omega)
  have w1 : IntKind.i64.wrap (1 + pk bs p 31) = 1 + pk bs p 31 := wrap_ok (by omega) (by omega)
  have hS := l51Send_T (E := E) newD (1 + pk bs p 31) (newD_shp.mono (by omega))
  have hSS : Shp 0 (sendD newD (1 + pk bs p 31)) := newD_shp.send _
  refine TC.enter Tw.func45 rfl (by kernel_rfl) Tw.ntmps45 (by rw [Try.results45]) (by simp) (Fits.of (by simp [stoOk, Blk.live]) (by simp) (by simp)) ?_
  unfold worldF; generalize sendD newD (1 + pk bs p 31) = v at *; (repeat' first | refine TW.seq ?_ | refine TW.block ?_ | ((first | refine TW.skip ?_ | refine TW.exit ?_ | refine TW.ret ?_); (try simp only [tQ, bQ, if_true, Nat.reduceEqDiff, reduceIte])) | (refine TW.reg Td.mixed rfl fun C K hC hK => ?_; simp [w1, wT]; (repeat' first | refine And.intro ?_ ?_ | intro _ | refine iteI ?_ ?_ | (show (_ : Bool) = true; kernel_rfl) | (show _ ≤ _; first | omega | (simp; done) | (simp; omega)) | exact Or.inl rfl | (show _ < _; omega) | ((first | refine hC _ _ _ _ _ rfl (aC.plain rfl rfl (by simp; rfl) (by exact specWorldNew_T) (by simp) (by simp) ?_) | refine hC _ _ _ _ _ rfl (aC.rd rfl rfl (by simp; rfl) (by rfl) (by simp; rfl) (by exact pick_T h _ _ (by omega) (by omega)) (by simp) (by simp) (by simp) (by simp) (by simp) ?_) | refine hC _ _ _ _ _ rfl (aC.plain rfl rfl (by simp; rfl) (by exact hS) (by simp) (by simp) ?_)); simp [w1, wT])); all_goals (refine hK _ ?_; clear hC hK C K; try simp only [tQ, bQ])) | (refine TW.cond rfl ?_ ?_ <;> intro hc <;> (try (cases hc; done))))
  refine TW.loop (fun (x : Nat × Int × WorldD) => ⟨[(0, gRd), (2, .s (.ptr 1 0)), (3, .s (.ptr 2 0)), (4, gI .i64 (x.1 : Nat))], [(0, rdB bs x.2.1), (1, .box [.r .nil, .r .nil, .r .nil, .r .nil, .r .nil]), (2, .box ((wT x.2.2).map .r))], 3⟩)
    (fun x => x.1 ≤ 70 ∧ p + 1 ≤ x.2.1 ∧ x.2.1 ≤ p + 1 + 7 * x.1 ∧ Shp (5 * x.1) x.2.2 ∧ worldL (pk bs) (70 - x.1) x.1 x.2.1 x.2.2 = worldL (pk bs) 70 0 (p + 1) v) (fun x => 70 - x.1) (0, p + 1, v) ⟨by simp, by simp, by simp, hSS, rfl⟩
    (Wk.own [1, 2] [] (by simp) (by simp [wT]) (by simp [wT]) (by simp) (by simp)) fun x hx => ?_
  obtain ⟨i, q, w⟩ := x; obtain ⟨hi, r1, r2, hw, hst⟩ := hx; simp only at hi r1 r2 hw hst ⊢
  have q0 : 0 ≤ q := by omega
  have q2 : q ≤ 999999000 := by omega
  have z1 := pk0 h (k := q) (n := 70) q0 (by omega)
  have z2 := pk_lt h (k := q) (n := 70) q0 (by omega) (by omega)
  by_cases hlt : (i : Int) < pk bs q 70
  · have hpl := eventF_place (pk bs) (q + 1) w
    have hw1 : IntKind.i64.wrap ((i : Int) + 1) = (i : Int) + 1 := wrap_ok (by omega) (by omega)
    rw [show 70 - i = (70 - (i + 1)) + 1 by omega, worldL, if_pos hlt] at hst
    have hD := l51Do_T (E := E) w (eventF (pk bs) (q + 1) w).1 (eventF (pk bs) (q + 1) w).2.1 (hw.mono (by omega))
    have hE := l92Event_T (E := E) h (q + 1) w (by omega) (by omega) hw.nl hw.s12
    have hwD := hw.event (eventF (pk bs) (q + 1) w).1 (eventF (pk bs) (q + 1) w).2.1; generalize doD w (eventF (pk bs) (q + 1) w).1 (eventF (pk bs) (q + 1) w).2.1 = u at *; (repeat' first | refine TW.seq ?_ | refine TW.block ?_ | ((first | refine TW.skip ?_ | refine TW.exit ?_ | refine TW.ret ?_); (try simp only [tQ, bQ, if_true, Nat.reduceEqDiff, reduceIte])) | (refine TW.reg Td.mixed rfl fun C K hC hK => ?_; simp [wT, hlt, hw1]; (repeat' first | refine And.intro ?_ ?_ | intro _ | refine iteI ?_ ?_ | (show (_ : Bool) = true; kernel_rfl) | (show _ ≤ _; first | omega | (simp; done) | (simp; omega)) | exact Or.inl rfl | (show _ < _; omega) | ((first | refine hC _ _ _ _ _ rfl (aC.rd rfl rfl (by simp; rfl) (by rfl) (by simp; rfl) (by exact pick_T h _ _ (by omega) (by omega)) (by simp) (by simp) (by simp) (by simp) (by simp) ?_) | refine hC _ _ _ _ _ rfl (aC.rd rfl rfl (by simp; rfl) (by rfl) (by simp; rfl) (by exact hE) (by simp) (by simp) (by simp) (by simp) (by simp) ?_) | refine hC _ _ _ _ _ rfl (aC.plain rfl rfl (by simp; rfl) (by exact hD) (by simp) (by simp) ?_)); simp [wT, hlt, hw1])); all_goals (refine hK _ ?_; clear hC hK C K; try simp only [tQ, bQ])) | (refine TW.cond rfl ?_ ?_ <;> intro hc <;> (try (cases hc; done))))
    exact ⟨(i + 1, (eventF (pk bs) (q + 1) w).2.2, u), ⟨by simp only; omega, by simp only; omega, by simp only; omega, by rw [show 5 * (i + 1) = 5 * i + 5 by omega]; exact hwD, hst⟩, by simp only; omega, Wk.own [1, 2] [] (by simp) (by simp [wT]) (by simp [wT]) (by simp) (by simp)⟩
  · have hst2 : worldL (pk bs) (70 - i) i q w = (w, q + 1) := by
      rcases hn : 70 - i with _ | n
      · rfl
      · rw [worldL, if_neg hlt]
    rw [← hst, hst2]; (repeat' first | refine TW.seq ?_ | refine TW.block ?_ | ((first | refine TW.skip ?_ | refine TW.exit ?_ | refine TW.ret ?_); (try simp only [tQ, bQ, if_true, Nat.reduceEqDiff, reduceIte])) | (refine TW.reg Td.mixed rfl fun C K hC hK => ?_; simp [wT, hlt]; (repeat' first | refine And.intro ?_ ?_ | intro _ | refine iteI ?_ ?_ | (show (_ : Bool) = true; kernel_rfl) | (show _ ≤ _; first | omega | (simp; done) | (simp; omega)) | exact Or.inl rfl | (show _ < _; omega) | ((first | refine hC _ _ _ _ _ rfl (aC.rd rfl rfl (by simp; rfl) (by rfl) (by simp; rfl) (by exact pick_T h _ _ (by omega) (by omega)) (by simp) (by simp) (by simp) (by simp) (by simp) ?_)); simp [wT, hlt])); all_goals (refine hK _ ?_; clear hC hK C K; try simp only [tQ, bQ])) | (refine TW.cond rfl ?_ ?_ <;> intro hc <;> (try (cases hc; done))))
    refine Rets.own [] [] (by simp; rfl) (by simp [wT]) (by simp) (by simp) (by simp [wT]) (by simp)
end Go.Proofs.Ytjklkppncmhehaa.T
namespace Go.Proofs.Ytjklkppncmhehaa.T
open Go Go.RowKit
set_option maxRecDepth 100000
set_option maxHeartbeats 4000000
variable {E : List PanicEntry → World → Prop}
theorem l11Propose_own (g : GrpD) (m : Int) (h : grpLe g 4294967290) (h0 : 0 ≤ g.clock) : TC Tw.prog E 66 [.a [.r (rI g.id), .r (rI g.clock), .own 0, .own 1], gI .i64 m] 2 (grpS g) (.p [grpO (proposeD g m).1 2 3, gSt (proposeD g m).2.1, gB (proposeD g m).2.2]) [(0, entsB g.pend), (1, entsB g.done), (2, entsB (proposeD g m).1.pend), (3, entsB (proposeD g m).1.done)] := by
  have := TC.lend (args := [.a [.r (rI g.id), .r (rI g.clock), .own 0, .own 1], gI .i64 m]) (m := 2) (sto := grpS g) (l11Propose_T (E := E) g m h h0) (Fits.of (by simp [stoOk, Blk.live, List.range_succ]) (by simp) (by simp)) (by simp [grpT, List.range_succ]) (by simp [GV.lite, liteL, TV.lite]) (by simp [Blk.lite, entT, RT.flat])
  simpa using this
theorem l11Final_own (g : GrpD) (m t s : Int) (h : grpN g 4294967290) : TC Tw.prog E 67 [.a [.r (rI g.id), .r (rI g.clock), .own 0, .own 1], gI .i64 m, gSt (t, s)] 2 (grpS g) (.p [grpO (finalD g m t s).1 2 3, .s (.own 4), gB (finalD g m t s).2.2]) [(0, entsB g.pend), (1, entsB g.done), (2, entsB (finalD g m t s).1.pend), (3, entsB (finalD g m t s).1.done), (4, intsB (finalD g m t s).2.1)] := by
  have := TC.lend (args := [.a [.r (rI g.id), .r (rI g.clock), .own 0, .own 1], gI .i64 m, gSt (t, s)]) (m := 2) (sto := grpS g) (l11Final_T (E := E) g m t s h) (Fits.of (by simp [stoOk, Blk.live, List.range_succ]) (by simp) (by simp)) (by simp [grpT, List.range_succ]) (by simp [GV.lite, liteL, TV.lite]) (by simp [Blk.lite, entT, RT.flat])
  simpa using this
def groupL (o : Int → Int → Int) : Nat → Nat → Int → GrpD → GrpD × Int
  | 0, _, p, g => (g, p + 1)
  | n + 1, i, p, g => if (i : Int) < o p 14 then
      if o (p + 2) 2 = 0 then groupL o n (i + 1) (p + 3) (if (proposeD g (o (p + 1) 8)).2.2 = true then (proposeD g (o (p + 1) 8)).1 else g)
      else groupL o n (i + 1) (p + 5) (if (finalD g (o (p + 1) 8) (1 + o (p + 3) (g.clock + 3)) (o (p + 4) 5)).2.2 = true then (finalD g (o (p + 1) 8) (1 + o (p + 3) (g.clock + 3)) (o (p + 4) 5)).1 else g)
    else (g, p + 1)
def entAt (es : List EntD) (k : Int) : EntD := es.getD k.toNat ⟨0, 0, 0, false⟩
def groupT (o : Int → Int → Int) (g : GrpD) (p : Int) : GrpD × Int :=
  if o p 18 = 0 then (⟨g.id, tbl [0, 998, 999, 1000] (o (p + 1) 4), g.pend, g.done⟩, p + 2)
  else if o p 18 = 1 then if g.pend.length = 0 then (g, p + 1) else
    (⟨g.id, g.clock, g.pend.set (o (p + 1) g.pend.length).toNat ⟨(entAt g.pend (o (p + 1) g.pend.length)).m, (stampF o (p + 2)).1.1, (stampF o (p + 2)).1.2, (entAt g.pend (o (p + 1) g.pend.length)).f⟩, g.done⟩, (stampF o (p + 2)).2)
  else if o p 18 = 2 then if g.pend.length = 0 then (g, p + 1) else
    (⟨g.id, g.clock, g.pend.set (o (p + 1) g.pend.length).toNat ⟨(entAt g.pend (o (p + 1) g.pend.length)).m, (entAt g.pend (o (p + 1) g.pend.length)).t, (entAt g.pend (o (p + 1) g.pend.length)).g, true⟩, g.done⟩, p + 2)
  else if o p 18 = 3 then if g.done.length = 0 then (g, p + 1) else
    (⟨g.id, g.clock, g.pend, g.done.set (o (p + 1) g.done.length).toNat ⟨o (p + 2) 8, (entAt g.done (o (p + 1) g.done.length)).t, (entAt g.done (o (p + 1) g.done.length)).g, (entAt g.done (o (p + 1) g.done.length)).f⟩⟩, p + 3)
  else if o p 18 = 4 then (⟨o (p + 1) 7 - 1, g.clock, g.pend, g.done⟩, p + 2)
  else (g, p + 1)
def groupF (o : Int → Int → Int) (p : Int) : GrpD × Int := groupT o (groupL o 14 0 (p + 1) (grp0 (o p 5))).1 (groupL o 14 0 (p + 1) (grp0 (o p 5))).2
theorem stampF_place (o : Int → Int → Int) (p : Int) : p + 3 ≤ (stampF o p).2 ∧ (stampF o p).2 ≤ p + 4 := by
  unfold stampF; repeat' split
  all_goals (simp only; omega)
theorem groupL_ok (o : Int → Int → Int) : ∀ (n i : Nat) (p : Int) (g : GrpD) (N : Nat), grpN g N → p + 1 ≤ (groupL o n i p g).2 ∧ (groupL o n i p g).2 ≤ p + 1 + 5 * n ∧ grpN (groupL o n i p g).1 (N + n)
  | 0, i, p, g, N, h => ⟨by simp [groupL], by simp [groupL], by simpa [groupL] using h⟩
  | n + 1, i, p, g, N, h => by
    unfold groupL; split
    · split
      · obtain ⟨a, b, c⟩ := groupL_ok o n (i + 1) (p + 3) (if (proposeD g (o (p + 1) 8)).2.2 = true then (proposeD g (o (p + 1) 8)).1 else g) (N + 1) (by
          split
          · exact propose_N _ h
          · exact h.mono (by omega))
        exact ⟨by omega, by omega, by rw [show N + (n + 1) = N + 1 + n by omega]; exact c⟩
      · obtain ⟨a, b, c⟩ := groupL_ok o n (i + 1) (p + 5) (if (finalD g (o (p + 1) 8) (1 + o (p + 3) (g.clock + 3)) (o (p + 4) 5)).2.2 = true then (finalD g (o (p + 1) 8) (1 + o (p + 3) (g.clock + 3)) (o (p + 4) 5)).1 else g) N (by
          split
          · exact final_N _ _ _ h
          · exact h)
        exact ⟨by omega, by omega, c.mono (by omega)⟩
    · exact ⟨by simp only; omega, by simp only; omega, h.mono (by omega)⟩
theorem groupF_ok (o : Int → Int → Int) (p : Int) : p + 3 ≤ (groupF o p).2 ∧ (groupF o p).2 ≤ p + 90 ∧ (groupF o p).1.pend.length + (groupF o p).1.done.length ≤ 14 := by
  obtain ⟨a, b, c⟩ := groupL_ok o 14 0 (p + 1) (grp0 (o p 5)) 0 ⟨by simp, by simp⟩
  unfold groupF; generalize groupL o 14 0 (p + 1) (grp0 (o p 5)) = G at *; have hl := c.1; have hs := stampF_place o (G.2 + 2); unfold groupT; repeat' split
  all_goals (simp only [List.length_set]; refine ⟨?_, ?_, ?_⟩ <;> omega)
theorem propose_clock (g : GrpD) (m : Int) : (proposeD g m).1.clock ≤ max g.clock (g.clock + 1) := by
  unfold proposeD; repeat' split
  all_goals (simp only; omega)
theorem final_clock (g : GrpD) (m t s : Int) : (finalD g m t s).1.clock ≤ max g.clock t := by
  unfold finalD; repeat' split
  all_goals (simp only; omega)
theorem entAt_some {es : List EntD} {k : Int} (h : k.toNat < es.length) : es[k.toNat]? = some (entAt es k) := by
  unfold entAt; rw [List.getD_eq_getElem?_getD, List.getElem?_eq_getElem h]; rfl
set_option maxHeartbeats 8000000 in
theorem l91Group_T {bs : List Int} (h : RdOk bs) (p : Int) (h0 : 0 ≤ p) (h1 : p ≤ 999990000) :
    TC Tw.prog E 48 [gRd] 1 [(0, rdB bs p)] (.a ((grpT (groupF (pk bs) p).1).map .r)) [(0, rdB bs (groupF (pk bs) p).2)] := by
  have q1 := pk0 h (k := p) (n := 5) h0 (by omega)
  have q1' := pk_lt h (k := p) (n := 5) h0 (by omega) (by omega)
  have hg : isGrpB (pk bs p 5) = true := by simp [isGrpB]; omega
  refine TC.enter Tw.func48 rfl (by kernel_rfl) Tw.ntmps48 (by rw [Try.results48]) (by simp) (Fits.of (by simp [stoOk, Blk.live]) (by simp) (by simp)) ?_
  unfold groupF; (repeat' first | refine TW.seq ?_ | refine TW.block ?_ | ((first | refine TW.skip ?_ | refine TW.exit ?_ | refine TW.ret ?_); (try simp only [tQ, bQ, if_true, Nat.reduceEqDiff, reduceIte])) | (refine TW.reg Td.mixed rfl fun C K hC hK => ?_; simp; (repeat' first | refine And.intro ?_ ?_ | intro _ | refine iteI ?_ ?_ | (show (_ : Bool) = true; kernel_rfl) | (show _ ≤ _; first | omega | (simp; done) | (simp; omega)) | exact Or.inl rfl | (show _ < _; omega) | ((first | refine hC _ _ _ _ _ rfl (aC.rd rfl rfl (by simp; rfl) (by rfl) (by simp; rfl) (by exact pick_T h _ _ (by omega) (by omega)) (by simp) (by simp) (by simp) (by simp) (by simp) ?_) | refine hC _ _ _ _ _ rfl (aC.fresh rfl rfl [] (by simp; rfl) (by simp) 2 (by exact specGroupNew_T _ hg) (by simp) (by simp) (by simp) ?_)); simp)); all_goals (refine hK _ ?_; clear hC hK C K; try simp only [tQ, bQ])) | (refine TW.cond rfl ?_ ?_ <;> intro hc <;> (try (cases hc; done))))
  refine TW.loop (fun (x : Nat × Int × GrpD) => ⟨[(0, gRd), (2, .s (.ptr 1 0)), (3, .s (.ptr 2 0)), (5, gI .i64 (x.1 : Nat))], [(0, rdB bs x.2.1), (1, .box [.r (rI 0), .r (rI 0), .r .nil, .r .nil]), (2, .box [.r (rI x.2.2.id), .r (rI x.2.2.clock), .own 3, .own 4]), (3, entsB x.2.2.pend), (4, entsB x.2.2.done)], 5⟩)
    (fun x => x.1 ≤ 14 ∧ p + 1 ≤ x.2.1 ∧ x.2.1 ≤ p + 1 + 5 * x.1 ∧ grpN x.2.2 x.1 ∧ x.2.2.clock ≤ 4 * x.1 ∧ groupL (pk bs) (14 - x.1) x.1 x.2.1 x.2.2 = groupL (pk bs) 14 0 (p + 1) (grp0 (pk bs p 5))) (fun x => 14 - x.1) (0, p + 1, grp0 (pk bs p 5)) ⟨by simp, by simp, by simp, ⟨by simp, by simp⟩, by simp, rfl⟩
    (Wk.own [1, 4, 2, 3] [] (by simp) (by simp) (by simp) (by simp) (by simp)) fun x hx => ?_
  obtain ⟨i, q, g⟩ := x; obtain ⟨hi, r1, r2, hgn, hck, hst⟩ := hx; simp only at hi r1 r2 hgn hck hst ⊢
  have q0 : 0 ≤ q := by omega
  have q2 : q ≤ 999999000 := by omega
  have z1 := pk0 h (k := q) (n := 14) q0 (by omega)
  have z2 := pk_lt h (k := q) (n := 14) q0 (by omega) (by omega)
  have e2 : q + 1 + 1 = q + 2 := by omega
  have e3 : q + 2 + 1 = q + 3 := by omega
  have e4 : q + 3 + 1 = q + 4 := by omega
  have e5 : q + 4 + 1 = q + 5 := by omega
  have hle : grpLe g 4294967290 := by have := hgn.1; exact ⟨by omega, by omega⟩
  have hgc := hgn.2; by_cases hlt : (i : Int) < pk bs q 14
  · have hw1 : IntKind.i64.wrap ((i : Int) + 1) = (i : Int) + 1 := wrap_ok (by omega) (by omega)
    rw [show 14 - i = (14 - (i + 1)) + 1 by omega, groupL, if_pos hlt] at hst
    by_cases hc2 : pk bs (q + 2) 2 = 0
    · rw [if_pos hc2] at hst
      have hpc := propose_clock g (pk bs (q + 1) 8)
      cases hb : (proposeD g (pk bs (q + 1) 8)).2.2
      · rw [hb, if_neg (by simp)] at hst
        (repeat' first | refine TW.seq ?_ | refine TW.block ?_ | ((first | refine TW.skip ?_ | refine TW.exit ?_ | refine TW.ret ?_); (try simp only [tQ, bQ, if_true, Nat.reduceEqDiff, reduceIte])) | (refine TW.reg Td.mixed rfl fun C K hC hK => ?_; simp [hlt, hw1, e2, e3, hc2, hb]; (repeat' first | refine And.intro ?_ ?_ | intro _ | refine iteI ?_ ?_ | (show (_ : Bool) = true; kernel_rfl) | (show _ ≤ _; first | omega | (simp; done) | (simp; omega)) | exact Or.inl rfl | (show _ < _; omega) | ((first | refine hC _ _ _ _ _ rfl (aC.rd rfl rfl (by simp; rfl) (by rfl) (by simp; rfl) (by exact pick_T h _ _ (by omega) (by omega)) (by simp) (by simp) (by simp) (by simp) (by simp) ?_) | refine hC _ _ _ _ _ rfl (aC.lend rfl rfl [3, 4] 2 (by exact l11Propose_own g (pk bs (q + 1) 8) hle hgc) (by simp) (by simp) (by simp) (by simp) (by simp) (by simp) (by simp) ?_)); simp [hlt, hw1, e2, e3, hc2, hb])); all_goals (refine hK _ ?_; clear hC hK C K; try simp only [tQ, bQ])) | (refine TW.cond rfl ?_ ?_ <;> intro hc <;> (try (cases hc; done))))
        exact ⟨(i + 1, q + 3, g), ⟨by simp only; omega, by simp only; omega, by simp only; omega, hgn.mono (by omega), by simp only; omega, hst⟩, by simp only; omega, Wk.own [1, 2, 3, 4] [] (by simp) (by simp) (by simp) (by simp) (by simp)⟩
      · rw [hb, if_pos rfl] at hst
        have hpn := propose_N (pk bs (q + 1) 8) hgn; (repeat' first | refine TW.seq ?_ | refine TW.block ?_ | ((first | refine TW.skip ?_ | refine TW.exit ?_ | refine TW.ret ?_); (try simp only [tQ, bQ, if_true, Nat.reduceEqDiff, reduceIte])) | (refine TW.reg Td.mixed rfl fun C K hC hK => ?_; simp [hlt, hw1, e2, e3, hc2, hb]; (repeat' first | refine And.intro ?_ ?_ | intro _ | refine iteI ?_ ?_ | (show (_ : Bool) = true; kernel_rfl) | (show _ ≤ _; first | omega | (simp; done) | (simp; omega)) | exact Or.inl rfl | (show _ < _; omega) | ((first | refine hC _ _ _ _ _ rfl (aC.rd rfl rfl (by simp; rfl) (by rfl) (by simp; rfl) (by exact pick_T h _ _ (by omega) (by omega)) (by simp) (by simp) (by simp) (by simp) (by simp) ?_) | refine hC _ _ _ _ _ rfl (aC.lend rfl rfl [3, 4] 2 (by exact l11Propose_own g (pk bs (q + 1) 8) hle hgc) (by simp) (by simp) (by simp) (by simp) (by simp) (by simp) (by simp) ?_)); simp [hlt, hw1, e2, e3, hc2, hb])); all_goals (refine hK _ ?_; clear hC hK C K; try simp only [tQ, bQ])) | (refine TW.cond rfl ?_ ?_ <;> intro hc <;> (try (cases hc; done))))
        exact ⟨(i + 1, q + 3, (proposeD g (pk bs (q + 1) 8)).1), ⟨by simp only; omega, by simp only; omega, by simp only; omega, hpn, by simp only; omega, hst⟩, by simp only; omega, Wk.own [1, 2, 5, 6] [] (by simp) (by simp) (by simp) (by simp) (by simp)⟩
    · rw [if_neg hc2] at hst
      have z3 := pk0 h (k := q + 3) (n := g.clock + 3) (by omega) (by omega)
      have z3' := pk_lt h (k := q + 3) (n := g.clock + 3) (by omega) (by omega) (by omega)
      have w3 : IntKind.i64.wrap (g.clock + 3) = g.clock + 3 := wrap_ok (by omega) (by omega)
      have w4 : IntKind.i64.wrap (1 + pk bs (q + 3) (g.clock + 3)) = 1 + pk bs (q + 3) (g.clock + 3) := wrap_ok (by omega) (by omega)
      have hfc := final_clock g (pk bs (q + 1) 8) (1 + pk bs (q + 3) (g.clock + 3)) (pk bs (q + 4) 5); have hgN := hgn.mono (n' := 4294967290) (by omega)
      cases hb : (finalD g (pk bs (q + 1) 8) (1 + pk bs (q + 3) (g.clock + 3)) (pk bs (q + 4) 5)).2.2
      · rw [hb, if_neg (by simp)] at hst
        (repeat' first | refine TW.seq ?_ | refine TW.block ?_ | ((first | refine TW.skip ?_ | refine TW.exit ?_ | refine TW.ret ?_); (try simp only [tQ, bQ, if_true, Nat.reduceEqDiff, reduceIte])) | (refine TW.reg Td.mixed rfl fun C K hC hK => ?_; simp [hlt, hw1, e2, e3, e4, e5, hc2, hb, w3, w4]; (repeat' first | refine And.intro ?_ ?_ | intro _ | refine iteI ?_ ?_ | (show (_ : Bool) = true; kernel_rfl) | (show _ ≤ _; first | omega | (simp; done) | (simp; omega)) | exact Or.inl rfl | (show _ < _; omega) | ((first | refine hC _ _ _ _ _ rfl (aC.rd rfl rfl (by simp; rfl) (by rfl) (by simp; rfl) (by exact pick_T h _ _ (by omega) (by omega)) (by simp) (by simp) (by simp) (by simp) (by simp) ?_) | refine hC _ _ _ _ _ rfl (aC.lend rfl rfl [3, 4] 3 (by exact l11Final_own g (pk bs (q + 1) 8) (1 + pk bs (q + 3) (g.clock + 3)) (pk bs (q + 4) 5) hgN) (by simp) (by simp) (by simp) (by simp) (by simp) (by simp) (by simp) ?_)); simp [hlt, hw1, e2, e3, e4, e5, hc2, hb, w3, w4])); all_goals (refine hK _ ?_; clear hC hK C K; try simp only [tQ, bQ])) | (refine TW.cond rfl ?_ ?_ <;> intro hc <;> (try (cases hc; done))))
        exact ⟨(i + 1, q + 5, g), ⟨by simp only; omega, by simp only; omega, by simp only; omega, hgn.mono (by omega), by simp only; omega, hst⟩, by simp only; omega, Wk.own [1, 2, 3, 4] [] (by simp) (by simp) (by simp) (by simp) (by simp)⟩
      · rw [hb, if_pos rfl] at hst
        have hfn := final_N (pk bs (q + 1) 8) (1 + pk bs (q + 3) (g.clock + 3)) (pk bs (q + 4) 5) hgn; (repeat' first | refine TW.seq ?_ | refine TW.block ?_ | ((first | refine TW.skip ?_ | refine TW.exit ?_ | refine TW.ret ?_); (try simp only [tQ, bQ, if_true, Nat.reduceEqDiff, reduceIte])) | (refine TW.reg Td.mixed rfl fun C K hC hK => ?_; simp [hlt, hw1, e2, e3, e4, e5, hc2, hb, w3, w4]; (repeat' first | refine And.intro ?_ ?_ | intro _ | refine iteI ?_ ?_ | (show (_ : Bool) = true; kernel_rfl) | (show _ ≤ _; first | omega | (simp; done) | (simp; omega)) | exact Or.inl rfl | (show _ < _; omega) | ((first | refine hC _ _ _ _ _ rfl (aC.rd rfl rfl (by simp; rfl) (by rfl) (by simp; rfl) (by exact pick_T h _ _ (by omega) (by omega)) (by simp) (by simp) (by simp) (by simp) (by simp) ?_) | refine hC _ _ _ _ _ rfl (aC.lend rfl rfl [3, 4] 3 (by exact l11Final_own g (pk bs (q + 1) 8) (1 + pk bs (q + 3) (g.clock + 3)) (pk bs (q + 4) 5) hgN) (by simp) (by simp) (by simp) (by simp) (by simp) (by simp) (by simp) ?_)); simp [hlt, hw1, e2, e3, e4, e5, hc2, hb, w3, w4])); all_goals (refine hK _ ?_; clear hC hK C K; try simp only [tQ, bQ])) | (refine TW.cond rfl ?_ ?_ <;> intro hc <;> (try (cases hc; done))))
        exact ⟨(i + 1, q + 5, (finalD g (pk bs (q + 1) 8) (1 + pk bs (q + 3) (g.clock + 3)) (pk bs (q + 4) 5)).1), ⟨by simp only; omega, by simp only; omega, by simp only; omega, hfn.mono (by omega), by simp only; omega, hst⟩, by simp only; omega, Wk.own [1, 2, 5, 6] [] (by simp) (by simp) (by simp) (by simp) (by simp)⟩
  · have hst2 : groupL (pk bs) (14 - i) i q g = (g, q + 1) := by
      rcases hn : 14 - i with _ | n
      · rfl
      · rw [groupL, if_neg hlt]
    rw [← hst, hst2]; simp only
    unfold groupT; have f2 : q + 1 + 2 = q + 3 := by omega
    have f3 : q + 1 + 3 = q + 4 := by omega
    have hpl : g.pend.length ≤ 14 := by have := hgn.1; omega
    have hdl : g.done.length ≤ 14 := by have := hgn.1; omega
    by_cases c0 : pk bs (q + 1) 18 = 0
    · rw [if_pos c0]
      have y1 := pk0 h (k := q + 2) (n := 4) (by omega) (by omega)
      have y2 := pk_lt h (k := q + 2) (n := 4) (by omega) (by omega) (by omega)
      have ht := tbl_some (xs := [0, 998, 999, 1000]) y1 (by simpa using y2)
      simp only [List.map_cons, List.map_nil] at ht; (repeat' first | refine TW.seq ?_ | refine TW.block ?_ | ((first | refine TW.skip ?_ | refine TW.exit ?_ | refine TW.ret ?_); (try simp only [tQ, bQ, if_true, Nat.reduceEqDiff, reduceIte])) | (refine TW.reg Td.mixed rfl fun C K hC hK => ?_; simp [hlt, e2, e3, f2, c0, ht, y1, grpT]; (repeat' first | refine And.intro ?_ ?_ | intro _ | refine iteI ?_ ?_ | (show (_ : Bool) = true; kernel_rfl) | (show _ ≤ _; first | omega | (simp; done) | (simp; omega)) | exact Or.inl rfl | (show _ < _; omega) | ((first | refine hC _ _ _ _ _ rfl (aC.rd rfl rfl (by simp; rfl) (by rfl) (by simp; rfl) (by exact pick_T h _ _ (by omega) (by omega)) (by simp) (by simp) (by simp) (by simp) (by simp) ?_)); simp [hlt, e2, e3, f2, c0, ht, y1, grpT])); all_goals (refine hK _ ?_; clear hC hK C K; try simp only [tQ, bQ])) | (refine TW.cond rfl ?_ ?_ <;> intro hc <;> (try (cases hc; done))))
      refine Rets.own [] [3, 4] (by simp; rfl) (by simp [grpT, e2, f2]) (by simp) (by simp) (by simp [grpT, e2, f2]) (by simp)
    · rw [if_neg c0]
      by_cases c1 : pk bs (q + 1) 18 = 1
      · rw [if_pos c1]
        have hP0 : ¬ (g.pend.length = 0) ∨ g.pend.length = 0 := by omega
        rcases hP0 with hP | hP
        · rw [if_neg hP]
          have hP' : 0 < g.pend.length := by omega
          simp only [e2, f2]; have y1 := pk0 h (k := q + 2) (n := g.pend.length) (by omega) (by omega)
          have y2 := pk_lt h (k := q + 2) (n := g.pend.length) (by omega) (by omega) (by omega)
          have he := entAt_some (es := g.pend) (k := pk bs (q + 2) g.pend.length) (by omega)
          have hS := l91Stamp_T (E := E) h (q + 3) (by omega) (by omega)
          generalize stampF (pk bs) (q + 3) = S at *; generalize entAt g.pend (pk bs (q + 2) g.pend.length) = e at *; generalize hKx : pk bs (q + 2) g.pend.length = Kx at *; (repeat' first | refine TW.seq ?_ | refine TW.block ?_ | ((first | refine TW.skip ?_ | refine TW.exit ?_ | refine TW.ret ?_); (try simp only [tQ, bQ, if_true, Nat.reduceEqDiff, reduceIte])) | (refine TW.reg Td.mixed rfl fun C K hC hK => ?_; simp [hlt, e2, e3, c1, hP', hKx, y1, he, entT, grpT]; (repeat' first | refine And.intro ?_ ?_ | intro _ | refine iteI ?_ ?_ | (show (_ : Bool) = true; kernel_rfl) | (show _ ≤ _; first | omega | (simp; done) | (simp; omega)) | exact Or.inl rfl | (show _ < _; omega) | ((first | refine hC _ _ _ _ _ rfl (aC.rd rfl rfl (by simp; rfl) (by rfl) (by simp; rfl) (by exact pick_T h _ _ (by omega) (by omega)) (by simp) (by simp) (by simp) (by simp) (by simp) ?_) | refine hC _ _ _ _ _ rfl (aC.rd rfl rfl (by simp; rfl) (by rfl) (by simp; rfl) (by exact hS) (by simp) (by simp) (by simp) (by simp) (by simp) ?_)); simp [hlt, e2, e3, c1, hP', hKx, y1, he, entT, grpT])); all_goals (refine hK _ ?_; clear hC hK C K; try simp only [tQ, bQ])) | (refine TW.cond rfl ?_ ?_ <;> intro hc <;> (try (cases hc; done))))
          refine Rets.own [] [3, 4] (by simp; rfl) (by simp [grpT, entT]) (by simp) (by simp) (by simp [grpT, entT]) (by simp)
        · rw [if_pos hP]
          (repeat' first | refine TW.seq ?_ | refine TW.block ?_ | ((first | refine TW.skip ?_ | refine TW.exit ?_ | refine TW.ret ?_); (try simp only [tQ, bQ, if_true, Nat.reduceEqDiff, reduceIte])) | (refine TW.reg Td.mixed rfl fun C K hC hK => ?_; simp [hlt, e2, c1, hP, grpT]; (repeat' first | refine And.intro ?_ ?_ | intro _ | refine iteI ?_ ?_ | (show (_ : Bool) = true; kernel_rfl) | (show _ ≤ _; first | omega | (simp; done) | (simp; omega)) | exact Or.inl rfl | (show _ < _; omega) | ((first | refine hC _ _ _ _ _ rfl (aC.rd rfl rfl (by simp; rfl) (by rfl) (by simp; rfl) (by exact pick_T h _ _ (by omega) (by omega)) (by simp) (by simp) (by simp) (by simp) (by simp) ?_)); simp [hlt, e2, c1, hP, grpT])); all_goals (refine hK _ ?_; clear hC hK C K; try simp only [tQ, bQ])) | (refine TW.cond rfl ?_ ?_ <;> intro hc <;> (try (cases hc; done))))
          refine Rets.own [] [3, 4] (by simp; rfl) (by simp [grpT, e2]) (by simp) (by simp) (by simp [grpT, e2]) (by simp)
      · rw [if_neg c1]
        by_cases c2 : pk bs (q + 1) 18 = 2
        · rw [if_pos c2]
          by_cases hP : g.pend.length = 0
          · rw [if_pos hP]
            (repeat' first | refine TW.seq ?_ | refine TW.block ?_ | ((first | refine TW.skip ?_ | refine TW.exit ?_ | refine TW.ret ?_); (try simp only [tQ, bQ, if_true, Nat.reduceEqDiff, reduceIte])) | (refine TW.reg Td.mixed rfl fun C K hC hK => ?_; simp [hlt, e2, c2, hP, grpT]; (repeat' first | refine And.intro ?_ ?_ | intro _ | refine iteI ?_ ?_ | (show (_ : Bool) = true; kernel_rfl) | (show _ ≤ _; first | omega | (simp; done) | (simp; omega)) | exact Or.inl rfl | (show _ < _; omega) | ((first | refine hC _ _ _ _ _ rfl (aC.rd rfl rfl (by simp; rfl) (by rfl) (by simp; rfl) (by exact pick_T h _ _ (by omega) (by omega)) (by simp) (by simp) (by simp) (by simp) (by simp) ?_)); simp [hlt, e2, c2, hP, grpT])); all_goals (refine hK _ ?_; clear hC hK C K; try simp only [tQ, bQ])) | (refine TW.cond rfl ?_ ?_ <;> intro hc <;> (try (cases hc; done))))
            refine Rets.own [] [3, 4] (by simp; rfl) (by simp [grpT, e2]) (by simp) (by simp) (by simp [grpT, e2]) (by simp)
          · rw [if_neg hP]
            have hP' : 0 < g.pend.length := by omega
            simp only [e2, f2]; have y1 := pk0 h (k := q + 2) (n := g.pend.length) (by omega) (by omega)
            have y2 := pk_lt h (k := q + 2) (n := g.pend.length) (by omega) (by omega) (by omega)
            have he := entAt_some (es := g.pend) (k := pk bs (q + 2) g.pend.length) (by omega)
            generalize entAt g.pend (pk bs (q + 2) g.pend.length) = e at *; generalize hKx : pk bs (q + 2) g.pend.length = Kx at *; (repeat' first | refine TW.seq ?_ | refine TW.block ?_ | ((first | refine TW.skip ?_ | refine TW.exit ?_ | refine TW.ret ?_); (try simp only [tQ, bQ, if_true, Nat.reduceEqDiff, reduceIte])) | (refine TW.reg Td.mixed rfl fun C K hC hK => ?_; simp [hlt, e2, e3, c2, hP', hKx, y1, he, entT, grpT]; (repeat' first | refine And.intro ?_ ?_ | intro _ | refine iteI ?_ ?_ | (show (_ : Bool) = true; kernel_rfl) | (show _ ≤ _; first | omega | (simp; done) | (simp; omega)) | exact Or.inl rfl | (show _ < _; omega) | ((first | refine hC _ _ _ _ _ rfl (aC.rd rfl rfl (by simp; rfl) (by rfl) (by simp; rfl) (by exact pick_T h _ _ (by omega) (by omega)) (by simp) (by simp) (by simp) (by simp) (by simp) ?_)); simp [hlt, e2, e3, c2, hP', hKx, y1, he, entT, grpT])); all_goals (refine hK _ ?_; clear hC hK C K; try simp only [tQ, bQ])) | (refine TW.cond rfl ?_ ?_ <;> intro hc <;> (try (cases hc; done))))
            refine Rets.own [] [3, 4] (by simp; rfl) (by simp [grpT, entT]) (by simp) (by simp) (by simp [grpT, entT]) (by simp)
        · rw [if_neg c2]
          by_cases c3 : pk bs (q + 1) 18 = 3
          · rw [if_pos c3]
            by_cases hP : g.done.length = 0
            · rw [if_pos hP]
              (repeat' first | refine TW.seq ?_ | refine TW.block ?_ | ((first | refine TW.skip ?_ | refine TW.exit ?_ | refine TW.ret ?_); (try simp only [tQ, bQ, if_true, Nat.reduceEqDiff, reduceIte])) | (refine TW.reg Td.mixed rfl fun C K hC hK => ?_; simp [hlt, e2, c3, hP, grpT]; (repeat' first | refine And.intro ?_ ?_ | intro _ | refine iteI ?_ ?_ | (show (_ : Bool) = true; kernel_rfl) | (show _ ≤ _; first | omega | (simp; done) | (simp; omega)) | exact Or.inl rfl | (show _ < _; omega) | ((first | refine hC _ _ _ _ _ rfl (aC.rd rfl rfl (by simp; rfl) (by rfl) (by simp; rfl) (by exact pick_T h _ _ (by omega) (by omega)) (by simp) (by simp) (by simp) (by simp) (by simp) ?_)); simp [hlt, e2, c3, hP, grpT])); all_goals (refine hK _ ?_; clear hC hK C K; try simp only [tQ, bQ])) | (refine TW.cond rfl ?_ ?_ <;> intro hc <;> (try (cases hc; done))))
              refine Rets.own [] [3, 4] (by simp; rfl) (by simp [grpT, e2]) (by simp) (by simp) (by simp [grpT, e2]) (by simp)
            · rw [if_neg hP]
              have hP' : 0 < g.done.length := by omega
              simp only [e2, f2, f3]; have y1 := pk0 h (k := q + 2) (n := g.done.length) (by omega) (by omega)
              have y2 := pk_lt h (k := q + 2) (n := g.done.length) (by omega) (by omega) (by omega)
              have he := entAt_some (es := g.done) (k := pk bs (q + 2) g.done.length) (by omega)
              generalize entAt g.done (pk bs (q + 2) g.done.length) = e at *; generalize hKx : pk bs (q + 2) g.done.length = Kx at *; (repeat' first | refine TW.seq ?_ | refine TW.block ?_ | ((first | refine TW.skip ?_ | refine TW.exit ?_ | refine TW.ret ?_); (try simp only [tQ, bQ, if_true, Nat.reduceEqDiff, reduceIte])) | (refine TW.reg Td.mixed rfl fun C K hC hK => ?_; simp [hlt, e2, e3, e4, c3, hP', hKx, y1, he, entT, grpT]; (repeat' first | refine And.intro ?_ ?_ | intro _ | refine iteI ?_ ?_ | (show (_ : Bool) = true; kernel_rfl) | (show _ ≤ _; first | omega | (simp; done) | (simp; omega)) | exact Or.inl rfl | (show _ < _; omega) | ((first | refine hC _ _ _ _ _ rfl (aC.rd rfl rfl (by simp; rfl) (by rfl) (by simp; rfl) (by exact pick_T h _ _ (by omega) (by omega)) (by simp) (by simp) (by simp) (by simp) (by simp) ?_)); simp [hlt, e2, e3, e4, c3, hP', hKx, y1, he, entT, grpT])); all_goals (refine hK _ ?_; clear hC hK C K; try simp only [tQ, bQ])) | (refine TW.cond rfl ?_ ?_ <;> intro hc <;> (try (cases hc; done))))
              refine Rets.own [] [3, 4] (by simp; rfl) (by simp [grpT, entT]) (by simp) (by simp) (by simp [grpT, entT]) (by simp)
          · rw [if_neg c3]
            by_cases c4 : pk bs (q + 1) 18 = 4
            · rw [if_pos c4]
              have y1 := pk0 h (k := q + 2) (n := 7) (by omega) (by omega)
              have y2 := pk_lt h (k := q + 2) (n := 7) (by omega) (by omega) (by omega)
              have w5 : IntKind.i64.wrap (pk bs (q + 2) 7 - 1) = pk bs (q + 2) 7 - 1 := wrap_ok (by omega) (by omega)
              (repeat' first | refine TW.seq ?_ | refine TW.block ?_ | ((first | refine TW.skip ?_ | refine TW.exit ?_ | refine TW.ret ?_); (try simp only [tQ, bQ, if_true, Nat.reduceEqDiff, reduceIte])) | (refine TW.reg Td.mixed rfl fun C K hC hK => ?_; simp [hlt, e2, e3, f2, c0, c1, c2, c3, c4, w5, grpT]; (repeat' first | refine And.intro ?_ ?_ | intro _ | refine iteI ?_ ?_ | (show (_ : Bool) = true; kernel_rfl) | (show _ ≤ _; first | omega | (simp; done) | (simp; omega)) | exact Or.inl rfl | (show _ < _; omega) | ((first | refine hC _ _ _ _ _ rfl (aC.rd rfl rfl (by simp; rfl) (by rfl) (by simp; rfl) (by exact pick_T h _ _ (by omega) (by omega)) (by simp) (by simp) (by simp) (by simp) (by simp) ?_)); simp [hlt, e2, e3, f2, c0, c1, c2, c3, c4, w5, grpT])); all_goals (refine hK _ ?_; clear hC hK C K; try simp only [tQ, bQ])) | (refine TW.cond rfl ?_ ?_ <;> intro hc <;> (try (cases hc; done))))
              refine Rets.own [] [3, 4] (by simp; rfl) (by simp [grpT, e2, f2]) (by simp) (by simp) (by simp [grpT, e2, f2]) (by simp)
            · rw [if_neg c4]
              (repeat' first | refine TW.seq ?_ | refine TW.block ?_ | ((first | refine TW.skip ?_ | refine TW.exit ?_ | refine TW.ret ?_); (try simp only [tQ, bQ, if_true, Nat.reduceEqDiff, reduceIte])) | (refine TW.reg Td.mixed rfl fun C K hC hK => ?_; simp [hlt, e2, e3, c0, c1, c2, c3, c4, grpT]; (repeat' first | refine And.intro ?_ ?_ | intro _ | refine iteI ?_ ?_ | (show (_ : Bool) = true; kernel_rfl) | (show _ ≤ _; first | omega | (simp; done) | (simp; omega)) | exact Or.inl rfl | (show _ < _; omega) | ((first | refine hC _ _ _ _ _ rfl (aC.rd rfl rfl (by simp; rfl) (by rfl) (by simp; rfl) (by exact pick_T h _ _ (by omega) (by omega)) (by simp) (by simp) (by simp) (by simp) (by simp) ?_)); simp [hlt, e2, e3, c0, c1, c2, c3, c4, grpT])); all_goals (refine hK _ ?_; clear hC hK C K; try simp only [tQ, bQ])) | (refine TW.cond rfl ?_ ?_ <;> intro hc <;> (try (cases hc; done))))
              refine Rets.own [] [3, 4] (by simp; rfl) (by simp [grpT, e2]) (by simp) (by simp) (by simp [grpT, e2]) (by simp)
end Go.Proofs.Ytjklkppncmhehaa.T
namespace Go.Proofs.Ytjklkppncmhehaa.T
open Go Go.RowKit
set_option maxRecDepth 100000
set_option maxHeartbeats 4000000
variable {E : List PanicEntry → World → Prop}
def systemG (o : Int → Int → Int) (G : List GrpD) (p : Int) : List GrpD × Int :=
  if o (p + 1) 16 = 0 then (G.take (o p 5).toNat, p + 2)
  else if o (p + 1) 16 = 1 then (G.set (o p 5).toNat (groupF o (p + 2)).1, (groupF o (p + 2)).2)
  else if o (p + 1) 16 = 2 then if (gAt G (o p 5).toNat).done.length = 0 then (G, p + 2) else (G.set (o p 5).toNat ⟨(gAt G (o p 5).toNat).id, (gAt G (o p 5).toNat).clock, (gAt G (o p 5).toNat).pend, (gAt G (o p 5).toNat).done.drop 1⟩, p + 2)
  else if o (p + 1) 16 = 3 then (G.set (o p 5).toNat ⟨(o p 5 + 1).tmod 5, (gAt G (o p 5).toNat).clock, (gAt G (o p 5).toNat).pend, (gAt G (o p 5).toNat).done⟩, p + 2)
  else (G, p + 2)
def systemF (o : Int → Int → Int) (p : Int) : List GrpD × Int := systemG o (worldF o p).1.groups (worldF o p).2
theorem systemF_ok (o : Int → Int → Int) (p : Int) : sysLe (systemF o p).1 400 ∧ (systemF o p).1.length ≤ 5 ∧ p + 3 ≤ (systemF o p).2 ∧ (systemF o p).2 ≤ p + 700 := by
  obtain ⟨a, b, c⟩ := worldF_ok o p; have h5 := c.g5; have hg : ∀ g ∈ (worldF o p).1.groups, grpLe g 400 := fun g hg => by have := (c.grp g hg).1; exact ⟨by omega, by omega⟩
  have hgf := groupF_ok o ((worldF o p).2 + 2); have hat : grpLe (gAt (worldF o p).1.groups (o (worldF o p).2 5).toNat) 400 := by
    by_cases h : (o (worldF o p).2 5).toNat < (worldF o p).1.groups.length
    · exact hg _ (gAt_mem h)
    · unfold gAt
      rw [List.getD_eq_getElem?_getD, List.getElem?_eq_none (by omega)]
      exact ⟨by simp, by simp⟩
  unfold systemF systemG; generalize (worldF o p).1.groups = G at *; generalize (worldF o p).2 = q at *; have hset : ∀ (i : Nat) (x : GrpD), grpLe x 400 → sysLe (G.set i x) 400 := fun i x hx => ⟨by simp; omega, fun g hm => by
    rcases mem_set hm with rfl | hm
    · exact hx
    · exact hg g hm⟩
  split
  · exact ⟨⟨by simp; omega, fun g hm => hg g (List.mem_of_mem_take hm)⟩, by simp; omega, by simp only; omega, by simp only; omega⟩
  · split
    · exact ⟨hset _ _ ⟨by have := hgf.2.2; omega, by have := hgf.2.2; omega⟩, by simp; omega, by simp only; omega, by simp only; omega⟩
    · split
      · split
        · exact ⟨⟨by simp only; omega, hg⟩, by simp only; omega, by simp only; omega, by simp only; omega⟩
        · exact ⟨hset _ _ ⟨hat.1, by have := hat.2; simp only [List.length_drop]; omega⟩, by simp; omega, by simp only; omega, by simp only; omega⟩
      · split
        · exact ⟨hset _ _ hat, by simp; omega, by simp only; omega, by simp only; omega⟩
        · exact ⟨⟨by simp only; omega, hg⟩, by simp only; omega, by simp only; omega, by simp only; omega⟩
theorem l91System_T {bs : List Int} (h : RdOk bs) (p : Int) (h0 : 0 ≤ p) (h1 : p ≤ 999900000) :
    TC Tw.prog E 23 [gRd] 1 [(0, rdB bs p)] (.p [gR (sysT (systemF (pk bs) p).1), gR (setsT (worldF (pk bs) p).1.sets)]) [(0, rdB bs (systemF (pk bs) p).2)] := by
  obtain ⟨wa, wb, wc⟩ := worldF_ok (pk bs) p; have hW := l92World_T (E := E) h p h0 (by omega)
  have h5 := wc.g5; have hcp := ShpN.sys (wc.mono (by omega))
  unfold systemF; generalize worldF (pk bs) p = V at *; obtain ⟨W, q⟩ := V; simp only at *
  have y1 := pk0 h (k := q) (n := 5) (by omega) (by omega)
  have y2 := pk_lt h (k := q) (n := 5) (by omega) (by omega) (by omega)
  have e2 : q + 1 + 1 = q + 2 := by omega
  have hG := gAt_some (gs := W.groups) (i := (pk bs q 5).toNat) (by omega)
  have wm : IntKind.i64.wrap (pk bs q 5 + 1) = pk bs q 5 + 1 := wrap_ok (by omega) (by omega)
  have hgr := l91Group_T (E := E) h (q + 2) (by omega) (by omega)
  unfold systemG; generalize gAt W.groups (pk bs q 5).toNat = G at *; generalize groupF (pk bs) (q + 2) = GF at *; generalize hkx : pk bs q 5 = kx at *; refine TC.enter Tw.func23 rfl (by kernel_rfl) Tw.ntmps23 (by rw [Try.results23]) (by simp) (Fits.of (by simp [stoOk, Blk.live]) (by simp) (by simp)) ?_
  by_cases c0 : pk bs (q + 1) 16 = 0
  · rw [if_pos c0]
    (repeat' first | refine TW.seq ?_ | refine TW.block ?_ | ((first | refine TW.skip ?_ | refine TW.exit ?_ | refine TW.ret ?_); (try simp only [tQ, bQ, if_true, Nat.reduceEqDiff, reduceIte])) | (refine TW.reg Td.mixed rfl fun C K hC hK => ?_; simp [wT, e2, hkx, y1, c0]; (repeat' first | refine And.intro ?_ ?_ | intro _ | refine iteI ?_ ?_ | (show (_ : Bool) = true; kernel_rfl) | (show _ ≤ _; first | omega | (simp; done) | (simp; omega)) | exact Or.inl rfl | (show _ < _; omega) | ((first | refine hC _ _ _ _ _ rfl (aC.rd rfl rfl (by simp; rfl) (by rfl) (by simp; rfl) (by exact hW) (by simp) (by simp) (by simp) (by simp) (by simp) ?_) | refine hC _ _ _ _ _ rfl (aC.fresh rfl rfl [] (by simp; rfl) (by simp) 1 (by exact l13Copy_T W.groups hcp) (by simp) (by simp) (by simp) ?_) | refine hC _ _ _ _ _ rfl (aC.rd rfl rfl (by simp; rfl) (by rfl) (by simp; rfl) (by exact pick_T h _ _ (by omega) (by omega)) (by simp) (by simp) (by simp) (by simp) (by simp) ?_)); simp [wT, e2, hkx, y1, c0])); all_goals (refine hK _ ?_; clear hC hK C K; try simp only [tQ, bQ])) | (refine TW.cond rfl ?_ ?_ <;> intro hc <;> (try (cases hc; done))))
    refine Rets.own [] [] (by simp; rfl) (by simp) (by simp) (by simp) (by simp) (by simp)
  · rw [if_neg c0]
    by_cases c1 : pk bs (q + 1) 16 = 1
    · rw [if_pos c1]
      (repeat' first | refine TW.seq ?_ | refine TW.block ?_ | ((first | refine TW.skip ?_ | refine TW.exit ?_ | refine TW.ret ?_); (try simp only [tQ, bQ, if_true, Nat.reduceEqDiff, reduceIte])) | (refine TW.reg Td.mixed rfl fun C K hC hK => ?_; simp [wT, e2, hkx, y1, c1, hG, grpT]; (repeat' first | refine And.intro ?_ ?_ | intro _ | refine iteI ?_ ?_ | (show (_ : Bool) = true; kernel_rfl) | (show _ ≤ _; first | omega | (simp; done) | (simp; omega)) | exact Or.inl rfl | (show _ < _; omega) | ((first | refine hC _ _ _ _ _ rfl (aC.rd rfl rfl (by simp; rfl) (by rfl) (by simp; rfl) (by exact hW) (by simp) (by simp) (by simp) (by simp) (by simp) ?_) | refine hC _ _ _ _ _ rfl (aC.fresh rfl rfl [] (by simp; rfl) (by simp) 1 (by exact l13Copy_T W.groups hcp) (by simp) (by simp) (by simp) ?_) | refine hC _ _ _ _ _ rfl (aC.rd rfl rfl (by simp; rfl) (by rfl) (by simp; rfl) (by exact pick_T h _ _ (by omega) (by omega)) (by simp) (by simp) (by simp) (by simp) (by simp) ?_) | refine hC _ _ _ _ _ rfl (aC.rd rfl rfl (by simp; rfl) (by rfl) (by simp; rfl) (by exact hgr) (by simp) (by simp) (by simp) (by simp) (by simp) ?_)); simp [wT, e2, hkx, y1, c1, hG, grpT])); all_goals (refine hK _ ?_; clear hC hK C K; try simp only [tQ, bQ])) | (refine TW.cond rfl ?_ ?_ <;> intro hc <;> (try (cases hc; done))))
      refine Rets.own [] [2] (by simp; rfl) (by simp [grpT]) (by simp) (by simp) (by simp [grpT]) (by simp)
    · rw [if_neg c1]
      by_cases c2 : pk bs (q + 1) 16 = 2
      · rw [if_pos c2]
        by_cases hP : G.done.length = 0
        · rw [if_pos hP]
          (repeat' first | refine TW.seq ?_ | refine TW.block ?_ | ((first | refine TW.skip ?_ | refine TW.exit ?_ | refine TW.ret ?_); (try simp only [tQ, bQ, if_true, Nat.reduceEqDiff, reduceIte])) | (refine TW.reg Td.mixed rfl fun C K hC hK => ?_; simp [wT, e2, hkx, y1, c2, hG, grpT, hP]; (repeat' first | refine And.intro ?_ ?_ | intro _ | refine iteI ?_ ?_ | (show (_ : Bool) = true; kernel_rfl) | (show _ ≤ _; first | omega | (simp; done) | (simp; omega)) | exact Or.inl rfl | (show _ < _; omega) | ((first | refine hC _ _ _ _ _ rfl (aC.rd rfl rfl (by simp; rfl) (by rfl) (by simp; rfl) (by exact hW) (by simp) (by simp) (by simp) (by simp) (by simp) ?_) | refine hC _ _ _ _ _ rfl (aC.fresh rfl rfl [] (by simp; rfl) (by simp) 1 (by exact l13Copy_T W.groups hcp) (by simp) (by simp) (by simp) ?_) | refine hC _ _ _ _ _ rfl (aC.rd rfl rfl (by simp; rfl) (by rfl) (by simp; rfl) (by exact pick_T h _ _ (by omega) (by omega)) (by simp) (by simp) (by simp) (by simp) (by simp) ?_)); simp [wT, e2, hkx, y1, c2, hG, grpT, hP])); all_goals (refine hK _ ?_; clear hC hK C K; try simp only [tQ, bQ])) | (refine TW.cond rfl ?_ ?_ <;> intro hc <;> (try (cases hc; done))))
          refine Rets.own [] [2] (by simp; rfl) (by simp) (by simp) (by simp) (by simp) (by simp)
        · rw [if_neg hP]
          have hP' : 0 < G.done.length := by omega
          (repeat' first | refine TW.seq ?_ | refine TW.block ?_ | ((first | refine TW.skip ?_ | refine TW.exit ?_ | refine TW.ret ?_); (try simp only [tQ, bQ, if_true, Nat.reduceEqDiff, reduceIte])) | (refine TW.reg Td.mixed rfl fun C K hC hK => ?_; simp [wT, e2, hkx, y1, c2, hG, grpT, hP']; (repeat' first | refine And.intro ?_ ?_ | intro _ | refine iteI ?_ ?_ | (show (_ : Bool) = true; kernel_rfl) | (show _ ≤ _; first | omega | (simp; done) | (simp; omega)) | exact Or.inl rfl | (show _ < _; omega) | ((first | refine hC _ _ _ _ _ rfl (aC.rd rfl rfl (by simp; rfl) (by rfl) (by simp; rfl) (by exact hW) (by simp) (by simp) (by simp) (by simp) (by simp) ?_) | refine hC _ _ _ _ _ rfl (aC.fresh rfl rfl [] (by simp; rfl) (by simp) 1 (by exact l13Copy_T W.groups hcp) (by simp) (by simp) (by simp) ?_) | refine hC _ _ _ _ _ rfl (aC.rd rfl rfl (by simp; rfl) (by rfl) (by simp; rfl) (by exact pick_T h _ _ (by omega) (by omega)) (by simp) (by simp) (by simp) (by simp) (by simp) ?_)); simp [wT, e2, hkx, y1, c2, hG, grpT, hP'])); all_goals (refine hK _ ?_; clear hC hK C K; try simp only [tQ, bQ])) | (refine TW.cond rfl ?_ ?_ <;> intro hc <;> (try (cases hc; done))))
          refine Rets.own [] [2] (by simp; rfl) (by simp [grpT, entsT]) (by simp) (by simp) (by simp [grpT, entsT]) (by simp)
      · rw [if_neg c2]
        by_cases c3 : pk bs (q + 1) 16 = 3
        · rw [if_pos c3]
          (repeat' first | refine TW.seq ?_ | refine TW.block ?_ | ((first | refine TW.skip ?_ | refine TW.exit ?_ | refine TW.ret ?_); (try simp only [tQ, bQ, if_true, Nat.reduceEqDiff, reduceIte])) | (refine TW.reg Td.mixed rfl fun C K hC hK => ?_; simp [wT, e2, hkx, y1, c3, hG, grpT, wm]; (repeat' first | refine And.intro ?_ ?_ | intro _ | refine iteI ?_ ?_ | (show (_ : Bool) = true; kernel_rfl) | (show _ ≤ _; first | omega | (simp; done) | (simp; omega)) | exact Or.inl rfl | (show _ < _; omega) | ((first | refine hC _ _ _ _ _ rfl (aC.rd rfl rfl (by simp; rfl) (by rfl) (by simp; rfl) (by exact hW) (by simp) (by simp) (by simp) (by simp) (by simp) ?_) | refine hC _ _ _ _ _ rfl (aC.fresh rfl rfl [] (by simp; rfl) (by simp) 1 (by exact l13Copy_T W.groups hcp) (by simp) (by simp) (by simp) ?_) | refine hC _ _ _ _ _ rfl (aC.rd rfl rfl (by simp; rfl) (by rfl) (by simp; rfl) (by exact pick_T h _ _ (by omega) (by omega)) (by simp) (by simp) (by simp) (by simp) (by simp) ?_)); simp [wT, e2, hkx, y1, c3, hG, grpT, wm])); all_goals (refine hK _ ?_; clear hC hK C K; try simp only [tQ, bQ])) | (refine TW.cond rfl ?_ ?_ <;> intro hc <;> (try (cases hc; done))))
          refine Rets.own [] [2] (by simp; rfl) (by simp [grpT]) (by simp) (by simp) (by simp [grpT]) (by simp)
        · rw [if_neg c3]
          (repeat' first | refine TW.seq ?_ | refine TW.block ?_ | ((first | refine TW.skip ?_ | refine TW.exit ?_ | refine TW.ret ?_); (try simp only [tQ, bQ, if_true, Nat.reduceEqDiff, reduceIte])) | (refine TW.reg Td.mixed rfl fun C K hC hK => ?_; simp [wT, e2, hkx, y1, c0, c1, c2, c3]; (repeat' first | refine And.intro ?_ ?_ | intro _ | refine iteI ?_ ?_ | (show (_ : Bool) = true; kernel_rfl) | (show _ ≤ _; first | omega | (simp; done) | (simp; omega)) | exact Or.inl rfl | (show _ < _; omega) | ((first | refine hC _ _ _ _ _ rfl (aC.rd rfl rfl (by simp; rfl) (by rfl) (by simp; rfl) (by exact hW) (by simp) (by simp) (by simp) (by simp) (by simp) ?_) | refine hC _ _ _ _ _ rfl (aC.fresh rfl rfl [] (by simp; rfl) (by simp) 1 (by exact l13Copy_T W.groups hcp) (by simp) (by simp) (by simp) ?_) | refine hC _ _ _ _ _ rfl (aC.rd rfl rfl (by simp; rfl) (by rfl) (by simp; rfl) (by exact pick_T h _ _ (by omega) (by omega)) (by simp) (by simp) (by simp) (by simp) (by simp) ?_)); simp [wT, e2, hkx, y1, c0, c1, c2, c3])); all_goals (refine hK _ ?_; clear hC hK C K; try simp only [tQ, bQ])) | (refine TW.cond rfl ?_ ?_ <;> intro hc <;> (try (cases hc; done))))
          refine Rets.own [] [2] (by simp; rfl) (by simp) (by simp) (by simp) (by simp) (by simp)
theorem DrawSystemValid_T (bs : List Int) (h : RdOk (bs.take 2000)) : TC Tw.prog E 9 [gR (bytesT bs)] 0 [] (gR (sysT (systemF (pk (bs.take 2000)) 0).1)) [] := by
  have hO := l6Open_T (E := E) bs; have hS := l91System_T (E := E) h 0 (by omega) (by omega)
  generalize bs.take 2000 = cs at *; refine TC.enter Tw.func9 rfl (by kernel_rfl) Tw.ntmps9 (by rw [Try.results9]) (by simp) (Fits.nil rfl) ?_
  (repeat' first | refine TW.seq ?_ | refine TW.block ?_ | ((first | refine TW.skip ?_ | refine TW.exit ?_ | refine TW.ret ?_); (try simp only [tQ, bQ, if_true, Nat.reduceEqDiff, reduceIte])) | (refine TW.reg Td.mixed rfl fun C K hC hK => ?_; simp; (repeat' first | refine And.intro ?_ ?_ | intro _ | refine iteI ?_ ?_ | (show (_ : Bool) = true; kernel_rfl) | (show _ ≤ _; first | omega | (simp; done) | (simp; omega)) | exact Or.inl rfl | (show _ < _; omega) | ((first | refine hC _ _ _ _ _ rfl (aC.fresh rfl rfl [] (by simp; rfl) (by simp) 1 (by exact hO) (by simp) (by simp) (by simp) ?_) | refine hC _ _ _ _ _ rfl (aC.rd rfl rfl (by simp; rfl) (by rfl) (by simp; rfl) (by exact hS) (by simp) (by simp) (by simp) (by simp) (by simp) ?_)); simp)); all_goals (refine hK _ ?_; clear hC hK C K; try simp only [tQ, bQ])) | (refine TW.cond rfl ?_ ?_ <;> intro hc <;> (try (cases hc; done))))
  refine Rets.own [] [] (by simp; rfl) (by simp) (by simp) (by simp) (by simp) (by simp)
end Go.Proofs.Ytjklkppncmhehaa.T
