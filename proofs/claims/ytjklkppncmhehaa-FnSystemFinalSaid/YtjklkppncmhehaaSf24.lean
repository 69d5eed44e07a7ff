/-
What is proved: the starter makes its way as a lone run of the second program does ('main_way'). Conditions: those that the theorem states. a law that a lone run of the second program shows to return true ends well at the machine ('law_runs'). Conditions: those that the theorem states. for slices that came in there is a memory for the lone run, alike where it looks and frozen there ('code_left'). Conditions: those that the theorem states. what is asked of the two programs ('twin_both', 'twin_self', 'twin_law'). No condition.
-/
import Derived.Test.YtjklkppncmhehaaSf23
import Derived.Test.YtjklkppncmhehaaSf10
import Derived.Below
import Derived.Conc.LeavingOf
set_option linter.unusedVariables false
set_option linter.unusedSimpArgs false
namespace Go.Proofs.Ytjklkppncmhehaa.Sr
open Go Go.Conc Go.ConcN
/-! ### what the lone run is asked to know -/
/-- What the function that asks one group after the other hands back. -/
def SeqR (n : Nat) (a : Nat → AnsV) (v : World) (e : Ending) (w1 : World) : Prop :=
  ∃ B, e = .returned (.slice (some ⟨B, 0, none⟩) n n) ∧ v.heap.size ≤ B ∧ (∃ cs, w1.heap[B]? = some (.cells cs 91) ∧ cs.size = 5 * n ∧ ∀ i c, i < n → c < 5 → cs[5 * i + c]? = some ((a i).cell c)) ∧
    (∀ b, b < v.heap.size → w1.heap[b]? = v.heap[b]?) ∧ w1.os = v.os
def AskOk (us : Array Value) (h : Array Obj) : Prop := ∃ (ga : Addr) (gl gc sb so sc n : Nat) (ms : Int) (gs : Nat → Int) (a : Nat → AnsV), us = #[.slice (some ga) gl gc, .slice (some ⟨sb, so, none⟩) n sc, .int .i64 ms] ∧ 1 ≤ n ∧ n ≤ 5 ∧ ∀ v : World, v.heap = h →
  (∀ i, i < n → v.cell? ⟨sb, so + i, none⟩ = some (.int .i64 (gs i))) ∧
  (∀ i, i < n → ∀ (u : World) (gb mb : Nat), (∀ q : Addr, q.block < v.heap.size → u.cell? q = v.cell? q) → u.cell? ⟨gb, 0, none⟩ = some (.slice (some ga) gl gc) → u.cell? ⟨mb, 0, none⟩ = some (.int .i64 ms) →
      Calls Tw.prog 70 #[.int .i64 (gs i), ptr gb, ptr mb] u fun e _ => e = .returned (a i).val) ∧
  Calls Tw.prog Tw.seqId us v (SeqR n a v)
/-! ### names on the left alone -/
def idn (m : Ren) (g : FuncId → Bool) : Ren := ⟨fun r => if (m r).isSome then some r else none, g⟩
section
variable {m : Ren} {g : FuncId → Bool} {v w : World}
theorem idn_at {r t : Nat} (h : m r = some t) : (idn m g) r = some r := by
  show (if (m r).isSome then some r else none) = some r
  rw [h]; rfl
theorem idn_eq {r t : Nat} (h : (idn m g) r = some t) : r = t ∧ ∃ u, m r = some u := by
  have h' : (if (m r).isSome then some r else none) = some t := h
  cases e : m r with
  | none => rw [e] at h'; cases h'
  | some u => rw [e] at h'; exact ⟨Option.some.inj h', u, rfl⟩
theorem AddrR.left {a b : Addr} (h : AddrR m a b) : AddrR (idn m g) a a := ⟨idn_at h.1, rfl, h.2.2.1, h.2.2.1⟩
theorem VR.left (hg : ∀ f, m.good f = true → special f = none → g f = true) {x y : Value} (h : VR m x y) : VR (idn m g) x x := by
  induction h with
  | bool b => exact .bool b
  | int k n => exact .int k n
  | string s => exact .string s
  | nilPtr => exact .nilPtr
  | ptr h => exact .ptr h.left
  | nilSlice l c => exact .nilSlice l c
  | slice l c h => exact .slice l c h.left
  | nilMap => exact .nilMap
  | nilFunc => exact .nilFunc
  | nilIface => exact .nilIface
  | iface t _ ih => exact .iface t ih
  | func f hf hs _ ht _ ih ih2 =>
    refine .func f ?_ rfl (fun i h1 h2 => ih i h1 (hs ▸ h1)) rfl (fun i h1 h2 => ih2 i h1 (ht ▸ h1))
    cases f with
    | func f => exact ⟨hg f hf.1 hf.2, hf.2⟩
    | _ => exact hf.elim
  | agg hs _ ih => exact .agg rfl (fun i h1 h2 => ih i h1 (hs ▸ h1))
  | tuple hs _ ih => exact .tuple rfl (fun i h1 h2 => ih i h1 (hs ▸ h1))
  | junk => exact .nilFunc
theorem AR.left (hg : ∀ f, m.good f = true → special f = none → g f = true) {us vs : Array Value} (h : AR m us vs) : AR (idn m g) us us := ⟨rfl, fun i h1 h2 => (h.2 i h1 (h.1 ▸ h1)).left hg⟩
theorem WR.left (hg : ∀ f, m.good f = true → special f = none → g f = true) (h : WR m v w) : WR (idn m g) v v := by
  refine ⟨fun r s t hr hs => (idn_eq hr).1.trans (idn_eq hs).1.symm, fun r t hr => ?_, rfl, rfl, rfl⟩
  obtain ⟨rfl, u, hu⟩ := idn_eq hr; obtain ⟨o, p, h1, h2, h3⟩ := h.dom r u hu; refine ⟨o, o, h1, h1, ?_⟩; rcases h3 with ⟨us, vs, e, fz, gz, rfl, rfl, hf, ha⟩ | ⟨a, b, l, rfl, rfl, ha⟩
  · exact .inl ⟨us, us, e, fz, fz, rfl, rfl, Fz.refl _, ha.left hg⟩
  · exact .inr ⟨a, a, l, rfl, rfl, ha.left⟩
end
theorem no_ask2 {spec : FuncId → Bool} {m : Ren} (B : Both τA Tw.prog Tw.prog.funcs spec m.good) (hsA : ∀ f, spec f = true → f = askId) {Rf : Ending → World → Prop} (hO : ∀ w, ¬ Rf .outgrown w) (hP : ∀ c w, ¬ Rf (.panicked c) w) {f' f : Frame} {fs' fs : List Frame} {v : World}
    (he : Enters Tw.prog Tw.prog.funcs spec m f' f) (hfs : FRs Tw.prog spec m fs' fs) (hne : fs' ≠ []) : ¬ Ends Tw.prog (StopC Tw.prog Rf) f' (fs' ++ [dum]) v := by
  intro hE; obtain ⟨g, us, vs, e1, h1, h2, _, h3⟩ := enters_args he; have := hsA g e1
  subst this; subst h1; obtain ⟨a, b, x, rfl⟩ := size3 (h3 3 rfl); obtain ⟨v', _, hR⟩ := ask_escape (R := Rf) hO (gs := fs') rfl (frs_has B hfs) hE; exact hP _ _ hR
/-! ### what the starter keeps -/
structure MI (N0 : Nat) (m : Ren) (v w0 : World) (γ : Gh) (w : World) : Prop where
  ph : γ.ph = none
  sh : ∀ r t, m r = some t → ¬ γ.sh t
  shN : ∀ b, γ.sh b → N0 ≤ b
  old : ∀ t, t < N0 → w.heap[t]? = w0.heap[t]?
  froz : ∀ r t, m r = some t → t < N0 → Froz v r
  same : SameOs w0 w
  size : N0 ≤ w.heap.size
  shlt : ∀ b, γ.sh b → b < w.heap.size
section
variable {N0 : Nat} {m n : Ren} {w0 w w1 : World} {γ : Gh} {v v1 : World}
theorem MI.heap {w' : World} (h : MI N0 m v w0 γ w) (e : w'.heap = w.heap) (s : SameOs w w') : MI N0 m v w0 γ w' :=
  ⟨h.ph, h.sh, h.shN, fun t h1 => by rw [e]; exact h.old t h1, h.froz, h.same.trans s, by rw [e]; exact h.size, fun b hb => by rw [e]; exact h.shlt b hb⟩
theorem MI.step {t : Trace} {j : Nat} {T : Nat → Question → Nat} {d : Nat} (h : MI N0 m v w0 γ w) (hJ : JJ γ w t j) (hK : Kept m n (v.on T d) w v1 w1) : MI N0 n v1 w0 γ w1 := by
  have fr : ∀ r t, n r = some t → m r = some t ∨ w.heap.size ≤ t := fun r t hr => (hK.fresh r t hr).imp id fun x => x.2
  refine ⟨h.ph, fun r t hr hs => ?_, h.shN, fun t ht => ?_, fun r t hr ht => ?_, h.same.trans ⟨hK.tape, hK.os, hK.output⟩, Nat.le_trans h.size hK.size', fun b hb => Nat.lt_of_lt_of_le (h.shlt b hb) hK.size'⟩
  · rcases fr r t hr with h1 | h1
    · exact h.sh r t h1 hs
    · have := hJ.shlt t hs; omega
  · rw [hK.old t (Nat.lt_of_lt_of_le ht h.size) fun r hr => h.froz r t hr ht]
    exact h.old t ht
  · rcases fr r t hr with h1 | h1
    · exact (show Froz (v.on T d) r from h.froz r t h1 ht).same (hK.froz r (h.froz r t h1 ht))
    · have := h.size; omega
end
section
variable {spec good goodS : FuncId → Bool} {R : Ending → World → Prop} {N0 : Nat} {w0 : World} {Q : Gh → World → Trace → Nat → Outcome → World → Prop}
theorem own_main {m n : Ren} {γ : Gh} {v w v1 w1 : World} {t : Trace} {j : Nat} {es : Array Event} {fn : FuncId} {pos : String} {v0 : World} (hM : MI N0 m v0 w0 γ w) (hJ : JJ γ w t j) (hK : Kept m n v w v1 w1) (hw1 : WR n v1 w1) (he : Evs n v es) :
    JJ γ w1 (t ++ MemOp.ofEvents 0 fn pos es) j ∧ ∀ k', k' ≠ 0 → RR k' γ w γ w1 := by
  obtain ⟨x1, x2, x3⟩ := hJ.none hM.ph; refine M_own hJ ⟨hK.tape, hK.os, hK.output⟩ hK.size' (fun b hb hh => ?_) fun e hee => ?_
  · refine hK.old b hb fun r hr => ?_
    rcases hh with ⟨k, hk⟩ | hk | ⟨p, hp, _⟩
    · exact hk.elim (fun hk => absurd hk (x1 k b).1) (fun hk => absurd hk (x1 k b).2)
    · exact absurd hk (hM.sh r b hr)
    · rw [hM.ph] at hp; cases hp
  · obtain ⟨e', h1, h2⟩ := he e hee
    obtain ⟨f1, f2, f3, _⟩ := EvR.facts (B := w1.heap.size) h1; refine ⟨fun x hx => .inr ?_, f2 fun r b hr => (hw1.lt hr).2, f3⟩
    obtain ⟨r, b, g1, g2, g3⟩ := f1 x hx; have hns : ¬ γ.sh b := by
      rcases hK.fresh r b g1 with h3 | ⟨_, h4⟩
      · exact hM.sh r b h3
      · intro hs; have := hJ.shlt b hs; omega
    refine ⟨?_, fun k _ _ hk => ?_, fun _ k _ _ hk => ?_⟩
    · rintro ⟨a, ha, hs⟩
      rw [ha] at g2; injection g2 with g2
      exact hns (g2 ▸ hs)
    · rcases hk with ⟨b', _, hk⟩ | ⟨a, _, p, hp, _⟩
      · exact (x1 k b').1 hk
      · rw [hM.ph] at hp; cases hp
    · obtain ⟨b', _, hk⟩ := hk
      exact (x1 k b').2 hk
set_option maxRecDepth 100000 in
/-- ████ THE STARTER MAKES ITS WAY AS THE LONE RUN DOES. ████ -/
theorem main_way (B : Both τA Try.prog Tw.prog.funcs spec good) (hsA : ∀ f, spec f = true → f = askId) (hsQ : spec 70 = false) (hgd : good 70 = true)
    (BS : Both τA Tw.prog Tw.prog.funcs spec goodS) (hsS : spec Tw.seqId = false) (hgs : ∀ f, good f = true → special f = none → goodS f = true) (hsq : goodS Tw.seqId = true)
    (hO : ∀ w, ¬ R .outgrown w) (hP : ∀ x w, Plain τA (.panic x) → ¬ R (.panicked [{ v := x, recovered := false }]) w) (hA : ∀ us w, R (.panicked [{ v := escV us, recovered := false }]) w → AskOk us w.heap)
    (hEnd : ∀ {γ : Gh} {w : World} {t : Trace} {j : Nat} {m : Ren} {f' f : Frame} {v : World}, JJ γ w t j → Deaf t 0 = 0 → MI N0 m v w0 γ w → m.good = good → WR m (v.on w.tape w.drawn) w → FR Try.prog spec m f' f → f'.mode = .returning → Ends Tw.prog (StopC Tw.prog R) f' [dum] v →
      ∃ o w1 es, stepG Try.prog true (G f []) w = .ended o w1 es ∧ Q γ w (t ++ MemOp.ofEvents 0 f.fn f.place es) j o w1) :
    ∀ {f' : Frame} {cs' : List Frame} {v : World}, Ends Tw.prog (StopC Tw.prog R) f' cs' v → ∀ {fs' fs : List Frame} {m : Ren} {f : Frame} {γ : Gh} {w : World}, cs' = fs' ++ [dum] → m.good = good →
      (FR Try.prog spec m f' f ∨ (Enters Try.prog Tw.prog.funcs spec m f' f ∧ fs' ≠ [])) → FRs Try.prog spec m fs' fs → WR m (v.on w.tape w.drawn) w → MI N0 m v w0 γ w → MP (sys Try.prog) Q false 0 γ w (G f fs) := by
  intro f' cs' v hE; refine Ends.ind (Q := Tw.prog) (Stop := StopC Tw.prog R) (C := fun f' cs' v => ∀ {fs' fs : List Frame} {m : Ren} {f : Frame} {γ : Gh} {w : World}, cs' = fs' ++ [dum] → m.good = good →
      (FR Try.prog spec m f' f ∨ (Enters Try.prog Tw.prog.funcs spec m f' f ∧ fs' ≠ [])) → FRs Try.prog spec m fs' fs → WR m (v.on w.tape w.drawn) w → MI N0 m v w0 γ w → MP (sys Try.prog) Q false 0 γ w (G f fs)) ?_ hE
  intro f' cs' v hE ih fs' fs m f γ w hcs hg hf hs hw hM; subst hcs hg; rcases hf with hf | ⟨hf, hne⟩
  · by_cases hl : f'.mode = .returning ∧ fs' = []
    · -- the end
      obtain ⟨hl, rfl⟩ := hl
      cases hs; refine .mk rfl nofun nofun fun γ1 w1 t1 j1 h1 hJ1 hd1 _ => ?_; obtain ⟨rfl, e1, s1⟩ := rm_none hM.ph (rm_of h1); have hw1 : WR m (v.on w1.tape w1.drawn) w1 := hw.stay (fun r t _ => by rw [e1]) s1
      obtain ⟨o, w2, es, q1, q2⟩ := hEnd hJ1 hd1 (hM.heap e1 s1) rfl hw1 hf hl hE; exact ⟨.fin o w2 es, ⟨q1, q2⟩, fun x b' e => (by cases e), fun x b' e => (by cases e)⟩
    · -- a step
      refine .go rfl fun γ1 w1 t1 j1 h1 hJ1 hd1 => ?_; obtain ⟨rfl, e1, s1⟩ := rm_none hM.ph (rm_of h1); have hw1 : WR m (v.on w1.tape w1.drawn) w1 := hw.stay (fun r t _ => by rw [e1]) s1
      have hM1 := hM.heap e1 s1; obtain ⟨n, g1', g1, gs1', gs1, v2, w2, es, es', q1, q2, q3, q4, q5, q6, q7, q8⟩ := lone_step (e := []) B hO hP hE hf hs w1.tape w1.drawn hw1 hl true; obtain ⟨k1, k2⟩ := hE.go (not_stop B hO hf hl) q1 q2; rw [List.append_nil, List.append_nil] at q3; obtain ⟨a1, a2⟩ := own_main (fn := (G f fs).frame.fn) (pos := (G f fs).frame.place) hM1 hJ1 q7 q6 q8; refine ⟨⟨G g1 gs1, w2, es, γ1⟩, false, ⟨q3, a1, a2⟩, ?_⟩; show MP (sys Try.prog) Q false (deafBehind 0 es) γ1 w2 (G g1 gs1)
      rw [q8.hears]; refine ih _ _ _ k2 k1 rfl q7.le.good.symm q4 q5 ?_ (hM1.step hJ1 q7); have e1 : w2.tape = v2.tape := q6.tape
      have e2 : w2.drawn = v2.drawn := q6.drawn
      rw [e1, e2]; exact q6
  · -- the function that asks
    obtain ⟨g, us, vs, hsp, rfl, rfl, har, hsz⟩ := enters_args hf; have hga := hsA g hsp; subst hga; obtain ⟨x0, x1, x2, rfl⟩ := size3 (hsz 3 rfl); have hE' : Ends Tw.prog (StopC Tw.prog R) (Frame.enter Tw.prog askId #[x0, x1, x2] .normal) (fs' ++ [dum]) v := hE
    have hok : AskOk #[x0, x1, x2] v.heap := by
      obtain ⟨v', e1, h1⟩ := ask_escape hO rfl (frs_has B hs) hE'; have := hA _ _ h1
      rw [e1] at this; exact this
    obtain ⟨ga, gl, gc, sb, so, sc, n, ms, gs, a, hus, n1, n5, hall⟩ := hok; obtain ⟨hset, hask, _⟩ := hall v rfl
    cases hs with
    | nil => exact absurd rfl hne
    | @cons c' c gs' fs hc hcr hgs' =>
      obtain ⟨d, ds, hds⟩ : ∃ d ds, gs' ++ [dum] = d :: ds := by cases gs' with
        | nil => exact ⟨_, _, rfl⟩
        | cons d ds => exact ⟨_, _, rfl⟩
      obtain ⟨T1, d1, hF1⟩ := ask_seq hO hE'; have hwl : WR (idn m goodS) (v.on T1 d1) (v.on T1 d1) := by
        have h1 := hw.left (g := goodS) hgs; exact ⟨h1.inj, h1.dom, rfl, rfl, rfl⟩
      have hfr : FR Tw.prog spec (idn m goodS) (Frame.enter Tw.prog Tw.seqId #[x0, x1, x2] .normal) (Frame.enter Tw.prog Tw.seqId #[x0, x1, x2] .normal) :=
        FR.enter (P := Tw.prog) (F := Tw.prog.funcs) (m := idn m goodS) BS hsq hsS (har.left hgs)
      have hin : Ends Tw.prog (StopC Tw.prog (SeqR n a v)) (Frame.enter Tw.prog Tw.seqId #[x0, x1, x2] .normal) [dum] (v.on T1 d1) :=
        ends_of_calls (fun w h => by obtain ⟨_, h, _⟩ := h; cases h) fun T => (hall ((v.on T1 d1).on T 0) rfl).2.2
      obtain ⟨y, v1, T2, d2, hR, hF2⟩ := ends_call (Q := Tw.prog) (R := R) (spec := spec) (good := goodS) (Rf := SeqR n a v) BS (fun {n f' f fs' fs v} hgn he hfs hne => no_ask2 (hgn ▸ BS) hsA (fun w h => by obtain ⟨_, h, _⟩ := h; cases h) (fun c w h => by obtain ⟨_, h, _⟩ := h; cases h) he hfs hne) (fun w h => by obtain ⟨_, h, _⟩ := h; cases h) (fun c w h => by obtain ⟨_, h, _⟩ := h; cases h)
        (c := fA x0 x1 x2) (cs := c' :: gs' ++ [dum]) (by simp) hin (fs' := []) (m := idn m goodS) rfl rfl hfr .nil hwl hF1.1
      have hF2' : Fol Tw.prog (StopC Tw.prog R) (Frame.enter Tw.prog Tw.seqId #[x0, x1, x2] .normal, fA x0 x1 x2 :: (c' :: gs' ++ [dum]), v.on T1 d1) ((fA x0 x1 x2).finish y, c' :: gs' ++ [dum], v1) := hF2
      have hF3 := hF1.trans hF2'; obtain ⟨Bk, hy, hBk, ⟨cells, hc1, hc2, hc3⟩, hold, hos⟩ := hR; have hF4 : Fol Tw.prog (StopC Tw.prog R) ((fA x0 x1 x2).finish y, c' :: gs' ++ [dum], v1) (c'.finish y, gs' ++ [dum], v1) := by
        have h1 := hF3.1; show Fol _ _ (_, c' :: (gs' ++ [dum]), _) _
        rw [hds]; refine ask_back hO ?_; rw [← hds]; exact h1
      have hF5 := hF3.trans hF4; have hDesc : Desc Tw.prog (StopC Tw.prog R) (Frame.enter Tw.prog askId #[x0, x1, x2] .normal, c' :: gs' ++ [dum], v) (c'.finish y, gs' ++ [dum], v1) := by
        rcases hF5.2 with h1 | h1
        · have h2 := congrArg (fun z : Frame × List Frame × World => z.2.1.length) h1
          simp at h2
        · exact h1
      injection hy with hy
      subst hy; have hus' : x0 = .slice (some ga) gl gc ∧ x1 = .slice (some ⟨sb, so, none⟩) n sc ∧ x2 = .int .i64 ms := by
        have h0 := congrArg (fun z : Array Value => z[0]?) hus
        have h1 := congrArg (fun z : Array Value => z[1]?) hus
        have h2 := congrArg (fun z : Array Value => z[2]?) hus
        simp at h0 h1 h2
        exact ⟨h0, h1, h2⟩
      obtain ⟨rfl, rfl, rfl⟩ := hus'; obtain ⟨z0, z1, z2, rfl⟩ := size3 (us := vs) (by rw [← har.1]; rfl)
      have hv0 : VR m (.slice (some ga) gl gc) z0 := har.2 0 (by simp) (by simp)
      have hv1 : VR m (.slice (some ⟨sb, so, none⟩) n sc) z1 := har.2 1 (by simp) (by simp)
      have hv2 : VR m (.int .i64 ms) z2 := har.2 2 (by simp) (by simp)
      cases hv2
      cases hv0 with
      | @slice _ ga' _ _ hga =>
        cases hv1 with
        | @slice _ q _ _ hq =>
          obtain ⟨qb, qo, qs⟩ := q; obtain ⟨hq1, hq2, _, hq4⟩ := hq; dsimp only at hq1 hq2 hq4
          subst hq2 hq4; have hlt := (hw.lt hq1).2; refine ask_way (a := a) (gs := gs) (ga := ga') (gl := gl) (gc := gc) (sb := qb) (so := qo) (sc := sc) (ms := ms) (N := w.heap.size) (n := n) (c := c) (cs := fs) hM.ph rfl n1 n5 hlt (hM.sh _ _ hq1) (fun i hi => ?_) ?_ fun γ1 w1 hA1 => ?_
          · obtain ⟨y, hy1, hy2⟩ := (hw.cell (a := ⟨sb, qo + i, none⟩) (b := ⟨qb, qo + i, none⟩) ⟨hq1, rfl, rfl, rfl⟩).1 _ (hset i hi)
            cases hy2; exact hy1
          · exact work_ok B hsA hsQ hgd rfl hw rfl hga hM.sh rfl rfl rfl n5 rfl (fun _ _ => rfl) hask
          · -- behind the call
            obtain ⟨ph1, so1, sz1, old1, sh1, cs2, ans1, ans2, ans3⟩ := hA1; have hBn : m Bk = none := hw.none_ge hBk
            have le1 : Ren.le m (m.put Bk (w.heap.size + 3)) := put_le hBn
            have hlt1 : ∀ r t, m r = some t → r < v.heap.size ∧ t < w.heap.size := fun r t h => hw.lt h
            refine ih _ _ _ hDesc hF5.1 (m := m.put Bk (w.heap.size + 3)) rfl rfl (.inl (hc.finish hcr le1 (.slice n n ⟨put_at, rfl, rfl, rfl⟩))) (hgs'.mono le1) ?_ ?_
            · refine ⟨fun r s t hr hs => ?_, fun r t hr => ?_, (so1.2.1.trans hw.os).trans hos.symm, rfl, rfl⟩
              · rcases put_or hr with ⟨h1, h2⟩ | h1 <;> rcases put_or hs with ⟨h3, h4⟩ | h3
                · omega
                · exact absurd (hlt1 _ _ h3).2 (by omega)
                · exact absurd (hlt1 _ _ h1).2 (by omega)
                · exact hw.inj r s t h1 h3
              · rcases put_or hr with ⟨rfl, rfl⟩ | h1
                · refine ⟨_, _, hc1, ans1, .cells (Fz.refl _) ⟨hc2.trans ans2.symm, fun i h1 h2 => ?_⟩⟩
                  have hi : i < 5 * n := by omega
                  have e1 := hc3 (i / 5) (i % 5) (by omega) (by omega)
                  have e2 := ans3 (i / 5) (i % 5) (by omega) (by omega)
                  rw [show 5 * (i / 5) + i % 5 = i from by omega] at e1 e2
                  rw [Array.getElem?_eq_getElem h1] at e1; rw [Array.getElem?_eq_getElem h2] at e2; rw [Option.some.inj e1, Option.some.inj e2]; have h5 : i % 5 < 5 := by omega
                  generalize i % 5 = c at h5; obtain rfl | rfl | rfl | rfl | rfl : c = 0 ∨ c = 1 ∨ c = 2 ∨ c = 3 ∨ c = 4 := by omega
                  · exact .int _ _
                  · exact .int _ _
                  · exact .int _ _
                  · exact .bool _
                  · exact .bool _
                · obtain ⟨o, p, h2, h3, h4⟩ := hw.dom r t h1
                  have h2' : v.heap[r]? = some o := h2
                  refine ⟨o, p, ?_, ?_, h4.mono le1⟩
                  · show v1.heap[r]? = some o
                    rw [← h2']; exact hold r (hlt1 _ _ h1).1
                  · rw [old1 t (hlt1 _ _ h1).2 (hM.sh _ _ h1)]
                    exact h3
            · refine ⟨ph1, fun r t hr hs => ?_, fun b hb => ?_, fun t ht => ?_, fun r t hr ht => ?_, hM.same.trans so1, by have := hM.size; omega, fun b hb => ?_⟩
              · rcases (sh1 t).1 hs with h1 | h1
                · rcases put_or hr with ⟨_, h2⟩ | h2
                  · have := hM.shlt _ h1
                    omega
                  · exact hM.sh _ _ h2 h1
                · rcases put_or hr with ⟨_, h2⟩ | h2
                  · omega
                  · have := (hlt1 _ _ h2).2; omega
              · rcases (sh1 b).1 hb with h1 | h1
                · exact hM.shN b h1
                · have := hM.size; omega
              · rw [old1 t (by have := hM.size; omega) (fun hs => by have := hM.shN t hs; omega)]
                exact hM.old t ht
              · rcases put_or hr with ⟨_, h2⟩ | h2
                · have := hM.size; omega
                · exact (hM.froz r t h2 ht).same (hold r (hlt1 _ _ h2).1)
              · rcases (sh1 b).1 hb with h1 | h1
                · have := hM.shlt b h1; omega
                · omega
end
end Go.Proofs.Ytjklkppncmhehaa.Sr
namespace Go.Proofs.Ytjklkppncmhehaa.Sr
open Go Go.Conc Go.ConcN Go.RowKit
def gh0 : Gh := { ow := fun _ _ => False, ro := fun _ _ => False, sh := fun _ => False, st := fun _ => .off, wm := .op, ph := none, extra := 0, j := 0 }
theorem jj0 (W : World) : JJ gh0 W #[] 0 := by
  refine ⟨TJ.init _ _, ⟨fun _ _ _ h => h.elim, fun _ _ _ h => h.elim, fun _ _ h => h.elim, fun _ _ h => h.elim, fun p hp => (by cases hp)⟩, rfl, fun _ _ h => h.elim, fun _ _ h => h.elim, fun _ h => h.elim, fun _ => ⟨fun _ _ => ⟨fun h => h, fun h => h⟩, fun _ => rfl, rfl⟩, fun p hp => (by cases hp), fun p hp => (by cases hp)⟩
def Esc (e : Ending) (w : World) : Prop := ∃ us, e = .panicked [{ v := escV us, recovered := false }] ∧ AskOk us w.heap
def LawR (e : Ending) (w : World) : Prop := e = .returned (.bool true) ∨ Esc e w
theorem escV_inj {us vs : Array Value} (h : escV us = escV vs) : us = vs := by
  unfold escV at h; injection h with _ h
  injection h with _ h _
theorem lawR_out (w : World) : ¬ LawR .outgrown w := by
  rintro (h | ⟨_, h, _⟩) <;> cases h
theorem lawR_plain (x : Value) (w : World) (hp : Plain τA (.panic x)) : ¬ LawR (.panicked [{ v := x, recovered := false }]) w := by
  rintro (h | ⟨us, h, _⟩)
  · cases h
  · injection h with h
    injection h with h _
    injection h with h _
    exact hp _ h
theorem lawR_esc (us : Array Value) (w : World) (h : LawR (.panicked [{ v := escV us, recovered := false }]) w) : AskOk us w.heap := by
  rcases h with h | ⟨vs, h, hk⟩
  · cases h
  · injection h with h
    injection h with h _
    injection h with h _
    rw [escV_inj h]; exact hk
theorem ret_done {Q : Program} {fn : FuncId} {fr : Func} {t : Array Value} {todo : List Item} {w w1 : World} {x : Value} {es : Array Event} (hf : Q.funcs[fn]? = some fr) (hi : Q.inits.idxOf? fn = none) (h : (results fr t).runT Q w #[] = (.ok x w1, es)) :
    stepG Q true (G (mkF fn t todo .returning) []) w = .ended (.done x) w1 (seen Q fn es) := by
  simp only [G, mkF, stepG, unwind, hf, h, doReturn, hi, GStep.after, Array.append_empty, Bool.not_true, Bool.false_eq_true, if_false]
def EndQ (W : World) (γ : Gh) (w : World) (t : Trace) (j : Nat) (o : Outcome) (w1 : World) : Prop :=
  o = .done (.bool true) ∧ γ.ph = none ∧ (∃ B, TJ γ B t j) ∧ (∀ k, Gh.Gone γ k) ∧ Below W.heap.size W w1
section
variable {spec good goodS : FuncId → Bool}
theorem law_runs (B : Both τA Try.prog Tw.prog.funcs spec good) (hsA : ∀ f, spec f = true → f = askId) (hsQ : spec 70 = false) (hgd : good 70 = true)
    (BS : Both τA Tw.prog Tw.prog.funcs spec goodS) (hsS : spec Tw.seqId = false) (hgs : ∀ f, good f = true → special f = none → goodS f = true) (hsq : goodS Tw.seqId = true) (hin : ∀ f, good f = true → Try.prog.inits.idxOf? f = none)
    {f : FuncId} {us vs : Array Value} {m : Ren} {v W : World} (hgf : good f = true) (hsf : spec f = false) (hmg : m.good = good) (har : AR m us vs) (hw : WR m (v.on W.tape W.drawn) W) (hfz : ∀ r t, m r = some t → Froz v r)
    (hlaw : ∀ T, Calls Tw.prog f us (v.on T 0) LawR) :
    ∃ M last o w' t', runNT Try.prog (M + 1) (solo (G (Frame.enter Try.prog f vs .normal) []) W) #[] = (.ended o w', t') ∧ runN Try.prog M (solo (G (Frame.enter Try.prog f vs .normal) []) W) = .next last ∧ step Try.prog last = .ended o w' ∧
      Go.Conc.Good Try.prog (fun x W' => x = .bool true ∧ Below W.heap.size W W') last o w' t' := by
  subst hmg; have hE : Ends Tw.prog (StopC Tw.prog LawR) (Frame.enter Tw.prog f us .normal) [dum] v := ends_of_calls lawR_out hlaw
  have hMI : MI W.heap.size m v W gh0 W := ⟨rfl, fun _ _ _ h => h, fun _ h => h.elim, fun _ _ => rfl, fun r t hr _ => hfz r t hr, ⟨rfl, rfl, rfl⟩, Nat.le_refl _, fun _ h => h.elim⟩
  have hMP : MP (sys Try.prog) (EndQ W) false 0 gh0 W (G (Frame.enter Try.prog f vs .normal) []) := by
    refine main_way (R := LawR) (N0 := W.heap.size) (w0 := W) (Q := EndQ W) B hsA hsQ hgd BS hsS hgs hsq lawR_out lawR_plain lawR_esc ?_ hE (fs' := []) (fs := []) (m := m) rfl rfl (.inl (FR.enter B hgf hsf har)) .nil hw hMI; intro γ w t j n f' f0 v1 hJ hd hM hng hw1 hf hl hE1; have B1 : Both τA Try.prog Tw.prog.funcs spec n.good := hng ▸ B
    obtain ⟨x, T', d', r1, r2⟩ := lone_end B1 lawR_out hE1 hf hw1 hl; have hx : x = .bool true := by
      rcases r1 with h | ⟨_, h, _⟩
      · injection h
      · cases h
    subst hx
    cases hf with
    | @mk fn tm' tm todo mode hsp hg' ha ok hm =>
      obtain rfl : mode = .returning := hl
      obtain ⟨fr, e1, e2, e3⟩ := B1.same fn hg' hsp; have hsr := sr_results (F := Tw.prog.funcs) (m := n) B.rt fr ha; obtain ⟨_, _, _, fr0, q1, q2⟩ := r2; have q1' : Tw.prog.funcs[fn]? = some fr0 := q1
      rw [e1] at q1'; obtain rfl := Option.some.inj q1'
      have hwT : WR n (v1.on T' d') (w.on T' d') := ⟨hw1.inj, hw1.dom, hw1.os, rfl, rfl⟩
      obtain ⟨es0, hr⟩ := results_on (hsr.sf hwT) q2 w.tape w.drawn; obtain ⟨n2, y, w2, us1, us', g1, g2, g3, g4, g5, g6⟩ := hsr.run (fs := #[]) hw1 hr; obtain ⟨us2, u1, u2, u3⟩ := hsr.writes hw1 hr; have hus : us1 = us2 := by
        have := g2.symm.trans u1
        simpa using this
      subst hus; have hev : Evs n2 (v1.on w.tape w.drawn) (seen Try.prog fn (#[] ++ us'.toArray)) := Evs.of g3 u2
      obtain ⟨s1, s2⟩ := own_main (fn := fn) (pos := (mkF fn tm todo .returning).place) hM hJ g6 g5 hev; have hM2 := hM.step hJ g6
      cases g4; refine ⟨_, _, _, ret_done e2 (hin fn (hng ▸ hg')) g1, rfl, hM2.ph, ⟨_, s1.tj⟩, fun k => ?_, ⟨hM2.same.2.1, hM2.same.1, hM2.same.2.2, hM2.size, fun b hb => hM2.old b hb⟩⟩
      obtain ⟨_, x2, x3⟩ := s1.none hM2.ph; exact ⟨x2 k, by rw [x3]; exact nofun, by rw [x3]; exact nofun⟩
  obtain ⟨ρ, hρ⟩ := hMP.ranked; have hres : Res (sys Try.prog) (EndQ W) (crowd #[G (Frame.enter Try.prog f vs .normal) []] W none) #[] :=
    St.runs (S := sys Try.prog) (Q := EndQ W) (Tr.acc ρ) 0 (fun _ => .nat 0) true _ _ _ _ gh0 false _ ⟨rfl, jj0 W, hρ, rfl, fun h => (by cases h), fun k k1 k2 => absurd k2 (by omega)⟩
  obtain ⟨M, gs', w', sl', t', γ', w2, j', o, w1, ops, h1, h2, ⟨q1, q2, ⟨Bq, q3⟩, q4, q5⟩, h4, h5, h6⟩ := hres; have h1' : runNT Try.prog M (solo (G (Frame.enter Try.prog f vs .normal) []) W) #[] = (.next (crowd gs' w' sl'), t') := h1
  refine ⟨M, crowd gs' w' sl', o, w1, t' ++ ops, ?_, ?_, ?_, .bool true, q1, ⟨rfl, q5⟩, q3.ct.nr, fun i g hg hn hc => ?_, ⟨fun g hg => ?_, rfl⟩, fun i g hi hn => ?_⟩
  · rw [runNT_add, h1']
    simp only [runNT, h2]
  · rw [← runNT_fst _ _ _ #[], h1']
  · show (stepT Try.prog _).1 = _
    rw [h2]
  · rcases q3.over i g hg hn hc with h | ⟨p, hp, _⟩
    · exact h
    · rw [q2] at hp; cases hp
  · obtain ⟨i, hi, rfl⟩ := List.getElem_of_mem hg
    have hi' : i + 1 < gs'.size := by simp [crowd] at hi; omega
    obtain ⟨x, hx1, hx2⟩ := h6 (i + 1) (by omega) (by omega)
    obtain ⟨n, hn⟩ := hx2 (q4 _); have : ((crowd gs' w' sl').gs.toList.drop 1)[i] = x := by
      have e : gs'[i + 1]? = some x := hx1
      rw [Array.getElem?_eq_getElem hi'] at e; simp only [List.getElem_drop, crowd]; have e2 := Option.some.inj e; simp only [Array.getElem_toList, Nat.add_comm 1 i]; exact e2
    rw [this]; exact ⟨n, hn.leaves⟩
  · have hi' : i < gs'.size := (Array.getElem?_eq_some_iff.1 hi).1
    obtain ⟨x, hx1, hx2⟩ := h6 i (by omega) (by omega)
    obtain ⟨n, hn2⟩ := hx2 (q4 _); have hi2 : gs'[i]? = some g := hi
    rw [hx1] at hi2; obtain rfl := Option.some.inj hi2
    exact ⟨n, hn2.hears _⟩
end
end Go.Proofs.Ytjklkppncmhehaa.Sr
namespace Go.Proofs.Ytjklkppncmhehaa.Sr
open Go Go.Conc Go.RowKit
theorem ex_left : ∀ y : Value, ∃ x, (∀ m : Ren, VR m x y) ∧ ∀ k z, y = .int k z → x = y
  | .agg cs => by
    have h : ∀ i (hi : i < cs.size), ∃ x, ∀ m : Ren, VR m x cs[i] := fun i hi => (ex_left cs[i]).imp fun _ h => h.1
    let us : Array Value := Array.ofFn fun i : Fin cs.size => (h i.1 i.2).choose
    refine ⟨.agg us, fun m => .agg (by simp [us]) fun i h1 h2 => ?_, fun k z e => by cases e⟩
    simp only [us, Array.getElem_ofFn]; exact (h i h2).choose_spec m
  | .tuple cs => by
    have h : ∀ i (hi : i < cs.size), ∃ x, ∀ m : Ren, VR m x cs[i] := fun i hi => (ex_left cs[i]).imp fun _ h => h.1
    let us : Array Value := Array.ofFn fun i : Fin cs.size => (h i.1 i.2).choose
    refine ⟨.tuple us, fun m => .tuple (by simp [us]) fun i h1 h2 => ?_, fun k z e => by cases e⟩
    simp only [us, Array.getElem_ofFn]; exact (h i h2).choose_spec m
  | .int k z => ⟨.int k z, fun _ => .int k z, fun _ _ _ => rfl⟩
  | .bool b => ⟨.bool b, fun _ => .bool b, fun _ _ e => by cases e⟩
  | .nilIface => ⟨.nilIface, fun _ => .nilIface, fun _ _ e => by cases e⟩
  | .float a b => ⟨.nilFunc, fun _ => .junk _ (fun _ => ⟨fun e => (by cases e), fun e => (by cases e)⟩) ⟨fun e => (by cases e), fun _ e => (by cases e)⟩, fun _ _ e => by cases e⟩
  | .complex a b c => ⟨.nilFunc, fun _ => .junk _ (fun _ => ⟨fun e => (by cases e), fun e => (by cases e)⟩) ⟨fun e => (by cases e), fun _ e => (by cases e)⟩, fun _ _ e => by cases e⟩
  | .string s => ⟨.nilFunc, fun _ => .junk _ (fun _ => ⟨fun e => (by cases e), fun e => (by cases e)⟩) ⟨fun e => (by cases e), fun _ e => (by cases e)⟩, fun _ _ e => by cases e⟩
  | .pointer a => ⟨.nilFunc, fun _ => .junk _ (fun _ => ⟨fun e => (by cases e), fun e => (by cases e)⟩) ⟨fun e => (by cases e), fun _ e => (by cases e)⟩, fun _ _ e => by cases e⟩
  | .slice a l c => ⟨.nilFunc, fun _ => .junk _ (fun _ => ⟨fun e => (by cases e), fun e => (by cases e)⟩) ⟨fun e => (by cases e), fun _ e => (by cases e)⟩, fun _ _ e => by cases e⟩
  | .map r => ⟨.nilFunc, fun _ => .junk _ (fun _ => ⟨fun e => (by cases e), fun e => (by cases e)⟩) ⟨fun e => (by cases e), fun _ e => (by cases e)⟩, fun _ _ e => by cases e⟩
  | .chan r => ⟨.nilFunc, fun _ => .junk _ (fun _ => ⟨fun e => (by cases e), fun e => (by cases e)⟩) ⟨fun e => (by cases e), fun _ e => (by cases e)⟩, fun _ _ e => by cases e⟩
  | .func f a b => ⟨.nilFunc, fun _ => .junk _ (fun _ => ⟨fun e => (by cases e), fun e => (by cases e)⟩) ⟨fun e => (by cases e), fun _ e => (by cases e)⟩, fun _ _ e => by cases e⟩
  | .nilFunc => ⟨.nilFunc, fun _ => .nilFunc, fun _ _ e => by cases e⟩
  | .iface t v => ⟨.nilFunc, fun _ => .junk _ (fun _ => ⟨fun e => (by cases e), fun e => (by cases e)⟩) ⟨fun e => (by cases e), fun _ e => (by cases e)⟩, fun _ _ e => by cases e⟩
termination_by y => SizeOf.sizeOf y
decreasing_by
  all_goals
    have := Array.sizeOf_getElem cs i hi
    simp
    omega
noncomputable def leftV (y : Value) : Value := (ex_left y).choose
theorem leftV_vr (m : Ren) (y : Value) : VR m (leftV y) y := (ex_left y).choose_spec.1 m
theorem leftV_int (k : IntKind) (z : Int) : leftV (.int k z) = .int k z := (ex_left (.int k z)).choose_spec.2 k z rfl
noncomputable def leftO : Obj → Obj
  | .cells cs e fz => .cells (cs.map leftV) e (0, max cs.size fz.2)
  | o => o
open Classical in
theorem code_left (good : FuncId → Bool) (W : World) (S : Nat → Prop) (hS : ∀ b, S b → ∃ cs e fz, W.heap[b]? = some (.cells cs e fz)) :
    ∃ (v : World) (m : Ren), m.good = good ∧ (∀ b, S b → m b = some b) ∧ WR m (v.on W.tape W.drawn) W ∧ (∀ r t, m r = some t → Froz v r) ∧ (∀ q k z, W.cell? q = some (.int k z) → v.cell? q = some (.int k z)) ∧ v.heap.size = W.heap.size := by
  let v : World := { W with heap := W.heap.mapIdx fun i o => if S i then leftO o else o }
  let m : Ren := ⟨fun r => if S r then some r else none, good⟩
  have hm : ∀ {r t}, m r = some t → r = t ∧ S r := by
    intro r t h; have h' : (if S r then some r else none) = some t := h
    by_cases hs : S r
    · rw [if_pos hs] at h'; exact ⟨Option.some.inj h', hs⟩
    · rw [if_neg hs] at h'; cases h'
  have hv : ∀ b, v.heap[b]? = (W.heap[b]?).map fun o => if S b then leftO o else o := by
    intro b; show (W.heap.mapIdx fun i o => if S i then leftO o else o)[b]? = _
    simp
  refine ⟨v, m, rfl, fun b hb => ?_, ⟨fun r s t hr hs => (hm hr).1.trans (hm hs).1.symm, fun r t hr => ?_, rfl, rfl, rfl⟩, fun r t hr => ?_, fun q k z hq => ?_, ?_⟩
  · show (if S b then some b else none) = some b
    rw [if_pos hb]
  · obtain ⟨rfl, hs⟩ := hm hr
    obtain ⟨cs, e, fz, h1⟩ := hS r hs; refine ⟨_, _, (by show v.heap[r]? = _; rw [hv, h1]; simp only [Option.map_some, if_pos hs]; rfl), h1, .cells (fun o h1 h2 => ⟨Nat.zero_le _, by show o < max cs.size fz.2; omega⟩) ⟨by simp, fun i h1 h2 => ?_⟩⟩
    simp only [Array.getElem_map]; exact leftV_vr m _
  · obtain ⟨rfl, hs⟩ := hm hr
    obtain ⟨cs, e, fz, h1⟩ := hS r hs; refine .inl ⟨_, e, _, (by rw [hv, h1]; simp only [Option.map_some, if_pos hs]; rfl), ?_⟩
    simp
    omega
  · unfold World.cell? at hq ⊢
    rw [hv]
    cases ho : W.heap[q.block]? with
    | none => rw [ho] at hq; cases hq
    | some o =>
      rw [ho] at hq; by_cases hs : S q.block
      · simp only [Option.map_some, if_pos hs]
        cases o with
        | cells cs e fz =>
          simp only [leftO] at hq ⊢; by_cases hsp : q.spot.isSome
          · rw [if_pos hsp] at hq; cases hq
          · rw [if_neg hsp] at hq ⊢
            rw [Array.getElem?_map, hq]; simp [leftV_int]
        | _ => cases hq
      · simp only [Option.map_some, if_neg hs]
        exact hq
  · show (W.heap.mapIdx _).size = _
    simp
end Go.Proofs.Ytjklkppncmhehaa.Sr
namespace Go.Proofs.Ytjklkppncmhehaa.Sr
open Go Go.Conc
def goodA (f : FuncId) : Bool := Tw.goodList.contains f
def goodB (f : FuncId) : Bool := Tw.goodList.contains f || f == Tw.seqId
def specA (f : FuncId) : Bool := f == askId
theorem goodA_mem {f : FuncId} (h : goodA f = true) : f ∈ Tw.goodList := by simpa [goodA] using h
def okAt (P : Program) (good : FuncId → Bool) (f : FuncId) : Bool := match P.funcs[f]? with
  | some fn => okFunc P good fn && fn.name != "runtime.NumGoroutine"
  | none => false
set_option maxRecDepth 100000
theorem all_ok : (Tw.goodList.filter (· != askId)).all (okAt Try.prog goodA) = true := by kernel_rfl
theorem all_ok2 : (Tw.goodList.filter (· != askId)).all (okAt Tw.prog goodB) = true := by kernel_rfl
theorem seq_ok : okAt Tw.prog goodB Tw.seqId = true := by kernel_rfl
theorem ask_okP : (Try.prog.funcs[askId]?).any (fun fn => fn.body.isSome && fn.name != "runtime.NumGoroutine") = true := by kernel_rfl
theorem ask_okT : (Tw.prog.funcs[askId]?).any (fun fn => fn.body.isSome && fn.name != "runtime.NumGoroutine") = true := by kernel_rfl
theorem no_init : Tw.goodList.all (fun f => (Try.prog.inits.idxOf? f).isNone) = true := by kernel_rfl
theorem tw_same {f : FuncId} (h : f ≠ askId) {fn : Func} (hf : Try.prog.funcs[f]? = some fn) : Tw.prog.funcs[f]? = some fn := by
  have hlt : f < Try.funcs.size := (Array.getElem?_eq_some_iff.1 hf).1
  show ((Try.funcs.setIfInBounds askId Tw.fAsk).push Tw.fSeq)[f]? = some fn
  rw [Array.getElem?_push, if_neg (by rw [Array.size_setIfInBounds]; exact Nat.ne_of_lt hlt), Array.getElem?_setIfInBounds, if_neg (fun e => h e.symm)]
  exact hf
theorem okAt_spec {P : Program} {good : FuncId → Bool} {f : FuncId} (h : okAt P good f = true) : ∃ fn, P.funcs[f]? = some fn ∧ okFunc P good fn = true ∧ fn.body.isSome = true ∧ fn.name ≠ "runtime.NumGoroutine" := by
  unfold okAt at h
  cases hf : P.funcs[f]? with
  | none => rw [hf] at h; cases h
  | some fn =>
    rw [hf] at h; simp only [Bool.and_eq_true, bne_iff_ne, ne_eq] at h; refine ⟨fn, rfl, h.1, ?_, h.2⟩; have := h.1
    unfold okFunc at this
    cases hb : fn.body with
    | none => rw [hb] at this; cases this
    | some c => rfl
theorem any_spec {P : Program} {f : FuncId} (h : (P.funcs[f]?).any (fun fn => fn.body.isSome && fn.name != "runtime.NumGoroutine") = true) : ∃ fn, P.funcs[f]? = some fn ∧ fn.body.isSome = true ∧ fn.name ≠ "runtime.NumGoroutine" := by
  cases hf : P.funcs[f]? with
  | none => rw [hf] at h; cases h
  | some fn =>
    rw [hf] at h; simp only [Option.any_some, Bool.and_eq_true, bne_iff_ne, ne_eq] at h; exact ⟨fn, rfl, h.1, h.2⟩
theorem rt_ok : RtOk τA Try.prog := ⟨by decide +kernel, by decide +kernel, by decide +kernel, by decide +kernel⟩
theorem twin_both : Both τA Try.prog Tw.prog.funcs specA goodA := by
  have ok : ∀ f, goodA f = true → f ≠ askId → ∃ fn, Try.prog.funcs[f]? = some fn ∧ okFunc Try.prog goodA fn = true ∧ fn.body.isSome = true ∧ fn.name ≠ "runtime.NumGoroutine" := fun f hf hn =>
    okAt_spec (List.all_eq_true.1 all_ok f (List.mem_filter.2 ⟨goodA_mem hf, by simpa using hn⟩))
  refine ⟨rt_ok, Try.globals_size, fun f hf => ?_, ⟨fun f hf => ?_⟩, fun f hf hs => ?_⟩
  · have : f = 33 := by simpa [valFn] using hf
    subst this; exact ⟨by decide +kernel, by decide +kernel⟩
  · by_cases hn : f = askId
    · subst hn
      obtain ⟨a, a1, a2, a3⟩ := any_spec ask_okT; obtain ⟨b, b1, b2, b3⟩ := any_spec ask_okP; exact ⟨a, b, a1, b1, a2, b2, a3, b3⟩
    · obtain ⟨fn, h1, _, h2, h3⟩ := ok f hf hn
      exact ⟨fn, fn, tw_same hn h1, h1, h2, h2, h3, h3⟩
  · have hn : f ≠ askId := by simpa [specA] using hs
    obtain ⟨fn, h1, h2, _⟩ := ok f hf hn; exact ⟨fn, tw_same hn h1, h1, h2⟩
theorem rt_ok2 : RtOk τA Tw.prog := ⟨by decide +kernel, by decide +kernel, by decide +kernel, by decide +kernel⟩
theorem twin_self : Both τA Tw.prog Tw.prog.funcs specA goodB := by
  have ok : ∀ f, goodB f = true → f ≠ askId → ∃ fn, Tw.prog.funcs[f]? = some fn ∧ okFunc Tw.prog goodB fn = true ∧ fn.body.isSome = true ∧ fn.name ≠ "runtime.NumGoroutine" := fun f hf hn => by
    by_cases hs : f = Tw.seqId
    · subst hs; exact okAt_spec seq_ok
    · have h : f ∈ Tw.goodList := by
        simp only [goodB, Bool.or_eq_true, List.contains_eq_mem, decide_eq_true_eq, beq_iff_eq] at hf; exact hf.resolve_right hs
      exact okAt_spec (List.all_eq_true.1 all_ok2 f (List.mem_filter.2 ⟨h, by simpa using hn⟩))
  refine ⟨rt_ok2, Try.globals_size, fun f hf => ?_, ⟨fun f hf => ?_⟩, fun f hf hs => ?_⟩
  · have : f = 33 := by simpa [valFn] using hf
    subst this; exact ⟨by decide +kernel, by decide +kernel⟩
  · by_cases hn : f = askId
    · subst hn
      obtain ⟨a, a1, a2, a3⟩ := any_spec ask_okT; exact ⟨a, a, a1, a1, a2, a2, a3, a3⟩
    · obtain ⟨fn, h1, _, h2, h3⟩ := ok f hf hn
      exact ⟨fn, fn, h1, h1, h2, h2, h3, h3⟩
  · have hn : f ≠ askId := by simpa [specA] using hs
    obtain ⟨fn, h1, h2, _⟩ := ok f hf hn; exact ⟨fn, h1, h1, h2⟩
theorem twin_law {f : FuncId} {us vs : Array Value} {m : Ren} {v W : World} (hgf : goodA f = true) (hsf : specA f = false) (hmg : m.good = goodA) (har : AR m us vs) (hw : WR m (v.on W.tape W.drawn) W) (hfz : ∀ r t, m r = some t → Froz v r)
    (hlaw : ∀ T, Calls Tw.prog f us (v.on T 0) LawR) :
    ∃ M last o w' t', runNT Try.prog (M + 1) (solo (G (Frame.enter Try.prog f vs .normal) []) W) #[] = (.ended o w', t') ∧ runN Try.prog M (solo (G (Frame.enter Try.prog f vs .normal) []) W) = .next last ∧ step Try.prog last = .ended o w' ∧
      Go.Conc.Good Try.prog (fun x W' => x = .bool true ∧ Go.RowKit.Below W.heap.size W W') last o w' t' :=
  law_runs twin_both (fun f h => by simpa [specA] using h) (by decide +kernel) (by decide +kernel) twin_self (by decide +kernel) (fun f h hs => by
    simp only [goodB, Bool.or_eq_true, List.contains_eq_mem, decide_eq_true_eq]; exact .inl (goodA_mem h)) (by decide +kernel) (fun f h => by
    have := List.all_eq_true.1 no_init f (goodA_mem h)
    simpa using this) hgf hsf hmg har hw hfz hlaw
end Go.Proofs.Ytjklkppncmhehaa.Sr
