/-
What is proved: what the tree of a lone run of the second program holds at a call of the function that asks: the escape ('ask_escape'), the way to the function that asks one group after the other and back ('ask_seq', 'ask_back'). Conditions: those that each theorem states. the starter's way through Add ('add_way'). Conditions: those that the theorem states.
-/
import Derived.Test.YtjklkppncmhehaaSf13
import Derived.Test.YtjklkppncmhehaaSf14
import Derived.Test.YtjklkppncmhehaaSf12
set_option linter.unusedVariables false
set_option linter.unusedSimpArgs false
namespace Go.Proofs.Ytjklkppncmhehaa.Sr
open Go Go.Conc
section
variable {Q : Program} {R : Ending → World → Prop}
def runG (g : Goroutine) : Bool :=
  match g with
  | { frame := _, callers := _, status := .running, dying := none, offers := none } => true
  | _ => false
def deepG (g : Goroutine) : Bool := runG g && (match g.frame.mode with | .run => true | _ => match g.callers with
    | _ :: _ :: _ => true
    | _ => false)
def deeps (Q : Program) : Nat → Goroutine → Bool
  | 0, g => runG g
  | n + 1, g => deepG g && match qst Q g with
    | some (g', es) => es.isEmpty && deeps Q n g'
    | none => false
theorem runG_eq {g : Goroutine} (h : runG g = true) : g = G g.frame g.callers := by
  unfold runG at h; split at h
  · rfl
  · cases h
theorem deepG_eq {g : Goroutine} (h : deepG g = true) : g = G g.frame g.callers ∧ (g.frame.mode = .run ∨ ∃ c d ds, g.callers = c :: d :: ds) := by
  unfold deepG at h; simp only [Bool.and_eq_true] at h; refine ⟨runG_eq h.1, ?_⟩; have h2 := h.2; split at h2
  · rename_i hm
    exact .inl hm
  · split at h2
    · rename_i hc
      exact .inr ⟨_, _, _, hc⟩
    · cases h2
theorem deeps_run : ∀ {n : Nat} {g : Goroutine}, deeps Q n g = true → g = G g.frame g.callers
  | 0, _, h => runG_eq h
  | _ + 1, g, h => by
    unfold deeps at h; simp only [Bool.and_eq_true] at h; exact (deepG_eq h.1).1
theorem not_run (hO : ∀ w, ¬ R .outgrown w) {f : Frame} {cs : List Frame} {v : World} (h : f.mode = .run) : ¬ StopC Q R f cs v := by
  rintro ⟨_, e, T, d, h1, h2⟩
  cases e with
  | returned x => have := h2.1; rw [h] at this; cases this
  | panicked c => have := h2.1; rw [h] at this; cases this
  | outgrown => exact hO _ h1
theorem not_deep {f c d : Frame} {ds : List Frame} {v : World} : ¬ StopC Q R f (c :: d :: ds) v := by
  rintro ⟨h, _⟩; have := congrArg List.length h
  simp at this
theorem Ends.run (hO : ∀ w, ¬ R .outgrown w) : ∀ {n : Nat} {g : Goroutine} {v : World}, deeps Q n g = true → Ends Q (StopC Q R) g.frame g.callers v → Fol Q (StopC Q R) (g.frame, g.callers, v) ((adv Q n g).frame, (adv Q n g).callers, v)
  | 0, g, v, _, h => Fol.refl h
  | n + 1, g, v, hd, h => by
    unfold deeps at hd; simp only [Bool.and_eq_true] at hd; obtain ⟨h1, h2⟩ := hd; obtain ⟨e, hc⟩ := deepG_eq h1
    cases hq : qst Q g with
    | none => rw [hq] at h2; cases h2
    | some y =>
      obtain ⟨g', es⟩ := y; rw [hq] at h2; simp only [Bool.and_eq_true, Array.isEmpty_iff] at h2; obtain ⟨rfl, h3⟩ := h2; have e' := deeps_run h3; have hs : ∀ w, stepG Q true (G g.frame g.callers) w = .go (G g'.frame g'.callers) w #[] := fun w => by
        have := (qstep_sound hq).2 true w
        rw [← e, ← e']; exact this
      have hno : ¬ StopC Q R g.frame g.callers v := by
        rcases hc with hc | ⟨c, d, ds, hc⟩
        · exact not_run hO hc
        · rw [hc]; exact not_deep
      have f1 := h.silent hno hs; have f2 := Ends.run hO h3 f1.1; have ea : adv Q (n + 1) g = adv Q n g' := by simp only [adv, hq]
      rw [ea]; exact f1.trans f2
theorem Ends.on {Stop : Frame → List Frame → World → Prop} (hS : ∀ fr cs v T d, Stop fr cs v → Stop fr cs (v.on T d)) {fr : Frame} {cs : List Frame} {v : World} (h : Ends Q Stop fr cs v) (T : Nat → Question → Nat) (d : Nat) : Ends Q Stop fr cs (v.on T d) := by
  cases h with
  | stop h => exact .stop (hS _ _ _ _ _ h)
  | step k1 k2 => exact .step k1 k2
theorem Ends.drawn (hO : ∀ w, ¬ R .outgrown w) {fn : FuncId} {tm : Array Value} {id : Nat} {ops : Array Oper} {k : List Item} {cs : List Frame} {v : World} (h : Ends Q (StopC Q R) (mkF fn tm (.code (.region id ops true) :: k) .run) cs v) (o : Nat) :
    ∃ T n, Fol Q (StopC Q R) (mkF fn tm (.code (.region id ops true) :: k) .run, cs, v) (mkF fn tm (.inRegion ops (Region.schedule (Q.follows .mixedOrders) ops o) :: k) .run, cs, v.on T n) := by
  obtain ⟨h1, h2⟩ := h.go (not_run hO rfl) (T := fun _ _ => o) (d := 0) (.draw fn tm id ops k) (stepG_drawn ..)
  exact ⟨fun _ _ => o, 1, h1, .inr h2⟩
end
section
variable {R : Ending → World → Prop} {a b x : Value} {c d : Frame} {cs ds : List Frame} {v : World}
def τA : TypeId := 110
abbrev askId : FuncId := 51
def escV (us : Array Value) : Value := .iface τA (.func (.func askId) us #[])
noncomputable def tk0 (a b x : Value) (cs : List Frame) : Goroutine := G (Frame.enter Tw.prog askId #[a, b, x] .normal) cs
noncomputable def tkK : List Item := (adv Tw.prog 1 (tk0 undef undef undef [])).frame.todo
noncomputable def askOps : Array Oper := match tkK with
  | .code (.region _ ops _) :: _ => ops
  | _ => #[]
noncomputable def tk1 (a b x : Value) (cs : List Frame) (o : Nat) : Goroutine := G (mkF askId #[a, b, x, undef, undef, undef, undef] (.inRegion askOps (Region.schedule (Tw.prog.follows .mixedOrders) askOps o) :: tkK.tail) .run) cs
set_option maxRecDepth 100000
theorem tk_start : deeps Tw.prog 1 (tk0 a b x cs) = true := by kernel_rfl
theorem tk_draw : (adv Tw.prog 1 (tk0 a b x cs)) = G (mkF askId #[a, b, x, undef, undef, undef, undef] (.code (.region 0 askOps true) :: tkK.tail) .run) cs := by kernel_rfl
theorem tk_esc : deeps Tw.prog 8 (tk1 a b x cs 1) = true := by kernel_rfl
noncomputable def tk2 (a b x : Value) (cs : List Frame) : Goroutine := adv Tw.prog 8 (tk1 a b x cs 1)
theorem tk_panic : opSem Tw.prog (tk2 a b x cs) = some (.halt (.panic (escV #[a, b, x]))) := by kernel_rfl
theorem tk_seq : deeps Tw.prog 9 (tk1 a b x cs 0) = true := by kernel_rfl
noncomputable def fA (a b x : Value) : Frame := match (adv Tw.prog 9 (tk1 a b x [] 0)).callers with
  | f :: _ => f
  | [] => default
theorem tk_call : adv Tw.prog 9 (tk1 a b x cs 0) = G (Frame.enter Tw.prog Tw.seqId #[a, b, x] .normal) (fA a b x :: cs) := by kernel_rfl
theorem tk_back (y : Value) : deeps Tw.prog 3 (G ((fA a b x).finish y) (c :: d :: ds)) = true := by kernel_rfl
theorem tk_end (y : Value) : adv Tw.prog 3 (G ((fA a b x).finish y) (c :: d :: ds)) = G (c.finish y) (d :: ds) := by kernel_rfl
theorem tk_pass : (tk2 a b x cs).callers = cs ∧ ((tk2 a b x cs).frame.defers = [] ∧ (tk2 a b x cs).frame.fn = askId ∧ (tk2 a b x cs).frame.mode = .run ∧ (tk2 a b x cs).frame.kind = .normal) := ⟨by kernel_rfl, by kernel_rfl, by kernel_rfl, by kernel_rfl, by kernel_rfl⟩
theorem to_draw (hO : ∀ w, ¬ R .outgrown w) (hE : Ends Tw.prog (StopC Tw.prog R) (Frame.enter Tw.prog askId #[a, b, x] .normal) cs v) (o : Nat) :
    ∃ T n, Fol Tw.prog (StopC Tw.prog R) (Frame.enter Tw.prog askId #[a, b, x] .normal, cs, v) ((tk1 a b x cs o).frame, cs, v.on T n) := by
  have h1 := Ends.run hO (g := tk0 a b x cs) tk_start hE; rw [tk_draw] at h1; obtain ⟨T, n, h2⟩ := Ends.drawn hO h1.1 o; exact ⟨T, n, h1.trans h2⟩
theorem ask_escape (hO : ∀ w, ¬ R .outgrown w) {gs : List Frame} (hg : cs = gs ++ [dum]) (hp : ∀ f ∈ gs, Passes Tw.prog f) (hE : Ends Tw.prog (StopC Tw.prog R) (Frame.enter Tw.prog askId #[a, b, x] .normal) cs v) :
    ∃ v', v'.heap = v.heap ∧ R (.panicked [{ v := escV #[a, b, x], recovered := false }]) v' := by
  subst hg; obtain ⟨T, n, h1⟩ := to_draw hO hE 1; have h2 := Ends.run hO (g := tk1 a b x (gs ++ [dum]) 1) tk_esc h1.1; have h3 : Ends Tw.prog (StopC Tw.prog R) (tk2 a b x (gs ++ [dum])).frame (tk2 a b x (gs ++ [dum])).callers (v.on T n) := h2.1
  obtain ⟨p0, p1, p2, p3, p4⟩ := tk_pass (a := a) (b := b) (x := x) (cs := gs ++ [dum]); have eg := deeps_run (Q := Tw.prog) (n := 0) (g := tk2 a b x (gs ++ [dum])) (by kernel_rfl)
  rw [p0] at h3 eg; have hgo : ∀ w, stepG Tw.prog true (G (tk2 a b x (gs ++ [dum])).frame (gs ++ [dum])) w = .go (G ((tk2 a b x (gs ++ [dum])).frame.raise [{ v := escV #[a, b, x], recovered := false }]) (gs ++ [dum])) w #[] := by
    intro w; rw [← eg]; obtain ⟨_, _, _, e⟩ := oSs tk_panic true w; rw [e, p0]; exact (apply_panic (s := .halt (.panic (escV #[a, b, x]))) (w := w) (w1 := w) (es := #[]) p4 rfl).trans (by rfl)
  have h4 := h3.silent (not_run hO p3) hgo; have hr : ((tk2 a b x (gs ++ [dum])).frame.raise [{ v := escV #[a, b, x], recovered := false }]) = { (tk2 a b x (gs ++ [dum])).frame with mode := .panicking [{ v := escV #[a, b, x], recovered := false }] } := by
    unfold Frame.raise; rw [p3]
  rw [hr] at h4; obtain ⟨f2, b1, v2, b2, b3⟩ := unwinds (Q := Tw.prog) (Stop := StopC Tw.prog R) (c := dum) (fun f cs v h => h.1) (chain := [{ v := escV #[a, b, x], recovered := false }]) gs { (tk2 a b x (gs ++ [dum])).frame with mode := .panicking [{ v := escV #[a, b, x], recovered := false }] } hp p1 ⟨Tw.fAsk, by show Tw.prog.funcs[(tk2 a b x (gs ++ [dum])).frame.fn]? = _; rw [p2]; exact Tw.funcAsk⟩ rfl h4.1 (raise_dead _ _)
  obtain ⟨_, en, T2, d2, c1, c2⟩ := b3; refine ⟨v2.on T2 d2, b2, ?_⟩
  cases en with
  | returned y => have := c2.1; rw [b1] at this; cases this
  | panicked ch =>
    have := c2.1
    rw [b1] at this; injection this with this
    rw [this]; exact c1
  | outgrown => exact absurd c1 (hO _)
theorem ask_seq (hO : ∀ w, ¬ R .outgrown w) (hE : Ends Tw.prog (StopC Tw.prog R) (Frame.enter Tw.prog askId #[a, b, x] .normal) cs v) :
    ∃ T n, Fol Tw.prog (StopC Tw.prog R) (Frame.enter Tw.prog askId #[a, b, x] .normal, cs, v) (Frame.enter Tw.prog Tw.seqId #[a, b, x] .normal, fA a b x :: cs, v.on T n) := by
  obtain ⟨T, n, h1⟩ := to_draw hO hE 0; have h2 := Ends.run hO (g := tk1 a b x cs 0) tk_seq h1.1; rw [tk_call] at h2; exact ⟨T, n, h1.trans h2⟩
theorem ask_back (hO : ∀ w, ¬ R .outgrown w) {y : Value} (hE : Ends Tw.prog (StopC Tw.prog R) ((fA a b x).finish y) (c :: d :: ds) v) : Fol Tw.prog (StopC Tw.prog R) ((fA a b x).finish y, c :: d :: ds, v) (c.finish y, d :: ds, v) := by
  have h := Ends.run hO (g := G ((fA a b x).finish y) (c :: d :: ds)) (tk_back y) hE; rw [tk_end] at h; exact h
end
end Go.Proofs.Ytjklkppncmhehaa.Sr
namespace Go.Proofs.Ytjklkppncmhehaa.Sr
open Go Go.Conc Go.ConcN
/-- What the starter may count on, over its own steps at the group and the others' steps. -/
structure Mv (γ : Gh) (w : World) (γ' : Gh) (w' : World) : Prop where
  size : w.heap.size ≤ w'.heap.size
  same : SameOs w w'
  gh : γ'.sh = γ.sh ∧ γ'.ph = γ.ph ∧ γ'.ro = γ.ro ∧ γ'.j = γ.j
  ow : ∀ k b, b < w.heap.size → (γ'.ow k b ↔ γ.ow k b)
  heap : ∀ b, b < w.heap.size → (∀ k, ¬ γ.ow k b) → ¬ γ.sh b → (∀ p, γ.ph = some p → b ≠ p.A) → w'.heap[b]? = w.heap[b]?
theorem Mv.refl (γ : Gh) (w : World) : Mv γ w γ w := ⟨Nat.le_refl _, ⟨rfl, rfl, rfl⟩, ⟨rfl, rfl, rfl, rfl⟩, fun _ _ _ => .rfl, fun _ _ _ _ _ => rfl⟩
theorem Mv.trans {a b c : Gh} {u v w : World} (h : Mv a u b v) (g : Mv b v c w) : Mv a u c w := by
  obtain ⟨a1, a2, a3, a5⟩ := h.gh; obtain ⟨b1, b2, b3, b5⟩ := g.gh; refine ⟨Nat.le_trans h.size g.size, ⟨g.same.1.trans h.same.1, g.same.2.1.trans h.same.2.1, g.same.2.2.trans h.same.2.2⟩, ⟨b1.trans a1, b2.trans a2, b3.trans a3, b5.trans a5⟩,
    fun k x hx => (g.ow k x (Nat.lt_of_lt_of_le hx h.size)).trans (h.ow k x hx), fun x hx h1 h2 h3 => ?_⟩
  rw [g.heap x (Nat.lt_of_lt_of_le hx h.size) (fun k hk => h1 k ((h.ow k x hx).1 hk)) (a1 ▸ h2) (fun p hp => h3 p (a2 ▸ hp)), h.heap x hx h1 h2 h3]
theorem Mv.of {γ γ' : Gh} {w w' : World} (h : RM γ w γ' w') : Mv γ w γ' w' := ⟨h.size, h.same, ⟨h.gh.1, h.gh.2.1, h.gh.2.2.1, h.gh.2.2.2.2⟩, h.ow, h.heap⟩
theorem rm_of {γ γ' : Gh} {w w' : World} (h : RR 0 γ w γ' w') : RM γ w γ' w' := by
  unfold RR at h; rwa [if_pos rfl] at h
section
variable {P : Program} {Q : Gh → World → Trace → Nat → Outcome → World → Prop} {d : Nat} {γ : Gh} {w : World} {g : Goroutine}
theorem MP.said {g' : Goroutine} {es : Array Event} (h : qst P g = some (g', es))
    (hj : ∀ γ' w' t j, RM γ w γ' w' → JJ γ' w' t j → Deaf t 0 = d → ∃ γ1 b, JJ γ1 w' (t ++ MemOp.ofEvents 0 g.frame.fn g.frame.place es) j ∧ (∀ k', k' ≠ 0 → RR k' γ' w' γ1 w') ∧ MP (sys P) Q b (deafBehind d es) γ1 w' g') : MP (sys P) Q false d γ w g := by
  obtain ⟨h1, h2⟩ := qstep_sound h; refine .go h1 fun γ' w' t j hR hJ hd => ?_; obtain ⟨γ1, b, c1, c2, c4⟩ := hj γ' w' t j (rm_of hR) hJ hd; exact ⟨⟨g', w', es, γ1⟩, b, ⟨h2 true w', c1, c2⟩, c4⟩
theorem MP.vis (hs : g.status = .running)
    (hj : ∀ γ' w' t j, RM γ w γ' w' → JJ γ' w' t j → Deaf t 0 = d → ∃ v sh y γ1 b, vst P v sh g = some y ∧ (∀ a ∈ y.ls, w'.cell? a = some v ∧ w'.frozen? a = false) ∧ (∀ r ∈ y.rs, w'.shape? r = sh) ∧
      JJ γ1 (putSto w' y.sto) (t ++ MemOp.ofEvents 0 g.frame.fn g.frame.place y.es) j ∧ (∀ k', k' ≠ 0 → RR k' γ' w' γ1 (putSto w' y.sto)) ∧ MP (sys P) Q b (deafBehind d y.es) γ1 (putSto w' y.sto) y.x) : MP (sys P) Q false d γ w g := by
  refine .go hs fun γ' w' t j hR hJ hd => ?_; obtain ⟨v, sh, y, γ1, b, c0, c1, c2, c3, c4, c6⟩ := hj γ' w' t j (rm_of hR) hJ hd; exact ⟨⟨y.x, putSto w' y.sto, y.es, γ1⟩, b, ⟨(vS c0).2 true w' c1 c2, c3, c4⟩, c6⟩
theorem mS {n : Nat} (hm : mute P (n + 1) g = true) (h : ∀ γ' w', RM γ w γ' w' → MP (sys P) Q false d γ' w' (adv P (n + 1) g)) : MP (sys P) Q false d γ w g :=
  .mute hm fun γ' w' hR => ⟨false, h γ' w' (rm_of hR)⟩
theorem okM_mark {γ : Gh} {j B : Nat} {e : Event} (h : e.mute = true) : OkM γ j B e := by
  obtain ⟨h1, h2, h3⟩ := mute_quiet h B; exact ⟨fun x hx => (by rw [h1] at hx; cases hx), h2, h3⟩
theorem okM_rd {γ : Gh} {j B wg o : Nat} (hs : γ.sh wg) (hB : wg < B) : OkM γ j B (rdE ⟨wg, o, none⟩) :=
  ⟨fun x hx => .inl (by have : x = ⟨.cell ⟨wg, o, none⟩, false, .atomic⟩ := (Option.some.inj hx).symm; subst this; exact ⟨⟨_, rfl, hs⟩, nofun⟩), hB, nofun⟩
theorem okM_wr {γ : Gh} {j B wg o : Nat} (hs : γ.sh wg) (hB : wg < B) : OkM γ j B (wrE ⟨wg, o, none⟩) :=
  ⟨fun x hx => .inl (by have : x = ⟨.cell ⟨wg, o, none⟩, true, .atomic⟩ := (Option.some.inj hx).symm; subst this; exact ⟨⟨_, rfl, hs⟩, nofun⟩), hB, nofun⟩
theorem okM_sr {γ : Gh} {j B wg o : Nat} (hs : γ.sh wg) (hB : wg < B) : OkM γ j B (mkE (.read ⟨wg, o, none⟩)) :=
  ⟨fun x hx => .inl (by have : x = ⟨.cell ⟨wg, o, none⟩, false, .said⟩ := (Option.some.inj hx).symm; subst this; exact ⟨⟨_, rfl, hs⟩, nofun⟩), hB, nofun⟩
theorem okM_sw {γ : Gh} {j B wg o : Nat} (hs : γ.sh wg) (hB : wg < B) : OkM γ j B (mkE (.write ⟨wg, o, none⟩)) :=
  ⟨fun x hx => .inl (by have : x = ⟨.cell ⟨wg, o, none⟩, true, .said⟩ := (Option.some.inj hx).symm; subst this; exact ⟨⟨_, rfl, hs⟩, nofun⟩), hB, nofun⟩
/-- The starter is between two calls at the group, e counted and not started. -/
structure AtOp (γ : Gh) (p : Ph) (e n0 : Nat) : Prop where
  ph : γ.ph = some p
  wm : γ.wm = .op
  extra : γ.extra = e
  j : γ.j = n0
theorem AtOp.rely {γ γ' : Gh} {w w' : World} {p : Ph} {e n0 : Nat} (h : AtOp γ p e n0) (r : RM γ w γ' w') : AtOp γ' p e n0 := by
  obtain ⟨_, a, _, b, c⟩ := r.gh; exact ⟨a.trans h.ph, r.wm.1 h.wm, b.trans h.extra, c.trans h.j⟩
theorem mv_set {γ : Gh} {w : World} {p : Ph} {o : Nat} {x : Value} (γ' : Gh) (hs : γ.sh p.wg) (e1 : γ'.sh = γ.sh) (e2 : γ'.ph = γ.ph) (e3 : γ'.ro = γ.ro) (e4 : γ'.j = γ.j) (e5 : γ'.ow = γ.ow) : Mv γ w γ' (w.setCell ⟨p.wg, o, none⟩ x) :=
  ⟨Nat.le_of_eq set_size.symm, ⟨rfl, rfl, rfl⟩, ⟨e1, e2, e3, e4⟩, fun _ _ _ => by rw [e5], fun b _ _ h2 _ => set_o b fun e => h2 (e ▸ hs)⟩
theorem add_end {g9 gR : Goroutine} {g8 : Goroutine} (q8 : ∃ g9, qst P g8 = some (g9, #[mkE .enable]) ∧ mute P 1 g9 = true ∧ adv P 1 g9 = gR) {p : Ph} {e n0 : Nat} (hA : AtOp γ p e n0)
    (K : ∀ γ' w', Mv γ w γ' w' → AtOp γ' p e n0 → MP (sys P) Q false 0 γ' w' gR) : MP (sys P) Q false 1 γ w g8 := by
  obtain ⟨g9, q8, m9, a9⟩ := q8; refine .said q8 fun γ1 w1 t1 j1 h1 hJ1 hd1 => ?_; obtain ⟨r1, r2⟩ := M_quiet (fn := g8.frame.fn) (pos := g8.frame.place) (es := #[mkE .enable]) hJ1 fun e he => by simp at he; subst he; exact okM_mark rfl
  refine ⟨γ1, false, r1, r2, mS (n := 0) m9 fun γ2 w2 h2 => ?_⟩
  rw [a9]; exact K γ2 w2 ((Mv.of h1).trans (Mv.of h2)) ((hA.rely h1).rely h2)
theorem add_way {g0 g1 g2 g3 g5 g6 g7 g8 gR : Goroutine} {g4 : Nat → Goroutine} {eW : TypeId} {p : Ph} {n0 : Nat} (m0 : mute P 12 g0 = true) (a0 : adv P 12 g0 = g1) (q1 : qst P g1 = some (g2, #[mkE .disable])) (m2 : mute P 34 g2 = true) (a2 : adv P 34 g2 = g3)
    (v3 : ∀ v : Nat, v ≤ 4 → vst P (.int .u64 (stOf .op v)) none g3 = some ⟨g4 (v + 1), #[rdE ⟨p.wg, 0, none⟩, wrE ⟨p.wg, 0, none⟩], [⟨p.wg, 0, none⟩, ⟨p.wg, 0, none⟩], [], some (⟨p.wg, 0, none⟩, .int .u64 (((v + 1 : Nat) : Int) * KK2))⟩)
    (m4 : mute P 52 (g4 1) = true) (a4 : adv P 52 (g4 1) = g5) (v5 : vst P undef (some (eW, 2)) g5 = some ⟨g6, #[], [], [p.wg, p.wg], none⟩) (q6 : qst P g6 = some (g7, #[mkE (.read ⟨p.wg, 1, none⟩)])) (m7 : mute P 39 g7 = true) (a7 : adv P 39 g7 = g8)
    (q8 : ∃ g9, qst P g8 = some (g9, #[mkE .enable]) ∧ mute P 1 g9 = true ∧ adv P 1 g9 = gR)
    (n4 : ∀ v, 2 ≤ v → v ≤ 5 → mute P 87 (g4 v) = true) (n8 : ∀ v, 2 ≤ v → v ≤ 5 → ∃ g9, qst P (adv P 87 (g4 v)) = some (g9, #[mkE .enable]) ∧ mute P 1 g9 = true ∧ adv P 1 g9 = gR)
    (he : p.eW = eW) (hA : AtOp γ p 0 n0) (hn : n0 - p.j0 < p.n) (K : ∀ γ' w', Mv γ w γ' w' → AtOp γ' p 1 n0 → MP (sys P) Q false 0 γ' w' gR) : MP (sys P) Q false 0 γ w g0 := by
  refine mS (n := 11) m0 fun γ1 w1 h1 => ?_; rw [a0]; have A1 := hA.rely h1; refine .said q1 fun γ2 w2 t2 j2 h2 hJ2 hd2 => ?_; have A2 := A1.rely h2; obtain ⟨r1, r2⟩ := M_quiet (fn := g1.frame.fn) (pos := g1.frame.place) (es := #[mkE .disable]) hJ2 fun e he => by simp at he; subst he; exact okM_mark rfl
  refine ⟨γ2, false, r1, r2, mS (n := 33) m2 fun γ3 w3 h3 => ?_⟩
  rw [a2]; have A3 := A2.rely h3; refine .vis (vS (v3 0 (by omega))).1 fun γ4 w4 t4 j4 h4 hJ4 hd4 => ?_
  have A4 := A3.rely h4; have x4 := hJ4.phase p A4.ph; have ej := hJ4.j; have hv4 : γ4.v p ≤ 4 := by
    have h5 := cnt_le (st := γ4.st) (j0 := p.j0) (m := γ4.j - p.j0); have h7 := x4.n5; have h8 := A4.j; have h9 := A4.extra; unfold Gh.v; omega
  have hw4 := x4.wg; rw [A4.wm] at hw4; obtain ⟨s1, s2⟩ := M_add (w1 := w4.setCell ⟨p.wg, 0, none⟩ (.int .u64 (((γ4.v p + 1 : Nat) : Int) * KK2))) (fn := g3.frame.fn) (pos := g3.frame.place) (es := #[rdE ⟨p.wg, 0, none⟩, wrE ⟨p.wg, 0, none⟩]) hJ4 A4.ph A4.wm A4.extra
    (by rw [← ej, A4.j]; exact hn) ⟨rfl, rfl, rfl⟩ set_size set_o (wg_set0 hw4 _) fun e he => by
      have hB := hJ4.shlt _ x4.sh; simp at he
      rcases he with rfl | rfl
      · exact okM_rd x4.sh hB
      · exact okM_wr x4.sh hB
  have A5 : AtOp ({ γ4 with extra := 1 } : Gh) p 1 n0 := ⟨A4.ph, A4.wm, rfl, A4.j⟩
  have M5 : Mv γ w ({ γ4 with extra := 1 } : Gh) (w4.setCell ⟨p.wg, 0, none⟩ (.int .u64 (((γ4.v p + 1 : Nat) : Int) * KK2))) :=
    ((((Mv.of h1).trans (Mv.of h2)).trans (Mv.of h3)).trans (Mv.of h4)).trans (mv_set _ x4.sh rfl rfl rfl rfl rfl)
  refine ⟨_, _, _, _, false, v3 _ hv4, fun a ha => (mem2 ha) ▸ wg_cell0 hw4, fun r hr => (by cases hr), s1, s2, ?_⟩
  rcases Nat.eq_zero_or_pos (γ4.v p) with hz | hpos
  · rw [hz] at M5 ⊢
    refine mS (n := 51) m4 fun γ6 w6 h6 => ?_; rw [a4]; have A6 := A5.rely h6; refine .vis (vS v5).1 fun γ7 w7 t7 j7 h7 hJ7 hd7 => ?_; have A7 := A6.rely h7; have x7 := hJ7.phase p A7.ph; refine ⟨_, _, _, γ7, false, v5, fun a ha => (by cases ha), fun r hr => ?_, ?_, fun k' _ => (sys P).refl k' γ7 w7, ?_⟩
    · have : p.wg = r := mem3 hr
      rw [← this, ← he]; exact wg_shape x7.wg
    · show JJ γ7 w7 (t7 ++ MemOp.ofEvents 0 g5.frame.fn g5.frame.place #[]) j7
      rw [oEn, Array.append_empty]; exact hJ7
    refine .said q6 fun γ8 w8 t8 j8 h8 hJ8 hd8 => ?_; have A8 := A7.rely h8; have x8 := hJ8.phase p A8.ph; obtain ⟨u1, u2⟩ := M_quiet (fn := g6.frame.fn) (pos := g6.frame.place) (es := #[mkE (.read ⟨p.wg, 1, none⟩)]) hJ8 fun e he => by simp at he; subst he; exact okM_sr x8.sh (hJ8.shlt _ x8.sh)
    refine ⟨γ8, false, u1, u2, mS (n := 38) m7 fun γ9 w9 h9 => ?_⟩
    rw [a7]; have A9 := A8.rely h9; refine add_end (g9 := g0) q8 A9 fun γ' w' hM hA' => K γ' w' (((((M5.trans (Mv.of h6)).trans (Mv.of h7)).trans (Mv.of h8)).trans (Mv.of h9)).trans hM) hA'
  · refine mS (n := 86) (n4 _ (by omega) (by omega)) fun γ6 w6 h6 => ?_
    exact add_end (g9 := g0) (n8 _ (by omega) (by omega)) (A5.rely h6) fun γ' w' hM hA' => K γ' w' ((M5.trans (Mv.of h6)).trans hM) hA'
end
end Go.Proofs.Ytjklkppncmhehaa.Sr
