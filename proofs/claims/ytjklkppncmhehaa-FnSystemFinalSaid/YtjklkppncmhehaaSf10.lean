/-
What is proved: a machine of many goroutines, each of which makes its way whatever the others do within their bounds, comes to its end ('Sys.runs'). Conditions: those that the theorem states. a machine of many goroutines, each of which makes its way whatever the others do within their bounds, comes to its end ('Sys.runs'). Conditions: those that the theorem states. a machine of many goroutines, each of which makes its way whatever the others do within their bounds, comes to its end ('St.runs'). Conditions: those that the theorem states. what holds of the trace of a machine whose goroutines each have blocks of their own, and how it is kept ('TJ'). Conditions: those that each theorem states.
-/
import Derived.Test.YtjklkppncmhehaaProg
import Derived.Conc.Beside
import Derived.Conc.Crowd
import Derived.Conc.CrowdTrace
import Derived.Conc.CrowdBase
set_option linter.unusedVariables false
set_option linter.unusedSimpArgs false
namespace Go.Proofs.Ytjklkppncmhehaa.Sr
open Go Go.Conc
/-! ### ranks -/
inductive Tr : Type 1
  | mk (ι : Type) (f : ι → Tr)
inductive Tr.Lt : Tr → Tr → Prop
  | mk {ι : Type} (f : ι → Tr) (i : ι) : Tr.Lt (f i) (.mk ι f)
theorem Tr.acc : ∀ t : Tr, Acc Tr.Lt t
  | .mk ι f => ⟨_, fun y h => by cases h with | mk _ i => exact Tr.acc (f i)⟩
def Tr.nat : Nat → Tr
  | 0 => .mk Empty nofun
  | n + 1 => .mk Unit fun _ => Tr.nat n
theorem Tr.nat_lt (n : Nat) : Tr.Lt (Tr.nat n) (Tr.nat (n + 1)) := .mk (fun _ => Tr.nat n) ()
def PLt (j : Nat) (f g : Nat → Tr) : Prop := ∃ k, k < j ∧ Tr.Lt (f k) (g k) ∧ ∀ i, i ≠ k → f i = g i
theorem PLt.acc : ∀ (j : Nat) (f : Nat → Tr), Acc (PLt j) f
  | 0, f => ⟨_, fun g ⟨k, hk, _⟩ => by omega⟩
  | j + 1, f => by
    have key : ∀ x : Tr, Acc Tr.Lt x → ∀ f : Nat → Tr, f j = x → Acc (PLt (j + 1)) f := by
      intro x hx; induction hx with
      | intro x _ ih1 =>
        intro f; induction PLt.acc j f with
        | intro f _ ih2 =>
          intro e; refine ⟨_, fun g ⟨k, hk, hlt, hs⟩ => ?_⟩
          by_cases hkj : k = j
          · subst hkj
            exact ih1 (g k) (e ▸ hlt) g rfl
          · exact ih2 g ⟨k, by omega, hlt, hs⟩ ((hs j (Ne.symm hkj)).trans e)
    exact key (f j) (Tr.acc _) f rfl
/-! ### the goroutines' ways -/
structure Sys (P : Program) (Γ : Type) where
  /-- What holds at every moment: of the ghost, the memory, the trace, the number of goroutines that have been started. -/
  J : Γ → World → Trace → Nat → Prop
  /-- What the others do, as goroutine k sees it. -/
  R : Nat → Γ → World → Γ → World → Prop
  /-- The starter, where it would sleep, sleeps. -/
  Bl : Γ → World → Prop
  /-- Goroutine k only leaves. -/
  Gone : Γ → Nat → Prop
  refl : ∀ k γ w, R k γ w γ w
  trans : ∀ {k a u b v c w}, R k a u b v → R k b v c w → R k a u c w
  drawJ : ∀ {γ w t j} (d : Nat), J γ w t j → J γ (w.at d) t j
  drawR : ∀ (k γ w) (d : Nat), R k γ w γ (w.at d)
  drawBl : ∀ (γ w) (d : Nat), Bl γ (w.at d) ↔ Bl γ w
  absent : ∀ {γ w t j}, J γ w t j → ∀ (i : Nat) (op : MemOp), t[i]? = some op → op.g ≤ j
  mute : ∀ {γ w t j k} (fn : FuncId) (pos : String) (es : Array Event), J γ w t j → Gone γ k → 1 ≤ k → k ≤ j → (∀ e ∈ es, e.mute = true) → J γ w (t ++ MemOp.ofEvents k fn pos es) j
/-- Where a step leads. -/
structure Nx (Γ : Type) where
  g : Goroutine
  w : World
  es : Array Event
  γ : Γ
structure Ny (Γ : Type) extends Nx Γ where
  c : Goroutine
section
variable {P : Program} {Γ : Type} (S : Sys P Γ)
/-- What is asked of a step of goroutine k's. -/
structure StepOk (k : Nat) (main : Bool) (γ : Γ) (w : World) (t : Trace) (j : Nat) (g : Goroutine) (x : Nx Γ) : Prop where
  go : stepG P main g w = .go x.g x.w x.es
  inv : S.J x.γ x.w (t ++ MemOp.ofEvents k g.frame.fn g.frame.place x.es) j
  guar : ∀ k', k' ≠ k → S.R k' γ w x.γ x.w
structure SpawnOk (γ : Γ) (w : World) (t : Trace) (j : Nat) (g : Goroutine) (x : Ny Γ) : Prop where
  go : stepG P true g w = .spawn x.g x.c x.w x.es
  inv : S.J x.γ x.w ((MemOp.ofEvents 0 g.frame.fn g.frame.place x.es).push { g := 0, fn := g.frame.fn, pos := g.frame.place, act := .go (j + 1) } |>.push { g := j + 1, fn := x.c.frame.fn, pos := g.frame.place, act := .start } |> (t ++ ·)) (j + 1)
  guar : ∀ k', k' ≠ 0 → k' ≤ j → S.R k' γ w x.γ x.w
/-- Goroutine k makes its way. -/
inductive WP (k : Nat) : Nat → Γ → World → Goroutine → Prop
  | quit {d : Nat} {γ : Γ} {w : World} {g : Goroutine} (n : Nat) (h : QuitsD P n d g) (hg : ∀ γ' w', S.R k γ w γ' w' → S.Gone γ' k) : WP k d γ w g
  | step {d : Nat} {γ : Γ} {w : World} {g : Goroutine} (hs : g.status = .running) (hg : ∀ γ' w', S.R k γ w γ' w' → ¬ S.Gone γ' k) (nx : Γ → World → Trace → Nat → Nx Γ)
      (h : ∀ γ' w' t j, S.R k γ w γ' w' → S.J γ' w' t j → Deaf t k = d → k ≤ j → StepOk S k false γ' w' t j g (nx γ' w' t j) ∧ (S.Bl γ' w' → ¬ S.Bl (nx γ' w' t j).γ (nx γ' w' t j).w → mayWake P g = true ∧ (nx γ' w' t j).g.status = .running))
      (ih : ∀ γ' w' t j, S.R k γ w γ' w' → S.J γ' w' t j → Deaf t k = d → k ≤ j → WP k (deafBehind d (nx γ' w' t j).es) (nx γ' w' t j).γ (nx γ' w' t j).w (nx γ' w' t j).g) : WP k d γ w g
/-- The same, ranked. -/
inductive WPr (k : Nat) : Tr → Nat → Γ → World → Goroutine → Prop
  | quit {d : Nat} {γ : Γ} {w : World} {g : Goroutine} (n : Nat) (h : QuitsD P n d g) (hg : ∀ γ' w', S.R k γ w γ' w' → S.Gone γ' k) : WPr k (Tr.nat n) d γ w g
  | step {ρ : Tr} {d : Nat} {γ : Γ} {w : World} {g : Goroutine} (hs : g.status = .running) (hg : ∀ γ' w', S.R k γ w γ' w' → ¬ S.Gone γ' k) (nx : Γ → World → Trace → Nat → Nx Γ) (ρs : Γ → World → Trace → Nat → Tr)
      (h : ∀ γ' w' t j, S.R k γ w γ' w' → S.J γ' w' t j → Deaf t k = d → k ≤ j → StepOk S k false γ' w' t j g (nx γ' w' t j) ∧ (S.Bl γ' w' → ¬ S.Bl (nx γ' w' t j).γ (nx γ' w' t j).w → mayWake P g = true ∧ (nx γ' w' t j).g.status = .running))
      (hr : ∀ γ' w' t j, S.R k γ w γ' w' → S.J γ' w' t j → Deaf t k = d → k ≤ j → Tr.Lt (ρs γ' w' t j) ρ)
      (ih : ∀ γ' w' t j, S.R k γ w γ' w' → S.J γ' w' t j → Deaf t k = d → k ≤ j → WPr k (ρs γ' w' t j) (deafBehind d (nx γ' w' t j).es) (nx γ' w' t j).γ (nx γ' w' t j).w (nx γ' w' t j).g) : WPr k ρ d γ w g
variable {S}
theorem WP.ranked {k d : Nat} {γ : Γ} {w : World} {g : Goroutine} (h : WP S k d γ w g) : ∃ ρ, WPr S k ρ d γ w g := by
  induction h with
  | quit n h hg => exact ⟨_, .quit n h hg⟩
  | @step d γ w g hs hg nx h _ ih =>
    let ρs : Γ → World → Trace → Nat → Tr := fun γ' w' t j =>
      open Classical in if x : S.R k γ w γ' w' ∧ S.J γ' w' t j ∧ Deaf t k = d ∧ k ≤ j then (ih γ' w' t j x.1 x.2.1 x.2.2.1 x.2.2.2).choose else Tr.nat 0
    refine ⟨.mk (Γ × World × Trace × Nat) fun i => ρs i.1 i.2.1 i.2.2.1 i.2.2.2, .step hs hg nx ρs h (fun γ' w' t j h1 h2 h3 h4 => .mk (fun i : Γ × World × Trace × Nat => ρs i.1 i.2.1 i.2.2.1 i.2.2.2) (γ', w', t, j)) fun γ' w' t j h1 h2 h3 h4 => ?_⟩
    have x : S.R k γ w γ' w' ∧ S.J γ' w' t j ∧ Deaf t k = d ∧ k ≤ j := ⟨h1, h2, h3, h4⟩
    have e : ρs γ' w' t j = (ih γ' w' t j h1 h2 h3 h4).choose := dif_pos x
    rw [e]; exact (ih γ' w' t j h1 h2 h3 h4).choose_spec
theorem WPr.rely {k d : Nat} {ρ : Tr} {γ γ' : Γ} {w w' : World} {g : Goroutine} (h : WPr S k ρ d γ w g) (r : S.R k γ w γ' w') : WPr S k ρ d γ' w' g := by
  cases h with
  | quit n h hg => exact .quit n h fun a b x => hg a b (S.trans r x)
  | step hs hg nx ρs h hr ih => exact .step hs (fun a b x => hg a b (S.trans r x)) nx ρs (fun a b t j x => h a b t j (S.trans r x)) (fun a b t j x => hr a b t j (S.trans r x)) (fun a b t j x => ih a b t j (S.trans r x))
theorem WP.rely {k d : Nat} {γ γ' : Γ} {w w' : World} {g : Goroutine} (h : WP S k d γ w g) (r : S.R k γ w γ' w') : WP S k d γ' w' g := by
  cases h with
  | quit n h hg => exact .quit n h fun a b x => hg a b (S.trans r x)
  | step hs hg nx h ih => exact .step hs (fun a b x => hg a b (S.trans r x)) nx (fun a b t j x => h a b t j (S.trans r x)) (fun a b t j x => ih a b t j (S.trans r x))
theorem WP.mk {k d : Nat} {γ : Γ} {w : World} {g : Goroutine} (hs : g.status = .running) (hg : ∀ γ' w', S.R k γ w γ' w' → ¬ S.Gone γ' k)
    (h : ∀ γ' w' t j, S.R k γ w γ' w' → S.J γ' w' t j → Deaf t k = d → k ≤ j → ∃ x : Nx Γ, StepOk S k false γ' w' t j g x ∧ (S.Bl γ' w' → ¬ S.Bl x.γ x.w → mayWake P g = true ∧ x.g.status = .running) ∧ WP S k (deafBehind d x.es) x.γ x.w x.g) : WP S k d γ w g := by
  let nx : Γ → World → Trace → Nat → Nx Γ := fun γ' w' t j =>
    open Classical in if x : S.R k γ w γ' w' ∧ S.J γ' w' t j ∧ Deaf t k = d ∧ k ≤ j then (h γ' w' t j x.1 x.2.1 x.2.2.1 x.2.2.2).choose else ⟨g, w, #[], γ⟩
  have key : ∀ γ' w' t j, S.R k γ w γ' w' → S.J γ' w' t j → Deaf t k = d → k ≤ j → StepOk S k false γ' w' t j g (nx γ' w' t j) ∧ (S.Bl γ' w' → ¬ S.Bl (nx γ' w' t j).γ (nx γ' w' t j).w → mayWake P g = true ∧ (nx γ' w' t j).g.status = .running) ∧
      WP S k (deafBehind d (nx γ' w' t j).es) (nx γ' w' t j).γ (nx γ' w' t j).w (nx γ' w' t j).g := by
    intro γ' w' t j h1 h2 h3 h4; have x : S.R k γ w γ' w' ∧ S.J γ' w' t j ∧ Deaf t k = d ∧ k ≤ j := ⟨h1, h2, h3, h4⟩
    have e : nx γ' w' t j = (h γ' w' t j h1 h2 h3 h4).choose := dif_pos x
    rw [e]; exact (h γ' w' t j h1 h2 h3 h4).choose_spec
  exact .step hs hg nx (fun γ' w' t j h1 h2 h3 h4 => ⟨(key γ' w' t j h1 h2 h3 h4).1, (key γ' w' t j h1 h2 h3 h4).2.1⟩) fun γ' w' t j h1 h2 h3 h4 => (key γ' w' t j h1 h2 h3 h4).2.2
end
end Go.Proofs.Ytjklkppncmhehaa.Sr
namespace Go.Proofs.Ytjklkppncmhehaa.Sr
open Go Go.Conc
/-- Where a step of the starter's leads. -/
inductive Nz (Γ : Type)
  | go (x : Nx Γ) (b : Bool)
  | spawn (x : Ny Γ) (b : Bool)
  | fin (o : Outcome) (w : World) (es : Array Event)
section
variable {P : Program} {Γ : Type} (S : Sys P Γ) (Q : Γ → World → Trace → Nat → Outcome → World → Prop)
def MOk (γ : Γ) (w : World) (t : Trace) (j : Nat) (g : Goroutine) : Nz Γ → Prop
  | .go x _ => StepOk S 0 true γ w t j g x
  | .spawn x _ => SpawnOk S γ w t j g x ∧ WP S (j + 1) 0 x.γ x.w x.c
  | .fin o w1 es => stepG P true g w = .ended o w1 es ∧ Q γ w (t ++ MemOp.ofEvents 0 g.frame.fn g.frame.place es) j o w1
def Sleeps (γ : Γ) (w : World) (j : Nat) (g : Goroutine) : Prop := stepG P true g w = .go { g with status := .blocked } w #[] ∧ ∃ k, 1 ≤ k ∧ k ≤ j ∧ ¬ S.Gone γ k
/-- The starter makes its way. -/
inductive MP : Bool → Nat → Γ → World → Goroutine → Prop
  | step {d : Nat} {γ : Γ} {w : World} {g : Goroutine} (b : Bool) (hs : g.status = .running) (ho : b = true → g.offers = none) (nx : Γ → World → Trace → Nat → Nz Γ)
      (h : ∀ γ' w' t j, S.R 0 γ w γ' w' → S.J γ' w' t j → Deaf t 0 = d → (b = true → ¬ S.Bl γ' w') → MOk S Q γ' w' t j g (nx γ' w' t j))
      (hw : b = true → ∀ γ' w' t j, S.R 0 γ w γ' w' → S.J γ' w' t j → Deaf t 0 = d → S.Bl γ' w' → Sleeps S γ' w' j g)
      (i1 : ∀ γ' w' t j, S.R 0 γ w γ' w' → S.J γ' w' t j → Deaf t 0 = d → (b = true → ¬ S.Bl γ' w') → ∀ x b', nx γ' w' t j = .go x b' → MP b' (deafBehind d x.es) x.γ x.w x.g)
      (i2 : ∀ γ' w' t j, S.R 0 γ w γ' w' → S.J γ' w' t j → Deaf t 0 = d → (b = true → ¬ S.Bl γ' w') → ∀ x b', nx γ' w' t j = .spawn x b' → MP b' (deafBehind d x.es) x.γ x.w x.g) : MP b d γ w g
inductive MPr : Tr → Bool → Nat → Γ → World → Goroutine → Prop
  | step {ρ : Tr} {d : Nat} {γ : Γ} {w : World} {g : Goroutine} (b : Bool) (hs : g.status = .running) (ho : b = true → g.offers = none) (nx : Γ → World → Trace → Nat → Nz Γ) (ρs : Γ → World → Trace → Nat → Tr)
      (h : ∀ γ' w' t j, S.R 0 γ w γ' w' → S.J γ' w' t j → Deaf t 0 = d → (b = true → ¬ S.Bl γ' w') → MOk S Q γ' w' t j g (nx γ' w' t j))
      (hw : b = true → ∀ γ' w' t j, S.R 0 γ w γ' w' → S.J γ' w' t j → Deaf t 0 = d → S.Bl γ' w' → Sleeps S γ' w' j g)
      (hr : ∀ γ' w' t j, Tr.Lt (ρs γ' w' t j) ρ)
      (i1 : ∀ γ' w' t j, S.R 0 γ w γ' w' → S.J γ' w' t j → Deaf t 0 = d → (b = true → ¬ S.Bl γ' w') → ∀ x b', nx γ' w' t j = .go x b' → MPr (ρs γ' w' t j) b' (deafBehind d x.es) x.γ x.w x.g)
      (i2 : ∀ γ' w' t j, S.R 0 γ w γ' w' → S.J γ' w' t j → Deaf t 0 = d → (b = true → ¬ S.Bl γ' w') → ∀ x b', nx γ' w' t j = .spawn x b' → MPr (ρs γ' w' t j) b' (deafBehind d x.es) x.γ x.w x.g) : MPr ρ b d γ w g
variable {S Q}
theorem MP.ranked {b : Bool} {d : Nat} {γ : Γ} {w : World} {g : Goroutine} (h : MP S Q b d γ w g) : ∃ ρ, MPr S Q ρ b d γ w g := by
  induction h with
  | @step d γ w g b hs ho nx h hw _ _ ih1 ih2 =>
    have key : ∀ i : Γ × World × Trace × Nat, ∃ ρ, (S.R 0 γ w i.1 i.2.1 → S.J i.1 i.2.1 i.2.2.1 i.2.2.2 → Deaf i.2.2.1 0 = d → (b = true → ¬ S.Bl i.1 i.2.1) →
        (∀ x b', nx i.1 i.2.1 i.2.2.1 i.2.2.2 = .go x b' → MPr S Q ρ b' (deafBehind d x.es) x.γ x.w x.g) ∧ ∀ x b', nx i.1 i.2.1 i.2.2.1 i.2.2.2 = .spawn x b' → MPr S Q ρ b' (deafBehind d x.es) x.γ x.w x.g) := by
      rintro ⟨γ', w', t, j⟩; by_cases hh : S.R 0 γ w γ' w' ∧ S.J γ' w' t j ∧ Deaf t 0 = d ∧ (b = true → ¬ S.Bl γ' w')
      · cases hn : nx γ' w' t j with
        | go x b' =>
          obtain ⟨ρ, hρ⟩ := ih1 γ' w' t j hh.1 hh.2.1 hh.2.2.1 hh.2.2.2 x b' hn; exact ⟨ρ, fun _ _ _ _ => ⟨fun y c e => (by cases e; exact hρ), fun y c e => (by cases e)⟩⟩
        | spawn x b' =>
          obtain ⟨ρ, hρ⟩ := ih2 γ' w' t j hh.1 hh.2.1 hh.2.2.1 hh.2.2.2 x b' hn; exact ⟨ρ, fun _ _ _ _ => ⟨fun y c e => (by cases e), fun y c e => (by cases e; exact hρ)⟩⟩
        | fin o w1 es => exact ⟨Tr.nat 0, fun _ _ _ _ => ⟨fun y c e => (by cases e), fun y c e => (by cases e)⟩⟩
      · exact ⟨Tr.nat 0, fun a b c d => absurd ⟨a, b, c, d⟩ hh⟩
    refine ⟨.mk (Γ × World × Trace × Nat) fun i => (key i).choose, .step b hs ho nx (fun γ' w' t j => (key (γ', w', t, j)).choose) h hw (fun γ' w' t j => .mk (fun i => (key i).choose) (γ', w', t, j)) (fun γ' w' t j a1 a2 a3 a4 => ((key (γ', w', t, j)).choose_spec a1 a2 a3 a4).1) fun γ' w' t j a1 a2 a3 a4 => ((key (γ', w', t, j)).choose_spec a1 a2 a3 a4).2⟩
theorem MPr.rely {ρ : Tr} {b : Bool} {d : Nat} {γ γ' : Γ} {w w' : World} {g : Goroutine} (h : MPr S Q ρ b d γ w g) (r : S.R 0 γ w γ' w') : MPr S Q ρ b d γ' w' g := by
  cases h with
  | step b hs ho nx ρs h hw hr i1 i2 =>
    exact .step b hs ho nx ρs (fun a c t j x => h a c t j (S.trans r x)) (fun e a c t j x => hw e a c t j (S.trans r x)) hr (fun a c t j x => i1 a c t j (S.trans r x)) (fun a c t j x => i2 a c t j (S.trans r x))
theorem MP.rely {b : Bool} {d : Nat} {γ γ' : Γ} {w w' : World} {g : Goroutine} (h : MP S Q b d γ w g) (r : S.R 0 γ w γ' w') : MP S Q b d γ' w' g := by
  cases h with
  | step b hs ho nx h hw i1 i2 =>
    exact .step b hs ho nx (fun a c t j x => h a c t j (S.trans r x)) (fun e a c t j x => hw e a c t j (S.trans r x)) (fun a c t j x => i1 a c t j (S.trans r x)) (fun a c t j x => i2 a c t j (S.trans r x))
theorem MP.mk {b : Bool} {d : Nat} {γ : Γ} {w : World} {g : Goroutine} (hs : g.status = .running) (ho : b = true → g.offers = none)
    (hw : b = true → ∀ γ' w' t j, S.R 0 γ w γ' w' → S.J γ' w' t j → Deaf t 0 = d → S.Bl γ' w' → Sleeps S γ' w' j g)
    (h : ∀ γ' w' t j, S.R 0 γ w γ' w' → S.J γ' w' t j → Deaf t 0 = d → (b = true → ¬ S.Bl γ' w') → ∃ z : Nz Γ, MOk S Q γ' w' t j g z ∧ (∀ x b', z = .go x b' → MP S Q b' (deafBehind d x.es) x.γ x.w x.g) ∧ ∀ x b', z = .spawn x b' → MP S Q b' (deafBehind d x.es) x.γ x.w x.g) : MP S Q b d γ w g := by
  have key : ∀ i : Γ × World × Trace × Nat, ∃ z : Nz Γ, S.R 0 γ w i.1 i.2.1 → S.J i.1 i.2.1 i.2.2.1 i.2.2.2 → Deaf i.2.2.1 0 = d → (b = true → ¬ S.Bl i.1 i.2.1) →
      (MOk S Q i.1 i.2.1 i.2.2.1 i.2.2.2 g z ∧ (∀ x b', z = .go x b' → MP S Q b' (deafBehind d x.es) x.γ x.w x.g) ∧ ∀ x b', z = .spawn x b' → MP S Q b' (deafBehind d x.es) x.γ x.w x.g) := by
    rintro ⟨γ', w', t, j⟩; by_cases hh : S.R 0 γ w γ' w' ∧ S.J γ' w' t j ∧ Deaf t 0 = d ∧ (b = true → ¬ S.Bl γ' w')
    · obtain ⟨z, hz⟩ := h γ' w' t j hh.1 hh.2.1 hh.2.2.1 hh.2.2.2
      exact ⟨z, fun _ _ _ _ => hz⟩
    · exact ⟨.fin (.exit 0) w #[], fun a1 a2 a3 a4 => absurd ⟨a1, a2, a3, a4⟩ hh⟩
  exact .step b hs ho (fun γ' w' t j => (key (γ', w', t, j)).choose) (fun γ' w' t j a1 a2 a3 a4 => ((key (γ', w', t, j)).choose_spec a1 a2 a3 a4).1) hw
    (fun γ' w' t j a1 a2 a3 a4 => ((key (γ', w', t, j)).choose_spec a1 a2 a3 a4).2.1) (fun γ' w' t j a1 a2 a3 a4 => ((key (γ', w', t, j)).choose_spec a1 a2 a3 a4).2.2)
theorem MP.go {d : Nat} {γ : Γ} {w : World} {g : Goroutine} (hs : g.status = .running)
    (h : ∀ γ' w' t j, S.R 0 γ w γ' w' → S.J γ' w' t j → Deaf t 0 = d → ∃ (x : Nx Γ) (b' : Bool), StepOk S 0 true γ' w' t j g x ∧ MP S Q b' (deafBehind d x.es) x.γ x.w x.g) : MP S Q false d γ w g :=
  .mk hs nofun nofun fun γ' w' t j a1 a2 a3 _ => by
    obtain ⟨x, b', h1, h2⟩ := h γ' w' t j a1 a2 a3; exact ⟨.go x b', h1, fun y c e => (by cases e; exact h2), fun y c e => (by cases e)⟩
def Res (S : Sys P Γ) (Q : Γ → World → Trace → Nat → Outcome → World → Prop) (m : Machine) (t : Trace) : Prop :=
  ∃ M gs' w' sl' t' γ' w2 j' o w1 ops, runNT P M m t = (.next (crowd gs' w' sl'), t') ∧ stepT P (crowd gs' w' sl') = (.ended o w1, ops) ∧ Q γ' w2 (t' ++ ops) j' o w1 ∧ S.J γ' w2 t' j' ∧ gs'.size = j' + 1 ∧
    ∀ k, 1 ≤ k → k ≤ j' → ∃ x, gs'[k]? = some x ∧ (S.Gone γ' k → ∃ n, QuitsD P n (Deaf (t' ++ ops) k) x)
theorem Res.next {m m' : Machine} {t : Trace} {ops : Array MemOp} (h : stepT P m = (.next m', ops)) (r : Res S Q m' (t ++ ops)) : Res S Q m t := by
  obtain ⟨M, gs', w', sl', t', γ', w2, j', o, w1, ops', h1, h2⟩ := r; refine ⟨M + 1, gs', w', sl', t', γ', w2, j', o, w1, ops', ?_, h2⟩; simp only [runNT, h]; exact h1
end
end Go.Proofs.Ytjklkppncmhehaa.Sr
namespace Go.Proofs.Ytjklkppncmhehaa.Sr
open Go Go.Conc
section
variable {P : Program} {Γ : Type} (S : Sys P Γ) (Q : Γ → World → Trace → Nat → Outcome → World → Prop)
def asleep (g : Goroutine) : Bool → Goroutine
  | true => g
  | false => { g with status := .blocked }
structure St (gs : Array Goroutine) (w : World) (t : Trace) (γ : Γ) (j : Nat) (ρ0 : Tr) (ρs : Nat → Tr) (b run : Bool) (g : Goroutine) : Prop where
  size : gs.size = j + 1
  inv : S.J γ w t j
  main : MPr S Q ρ0 b (Deaf t 0) γ w g
  at0 : gs[0]? = some (asleep g run)
  blk : run = false → b = true ∧ S.Bl γ w
  wk : ∀ k, 1 ≤ k → k ≤ j → ∃ x, gs[k]? = some x ∧ WPr S k (ρs k) (Deaf t k) γ w x
variable {S Q}
theorem MPr.run {ρ : Tr} {b : Bool} {d : Nat} {γ : Γ} {w : World} {g : Goroutine} (h : MPr S Q ρ b d γ w g) : g.status = .running ∧ (b = true → g.offers = none) := by
  cases h with
  | step _ hs ho => exact ⟨hs, ho⟩
theorem WPr.status {k d : Nat} {ρ : Tr} {γ : Γ} {w : World} {g : Goroutine} (h : WPr S k ρ d γ w g) : g.status = .running ∨ g.status = .finished := by
  cases h with
  | quit n h _ => exact h.status
  | step hs => exact .inl hs
theorem woken_over {P : Program} {g g' : Goroutine} {w' : World} {o : Goroutine} (h : o.status = .running ∨ o.status = .finished) : woken P g g' w' o = o := by
  unfold woken; split
  · exact again_running _ h
  · rfl
variable {gs : Array Goroutine} {w : World} {t : Trace} {γ : Γ} {j : Nat} {ρ0 : Tr} {ρs : Nat → Tr} {b run : Bool} {g : Goroutine}
theorem St.draw (h : St S Q gs w t γ j ρ0 ρs b run g) (d : Nat) : St S Q gs (w.at d) t γ j ρ0 ρs b run g :=
  ⟨h.size, S.drawJ d h.inv, h.main.rely (S.drawR _ _ _ d), h.at0, fun e => ⟨(h.blk e).1, (S.drawBl _ _ d).2 (h.blk e).2⟩, fun k k1 kj => let ⟨x, h1, h2⟩ := h.wk k k1 kj; ⟨x, h1, h2.rely (S.drawR _ _ _ d)⟩⟩
theorem events_g {i : Nat} {fn : FuncId} {pos : String} {es : Array Event} : ∀ op ∈ MemOp.ofEvents i fn pos es, op.g = i := by
  intro op hop; rw [ofEvents_eq] at hop; obtain ⟨e, _, rfl⟩ := Array.mem_map.1 hop; rfl
theorem St.worker (h : St S Q gs w t γ j ρ0 ρs b run g) {i : Nat} {x : Goroutine} (i1 : 1 ≤ i) (hi : gs[i]? = some x) (hx : x.status = .running) :
    ∃ x' w' es γ' ρs' run', stepG P false x w = .go x' w' es ∧ PLt (j + 1) ρs' ρs ∧ St S Q ((gs.map (woken P x x' w')).setIfInBounds i x') w' (t ++ MemOp.ofEvents i x.frame.fn x.frame.place es) γ' j ρ0 ρs' b run' g := by
  have hij : i ≤ j := by have := (Array.getElem?_eq_some_iff.1 hi).1; rw [h.size] at this; omega
  obtain ⟨x2, hx2, hw⟩ := h.wk i i1 hij; rw [hi] at hx2; obtain rfl := Option.some.inj hx2
  obtain ⟨mrun, moff⟩ := h.main.run; have fin : ∀ (x' : Goroutine) (w' : World) (es : Array Event) (γ' : Γ) (ρ' : Tr), stepG P false x w = .go x' w' es → Tr.Lt ρ' (ρs i) → S.J γ' w' (t ++ MemOp.ofEvents i x.frame.fn x.frame.place es) j → (∀ k, k ≠ i → S.R k γ w γ' w') →
      (S.Bl γ w → ¬ S.Bl γ' w' → mayWake P x = true ∧ x'.status = .running) → WPr S i ρ' (deafBehind (Deaf t i) es) γ' w' x' →
      ∃ x' w' es γ' ρs' run', stepG P false x w = .go x' w' es ∧ PLt (j + 1) ρs' ρs ∧ St S Q ((gs.map (woken P x x' w')).setIfInBounds i x') w' (t ++ MemOp.ofEvents i x.frame.fn x.frame.place es) γ' j ρ0 ρs' b run' g := by
    intro x' w' es γ' ρ' hgo hlt hJ hR hBl hW; let ρs' : Nat → Tr := fun k => if k = i then ρ' else ρs k
    have e0 : ρs' i = ρ' := if_pos rfl
    have e1 : ∀ k, k ≠ i → ρs' k = ρs k := fun k hk => if_neg hk
    have hwake : ∃ run', woken P x x' w' (asleep g run) = asleep g run' ∧ (run' = false → run = false ∧ ¬ (mayWake P x = true ∧ x'.status = .running)) := by
      cases run with
      | true => exact ⟨true, woken_over (.inl mrun), nofun⟩
      | false =>
        have hb := (h.blk rfl).1; unfold woken; split
        · refine ⟨true, ?_, nofun⟩
          have ho := moff hb; obtain ⟨f, c, s, dd, o⟩ := g; dsimp only at mrun ho
          subst mrun ho; rfl
        · rename_i hc
          refine ⟨false, rfl, fun _ => ⟨rfl, fun ⟨c1, c2⟩ => hc ?_⟩⟩
          rw [c1, c2]; rfl
    obtain ⟨run', hw1, hw2⟩ := hwake; refine ⟨x', w', es, γ', ρs', run', hgo, ⟨i, by omega, by rw [e0]; exact hlt, e1⟩, by simp [h.size], hJ, ?_, ?_, fun e => ?_, fun k k1 kj => ?_⟩
    · rw [Deaf_other t (by omega) _ events_g]
      exact h.main.rely (hR 0 (by omega))
    · rw [Array.getElem?_setIfInBounds_ne (by omega), Array.getElem?_map, h.at0, Option.map_some, hw1]
    · obtain ⟨r1, r2⟩ := hw2 e
      obtain ⟨hb, hbl⟩ := h.blk r1; exact ⟨hb, Classical.byContradiction fun hn => r2 (hBl hbl hn)⟩
    · by_cases hk : k = i
      · subst hk
        refine ⟨x', by rw [Array.getElem?_setIfInBounds_self_of_lt (by simp [h.size]; omega)], ?_⟩
        rw [e0, Deaf_own]; exact hW
      · obtain ⟨y, hy, hyw⟩ := h.wk k k1 kj
        refine ⟨y, by rw [Array.getElem?_setIfInBounds_ne (Ne.symm hk), Array.getElem?_map, hy, Option.map_some, woken_over hyw.status], ?_⟩
        rw [e1 k hk, Deaf_other t (Ne.symm hk) _ events_g]; exact hyw.rely (hR k hk)
  generalize hρ : ρs i = ρ at hw fin
  cases hw with
  | quit n hq hg =>
    cases n with
    | zero => rw [hq.1] at hx; cases hx
    | succ n =>
      rcases hq with ⟨hf, _⟩ | ⟨_, x', es, hm, hst, hq'⟩
      · rw [hf] at hx; cases hx
      exact fin x' w es γ _ (hst w) (Tr.nat_lt n) (S.mute _ _ _ h.inv (hg _ _ (S.refl _ _ _)) i1 hij hm) (fun k _ => S.refl _ _ _) (fun a c => absurd a c) (.quit n hq' hg)
  | step hs hg nx ρn hok hr ih =>
    obtain ⟨⟨a1, a2, a3⟩, a4⟩ := hok γ w t j (S.refl _ _ _) h.inv rfl hij; exact fin _ _ _ _ _ a1 (hr γ w t j (S.refl _ _ _) h.inv rfl hij) a2 a3 a4 (ih γ w t j (S.refl _ _ _) h.inv rfl hij)
theorem oEn (i : Nat) (fn : FuncId) (pos : String) : MemOp.ofEvents i fn pos #[] = #[] := by rw [ofEvents_eq]; simp
theorem St.sleep (h : St S Q gs w t γ j ρ0 ρs b true g) (hb : b = true) (hbl : S.Bl γ w) : St S Q ((gs.map (woken P g { g with status := .blocked } w)).setIfInBounds 0 { g with status := .blocked }) w (t ++ MemOp.ofEvents 0 g.frame.fn g.frame.place #[]) γ j ρ0 ρs b false g := by
  rw [oEn, Array.append_empty]; refine ⟨by simp [h.size], h.inv, h.main, by simp [h.size, asleep], fun _ => ⟨hb, hbl⟩, fun k k1 kj => ?_⟩
  obtain ⟨y, hy, hyw⟩ := h.wk k k1 kj; exact ⟨y, by rw [Array.getElem?_setIfInBounds_ne (by omega), Array.getElem?_map, hy, Option.map_some, woken_over hyw.status], hyw⟩
theorem St.go (h : St S Q gs w t γ j ρ0 ρs b true g) {x : Nx Γ} (hok : StepOk S 0 true γ w t j g x) {ρ1 : Tr} {b' : Bool} (hm : MPr S Q ρ1 b' (deafBehind (Deaf t 0) x.es) x.γ x.w x.g) :
    St S Q ((gs.map (woken P g x.g x.w)).setIfInBounds 0 x.g) x.w (t ++ MemOp.ofEvents 0 g.frame.fn g.frame.place x.es) x.γ j ρ1 ρs b' true x.g := by
  refine ⟨by simp [h.size], hok.inv, by rw [Deaf_own]; exact hm, by simp [h.size, asleep], nofun, fun k k1 kj => ?_⟩
  obtain ⟨y, hy, hyw⟩ := h.wk k k1 kj; refine ⟨y, by rw [Array.getElem?_setIfInBounds_ne (by omega), Array.getElem?_map, hy, Option.map_some, woken_over hyw.status], ?_⟩
  rw [Deaf_other t (by omega) _ events_g]
  exact hyw.rely (hok.guar k (by omega))
theorem St.spawn (h : St S Q gs w t γ j ρ0 ρs b true g) {x : Ny Γ} (hok : SpawnOk S γ w t j g x) {ρ1 ρc : Tr} {b' : Bool} (hm : MPr S Q ρ1 b' (deafBehind (Deaf t 0) x.es) x.γ x.w x.g) (hc : WPr S (j + 1) ρc 0 x.γ x.w x.c) :
    St S Q ((gs.setIfInBounds 0 x.g).push x.c) x.w (t ++ ((MemOp.ofEvents 0 g.frame.fn g.frame.place x.es).push { g := 0, fn := g.frame.fn, pos := g.frame.place, act := .go (j + 1) } |>.push { g := j + 1, fn := x.c.frame.fn, pos := g.frame.place, act := .start })) x.γ (j + 1) ρ1 (fun k => if k = j + 1 then ρc else ρs k) b' true x.g := by
  have e2 : (t ++ ((MemOp.ofEvents 0 g.frame.fn g.frame.place x.es).push { g := 0, fn := g.frame.fn, pos := g.frame.place, act := .go (j + 1) } |>.push { g := j + 1, fn := x.c.frame.fn, pos := g.frame.place, act := .start })) =
      ((t ++ MemOp.ofEvents 0 g.frame.fn g.frame.place x.es) ++ #[{ g := 0, fn := g.frame.fn, pos := g.frame.place, act := .go (j + 1) }]) ++ #[{ g := j + 1, fn := x.c.frame.fn, pos := g.frame.place, act := .start }] := by
    apply Array.ext'; simp
  have d1 : ∀ k, k ≠ 0 → Deaf ((t ++ MemOp.ofEvents 0 g.frame.fn g.frame.place x.es) ++ #[{ g := 0, fn := g.frame.fn, pos := g.frame.place, act := .go (j + 1) }]) k = Deaf t k := by
    intro k hk; rw [Deaf_other _ (g' := 0) (by omega) _ (by simp), Deaf_other t (by omega) _ events_g]
  have s0 : ∀ (u : Trace) (k : Nat) (y : MemOp), y.act = .start ∨ (∃ q, y.act = .go q) → Deaf (u ++ #[y]) k = Deaf u k := by
    intro u k y hy; have := Deaf_append u k [y]
    simp only [List.foldl_cons, List.foldl_nil] at this; rw [show u ++ #[y] = u ++ [y].toArray from rfl, this]
    unfold deafStep; rcases hy with hy | ⟨q, hy⟩ <;> rw [hy]
  rw [e2]; refine ⟨by simp [h.size], by have := hok.inv; simp only at this; rwa [e2] at this, ?_, by rw [Array.getElem?_push, if_neg (by simp [h.size]), Array.getElem?_setIfInBounds_self_of_lt (by simp [h.size])]; rfl, nofun, fun k k1 kj => ?_⟩
  · rw [s0 _ _ _ (.inl rfl), s0 _ _ _ (.inr ⟨_, rfl⟩), Deaf_own]
    exact hm
  · have hne : 0 ≠ k := by omega
    by_cases hk : k = j + 1
    · subst hk
      refine ⟨x.c, by rw [Array.getElem?_push, if_pos (by simp [h.size])], ?_⟩
      rw [s0 _ _ _ (.inl rfl), d1 _ (by omega), Go.ConcN.Deaf_absent fun i op hi e => by have := S.absent h.inv i op hi; omega]
      simp only [if_true]; exact hc
    · obtain ⟨y, hy, hyw⟩ := h.wk k k1 (by omega)
      refine ⟨y, ?_, ?_⟩
      · rw [Array.getElem?_push, if_neg (by simp [h.size]; omega), Array.getElem?_setIfInBounds_ne hne, hy]
      · rw [s0 _ _ _ (.inl rfl), d1 _ (by omega)]
        simp only [if_neg hk]; exact hyw.rely (hok.guar k (by omega) (by omega))
theorem St.runs (a0 : Acc Tr.Lt ρ0) : ∀ (j : Nat) (ρs : Nat → Tr) (run : Bool) (gs : Array Goroutine) (w : World) (sl : Option (Nat × Nat)) (t : Trace) (γ : Γ) (b : Bool) (g : Goroutine), St S Q gs w t γ j ρ0 ρs b run g → Res S Q (crowd gs w sl) t := by
  induction a0 with
  | intro ρ0 _ ih0 =>
    intro j ρs; induction PLt.acc (j + 1) ρs with
    | intro ρs _ ih1 =>
      have core : ∀ run : Bool, (run = true → ∀ gs w sl t γ b g, St S Q gs w t γ j ρ0 ρs b false g → Res S Q (crowd gs w sl) t) → ∀ gs w sl t γ b g, St S Q gs w t γ j ρ0 ρs b run g → Res S Q (crowd gs w sl) t := by
        intro run hsl gs w sl t γ b g h; have haw : ∀ x ∈ gs, awake x := by
          intro x hx; obtain ⟨i, hi, rfl⟩ := Array.mem_iff_getElem.1 hx; rcases Nat.eq_zero_or_pos i with rfl | hpos
          · have : gs[0] = asleep g run := by simpa [Array.getElem?_eq_getElem hi] using h.at0
            rw [this]
            cases run with
            | true => exact awake_of (.inl h.main.run.1)
            | false => exact awake_of (.inr (.inl rfl))
          · have hij : i ≤ j := by rw [h.size] at hi; omega
            obtain ⟨y, hy, hyw⟩ := h.wk i hpos hij; rw [Array.getElem?_eq_getElem hi] at hy; rw [Option.some.inj hy]; exact awake_of (hyw.status.elim .inl fun x => .inr (.inr x))
        have hsome : ∃ (i : Nat) (x : Goroutine), gs[i]? = some x ∧ x.status = .running := by
          cases run with
          | true => exact ⟨0, g, h.at0, h.main.run.1⟩
          | false =>
            obtain ⟨hb, hbl⟩ := h.blk rfl; have hm := h.main
            cases hm with
            | step _ _ _ _ _ _ hw _ _ _ =>
              obtain ⟨_, k, k1, kj, hg⟩ := hw hb γ w t j (S.refl _ _ _) h.inv rfl hbl; obtain ⟨y, hy, hyw⟩ := h.wk k k1 kj; generalize ρs k = ρk at hyw
              cases hyw with
              | quit n hq hg' => exact absurd (hg' _ _ (S.refl _ _ _)) hg
              | step hs => exact ⟨k, y, hy, hs⟩
        obtain ⟨i, x, d, sl', hi, hx, hst⟩ := crowd_pick (P := P) (w := w) (sl := sl) haw hsome; have h' := h.draw d; rcases Nat.eq_zero_or_pos i with rfl | hpos
        · rw [h.at0] at hi
          obtain rfl := Option.some.inj hi
          cases run with
          | false => cases hx
          | true =>
            have hat := h'.at0; simp only [asleep] at hat hst; have hm := h'.main; by_cases hbb : b = true ∧ S.Bl γ (w.at d)
            · obtain ⟨hb, hbl⟩ := hbb
              cases hm with
              | step _ _ _ _ _ _ hw _ _ _ =>
                obtain ⟨hgo, _⟩ := hw hb γ _ t j (S.refl _ _ _) h'.inv rfl hbl; exact Res.next (hst.trans (runT_crowd_go (i := 0) hat (show stepG P (0 == 0) g (w.at d) = _ from hgo))) (hsl rfl _ _ _ _ _ _ _ (h'.sleep hb hbl))
            · have hnb : b = true → ¬ S.Bl γ (w.at d) := fun e hbl => hbb ⟨e, hbl⟩
              cases hm with
              | step _ hs ho nx ρn hok hw hr i1 i2 =>
                have hok' := hok γ _ t j (S.refl _ _ _) h'.inv rfl hnb; have hlt := hr γ (w.at d) t j
                cases hn : nx γ (w.at d) t j with
                | go y b' =>
                  rw [hn] at hok'; have hm' := i1 γ _ t j (S.refl _ _ _) h'.inv rfl hnb y b' hn; exact Res.next (hst.trans (runT_crowd_go (i := 0) hat (show stepG P (0 == 0) g (w.at d) = _ from hok'.go))) (ih0 _ hlt _ _ _ _ _ _ _ _ _ _ (h'.go hok' hm'))
                | spawn y b' =>
                  rw [hn] at hok'; obtain ⟨hok', hc⟩ := hok'; obtain ⟨ρc, hc⟩ := hc.ranked; have hm' := i2 γ _ t j (S.refl _ _ _) h'.inv rfl hnb y b' hn; have hrun := runT_crowd_spawn (sl := sl') (i := 0) hat (show stepG P (0 == 0) g (w.at d) = _ from hok'.go)
                  rw [h'.size] at hrun; exact Res.next (hst.trans hrun) (ih0 _ hlt _ _ _ _ _ _ _ _ _ _ (h'.spawn hok' hm' hc))
                | fin o w1 es =>
                  rw [hn] at hok'; obtain ⟨hend, hq⟩ := hok'; refine ⟨0, gs, w, sl, t, γ, w.at d, j, o, w1, _, rfl, hst.trans (runT_many_ended (i := 0) hat (show stepG P (0 == 0) g (w.at d) = _ from hend)), hq, h'.inv, h.size, fun k k1 kj => ?_⟩
                  obtain ⟨y, hy, hyw⟩ := h'.wk k k1 kj; refine ⟨y, hy, fun hg => ?_⟩
                  rw [Deaf_other t (by omega) _ events_g]
                  generalize ρs k = ρk at hyw
                  cases hyw with
                  | quit n hq hg' => exact ⟨n, hq⟩
                  | step _ hg' => exact absurd hg (hg' _ _ (S.refl _ _ _))
        · obtain ⟨x', w', es, γ', ρs', run', hgo, hlt, hS⟩ := h'.worker hpos hi hx
          have hi0 : (i == 0) = false := by simp; omega
          exact Res.next (hst.trans (runT_crowd_go (i := i) hi (by rw [hi0]; exact hgo))) (ih1 _ hlt _ _ _ _ _ _ _ _ hS)
      intro run
      cases run with
      | false => exact core false nofun
      | true => exact core true fun _ => core false nofun
end
end Go.Proofs.Ytjklkppncmhehaa.Sr
namespace Go.Proofs.Ytjklkppncmhehaa.Sr
open Go Go.Conc Go.ConcN
/-- Where a worker stands: at work; it has said that it is done; counted down. -/
inductive WSt | busy | said | off
  deriving DecidableEq
/-- How the group stands: open; the starter waits; the last worker has counted down; it has cleared the group; it has woken the starter. -/
inductive WM | op | reg | la (k : Nat) | lb (k : Nat) | rel
  deriving DecidableEq
/-- One call of ask: the group's block, the answers' block, their number, the goroutines before it, the answers; the two blocks' types. -/
structure Ph where
  wg : Nat
  A : Nat
  n : Nat
  j0 : Nat
  ans : Nat → Nat → Value
  eW : TypeId
  eA : TypeId
structure Gh where
  /-- Block b is worker k's. -/
  ow : Nat → Nat → Prop
  /-- Worker k may read block b. -/
  ro : Nat → Nat → Prop
  /-- A group's block. -/
  sh : Nat → Prop
  st : Nat → WSt
  wm : WM
  ph : Option Ph
  /-- How many are counted and not started. -/
  extra : Nat
  /-- How many are started. -/
  j : Nat
def blkOf : Loc → Option Nat
  | .cell a => some a.block
  | .obj r => some r
  | _ => none
def Gh.Slot (γ : Gh) (k : Nat) (a : Addr) : Prop := ∃ p, γ.ph = some p ∧ p.j0 < k ∧ a.block = p.A ∧ 5 * (k - p.j0 - 1) ≤ a.off ∧ a.off < 5 * (k - p.j0 - 1) + 5
def Gh.Sh (γ : Gh) : Loc → Prop := fun l => ∃ a, l = .cell a ∧ γ.sh a.block
def Gh.Own (γ : Gh) : Nat → Loc → Prop := fun k l => (∃ b, blkOf l = some b ∧ γ.ow k b) ∨ ∃ a, l = .cell a ∧ γ.Slot k a
def Gh.Rd (γ : Gh) : Nat → Loc → Prop := fun k l => ∃ b, blkOf l = some b ∧ γ.ro k b
/-- The blocks lie apart. -/
structure BA (γ : Gh) : Prop where
  ow : ∀ k k' b, γ.ow k b → γ.ow k' b → k = k'
  owRo : ∀ k k' b, γ.ow k b → ¬ γ.ro k' b
  owSh : ∀ k b, γ.ow k b → ¬ γ.sh b
  roSh : ∀ k b, γ.ro k b → ¬ γ.sh b
  A : ∀ p, γ.ph = some p → (∀ k, ¬ γ.ow k p.A ∧ ¬ γ.ro k p.A) ∧ ¬ γ.sh p.A
theorem BA.apart {γ : Gh} (h : BA γ) : Apart γ.Sh γ.Own γ.Rd := by
  refine ⟨?_, ?_, ?_, ?_⟩
  · rintro k k' l (⟨b, hb, ho⟩ | ⟨a, rfl, p, hp, hk, hA, h1, h2⟩) (⟨b', hb', ho'⟩ | ⟨a', e, p', hp', hk', hA', h1', h2'⟩)
    · rw [hb] at hb'; cases hb'; exact h.ow _ _ _ ho ho'
    · subst e; cases hb; rw [hA'] at ho; exact absurd ho ((h.A p' hp').1 k).1
    · cases hb'; rw [hA] at ho'; exact absurd ho' ((h.A p hp).1 k').1
    · cases e; rw [hp] at hp'; cases hp'; omega
  · rintro k k' l (⟨b, hb, ho⟩ | ⟨a, rfl, p, hp, hk, hA, h1, h2⟩) ⟨b', hb', hr⟩
    · rw [hb] at hb'; cases hb'; exact h.owRo _ _ _ ho hr
    · cases hb'; rw [hA] at hr; exact ((h.A p hp).1 k').2 hr
  · rintro k l (⟨b, hb, ho⟩ | ⟨a, rfl, p, hp, hk, hA, h1, h2⟩) ⟨a', e, hs⟩
    · subst e; cases hb; exact h.owSh _ _ ho hs
    · cases e; rw [hA] at hs; exact (h.A p hp).2 hs
  · rintro k l ⟨b, hb, hr⟩ ⟨a', rfl, hs⟩
    cases hb; exact h.roSh _ _ hr hs
structure TJ (γ : Gh) (B : Nat) (t : Trace) (j : Nat) : Prop where
  ct : CT γ.Sh γ.Own γ.Rd t j
  low : ∀ op ∈ t, op.act.low B
  over : ∀ i g, t.g? i = some g → g ≠ 0 → t.counts i → (∃ q, t.g? q = some 0 ∧ HappensBefore t i q) ∨ ∃ p, γ.ph = some p ∧ p.j0 < g
  rel : ∀ p, γ.ph = some p → ∀ k, p.j0 < k → k ≤ j → γ.st k ≠ .busy → ∃ r, RelBy ⟨p.wg, 0, none⟩ t k r ∧ ∀ i x, r < i → t.g? i = some k → touchAt t i = some x → γ.Sh x.loc
  norel : ∀ p, γ.ph = some p → NoRelease ⟨p.wg, 0, none⟩ t
  old : ∀ i x g, touchAt t i = some x → ¬ γ.Sh x.loc → t.g? i = some g → Knows t 0 i ∨ ∃ p, γ.ph = some p ∧ p.j0 < g
section
variable {γ γ' : Gh} {B B' : Nat} {t u : Trace} {j k : Nat} {fn : FuncId} {pos : String} {es : Array Event}
def Untouched (t : Trace) (l : Loc) : Prop := ∀ i x, touchAt t i = some x → x.loc ≠ l
theorem Untouched.perm {l : Loc} (h : Untouched t l) (g : Nat) : Perm t g l := fun i x hx e => absurd e (h i x hx)
theorem untouched_of_low {l : Loc} {b : Nat} (h : ∀ op ∈ t, op.act.low B) (hb : blkOf l = some b) (hB : B ≤ b) : Untouched t l := by
  intro i x hx e; obtain ⟨op, ho, hox⟩ := touch_of hx; have hl := h op (Array.mem_of_getElem? ho); revert hox hl
  cases op.act with
  | access ev =>
    intro hox hl; simp only [MemAct.touch?, Option.some.injEq] at hox; subst hox; dsimp only at e
    simp only [MemAct.low, e] at hl
    cases l <;> simp_all [blkOf, Loc.low] <;> omega
  | mark m =>
    intro hox hl
    cases m <;> simp [MemAct.touch?] at hox <;> subst hox <;> dsimp only at e <;> subst e <;> simp_all [blkOf, MemAct.low] <;> omega
  | _ => intro hox; simp [MemAct.touch?] at hox
theorem ct_change {Sh Sh' : Loc → Prop} {Own Own' Rd Rd' : Nat → Loc → Prop} (h : CT Sh Own Rd t j) (h1 : ∀ l, Sh' l → Sh l ∨ Untouched t l)
    (h2 : ∀ k, 1 ≤ k → k ≤ j → ∀ l, Own' k l → Own k l ∨ Untouched t l) (h3 : ∀ k, 1 ≤ k → k ≤ j → ∀ l, Rd' k l → Rd k l ∨ Untouched t l)
    (h4 : ∀ l, ¬ Sh' l → (∀ k, 1 ≤ k → k ≤ j → ¬ Own' k l ∧ ¬ Rd' k l) → (¬ Sh l ∧ ∀ k, 1 ≤ k → k ≤ j → ¬ Own k l ∧ ¬ Rd k l) ∨ Perm t 0 l)
    (h5 : ∀ l, ¬ Sh' l → (∀ k, 1 ≤ k → k ≤ j → ¬ Own' k l) → (¬ Sh l ∧ ∀ k, 1 ≤ k → k ≤ j → ¬ Own k l) ∨ PermW t 0 l) : CT Sh' Own' Rd' t j := by
  refine ⟨fun i op x hi hx hs => ?_, fun k k1 kj l hl => ?_, fun k k1 kj l hl => ?_, fun l hs hl => ?_, fun l hs hl => ?_, h.nr, h.gs⟩
  · rcases h1 _ hs with h' | h'
    · exact h.quiet i op x hi hx h'
    · exact absurd rfl (h' i x (by rw [touchAt_of hi]; exact hx))
  · exact (h2 k k1 kj l hl).elim (h.own k k1 kj l) (·.perm k)
  · exact (h3 k k1 kj l hl).elim (h.rd k k1 kj l) (fun x => .of (x.perm k))
  · exact (h4 l hs hl).elim (fun x => h.free l x.1 x.2) id
  · exact (h5 l hs hl).elim (fun x => h.mine l x.1 x.2) id
theorem events_act {op : MemOp} {i : Nat} (h : op ∈ MemOp.ofEvents i fn pos es) : ∃ e ∈ es, op.g = i ∧ op.act = .ofEvent e := by
  rw [ofEvents_eq] at h; obtain ⟨e, he, rfl⟩ := Array.mem_map.1 h; exact ⟨e, he, rfl, rfl⟩
theorem over_app (h : ∀ i g, t.g? i = some g → g ≠ 0 → t.counts i → (∃ q, t.g? q = some 0 ∧ HappensBefore t i q) ∨ ∃ p, γ.ph = some p ∧ p.j0 < g)
    (hu : ∀ op ∈ u, op.g = 0 ∨ op.act.touch? = none ∨ ∃ p, γ.ph = some p ∧ p.j0 < op.g) : ∀ i g, (t ++ u).g? i = some g → g ≠ 0 → (t ++ u).counts i → (∃ q, (t ++ u).g? q = some 0 ∧ HappensBefore (t ++ u) i q) ∨ ∃ p, γ.ph = some p ∧ p.j0 < g := by
  intro i g hg hne hc; obtain ⟨x, hx, _⟩ := hc; obtain ⟨op, hop, hox⟩ := touch_of hx; have hgo : op.g = g := by simpa [Trace.g?, hop] using hg
  rcases getElem?_append_cases hop with ⟨hi, hop'⟩ | ⟨_, hopu⟩
  · rcases h i g (by simp [Trace.g?, hop', hgo]) hne ((counts_old hi).1 ⟨x, hx, ‹_›⟩) with ⟨q, hq, hb⟩ | h'
    · have hql : q < t.size := by
        unfold Trace.g? at hq; obtain ⟨z, hz, _⟩ := Option.map_eq_some_iff.1 hq; exact lt_size_of_getElem? hz
      exact .inl ⟨q, by simpa [Trace.g?, getElem?_append_old hql] using hq, hb_app u hb⟩
    · exact .inr h'
  · rcases hu op hopu with h0 | h0 | h0
    · exact absurd (hgo.symm.trans h0) hne
    · rw [h0] at hox; cases hox
    · exact .inr (hgo ▸ h0)
theorem touchAt_append {i : Nat} {x : Touch} (h : touchAt (t ++ u) i = some x) : touchAt t i = some x ∧ i < t.size ∨ ∃ op ∈ u, op.act.touch? = some x ∧ (t ++ u).g? i = some op.g := by
  obtain ⟨op, ho, hox⟩ := touch_of h; rcases getElem?_append_cases ho with ⟨hi, ho'⟩ | ⟨_, hou⟩
  · exact .inl ⟨by rw [touchAt_of ho']; exact hox, hi⟩
  · exact .inr ⟨op, hou, hox, by simp [Trace.g?, ho]⟩
theorem old_app (h : ∀ i x g, touchAt t i = some x → ¬ γ.Sh x.loc → t.g? i = some g → Knows t 0 i ∨ ∃ p, γ.ph = some p ∧ p.j0 < g)
    (hu : ∀ op ∈ u, op.g = 0 ∨ (∀ x, op.act.touch? = some x → γ.Sh x.loc) ∨ ∃ p, γ.ph = some p ∧ p.j0 < op.g) : ∀ i x g, touchAt (t ++ u) i = some x → ¬ γ.Sh x.loc → (t ++ u).g? i = some g → Knows (t ++ u) 0 i ∨ ∃ p, γ.ph = some p ∧ p.j0 < g := by
  intro i x g hx hs hg; obtain ⟨op, hop, hox⟩ := touch_of hx; have hgo : op.g = g := by simpa [Trace.g?, hop] using hg
  rcases getElem?_append_cases hop with ⟨hi, hop'⟩ | ⟨_, hopu⟩
  · exact (h i x g (by rw [touchAt_of hop']; exact hox) hs (by simp [Trace.g?, hop', hgo])).imp (·.app u) id
  · rcases hu op hopu with h0 | h0 | h0
    · have := knows_own hop
      rw [h0] at this; exact .inl this
    · exact absurd (h0 x hox) hs
    · exact .inr (hgo ▸ h0)
theorem rel_other {a : Addr} {r g : Nat} {Sh : Loc → Prop} (h : RelBy a t k r ∧ ∀ i x, r < i → t.g? i = some k → touchAt t i = some x → Sh x.loc) (hu : ∀ op ∈ u, op.g = g) (hg : g ≠ k) :
    RelBy a (t ++ u) k r ∧ ∀ i x, r < i → (t ++ u).g? i = some k → touchAt (t ++ u) i = some x → Sh x.loc := by
  refine ⟨h.1.appOther hu hg, fun i x hi hgi hx => ?_⟩
  rcases touchAt_append hx with ⟨h1, hlt⟩ | ⟨op, hop, _, h2⟩
  · exact h.2 i x hi (by rwa [g?_old hlt] at hgi) h1
  · rw [h2, Option.some.injEq] at hgi
    exact absurd ((hu op hop).symm.trans hgi) hg
def OkE (γ : Gh) (k B : Nat) (e : Event) : Prop := (∀ x, (MemAct.ofEvent e).touch? = some x → γ.Own k x.loc ∨ (γ.Rd k x.loc ∧ x.write = false)) ∧ (MemAct.ofEvent e).low B ∧ ∀ a, MemAct.ofEvent e ≠ .mark (.release a)
theorem TJ.worker (A : BA γ) (h : TJ γ B t j) (hB : B ≤ B') {p : Ph} (hp : γ.ph = some p) (hk : p.j0 < k) (kj : k ≤ j) (hb : γ.st k = .busy) (hes : ∀ e ∈ es, OkE γ k B' e) : TJ γ B' (t ++ MemOp.ofEvents k fn pos es) j := by
  refine ⟨h.ct.appW A.apart (by omega) kj fun op hop => ?_, fun op hop => ?_, over_app h.over fun op hop => ?_, fun p' hp' k' hk' kj' hs => ?_, fun p' hp' => (h.norel p' hp').app fun op hop => ?_, old_app h.old fun op hop => .inr (.inr ⟨p, hp, (events_g op hop).symm ▸ hk⟩)⟩
  · obtain ⟨e, he, h1, h2⟩ := events_act hop
    exact ⟨h1, fun x hx => .inr ((hes e he).1 x (h2 ▸ hx))⟩
  · rcases Array.mem_append.1 hop with h1 | h1
    · exact MemAct.low_mono hB (h.low op h1)
    · obtain ⟨e, he, _, h2⟩ := events_act h1
      rw [h2]; exact (hes e he).2.1
  · obtain ⟨e, he, h1, h2⟩ := events_act hop
    exact .inr (.inr ⟨p, hp, h1 ▸ hk⟩)
  · obtain ⟨r, hr⟩ := h.rel p' hp' k' hk' kj' hs
    exact ⟨r, rel_other hr events_g fun e => hs (e ▸ hb)⟩
  · obtain ⟨e, he, _, h2⟩ := events_act hop
    rw [h2]; exact (hes e he).2.2 _
end
end Go.Proofs.Ytjklkppncmhehaa.Sr
