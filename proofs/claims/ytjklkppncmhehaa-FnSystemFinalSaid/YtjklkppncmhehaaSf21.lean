/-
What is proved: a reckoner of steps that allot one block ('nstep') and of go statements ('pstep'), and that they tell the truth. No condition.
-/
import Derived.Test.YtjklkppncmhehaaSf08
set_option linter.unusedVariables false
set_option linter.unusedSimpArgs false
namespace Go.Proofs.Ytjklkppncmhehaa.Sr
open Go Go.Conc
def semN (P : Program) (r : Nat) {α : Type} : Sem α → Array Event → Option (α × Array Event × Obj)
  | .program k, es => semN P r (k P) es
  | .mark m k, es => semN P r k (es.push ⟨.mark m, false, true⟩)
  | .new o k, es => match semQ P (k r) es with
    | some (a, es') => some (a, es', o)
    | none => none
  | _, _ => none
theorem semN_sound {P : Program} {r : Nat} {α : Type} {s : Sem α} : ∀ {es es' : Array Event} {a : α} {o : Obj}, semN P r s es = some (a, es', o) → ∀ w : World, w.heap.size = r → s.runT P w es = (.ok a { w with heap := w.heap.push o }, es') := by
  induction s with
  | program k ih => intro es es' a o h w hr; exact ih P h w hr
  | mark m k ih => intro es es' a o h w hr; exact ih h w hr
  | new o' k ih =>
    intro es es' a o h w hr; simp only [semN] at h
    cases hy : semQ P (k r) es with
    | none => rw [hy] at h; cases h
    | some y =>
      obtain ⟨b, es1⟩ := y; rw [hy] at h; simp only [Option.some.injEq, Prod.mk.injEq] at h; obtain ⟨rfl, rfl, rfl⟩ := h; simp only [Sem.runT, hr]; exact sQs hy _
  | _ => intro es es' a o h; cases h
def nstep (P : Program) (r : Nat) (g : Goroutine) : Option (Goroutine × Array Event × Obj) :=
  match opSem P g with
  | none => none
  | some s => match semN P r s #[] with
    | some (.value x, es, o) => some (onto g x, seen P g.frame.fn es, o)
    | _ => none
theorem nstep_sound {P : Program} {r : Nat} {g g' : Goroutine} {es : Array Event} {o : Obj} (h : nstep P r g = some (g', es, o)) :
    g.status = .running ∧ ∀ (b : Bool) (w : World), w.heap.size = r → stepG P b g w = .go g' { w with heap := w.heap.push o } es := by
  unfold nstep at h
  cases ho : opSem P g with
  | none => rw [ho] at h; cases h
  | some s =>
    rw [ho] at h; dsimp only at h
    split at h
    · rename_i x es0 o0 hs
      cases h; exact ⟨(oSs ho true default).1, fun b w hr => opSem_value ho b (semN_sound hs w hr)⟩
    · cases h
def pstep (P : Program) (g : Goroutine) : Option (Goroutine × Goroutine) :=
  match opSem P g with
  | none => none
  | some s => match semQ P s #[] with
    | some (.spawn { target := .fn f cap, args }, es) => if es.isEmpty && (seen P g.frame.fn #[]).isEmpty then some (onto g undef, { frame := { (default : Frame) with fn := P.funcs.size, defers := [{ target := .fn f cap, args }], mode := .panicking [goexitEntry] }, callers := [], status := .running, dying := none }) else none
    | _ => none
theorem pstep_sound {P : Program} {g g' c : Goroutine} (h : pstep P g = some (g', c)) : g.status = .running ∧ ∀ (b : Bool) (w : World), stepG P b g w = .spawn g' c w #[] := by
  unfold pstep at h
  cases ho : opSem P g with
  | none => rw [ho] at h; cases h
  | some s =>
    rw [ho] at h; dsimp only at h
    split at h
    · rename_i f cap args es hs
      split at h
      · rename_i hc
        cases h; simp only [Bool.and_eq_true, Array.isEmpty_iff] at hc; obtain ⟨rfl, hc2⟩ := hc; refine ⟨(oSs ho true default).1, fun b w => ?_⟩
        obtain ⟨_, _, hk, e⟩ := oSs ho b w; have hkb : (g.frame.kind == CallKind.early) = false := by simpa using hk
        rw [e]; simp only [stepG.apply, sQs hs w, hkb, if_true, Bool.false_eq_true, if_false, GStep.after, Array.append_empty, onto, hc2, Bool.and_false, Bool.false_and]
      · cases h
    · cases h
def semL (P : Program) (v : Value) {α : Type} : Sem α → Array Event → Option (α × Array Event × List Addr)
  | .pure a, es => some (a, es, [])
  | .program k, es => semL P v (k P) es
  | .mark m k, es => semL P v k (es.push ⟨.mark m, false, true⟩)
  | .load md a k, es => match semL P v (k v) (es.push ⟨.cell a, false, md == .atomic⟩) with
    | some (b, es', l) => some (b, es', a :: l)
    | none => none
  | _, _ => none
theorem semL_sound {P : Program} {v : Value} {α : Type} {s : Sem α} : ∀ {es es' : Array Event} {a : α} {l : List Addr}, semL P v s es = some (a, es', l) → ∀ w : World, (∀ q ∈ l, w.cell? q = some v) → s.runT P w es = (.ok a w, es') := by
  induction s with
  | pure a => intro es es' b l h w _; simp only [semL, Option.some.injEq, Prod.mk.injEq] at h; obtain ⟨rfl, rfl, rfl⟩ := h; rfl
  | program k ih => intro es es' b l h w; exact ih P h w
  | mark m k ih => intro es es' b l h w; exact ih h w
  | load md a k ih =>
    intro es es' b l h w hl; simp only [semL] at h
    cases hy : semL P v (k v) (es.push ⟨.cell a, false, md == .atomic⟩) with
    | none => rw [hy] at h; cases h
    | some y =>
      obtain ⟨b', es1, l'⟩ := y; rw [hy] at h; simp only [Option.some.injEq, Prod.mk.injEq] at h; obtain ⟨rfl, rfl, rfl⟩ := h; simp only [Sem.runT, hl a (List.mem_cons_self ..)]; exact ih v hy w fun q hq => hl q (List.mem_cons_of_mem _ hq)
  | _ => intro es es' b l h; cases h
def lstep (P : Program) (v : Value) (g : Goroutine) : Option (Goroutine × Array Event × List Addr) :=
  match opSem P g with
  | none => none
  | some s => match semL P v s #[] with
    | some (.value x, es, l) => some (onto g x, seen P g.frame.fn es, l)
    | _ => none
theorem lstep_sound {P : Program} {v : Value} {g g' : Goroutine} {es : Array Event} {l : List Addr} (h : lstep P v g = some (g', es, l)) :
    g.status = .running ∧ ∀ (b : Bool) (w : World), (∀ q ∈ l, w.cell? q = some v) → stepG P b g w = .go g' w es := by
  unfold lstep at h
  cases ho : opSem P g with
  | none => rw [ho] at h; cases h
  | some s =>
    rw [ho] at h; dsimp only at h
    split at h
    · rename_i x es0 l0 hs
      cases h; exact ⟨(oSs ho true default).1, fun b w hl => opSem_value ho b (semL_sound hs w hl)⟩
    · cases h
end Go.Proofs.Ytjklkppncmhehaa.Sr
