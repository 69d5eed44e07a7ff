/-
What is proved: a reckoner of steps that store plain values ('sstep'), and that it tells the truth ('sstep_sound'). No condition.
-/
import Derived.Test.YtjklkppncmhehaaSf05
import Derived.Test.YtjklkppncmhehaaSf01
set_option linter.unusedVariables false
set_option linter.unusedSimpArgs false
namespace Go.Proofs.Ytjklkppncmhehaa.Sr
open Go Go.Conc
def semS (P : Program) {α : Type} : Sem α → Array Event → Option (α × Array Event × List (Addr × Value))
  | .pure a, es => some (a, es, [])
  | .program k, es => semS P (k P) es
  | .mark m k, es => semS P k (es.push ⟨.mark m, false, true⟩)
  | .store md a x k, es => match x with
    | .int i n => match semS P k (es.push ⟨.cell a, true, md == .atomic⟩) with
      | some (b, es', l) => some (b, es', (a, .int i n) :: l)
      | none => none
    | .bool c => match semS P k (es.push ⟨.cell a, true, md == .atomic⟩) with
      | some (b, es', l) => some (b, es', (a, .bool c) :: l)
      | none => none
    | .slice s l c => match semS P k (es.push ⟨.cell a, true, md == .atomic⟩) with
      | some (b, es', q) => some (b, es', (a, .slice s l c) :: q)
      | none => none
    | _ => none
  | _, _ => none
def putAll (w : World) : List (Addr × Value) → World
  | [] => w
  | (a, x) :: l => putAll (w.setCell a x) l
theorem cell_isSome_set {w : World} {a b : Addr} {x : Value} (h : (w.cell? b).isSome = true) : ((w.setCell a x).cell? b).isSome = true := by
  unfold World.cell? at h ⊢; rw [sCh]
  cases hb : w.heap[b.block]? with
  | none => rw [hb] at h; cases h
  | some o =>
    rw [hb] at h
    cases o with
    | cells c e f =>
      simp only [Option.map_some] at h ⊢; by_cases hs : b.spot.isSome = true
      · rw [if_pos hs] at h; cases h
      · rw [if_neg hs] at h
        by_cases he : b.block = a.block
        · simp only [if_pos he, if_neg hs]
          by_cases ha : a.spot.isSome = true
          · simp only [if_pos ha]; exact h
          · simp only [if_neg ha]
            simpa using h
        · simp only [if_neg he, if_neg hs]; exact h
    | _ => cases h
theorem frozen_set {w : World} {a b : Addr} {x : Value} : (w.setCell a x).frozen? b = w.frozen? b := by
  unfold World.frozen?; rw [sCh]
  cases w.heap[b.block]? with
  | none => rfl
  | some o =>
    by_cases he : b.block = a.block
    · cases o <;> simp [he]
    · simp [he]
theorem semS_sound {P : Program} {α : Type} {s : Sem α} : ∀ {es : Array Event} {a : α} {es' : Array Event} {l : List (Addr × Value)}, semS P s es = some (a, es', l) → ∀ w : World, (∀ q ∈ l, (w.cell? q.1).isSome = true ∧ w.frozen? q.1 = false) → s.runT P w es = (.ok a (putAll w l), es') := by
  induction s with
  | pure a => intro es b es' l h w _; simp only [semS, Option.some.injEq, Prod.mk.injEq] at h; obtain ⟨rfl, rfl, rfl⟩ := h; rfl
  | program k ih => intro es b es' l h w; exact ih P h w
  | mark m k ih => intro es b es' l h w; exact ih h w
  | store md a x k ih =>
    intro es b es' l h w hl; have key : ∀ (x : Value) {b : α} {es' : Array Event} {l' : List (Addr × Value)}, (∀ cs, x ≠ .agg cs) → (∀ cs, x ≠ .tuple cs) → semS P k (es.push ⟨.cell a, true, md == .atomic⟩) = some (b, es', l') → (∀ q ∈ (a, x) :: l', (w.cell? q.1).isSome = true ∧ w.frozen? q.1 = false) →
        (Sem.store md a x k).runT P w es = (.ok b (putAll w ((a, x) :: l')), es') := by
      intro x b es' l' h1 h2 hy hl; have e1 : ∀ (q : World) (gs : Array Event), Sem.runT P (.store md a x k) q gs = match q.cell? a with
          | some _ => if q.frozen? a then (.halt (.unsupported (.unsafePointer "a write to bytes that a string shares")) q, gs) else k.runT P (q.setCell a x) (gs.push ⟨.cell a, true, md == .atomic⟩)
          | none => match q.farStore P a x (md == .atomic) with
            | .ok (q, touched) => k.runT P q (gs ++ touched.toArray.map (⟨.cell ·, true, md == .atomic⟩))
            | .error h => (.halt h q, gs) := by
        intro q gs
        cases x <;> first | rfl | exact absurd rfl (h1 _) | exact absurd rfl (h2 _)
      obtain ⟨c1, c2⟩ := hl _ (List.mem_cons_self ..); obtain ⟨u, hu⟩ := Option.isSome_iff_exists.1 c1; rw [e1, hu]; dsimp only
      rw [if_neg (by rw [c2]; simp)]
      exact ih hy _ fun q hq => ⟨cell_isSome_set (hl q (List.mem_cons_of_mem _ hq)).1, by rw [frozen_set]; exact (hl q (List.mem_cons_of_mem _ hq)).2⟩
    cases x with
    | int i n =>
      simp only [semS] at h
      cases hy : semS P k (es.push ⟨.cell a, true, md == .atomic⟩) with
      | none => rw [hy] at h; cases h
      | some y =>
        obtain ⟨b', es'', l'⟩ := y; rw [hy] at h; simp only [Option.some.injEq, Prod.mk.injEq] at h; obtain ⟨rfl, rfl, rfl⟩ := h; exact key _ nofun nofun hy hl
    | bool c =>
      simp only [semS] at h
      cases hy : semS P k (es.push ⟨.cell a, true, md == .atomic⟩) with
      | none => rw [hy] at h; cases h
      | some y =>
        obtain ⟨b', es'', l'⟩ := y; rw [hy] at h; simp only [Option.some.injEq, Prod.mk.injEq] at h; obtain ⟨rfl, rfl, rfl⟩ := h; exact key _ nofun nofun hy hl
    | slice s0 l0 c0 =>
      simp only [semS] at h
      cases hy : semS P k (es.push ⟨.cell a, true, md == .atomic⟩) with
      | none => rw [hy] at h; cases h
      | some y =>
        obtain ⟨b', es'', l'⟩ := y; rw [hy] at h; simp only [Option.some.injEq, Prod.mk.injEq] at h; obtain ⟨rfl, rfl, rfl⟩ := h; exact key _ nofun nofun hy hl
    | _ => simp [semS] at h
  | _ => intro es b es' l h; cases h
def sstep (P : Program) (g : Goroutine) : Option (Goroutine × Array Event × List (Addr × Value)) :=
  match opSem P g with
  | none => none
  | some s => match semS P s #[] with
    | some (.skip, es, l) => some (onto g undef, seen P g.frame.fn es, l)
    | _ => none
theorem sstep_sound {P : Program} {g g' : Goroutine} {es : Array Event} {l : List (Addr × Value)} (h : sstep P g = some (g', es, l)) :
    g.status = .running ∧ ∀ (b : Bool) (w : World), (∀ q ∈ l, (w.cell? q.1).isSome = true ∧ w.frozen? q.1 = false) → stepG P b g w = .go g' (putAll w l) es := by
  unfold sstep at h
  cases ho : opSem P g with
  | none => rw [ho] at h; cases h
  | some s =>
    rw [ho] at h; dsimp only at h
    split at h
    · rename_i es0 l0 hs
      cases h; refine ⟨(oSs ho true default).1, fun b w h1 => ?_⟩
      obtain ⟨_, _, hk, e⟩ := oSs ho b w; have hkb : (g.frame.kind == CallKind.early) = false := by simpa using hk
      rw [e]; simp only [stepG.apply, semS_sound hs w h1, hkb, if_true, Bool.false_eq_true, if_false, GStep.after, Array.append_empty, onto]
    · cases h
end Go.Proofs.Ytjklkppncmhehaa.Sr
