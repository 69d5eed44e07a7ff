/-
What is proved: names may be changed, forgotten, and rows of the call's own become read-only ('R.weaken'). No condition. rules of a walk over trees ('TW'), and what a function does to trees ('TC', 'TC.enter'). No condition.
-/
import Derived.Test.YtjklkppncmhehaaSf28
set_option linter.unusedVariables false
set_option linter.unusedSimpArgs false
namespace Go.Proofs.Ytjklkppncmhehaa.T
open Go Go.RowKit
/-! ### other names -/
def TV.ren (f : Nat → Nat) : TV → TV
  | .r t => .r t
  | .own b => .own (f b)
  | .ptr b o => .ptr (f b) o
  | .row b k i o => .row (f b) k i o
  | .rop xs o => .rop xs o
def TV.names : TV → List Nat
  | .r _ => []
  | .own b => [b]
  | .ptr b _ => [b]
  | .row b _ _ _ => [b]
  | .rop _ _ => []
mutual
def GV.ren (f : Nat → Nat) : GV → GV
  | .s t => .s (t.ren f)
  | .a ts => .a (ts.map (TV.ren f))
  | .p gs => .p (renL f gs)
  | .clo fn fs cs => .clo fn (renL f fs) (renL f cs)
  | .u => .u
def renL (f : Nat → Nat) : List GV → List GV
  | [] => []
  | g :: gs => g.ren f :: renL f gs
end
mutual
def GV.names : GV → List Nat
  | .s t => t.names
  | .a ts => ts.flatMap TV.names
  | .p gs => namesL gs
  | .clo _ fs cs => namesL fs ++ namesL cs
  | .u => []
def namesL : List GV → List Nat
  | [] => []
  | g :: gs => g.names ++ namesL gs
end
def Blk.ren (f : Nat → Nat) : Blk → Blk
  | .box cs => .box (cs.map (TV.ren f))
  | .rows e k xs => .rows e k xs
  | .dead => .dead
def Blk.names : Blk → List Nat
  | .box cs => cs.flatMap TV.names
  | _ => []
theorem renL_get (f : Nat → Nat) : ∀ (gs : List GV) (i : Nat), (renL f gs)[i]? = gs[i]?.map (GV.ren f)
  | [], i => by simp [renL]
  | g :: gs, 0 => by simp [renL]
  | g :: gs, i + 1 => by simp [renL, renL_get f gs i]
theorem renL_length (f : Nat → Nat) : ∀ (gs : List GV), (renL f gs).length = gs.length
  | [] => rfl
  | g :: gs => by simp [renL, renL_length f gs]
theorem nLm {g : GV} : ∀ {gs : List GV}, g ∈ gs → ∀ b ∈ g.names, b ∈ namesL gs
  | x :: gs, h, b, hb => by
    simp only [namesL, List.mem_append]; rcases List.mem_cons.1 h with rfl | h
    · exact .inl hb
    · exact .inr (nLm h b hb)
section
variable {ρ ρ' : Nat → Option Value} {w : World} {D : Nat → Prop} {f : Nat → Nat}
theorem TRep.ren {v : Value} {t : TV} (h : TRep ρ w D v (t.ren f)) (hf : ∀ b ∈ t.names, ∀ x, ρ (f b) = some x → ρ' b = some x) : TRep ρ' w D v t := by
  cases t with
  | r t => cases h with | r h => exact .r h
  | own b => cases h with | own h => exact .own (hf b (List.mem_cons_self ..) _ h)
  | ptr b o => cases h with | ptr h => exact .ptr (hf b (List.mem_cons_self ..) _ h)
  | row b k i o => cases h with | row h => exact .row (hf b (List.mem_cons_self ..) _ h)
  | rop xs o => cases h with | rop vs h1 h2 h3 => exact .rop vs h1 h2 h3
theorem TRep.unren {v : Value} {t : TV} (h : TRep ρ' w D v t) (hf : ∀ b ∈ t.names, ∀ x, ρ' b = some x → ρ (f b) = some x) : TRep ρ w D v (t.ren f) := by
  cases t with
  | r t => cases h with | r h => exact .r h
  | own b => cases h with | own h => exact .own (hf b (List.mem_cons_self ..) _ h)
  | ptr b o => cases h with | ptr h => exact .ptr (hf b (List.mem_cons_self ..) _ h)
  | row b k i o => cases h with | row h => exact .row (hf b (List.mem_cons_self ..) _ h)
  | rop xs o => cases h with | rop vs h1 h2 h3 => exact .rop vs h1 h2 h3
theorem GRep.ren_aux {v : Value} {g' : GV} (h : GRep ρ w D v g') : ∀ g, g' = g.ren f → (∀ b ∈ g.names, ∀ x, ρ (f b) = some x → ρ' b = some x) → GRep ρ' w D v g := by
  induction h with
  | s h =>
    intro g e hf
    cases g <;> simp only [GV.ren, reduceCtorEq, GV.s.injEq] at e
    subst e; exact .s (h.ren hf)
  | a hn h =>
    intro g e hf
    cases g <;> simp only [GV.ren, reduceCtorEq, GV.a.injEq] at e
    rename_i ts; subst e; refine .a (by simpa using hn) fun i t ht => (h i (t.ren f) (by simp [ht])).ren fun b hb => hf b ?_
    simp only [GV.names, List.mem_flatMap]; exact ⟨t, List.mem_of_getElem? ht, hb⟩
  | p hn _ ih =>
    intro g e hf
    cases g <;> simp only [GV.ren, reduceCtorEq, GV.p.injEq] at e
    rename_i gs; subst e; refine .p (by rw [hn, renL_length]) fun i g hg => ih i (g.ren f) (by rw [renL_get, hg]; rfl) g rfl fun b hb => hf b ?_
    exact nLm (List.mem_of_getElem? hg) b hb
  | clo h1 h2 _ _ i1 i2 =>
    intro g e hf
    cases g <;> simp only [GV.ren, reduceCtorEq, GV.clo.injEq] at e
    rename_i fn' fs' cs'; obtain ⟨rfl, rfl, rfl⟩ := e; refine .clo (by rw [h1, renL_length]) (by rw [h2, renL_length]) (fun i g hg => i1 i (g.ren f) (by rw [renL_get, hg]; rfl) g rfl fun b hb => hf b ?_) fun i g hg => i2 i (g.ren f) (by rw [renL_get, hg]; rfl) g rfl fun b hb => hf b ?_
    · exact List.mem_append_left _ (nLm (List.mem_of_getElem? hg) b hb)
    · exact List.mem_append_right _ (nLm (List.mem_of_getElem? hg) b hb)
  | u =>
    intro g e hf
    cases g <;> simp only [GV.ren, reduceCtorEq] at e
    exact .u
theorem GRep.ren {v : Value} {g : GV} (h : GRep ρ w D v (g.ren f)) (hf : ∀ b ∈ g.names, ∀ x, ρ (f b) = some x → ρ' b = some x) : GRep ρ' w D v g := h.ren_aux g rfl hf
theorem GRep.unren {v : Value} {g : GV} (h : GRep ρ' w D v g) (hf : ∀ b ∈ g.names, ∀ x, ρ' b = some x → ρ (f b) = some x) : GRep ρ w D v (g.ren f) := by
  induction h with
  | s h => exact .s (h.unren hf)
  | a hn h =>
    refine .a (by simpa using hn) fun i t ht => ?_
    rw [List.getElem?_map, Option.map_eq_some_iff] at ht; obtain ⟨t', ht', rfl⟩ := ht; refine (h i t' ht').unren fun b hb => hf b ?_
    simp only [GV.names, List.mem_flatMap]; exact ⟨t', List.mem_of_getElem? ht', hb⟩
  | p hn _ ih =>
    refine .p (by rw [hn, renL_length]) fun i g hg => ?_
    rw [renL_get, Option.map_eq_some_iff] at hg; obtain ⟨g', hg', rfl⟩ := hg; exact ih i g' hg' fun b hb => hf b (nLm (List.mem_of_getElem? hg') b hb)
  | clo h1 h2 _ _ i1 i2 =>
    refine .clo (by rw [h1, renL_length]) (by rw [h2, renL_length]) (fun i g hg => ?_) fun i g hg => ?_
    · rw [renL_get, Option.map_eq_some_iff] at hg
      obtain ⟨g', hg', rfl⟩ := hg; exact i1 i g' hg' fun b hb => hf b (List.mem_append_left _ (nLm (List.mem_of_getElem? hg') b hb))
    · rw [renL_get, Option.map_eq_some_iff] at hg
      obtain ⟨g', hg', rfl⟩ := hg; exact i2 i g' hg' fun b hb => hf b (List.mem_append_right _ (nLm (List.mem_of_getElem? hg') b hb))
  | u => exact .u
theorem BRep.ren {x : Option Value} {y : Blk} (h : BRep ρ w D x (y.ren f)) (hf : ∀ b ∈ y.names, ∀ x, ρ (f b) = some x → ρ' b = some x) : BRep ρ' w D x y := by
  cases y with
  | dead => trivial
  | rows e k xs => exact h
  | box cs =>
    obtain ⟨g, arr, ty, e, h1, h2, h3⟩ := h; refine ⟨g, arr, ty, e, h1, by simpa using h2, fun i t ht => (h3 i (t.ren f) (by simp [ht])).ren fun b hb => hf b ?_⟩
    simp only [Blk.names, List.mem_flatMap]; exact ⟨t, List.mem_of_getElem? ht, hb⟩
theorem BRep.unren {x : Option Value} {y : Blk} (h : BRep ρ' w D x y) (hf : ∀ b ∈ y.names, ∀ x, ρ' b = some x → ρ (f b) = some x) : BRep ρ w D x (y.ren f) := by
  cases y with
  | dead => trivial
  | rows e k xs => exact h
  | box cs =>
    obtain ⟨g, arr, ty, e, h1, h2, h3⟩ := h; refine ⟨g, arr, ty, e, h1, by simpa using h2, fun i t ht => ?_⟩
    rw [List.getElem?_map, Option.map_eq_some_iff] at ht; obtain ⟨t', ht', rfl⟩ := ht; refine (h3 i t' ht').unren fun b hb => hf b ?_
    simp only [Blk.names, List.mem_flatMap]; exact ⟨t', List.mem_of_getElem? ht', hb⟩
theorem Blk.ren_live (y : Blk) : (y.ren f).live = y.live := by cases y <;> rfl
end
/-! ### rows become read-only -/
def TV.frz (get : Nat → Option Blk) (cs : List Nat) : TV → TV
  | .own b => if b ∈ cs then match get b with
    | some (.rows _ k xs) => .r (.sl k xs)
    | _ => .own b
    else .own b
  | t => t
mutual
def GV.frz (get : Nat → Option Blk) (cs : List Nat) : GV → GV
  | .s t => .s (t.frz get cs)
  | .a ts => .a (ts.map (TV.frz get cs))
  | .p gs => .p (frzL get cs gs)
  | .clo fn fs ds => .clo fn fs ds
  | .u => .u
def frzL (get : Nat → Option Blk) (cs : List Nat) : List GV → List GV
  | [] => []
  | g :: gs => g.frz get cs :: frzL get cs gs
end
def Blk.frz (get : Nat → Option Blk) (cs : List Nat) : Blk → Blk
  | .box ts => .box (ts.map (TV.frz get cs))
  | y => y
theorem frzL_get (get : Nat → Option Blk) (cs : List Nat) : ∀ (gs : List GV) (i : Nat), (frzL get cs gs)[i]? = gs[i]?.map (GV.frz get cs)
  | [], i => by simp [frzL]
  | g :: gs, 0 => by simp [frzL]
  | g :: gs, i + 1 => by simp [frzL, frzL_get get cs gs i]
theorem frzL_length (get : Nat → Option Blk) (cs : List Nat) : ∀ (gs : List GV), (frzL get cs gs).length = gs.length
  | [] => rfl
  | g :: gs => by simp [frzL, frzL_length get cs gs]
theorem TV.frz_congr {get get' : Nat → Option Blk} {cs : List Nat} (h : ∀ b ∈ cs, get b = get' b) (t : TV) : t.frz get cs = t.frz get' cs := by
  unfold TV.frz; split
  · rename_i b
    by_cases hb : b ∈ cs
    · rw [h b hb]
    · simp [hb]
  · rfl
mutual
theorem GV.frz_congr {get get' : Nat → Option Blk} {cs : List Nat} (h : ∀ b ∈ cs, get b = get' b) : ∀ (g : GV), g.frz get cs = g.frz get' cs
  | .s t => by simp only [GV.frz, TV.frz_congr h]
  | .a ts => by simp only [GV.frz]; congr 1; exact List.map_congr_left fun t _ => TV.frz_congr h t
  | .p gs => by simp only [GV.frz, frzL_congr h gs]
  | .clo _ _ _ => by simp only [GV.frz]
  | .u => by simp only [GV.frz]
theorem frzL_congr {get get' : Nat → Option Blk} {cs : List Nat} (h : ∀ b ∈ cs, get b = get' b) : ∀ (gs : List GV), frzL get cs gs = frzL get' cs gs
  | [] => by simp only [frzL]
  | g :: gs => by simp only [frzL, GV.frz_congr h g, frzL_congr h gs]
end
section
variable {C : Ctx} {env : Nat → GV} {get : Nat → Option Blk} {a : Act} {w : World} {ρ : Nat → Option Value} {D D' : Nat → Prop} {cs : List Nat}
theorem TRep.frz (hR : Rel C env get a w ρ D) (hD : ∀ k, D k → D' k) (hb : ∀ b ∈ cs, ∀ g, blkOf (ρ b) = some g → D' g) {v : Value} {t : TV} (h : TRep ρ w D v t) : TRep ρ w D' v (t.frz get cs) := by
  unfold TV.frz; split
  · rename_i b
    split
    · rename_i hm
      split
      · rename_i e k xs hg
        have : (TState.toRT ⟨[], [(b, .rows e k xs)], 0⟩ (.own b)) = some (.sl k xs, [b]) := by simp [TState.toRT, TState.get, gt]
        refine .r (toRT_rep hR this (fun c hc => ?_) hD (fun c hc => hb c ?_) h)
        · simp only [List.mem_cons, List.not_mem_nil, or_false] at hc
          subst hc; rw [hg]; simp [TState.get, gt]
        · simp only [List.mem_cons, List.not_mem_nil, or_false] at hc
          subst hc; exact hm
      · exact h.keep (fun _ _ h => h) (Keeps.refl _ _) hD
    · exact h.keep (fun _ _ h => h) (Keeps.refl _ _) hD
  · exact h.keep (fun _ _ h => h) (Keeps.refl _ _) hD
theorem GRep.frz (hR : Rel C env get a w ρ D) (hD : ∀ k, D k → D' k) (hb : ∀ b ∈ cs, ∀ g, blkOf (ρ b) = some g → D' g) {v : Value} {g : GV} (h : GRep ρ w D v g) : GRep ρ w D' v (g.frz get cs) := by
  induction h with
  | s h => exact .s (h.frz hR hD hb)
  | a hn h =>
    refine .a (by simpa using hn) fun i t ht => ?_
    rw [List.getElem?_map, Option.map_eq_some_iff] at ht; obtain ⟨t', ht', rfl⟩ := ht; exact (h i t' ht').frz hR hD hb
  | p hn _ ih =>
    refine .p (by rw [hn, frzL_length]) fun i g hg => ?_
    rw [frzL_get, Option.map_eq_some_iff] at hg; obtain ⟨g', hg', rfl⟩ := hg; exact ih i g' hg'
  | clo h1 h2 h3 h4 _ _ => exact .clo h1 h2 (fun i g hg => (h3 i g hg).keep (fun _ _ h => h) (Keeps.refl _ _) hD) fun i g hg => (h4 i g hg).keep (fun _ _ h => h) (Keeps.refl _ _) hD
  | u => exact .u
theorem Rel.freeze (hR : Rel C env get a w ρ D) (hb : ∀ b ∈ cs, ∃ z, get b = some z ∧ z.live = true) : ∃ D', Rel C (fun t => (env t).frz get cs) (fun b => if b ∈ cs then some .dead else (get b).map (Blk.frz get cs)) a w ρ D' ∧ (∀ k, D k → D' k) ∧ ∀ b ∈ cs, ∀ g, blkOf (ρ b) = some g → D' g := by
  obtain ⟨D', h, hD, hDb⟩ := hR.consume cs hb; have hgt : ∀ c, gt c (cs.map fun b => (b, Blk.dead)) = if c ∈ cs then some .dead else none := by
    intro c; clear hb h hDb; induction cs with
    | nil => rfl
    | cons b bs ih =>
      simp only [List.map_cons, gt, List.mem_cons]; rw [ih]; by_cases e : c = b <;> simp [e]
  have hup : ∀ c, upd get (cs.map fun b => (b, Blk.dead)) c = if c ∈ cs then some .dead else get c := by
    intro c; simp only [upd, hgt]; split <;> simp_all
  refine ⟨D', ⟨h.os, h.tape, h.output, h.size, h.old, h.ro, fun c hc => ?_, fun c y hc => ?_, fun c y g hc hl hg => ?_, fun c y1 c' y2 g hc hl hc' hl' hg hg' => ?_, fun t => (hR.env t).frz hR hD hDb, h.defers, h.nt, h.ext⟩, hD, hDb⟩
  · split at hc
    · cases hc
    · rename_i hn
      exact hR.free c (by simpa using hc)
  · split at hc
    · cases hc; trivial
    · rename_i hn
      obtain ⟨y', hy', rfl⟩ := Option.map_eq_some_iff.1 hc; have := hR.blk c y' hy'
      cases y' with
      | dead => trivial
      | rows e k xs => exact this.keep (fun _ _ h => h) (Keeps.refl _ _) hD (.inr fun _ _ => rfl)
      | box ts =>
        obtain ⟨g, arr, ty, e1, h1, h2, h3⟩ := this; refine ⟨g, arr, ty, e1, h1, by simpa using h2, fun i t ht => ?_⟩
        rw [List.getElem?_map, Option.map_eq_some_iff] at ht; obtain ⟨t', ht', rfl⟩ := ht; exact (h3 i t' ht').frz hR hD hDb
  · split at hc
    · cases hc; simp [Blk.live] at hl
    · rename_i hn
      obtain ⟨y', hy', rfl⟩ := Option.map_eq_some_iff.1 hc; refine h.own c y' g (by rw [hup, if_neg hn]; exact hy') ?_ hg
      cases y' <;> first | rfl | (simp [Blk.frz, Blk.live] at hl)
  · split at hc
    · cases hc; simp [Blk.live] at hl
    · split at hc'
      · cases hc'; simp [Blk.live] at hl'
      · rename_i hn hn'
        obtain ⟨y', hy', rfl⟩ := Option.map_eq_some_iff.1 hc; obtain ⟨y'', hy'', rfl⟩ := Option.map_eq_some_iff.1 hc'; refine h.sep c y' c' y'' g (by rw [hup, if_neg hn]; exact hy') ?_ (by rw [hup, if_neg hn']; exact hy'') ?_ hg hg'
        · cases y' <;> first | rfl | (simp [Blk.frz, Blk.live] at hl)
        · cases y'' <;> first | rfl | (simp [Blk.frz, Blk.live] at hl')
theorem Rel.rename (hR : Rel C env get a w ρ D) {env' : Nat → GV} {get' : Nat → Option Blk} {f : Nat → Nat} {nx : Nat} (hfix : ∀ b x, C.ρ0 b = some x → f b = b ∧ b < nx) (henv : ∀ t, env' t = .u ∨ (env t = (env' t).ren f ∧ ∀ b ∈ (env' t).names, b < nx))
    (hget : ∀ b y, get' b = some y → b < nx ∧ (y = .dead ∨ (get (f b) = some (y.ren f) ∧ ∀ c ∈ y.names, c < nx))) (hfree : ∀ b, b < nx → get' b ≠ none) (hinj : ∀ b y b' y', get' b = some y → y.live = true → get' b' = some y' → y'.live = true → f b = f b' → b = b') :
    Rel C env' get' a w (fun b => if b < nx then ρ (f b) else none) D := by
  have hρ : ∀ b, b < nx → ∀ x, ρ (f b) = some x → (fun b => if b < nx then ρ (f b) else none) b = some x := fun b hb x hx => by simp [hb, hx]
  refine ⟨hR.os, hR.tape, hR.output, hR.size, hR.old, hR.ro, fun b hb => ?_, fun b y hy => ?_, fun b y g hy hl hg => ?_, fun b y b' y' g hy hl hy' hl' hg hg' => ?_, fun t => ?_, hR.defers, hR.nt, fun b x hx => ?_⟩
  · have : ¬ b < nx := fun h => hfree b h hb
    simp [this]
  · obtain ⟨h1, h2⟩ := hget b y hy
    rcases h2 with rfl | ⟨h2, h3⟩
    · trivial
    · simp only [h1, if_true]
      exact (hR.blk _ _ h2).ren fun c hc => hρ c (h3 c hc)
  · obtain ⟨h1, h2⟩ := hget b y hy
    rcases h2 with rfl | ⟨h2, h3⟩
    · simp [Blk.live] at hl
    · simp only [h1, if_true] at hg
      exact hR.own _ _ g h2 (by rw [Blk.ren_live]; exact hl) hg
  · obtain ⟨h1, h2⟩ := hget b y hy
    obtain ⟨h1', h2'⟩ := hget b' y' hy'; rcases h2 with rfl | ⟨h2, h3⟩
    · simp [Blk.live] at hl
    · rcases h2' with rfl | ⟨h2', h3'⟩
      · simp [Blk.live] at hl'
      · simp only [h1, h1', if_true] at hg hg'
        exact hinj b y b' y' hy hl hy' hl' (hR.sep _ _ _ _ g h2 (by rw [Blk.ren_live]; exact hl) h2' (by rw [Blk.ren_live]; exact hl') hg hg')
  · rcases henv t with h | ⟨h1, h2⟩
    · rw [h]; exact .u
    · have := hR.env t
      rw [h1] at this; exact this.ren fun b hb => hρ b (h2 b hb)
  · obtain ⟨h1, h2⟩ := hfix b x hx
    simp only [h2, if_true, h1]; exact hR.ext b x hx
end
end Go.Proofs.Ytjklkppncmhehaa.T
namespace Go.Proofs.Ytjklkppncmhehaa.T
open Go Go.RowKit
def envF (s : TState) : Nat → GV := fun t => lk t s.env
theorem lk_mem (t : Nat) : ∀ (e : List (Nat × GV)), lk t e = .u ∨ (t, lk t e) ∈ e
  | [] => .inl rfl
  | (u, g) :: e => by
    simp only [lk]; split
    · rename_i h; subst h; exact .inr (List.mem_cons_self ..)
    · rcases lk_mem t e with h | h
      · exact .inl h
      · exact .inr (List.mem_cons_of_mem _ h)
theorem gt_mem {b : Nat} : ∀ {l : List (Nat × Blk)} {y : Blk}, gt b l = some y → (b, y) ∈ l
  | (u, z) :: l, y, h => by
    simp only [gt] at h; split at h
    · rename_i e; subst e; cases h; exact List.mem_cons_self ..
    · exact List.mem_cons_of_mem _ (gt_mem h)
def TW (P : Program) (E : List PanicEntry → World → Prop) (nt m : Nat) (c : Code) (Q : Exit → TState → Prop) (s : TState) : Prop :=
  ∀ C a w, C.nt = nt → (∀ b x, C.ρ0 b = some x → b < m) → R C (envF s) s.get a w → ∀ Q' : Exit → Act → World → Prop, (∀ e s' a' w', Q e s' → R C (envF s') s'.get a' w' → Q' e a' w') → EscTo E Q' → c.wp P Q' a w
/-! ### from one state of trees to a poorer one -/
/-- All that s' tells s tells, with names changed by f and the rows in cs read-only. -/
structure Weak (m : Nat) (s s' : TState) (f : Nat → Nat) (cs : List Nat) : Prop where
  cons : ∀ b ∈ cs, ∃ e k xs, s.get b = some (.rows e k xs)
  env : ∀ x ∈ s'.env, x.2 = .u ∨ ((lk x.1 s.env).frz s.get cs = x.2.ren f ∧ ∀ b ∈ x.2.names, b < s'.nx)
  sto : ∀ x ∈ s'.sto, x.1 < s'.nx ∧ f x.1 ∉ cs ∧ (s.get (f x.1)).map (Blk.frz s.get cs) = some (x.2.ren f) ∧ ∀ b ∈ x.2.names, b < s'.nx
  inj : ∀ x ∈ s'.sto, ∀ y ∈ s'.sto, f x.1 = f y.1 → x.1 = y.1
  fix : m ≤ s'.nx ∧ ∀ b, b < m → f b = b
theorem R.weaken {C : Ctx} {m : Nat} {s s' : TState} {f : Nat → Nat} {cs : List Nat} (h : Weak m s s' f cs) {a : Act} {w : World} (hm : ∀ b x, C.ρ0 b = some x → b < m) (hR : R C (envF s) s.get a w) : R C (envF s') s'.get a w := by
  obtain ⟨ρ, D, hR⟩ := hR; obtain ⟨D', hR', _⟩ := hR.freeze (cs := cs) fun b hb => by
    obtain ⟨e, k, xs, h⟩ := h.cons b hb; exact ⟨_, h, rfl⟩
  have hsome : ∀ b y, s'.get b = some y → (b < s'.nx ∧ y = .dead) ∨ (b, y) ∈ s'.sto := by
    intro b y hy; unfold TState.get at hy; split at hy
    · rename_i z hz
      cases hy; exact .inr (gt_mem hz)
    · split at hy
      · rename_i hlt; cases hy; exact .inl ⟨hlt, rfl⟩
      · cases hy
  refine ⟨_, D', hR'.rename (f := f) (nx := s'.nx) (fun b x hx => ⟨h.fix.2 b (hm b x hx), Nat.lt_of_lt_of_le (hm b x hx) h.fix.1⟩) (fun t => ?_) (fun b y hy => ?_) (fun b hb => ?_) fun b y b' y' hy hl hy' hl' hff => ?_⟩
  · rcases lk_mem t s'.env with h1 | h1
    · exact .inl h1
    · exact h.env _ h1
  · rcases hsome b y hy with ⟨h1, rfl⟩ | h1
    · exact ⟨h1, .inl rfl⟩
    · obtain ⟨h2, h3, h4, h5⟩ := h.sto _ h1
      exact ⟨h2, .inr ⟨by rw [if_neg h3]; exact h4, h5⟩⟩
  · unfold TState.get
    split
    · simp
    · simp [hb]
  · rcases hsome b y hy with ⟨_, rfl⟩ | h1
    · simp [Blk.live] at hl
    · rcases hsome b' y' hy' with ⟨_, rfl⟩ | h2
      · simp [Blk.live] at hl'
      · exact h.inj _ h1 _ h2 hff
def Wk (m : Nat) (s s' : TState) : Prop := ∃ f cs, Weak m s s' f cs
section
variable {P : Program} {E : List PanicEntry → World → Prop} {nt m : Nat} {Q : Exit → TState → Prop} {s : TState}
theorem TW.weaken {c : Code} (s' : TState) (h : Wk m s s') (hw : TW P E nt m c Q s') : TW P E nt m c Q s := by
  obtain ⟨f, cs, h⟩ := h; exact fun C a w hn hm hR => hw C a w hn hm (R.weaken h hm hR)
theorem TW.mono {c : Code} {Q' : Exit → TState → Prop} (h : TW P E nt m c Q s) (hq : ∀ e s, Q e s → Q' e s) : TW P E nt m c Q' s :=
  fun C a w hn hm hR Q'' hQ hE => h C a w hn hm hR Q'' (fun e s' a' w' h1 h2 => hQ e s' a' w' (hq _ _ h1) h2) hE
theorem TW.skip (h : Q .normal s) : TW P E nt m .skip Q s := fun C a w _ _ hR Q' hQ _ => wp_skip (hQ _ _ _ _ h hR)
theorem TW.exit {id : Nat} (h : Q (.exit id) s) : TW P E nt m (.exit id) Q s := fun C a w _ _ hR Q' hQ _ => wp_exit (hQ _ _ _ _ h hR)
theorem TW.ret (h : Q .ret s) : TW P E nt m .ret Q s := fun C a w _ _ hR Q' hQ _ => wp_ret (hQ _ _ _ _ h hR)
def tQ (next : TState → Prop) (Q : Exit → TState → Prop) : Exit → TState → Prop
  | .normal, s => next s
  | e, s => Q e s
theorem TW.seq {x y : Code} (h : TW P E nt m x (tQ (TW P E nt m y Q) Q) s) : TW P E nt m (.seq x y) Q s := by
  intro C a w hn hm hR Q' hQ hE; refine wp_seq (h C a w hn hm hR _ (fun e s' a' w' h1 h2 => ?_) fun ch a w h1 h2 => hE ch a w h1 h2)
  cases e with
  | normal => exact h1 C a' w' hn hm h2 Q' hQ hE
  | _ => exact hQ _ _ _ _ h1 h2
theorem TW.cond {c : Operand} {x y : Code} {b : Bool} (hb : (s.ev c).b? = some b) (h1 : b = true → TW P E nt m x Q s) (h2 : b = false → TW P E nt m y Q s) : TW P E nt m (.cond c x y) Q s := by
  intro C a w hn hm hR Q' hQ hE; obtain ⟨ρ, D, hr⟩ := hR; have hi : ∀ x ∈ insOf s.env [c], envF s x.1 = x.2 := by
    intro x hx
    cases c <;> simp only [insOf, List.mem_cons, List.not_mem_nil, or_false] at hx
    subst hx; rfl
  have hc := GV.b?_rep hb (ev_rep hr hi (List.mem_cons_self ..)); exact wp_cond_split hc (fun e => h1 e C a w hn hm ⟨ρ, D, hr⟩ Q' hQ hE) fun e => h2 e C a w hn hm ⟨ρ, D, hr⟩ Q' hQ hE
def bQ (id : Nat) (Q : Exit → TState → Prop) : Exit → TState → Prop
  | .exit id', s => if id' = id then Q .normal s else Q (.exit id') s
  | e, s => Q e s
theorem TW.block {id : Nat} {c : Code} (h : TW P E nt m c (bQ id Q) s) : TW P E nt m (.block id c) Q s := by
  intro C a w hn hm hR Q' hQ hE; refine wp_block (h C a w hn hm hR _ (fun e s' a' w' h1 h2 => ?_) fun ch a w h1 h2 => hE ch a w h1 h2)
  cases e with
  | exit id' =>
    simp only [bQ, Exit.inBlock] at h1 ⊢; split
    · rename_i e; rw [if_pos e] at h1; exact hQ _ _ _ _ h1 h2
    · rename_i e; rw [if_neg e] at h1; exact hQ _ _ _ _ h1 h2
  | _ => exact hQ _ _ _ _ h1 h2
theorem TW.loop {α : Type} {c : Code} (I : α → TState) (p : α → Prop) (μ : α → Nat) (x : α) (hx : p x) (h0 : Wk m s (I x))
    (round : ∀ x, p x → TW P E nt m c (tQ (fun s' => ∃ y, p y ∧ μ y < μ x ∧ Wk m s' (I y)) Q) (I x)) : TW P E nt m (.loop c) Q s := by
  intro C a w hn hm hR Q' hQ hE b k cs; have key : ∀ n x a w, μ x = n → p x → R C (envF (I x)) (I x).get a w →
      ∃ e a' w', Q' e a' w' ∧ Arrives P (lone (b.at a (.code c :: .inLoop c :: k)) cs w) b k cs e a' w' := by
    intro n; induction n using Nat.strongRecOn with
    | _ n ih =>
      intro x a w hn' hp hRx; obtain ⟨e, a1, w1, hq, harr⟩ := round x hp C a w hn hm hRx (Exit.then (fun a w => ∃ y, p y ∧ μ y < μ x ∧ R C (envF (I y)) (I y).get a w) Q') (fun e s' a' w' h1 h2 => by
        cases e with
        | normal =>
          obtain ⟨y, y1, y2, f, cs, y3⟩ := h1; exact ⟨y, y1, y2, R.weaken y3 hm h2⟩
        | _ => exact hQ _ _ _ _ h1 h2) (fun ch a w h1 h2 => hE ch a w h1 h2) b (.inLoop c :: k) cs
      cases e with
      | normal =>
        obtain ⟨y, y1, y2, y3⟩ := hq; obtain ⟨e2, a2, w2, hq2, harr2⟩ := ih (μ y) (hn' ▸ y2) y a1 w1 rfl y1 y3; exact ⟨e2, a2, w2, hq2, .of_steps (Steps.trans harr (.one step_inLoop)) harr2⟩
      | exit id => exact ⟨_, a1, w1, hq, .pass (x := .inLoop c) rfl (fun _ _ => .inl (by simp)) harr⟩
      | goto l => exact ⟨_, a1, w1, hq, .pass (x := .inLoop c) rfl (fun _ _ => .inl (by simp)) harr⟩
      | ret => exact ⟨_, a1, w1, hq, .pass (x := .inLoop c) rfl (fun _ _ => .inl (by simp)) harr⟩
      | panic ch => exact ⟨_, a1, w1, hq, .pass (x := .inLoop c) rfl (fun _ _ => .inl (by simp)) harr⟩
      | outgrown => exact ⟨_, a1, w1, hq, .pass (x := .inLoop c) rfl (fun _ _ => .inl (by simp)) harr⟩
  obtain ⟨f, cs0, h0⟩ := h0; obtain ⟨e, a', w', hq, harr⟩ := key _ x a w rfl hx (R.weaken h0 hm hR); exact ⟨e, a', w', hq, .of_steps (.one step_loop) harr⟩
end
/-! ### what a function does -/
/-- The blocks of the caller's that a function may write. -/
def Mf (sto : List (Nat × Blk)) (ρ : Nat → Option Value) (k : Nat) : Prop := ∃ b y, gt b sto = some y ∧ y.live = true ∧ blkOf (ρ b) = some k
/-- The state behind a call. -/
structure Post (sto sto' : List (Nat × Blk)) (m : Nat) (w w' : World) (ρ ρ' : Nat → Option Value) (D D' : Nat → Prop) : Prop where
  os : w'.os = w.os
  tape : w'.tape = w.tape
  output : w'.output = w.output
  size : w.heap.size ≤ w'.heap.size
  old : ∀ k, k < w.heap.size → ¬ Mf sto ρ k → w'.heap[k]? = w.heap[k]?
  ro : ∀ k, D' k → k < w'.heap.size ∧ (D k ∨ Mf sto ρ k ∨ w.heap.size ≤ k)
  blk : ∀ b y, gt b sto' = some y → BRep ρ' w' D' (ρ' b) y
  own : ∀ b y g, gt b sto' = some y → y.live = true → blkOf (ρ' b) = some g → ¬ D' g ∧ (Mf sto ρ g ∨ w.heap.size ≤ g)
  sep : ∀ b y b' y' g, gt b sto' = some y → y.live = true → gt b' sto' = some y' → y'.live = true → blkOf (ρ' b) = some g → blkOf (ρ' b') = some g → b = b'
  same : ∀ b, b < m → ρ' b = ρ b
  free : ∀ b, m ≤ b → gt b sto' = none → ρ' b = none
def Ent (P : Program) (f : FuncId) : Prop := ∀ args w, (callFunc f args).run P w = .ok (.enter f args) w
theorem Ent.of {P : Program} {f : FuncId} {fn : Func} {c : Code} (hf : P.funcs[f]? = some fn) (hb : fn.body = some c) (hn : (fn.name == "runtime.NumGoroutine") = false) : Ent P f := by
  intro args w; simp only [callFunc, Sem.run_bind, run_program, Result.andThen_ok, hf, hn, hb, Option.isNone_some, Bool.false_eq_true, if_false, Sem.run_pure]
def TC (P : Program) (E : List PanicEntry → World → Prop) (f : FuncId) (args : List GV) (m : Nat) (sto : List (Nat × Blk)) (r : GV) (sto' : List (Nat × Blk)) : Prop :=
  Ent P f ∧ ∀ (w : World) (vals : Array Value) (ρ : Nat → Option Value) (D : Nat → Prop), vals.size = args.length → (∀ (i : Nat) (g : GV), args[i]? = some g → GRep ρ w D (vals.getD i undef) g) → (∀ k, D k → k < w.heap.size) →
    (∀ b y, gt b sto = some y → BRep ρ w D (ρ b) y) → (∀ b y g, gt b sto = some y → y.live = true → blkOf (ρ b) = some g → ¬ D g) →
    (∀ b y b' y' g, gt b sto = some y → y.live = true → gt b' sto = some y' → y'.live = true → blkOf (ρ b) = some g → blkOf (ρ b') = some g → b = b') →
    Calls P f vals w fun e w' => (∃ ch, e = .panicked ch ∧ E ch w') ∨ ∃ v ρ' D', e = .returned v ∧ GRep ρ' w' D' v r ∧ Post sto sto' m w w' ρ ρ' D D'
def TState.res1 (P : Program) (s : TState) : ResultVar → Option GV
  | .tmp t => some (lk t s.env)
  | .cell t ty => match tdOf P ty with
    | some d => match s.deref (lk t s.env) with
      | some (_, cs) => if d.size ≤ cs.length then some (T.mk d.k.agg (cs.take d.size)) else none
      | none => none
    | none => none
def TState.resL (P : Program) (s : TState) : List ResultVar → Option (List GV)
  | [] => some []
  | x :: xs => match s.res1 P x with
    | some g => match s.resL P xs with
      | some gs => some (g :: gs)
      | none => none
    | none => none
def TState.res (P : Program) (s : TState) (xs : List ResultVar) : Option GV := match s.resL P xs with
  | some [g] => some g
  | some gs => some (.p gs)
  | none => none
def resSem (tmps : Array Value) : ResultVar → Sem Value
  | .tmp t => pure (tmps.getD t undef)
  | .cell t ty => do loadVar ty (← asAddr (tmps.getD t undef))
theorem results_eq (fn : Func) (tmps : Array Value) : results fn tmps = (do let vs ← fn.results.mapM (resSem tmps); pure (if h : vs.size = 1 then vs[0] else .tuple vs)) := by
  unfold results; congr 1
theorem res1_rep {P : Program} {C : Ctx} {a : Act} {w : World} {ρ : Nat → Option Value} {D : Nat → Prop} {s : TState} (hR : Rel C (envF s) s.get a w ρ D) {x : ResultVar} {g : GV} (h : s.res1 P x = some g) :
    ∃ v, (resSem a.tmps x).run P w = .ok v w ∧ GRep ρ w D v g := by
  cases x with
  | tmp t => cases h; exact ⟨_, rfl, hR.env t⟩
  | cell t ty =>
    simp only [TState.res1] at h; split at h
    · rename_i d hd
      split at h
      · rename_i fr cs hc
        split at h
        · rename_i hl
          cases h; have hfr : ∀ x ∈ fr, s.get x.1 = x.2 := by
            unfold TState.deref at hc; split at hc
            · split at hc
              · rename_i hg; cases hc; intro x hx; simp at hx; subst hx; exact hg
              · cases hc
            · split at hc
              · rename_i hg
                split at hc
                · split at hc
                  · cases hc; intro x hx; simp at hx; subst hx; exact hg
                  · cases hc
                · cases hc
              · cases hc
            · cases hc; intro x hx; cases hx
            · cases hc
          obtain ⟨b, k, e1, hcc⟩ := deref_rep hR hc hfr (hR.env t); have hag := (tdOf_all hd).2.2.2; have hc' : ∀ j, j < d.size → w.cell? ⟨b, k + j, none⟩ = some ((w.cell? ⟨b, k + j, none⟩).getD undef) := fun j hj => by
            obtain ⟨x, hx, _⟩ := hcc j cs[j] (List.getElem?_eq_getElem (by omega))
            simp [hx]
          refine ⟨_, by simp only [resSem, e1, asAddr, Sem.run_bind, Sem.run_pure, Result.andThen_ok]; rw [run_loadVar_td hd hag _ hc'], ?_⟩
          refine mk_rep (by simp; omega) (fun i t hi => ?_) (by rcases hag with h1 | h1; exact .inl h1; right; simp; omega)
          rw [List.getElem?_take] at hi; split at hi
          · rename_i hlt
            obtain ⟨x, hx, hr⟩ := hcc i t hi; simpa [Array.getD_eq_getD_getElem?, hlt, hx] using hr
          · cases hi
        · cases h
      · cases h
    · cases h
theorem resL_rep {P : Program} {C : Ctx} {a : Act} {w : World} {ρ : Nat → Option Value} {D : Nat → Prop} {s : TState} (hR : Rel C (envF s) s.get a w ρ D) : ∀ {xs : List ResultVar} {gs : List GV}, s.resL P xs = some gs →
    ∃ vs : List Value, (xs.mapM (resSem a.tmps)).run P w = .ok vs w ∧ vs.length = gs.length ∧ ∀ (i : Nat) (g : GV), gs[i]? = some g → GRep ρ w D (vs.getD i undef) g
  | [], gs, h => by cases h; exact ⟨[], by simp, rfl, fun i g hg => by simp at hg⟩
  | x :: xs, gs, h => by
    simp only [TState.resL] at h; split at h
    · rename_i g hg
      split at h
      · rename_i gs' hgs
        cases h; obtain ⟨v, h1, h2⟩ := res1_rep hR hg; obtain ⟨vs, h3, h4, h5⟩ := resL_rep hR hgs; refine ⟨v :: vs, ?_, by simp [h4], fun i g hg => ?_⟩
        · rw [List.mapM_cons, Sem.run_bind, h1, Result.andThen_ok, Sem.run_bind, h3, Result.andThen_ok]
          rfl
        · cases i with
          | zero => simp only [List.getElem?_cons_zero, Option.some.injEq] at hg; subst hg; simpa using h2
          | succ i => simpa using h5 i g (by simpa using hg)
      · cases h
    · cases h
theorem res_rep {P : Program} {C : Ctx} {a : Act} {w : World} {ρ : Nat → Option Value} {D : Nat → Prop} {s : TState} (hR : Rel C (envF s) s.get a w ρ D) {fn : Func} {xs : List ResultVar} (hxs : fn.results.toList = xs) {g : GV} (h : s.res P xs = some g) : ∃ v, (results fn a.tmps).run P w = .ok v w ∧ GRep ρ w D v g := by
  subst hxs; unfold TState.res at h
  cases hl : s.resL P fn.results.toList with
  | none => simp [hl] at h
  | some gs =>
    obtain ⟨vs, h1, h2, h3⟩ := resL_rep hR hl; have hrun : (results fn a.tmps).run P w = .ok (if h : vs.toArray.size = 1 then vs.toArray[0] else .tuple vs.toArray) w := by
      rw [results_eq, Sem.run_bind, Array.mapM_eq_mapM_toList, Sem.run_map, h1]; rfl
    refine ⟨_, hrun, ?_⟩; rw [hl] at h; rcases gs with _ | ⟨g0, _ | ⟨g1, gs⟩⟩
    · simp only [Option.some.injEq] at h
      subst h; obtain rfl : vs = [] := List.eq_nil_of_length_eq_zero (by simpa using h2)
      rw [dif_neg (by simp)]
      exact .p rfl fun i g hg => by simp at hg
    · simp only [Option.some.injEq] at h
      subst h; rcases vs with _ | ⟨v, _ | ⟨v1, vs⟩⟩
      · simp at h2
      · have := h3 0 g0 rfl
        simpa using this
      · simp at h2
    · simp only [Option.some.injEq] at h
      subst h; rw [dif_neg (by simp [h2])]
      refine .p (by simpa using h2) fun i g hg => ?_
      have := h3 i g hg
      simpa [List.getD_eq_getElem?_getD, Array.getD_eq_getD_getElem?] using this
/-- How a walk of a body must end. -/
structure Ret (P : Program) (xs : List ResultVar) (m : Nat) (s : TState) (r : GV) (sto' : List (Nat × Blk)) (f : Nat → Nat) (cs : List Nat) (r0 : GV) : Prop where
  res : s.res P xs = some r0
  val : r0.frz s.get cs = r.ren f
  names : ∀ b ∈ r.names, b < m ∨ (gt b sto').isSome = true
  cons : ∀ b ∈ cs, ∃ e k xs, s.get b = some (.rows e k xs)
  sto : ∀ x ∈ sto', f x.1 ∉ cs ∧ (s.get (f x.1)).map (Blk.frz s.get cs) = some (x.2.ren f) ∧ ∀ b ∈ x.2.names, b < m ∨ (gt b sto').isSome = true
  inj : ∀ x ∈ sto', ∀ y ∈ sto', f x.1 = f y.1 → x.1 = y.1
  fix : ∀ b, b < m → f b = b
def Rets (P : Program) (xs : List ResultVar) (m : Nat) (s : TState) (r : GV) (sto' : List (Nat × Blk)) : Prop := ∃ f cs r0, Ret P xs m s r sto' f cs r0
def exitQ (P : Program) (xs : List ResultVar) (m : Nat) (r : GV) (sto' : List (Nat × Blk)) : Exit → TState → Prop
  | .normal, s => Rets P xs m s r sto'
  | .ret, s => Rets P xs m s r sto'
  | _, _ => False
def argEnv : Nat → List GV → List (Nat × GV)
  | _, [] => []
  | i, g :: gs => (i, g) :: argEnv (i + 1) gs
theorem lk_argEnv (t : Nat) : ∀ (gs : List GV) (i : Nat), lk t (argEnv i gs) = if i ≤ t then gs.getD (t - i) .u else .u
  | [], i => by simp [argEnv, lk]
  | g :: gs, i => by
    simp only [argEnv, lk, lk_argEnv t gs (i + 1)]; by_cases h : t = i
    · subst h; simp
    · by_cases h2 : i ≤ t
      · rw [if_neg h, if_pos (by omega), if_pos h2, show t - i = (t - (i + 1)) + 1 by omega, List.getD_cons_succ]
      · rw [if_neg h, if_neg (by omega), if_neg h2]
theorem TRep.restrict {ρ ρ' : Nat → Option Value} {w : World} {D : Nat → Prop} {v : Value} {t : TV} (h : TRep ρ w D v t) (hf : ∀ b ∈ t.names, ∀ x, ρ b = some x → ρ' b = some x) : TRep ρ' w D v t := by
  cases h with
  | r h => exact .r h
  | own h => exact .own (hf _ (List.mem_cons_self ..) _ h)
  | ptr h => exact .ptr (hf _ (List.mem_cons_self ..) _ h)
  | row h => exact .row (hf _ (List.mem_cons_self ..) _ h)
  | rop vs h1 h2 h3 => exact .rop vs h1 h2 h3
theorem GRep.restrict {ρ ρ' : Nat → Option Value} {w : World} {D : Nat → Prop} {v : Value} {g : GV} (h : GRep ρ w D v g) : (∀ b ∈ g.names, ∀ x, ρ b = some x → ρ' b = some x) → GRep ρ' w D v g := by
  induction h with
  | s h => exact fun hf => .s (h.restrict hf)
  | a hn h => exact fun hf => .a hn fun i t ht => (h i t ht).restrict fun b hb => hf b (by simp only [GV.names, List.mem_flatMap]; exact ⟨t, List.mem_of_getElem? ht, hb⟩)
  | p hn _ ih => exact fun hf => .p hn fun i g hg => ih i g hg fun b hb => hf b (nLm (List.mem_of_getElem? hg) b hb)
  | clo h1 h2 _ _ i1 i2 => exact fun hf => .clo h1 h2 (fun i g hg => i1 i g hg fun b hb => hf b (List.mem_append_left _ (nLm (List.mem_of_getElem? hg) b hb))) fun i g hg => i2 i g hg fun b hb => hf b (List.mem_append_right _ (nLm (List.mem_of_getElem? hg) b hb))
  | u => exact fun _ => .u
theorem BRep.restrict {ρ ρ' : Nat → Option Value} {w : World} {D : Nat → Prop} {x : Option Value} {y : Blk} (h : BRep ρ w D x y) (hf : ∀ b ∈ y.names, ∀ x, ρ b = some x → ρ' b = some x) : BRep ρ' w D x y := by
  cases y with
  | dead => trivial
  | rows e k xs => exact h
  | box cs =>
    obtain ⟨g, arr, ty, e, h1, h2, h3⟩ := h; exact ⟨g, arr, ty, e, h1, h2, fun i t ht => (h3 i t ht).restrict fun b hb => hf b (by simp only [Blk.names, List.mem_flatMap]; exact ⟨t, List.mem_of_getElem? ht, hb⟩)⟩
def stoOk (m : Nat) (sto : List (Nat × Blk)) : Bool := (List.range m).all fun b => match gt b sto with | some y => y.live | none => false
structure Fits (args : List GV) (m : Nat) (sto : List (Nat × Blk)) : Prop where
  ok : stoOk m sto = true
  lt : ∀ x ∈ sto, x.1 < m
  args : ∀ g ∈ args, ∀ b ∈ g.names, b < m
  sto : ∀ x ∈ sto, ∀ b ∈ x.2.names, b < m
theorem Fits.live {args : List GV} {m : Nat} {sto : List (Nat × Blk)} (h : Fits args m sto) {b : Nat} (hb : b < m) : ∃ y, gt b sto = some y ∧ y.live = true := by
  have := h.ok
  simp only [stoOk, List.all_eq_true, List.mem_range] at this; have := this b hb
  split at this
  · rename_i y hy; exact ⟨y, hy, this⟩
  · cases this
theorem BRep.some {ρ : Nat → Option Value} {w : World} {D : Nat → Prop} {x : Option Value} {y : Blk} (h : BRep ρ w D x y) (hl : y.live = true) : ∃ v, x = .some v := by
  cases y with
  | dead => simp [Blk.live] at hl
  | rows e k xs => obtain ⟨A, c, e, _⟩ := h; exact ⟨_, e⟩
  | box cs => obtain ⟨g, arr, ty, e, _⟩ := h; exact ⟨_, e⟩
theorem TC.enter {P : Program} {E : List PanicEntry → World → Prop} {f : FuncId} {fn : Func} {c : Code} {args : List GV} {m : Nat} {sto sto' : List (Nat × Blk)} {r : GV} (hf : P.funcs[f]? = some fn) (hb : fn.body = some c) (hnm : (fn.name == "runtime.NumGoroutine") = false) {nt : Nat} (hnt : fn.ntmps = nt) {xs : List ResultVar} (hxs : fn.results.toList = xs) (hn : args.length ≤ nt) (hfit : Fits args m sto)
    (h : TW P E nt m c (exitQ P xs m r sto') ⟨argEnv 0 args, sto, m⟩) : TC P E f args m sto r sto' := by
  subst hnt; refine ⟨Ent.of hf hb hnm, ?_⟩; intro w vals ρ D hv ha hD hs1 hs2 hs3; let C : Ctx := { W := w, M := Mf sto ρ, D0 := D, nt := fn.ntmps, ρ0 := fun b => if b < m then ρ b else none }
  have hgm : ∀ b y, gt b sto = some y → b < m := fun b y hy => hfit.lt _ (gt_mem hy)
  have hget : ∀ b y, (TState.get ⟨argEnv 0 args, sto, m⟩ b) = some y → b < m ∧ (y = .dead ∨ gt b sto = some y) := by
    intro b y hy; unfold TState.get at hy; split at hy
    · rename_i z hz; cases hy; exact ⟨hgm _ _ hz, .inr hz⟩
    · split at hy
      · rename_i hlt; cases hy; exact ⟨hlt, .inl rfl⟩
      · cases hy
  have hρ : ∀ b, b < m → (fun b => if b < m then ρ b else none) b = ρ b := fun b hb => by simp [hb]
  have hvs : vals.size = args.length := hv
  have hR : Rel C (envF ⟨argEnv 0 args, sto, m⟩) (TState.get ⟨argEnv 0 args, sto, m⟩) { tmps := vals ++ Array.replicate (fn.ntmps - vals.size) undef, defers := [] } w (fun b => if b < m then ρ b else none) D := by
    refine ⟨rfl, rfl, rfl, Nat.le_refl _, fun k _ _ => rfl, fun k hk => ⟨hD k hk, .inl hk⟩, fun b hb => ?_, fun b y hy => ?_, fun b y g hy hl hg => ?_, fun b y b' y' g hy hl hy' hl' hg hg' => ?_, fun t => ?_, rfl, ?_, fun b x hx => hx⟩
    · unfold TState.get at hb
      split at hb
      · cases hb
      · split at hb
        · cases hb
        · rename_i h; simp only at h; simp [h]
    · obtain ⟨h1, h2⟩ := hget b y hy
      rcases h2 with rfl | h2
      · trivial
      · simp only [h1, if_true]
        exact (hs1 b y h2).restrict fun c hc x hx => by rw [if_pos (hfit.sto _ (gt_mem h2) c hc)]; exact hx
    · obtain ⟨h1, h2⟩ := hget b y hy
      rcases h2 with rfl | h2
      · simp [Blk.live] at hl
      · simp only [h1, if_true] at hg
        exact ⟨hs2 b y g h2 hl hg, .inl ⟨b, y, h2, hl, hg⟩⟩
    · obtain ⟨h1, h2⟩ := hget b y hy
      obtain ⟨h1', h2'⟩ := hget b' y' hy'; rcases h2 with rfl | h2
      · simp [Blk.live] at hl
      · rcases h2' with rfl | h2'
        · simp [Blk.live] at hl'
        · simp only [h1, h1', if_true] at hg hg'
          exact hs3 b y b' y' g h2 hl h2' hl' hg hg'
    · simp only [envF, lk_argEnv, Nat.zero_le, if_true, Nat.sub_zero]
      by_cases ht : t < args.length
      · have hg : args[t]? = .some args[t] := List.getElem?_eq_getElem ht
        have := (ha t _ hg).restrict (ρ' := fun b => if b < m then ρ b else none) fun c hc x hx => by rw [if_pos (hfit.args _ (List.getElem_mem ht) c hc)]; exact hx
        rw [List.getD_eq_getElem?_getD, hg]; have e : (vals ++ Array.replicate (fn.ntmps - vals.size) undef).getD t undef = vals.getD t undef := by
          have hlt : t < vals.size := by omega
          simp [Array.getD_eq_getD_getElem?, Array.getElem?_append_left hlt]
        rw [e]; exact this
      · rw [List.getD_eq_getElem?_getD, List.getElem?_eq_none (by omega)]
        exact .u
    · simp only [Array.size_append, Array.size_replicate]
      show _ = fn.ntmps
      omega
  refine calls_of_wp hf hb (h C _ w rfl (fun b x hx => ?_) ⟨_, D, hR⟩ _ (fun e s' a' w' hq hR' => ?_) fun ch a w' hd hE => ⟨hd, .inl ⟨ch, rfl, hE⟩⟩)
  · have : (if b < m then ρ b else none) = some x := hx
    split at this
    · assumption
    · cases this
  obtain ⟨ρe, De, hRe⟩ := hR'; have hret : Rets P xs m s' r sto' → a'.defers = [] ∧ ∃ v, (results fn a'.tmps).run P w' = .ok v w' ∧ ((∃ ch, Ending.returned v = .panicked ch ∧ E ch w') ∨ ∃ v' ρ' D', Ending.returned v = .returned v' ∧ GRep ρ' w' D' v' r ∧ Post sto sto' m w w' ρ ρ' D D') := by
    rintro ⟨f', cs, r0, hr⟩; refine ⟨hRe.defers, ?_⟩; obtain ⟨v, hv1, hv2⟩ := res_rep hRe hxs hr.res; obtain ⟨D', hR2, hDD, hDb⟩ := hRe.freeze (cs := cs) fun b hb => by
      obtain ⟨e, k, xs, h⟩ := hr.cons b hb; exact ⟨_, h, rfl⟩
    refine ⟨v, hv1, .inr ⟨v, fun b => if b < m then ρ b else if (gt b sto').isSome = true then ρe (f' b) else none, D', rfl, ?_, ?_⟩⟩
    all_goals
      have hsame : ∀ b, b < m → ρe b = ρ b := fun b hb => by
        obtain ⟨y, hy, hl⟩ := hfit.live hb; obtain ⟨x, hx⟩ := (hs1 b y hy).some hl; rw [hx]; refine hRe.ext b x ?_; show (if b < m then ρ b else none) = some x
        rw [if_pos hb, hx]
      have hρ' : ∀ b, (b < m ∨ (gt b sto').isSome = true) → ∀ x, ρe (f' b) = some x → (fun b => if b < m then ρ b else if (gt b sto').isSome = true then ρe (f' b) else none) b = some x := by
        intro b hb x hx; by_cases h1 : b < m
        · rw [hr.fix b h1, hsame b h1] at hx
          simp [h1, hx]
        · simp [h1, hb.resolve_left h1, hx]
      have hval : ∀ b, (gt b sto').isSome = true → (if b < m then ρ b else if (gt b sto').isSome = true then ρe (f' b) else none) = ρe (f' b) := by
        intro b hb; by_cases h1 : b < m
        · simp only [h1, if_true, hr.fix b h1, hsame b h1]
        · simp [h1, hb]
    · have := hv2.frz hRe hDD hDb
      rw [hr.val] at this; exact this.ren fun b hb => hρ' b (hr.names b hb)
    · have hst : ∀ b y, gt b sto' = some y → (fun b => if b ∈ cs then some Blk.dead else (s'.get b).map (Blk.frz s'.get cs)) (f' b) = some (y.ren f') ∧ (gt b sto').isSome = true ∧ ∀ c ∈ y.names, c < m ∨ (gt c sto').isSome = true := by
        intro b y hy; obtain ⟨h1, h2, h3⟩ := hr.sto _ (gt_mem hy); exact ⟨by simp only [h1, if_false]; exact h2, by rw [hy]; rfl, h3⟩
      refine ⟨hR2.os, hR2.tape, hR2.output, hR2.size, fun k hk hM => hR2.old k hk hM, fun k hk => hR2.ro k hk, fun b y hy => ?_, fun b y g hy hl hg => ?_, fun b y b' y' g hy hl hy' hl' hg hg' => ?_, fun b hb => by simp [hb], fun b hb hy => ?_⟩
      · obtain ⟨h1, h2, h3⟩ := hst b y hy
        simp only [hval b h2]; exact (hR2.blk _ _ h1).ren fun c hc => hρ' c (h3 c hc)
      · obtain ⟨h1, h2, h3⟩ := hst b y hy
        simp only [hval b h2] at hg; exact hR2.own _ _ g h1 (by rw [Blk.ren_live]; exact hl) hg
      · obtain ⟨h1, h2, h3⟩ := hst b y hy
        obtain ⟨h1', h2', h3'⟩ := hst b' y' hy'; simp only [hval b h2] at hg; simp only [hval b' h2'] at hg'; exact hr.inj _ (gt_mem hy) _ (gt_mem hy') (hR2.sep _ _ _ _ g h1 (by rw [Blk.ren_live]; exact hl) h1' (by rw [Blk.ren_live]; exact hl') hg hg')
      · have : ¬ b < m := by omega
        simp [this, hy]
  cases e with
  | normal => exact hret hq
  | ret => exact hret hq
  | _ => exact hq.elim
end Go.Proofs.Ytjklkppncmhehaa.T
