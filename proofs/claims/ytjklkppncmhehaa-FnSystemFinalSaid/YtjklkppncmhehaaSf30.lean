/-
What is proved: what a call does to trees ('op_call', 'op_peek'). No condition. '==' and '!=' between structs of integers and Booleans, conversions between integers, and the check that a pointer is there, over trees. No condition. a region's operations walked over trees, one after the other ('vcOps'), and that the machine does what they tell, in whatever order ('TW.region'). No condition.
-/
import Derived.Test.YtjklkppncmhehaaSf29
import Derived.Test.YtjklkppncmhehaaSf26
import Derived.Laws.StructEq
set_option linter.unusedVariables false
set_option linter.unusedSimpArgs false
namespace Go.Proofs.Ytjklkppncmhehaa.T
open Go Go.RowKit
theorem OpL.call {P : Program} {E : List PanicEntry → World → Prop} {nt : Nat} {o : Oper} {fr : List (Nat × Option Blk)} {ins : List (Nat × GV)} {gv : GV} {Δ : List (Nat × Blk)} (hd : dstOk o nt = true)
    (h : ∀ C env get a w ρ D, (∀ x ∈ fr, get x.1 = x.2) → (∀ x ∈ ins, env x.1 = x.2) → Rel C env get a w ρ D → ∃ f vals, (execOp a.eval o).run P w = .ok (.enter f vals) w ∧ Calls P f vals w fun e w' => (∃ ch, e = .panicked ch ∧ E ch w') ∨ ∃ v ρ' D', e = .returned v ∧ Rel C env (upd get Δ) a w' ρ' D' ∧ GRep ρ' w' D' v gv) : OpL P E nt o fr ins gv Δ := by
  intro C env get a w K Q hn hf hi hR hK hE; obtain ⟨ρ, D, hR⟩ := hR; obtain ⟨f, vals, hv, hc⟩ := h C env get a w ρ D hf hi hR; unfold Oper.wp; rw [hv, Oper.upon_enter]; refine hc.mono ?_; rintro e w' (⟨ch, rfl, he⟩ | ⟨v, ρ', D', rfl, hR', hg⟩)
  · exact hE ch a w' hR.defers he
  · refine hK _ _ ⟨ρ', D', hR'.put (fun d e => ?_) hg⟩
    unfold dstOk at hd; rw [e] at hd; simpa [hn] using hd
theorem call_run {P : Program} {o : Oper} {fx : Operand} {args : Array Operand} {ats : Array TypeId} (ho : o.op = .call { callee := .value fx, args := args, argTypes := ats }) {a : Act} {f : FuncId} {first caps : Array Value} (hf : a.eval fx = .func (.func f) first caps) (he : Ent P f) (w : World) :
    (execOp a.eval o).run P w = .ok (.enter f (first ++ args.map a.eval ++ caps)) w := by
  have := he (first ++ args.map a.eval ++ caps) w
  simp only [execOp, ho, resolve, hf, Deferred.ofValue, Sem.run_bind, Sem.run_pure, Result.andThen_ok, invoke, this]
section
variable {P : Program} {E : List PanicEntry → World → Prop} {nt : Nat} {o : Oper} {s : TState}
theorem args_rep {C : Ctx} {env : Nat → GV} {get : Nat → Option Blk} {a : Act} {w : World} {ρ : Nat → Option Value} {D : Nat → Prop} (hR : Rel C env get a w ρ D) {fx : Operand} {args : Array Operand} (hi : ∀ x ∈ insOf s.env (fx :: args.toList), env x.1 = x.2) {f : FuncId} {fs cs : List GV} (hf : s.ev fx = .clo (.func f) fs cs) :
    ∃ first caps, a.eval fx = .func (.func f) first caps ∧ (first ++ args.map a.eval ++ caps).size = (fs ++ args.toList.map s.ev ++ cs).length ∧ ∀ (i : Nat) (g : GV), (fs ++ args.toList.map s.ev ++ cs)[i]? = some g → GRep ρ w D ((first ++ args.map a.eval ++ caps).getD i undef) g := by
  have hr := ev_rep hR hi (x := fx) (List.mem_cons_self ..); rw [hf] at hr; generalize a.eval fx = v at hr
  cases hr with
  | @clo _ first caps _ _ h1 h2 h3 h4 =>
  refine ⟨first, caps, rfl, by simp [h1, h2], fun i g hg => ?_⟩
  simp only [Array.getD_eq_getD_getElem?, Array.getElem?_append, Array.size_append, Array.size_map, h1]; simp only [List.getElem?_append, List.length_append, List.length_map] at hg; have hsz : args.size = args.toList.length := by simp
  rw [hsz]; split at hg
  · rename_i hlt
    rw [if_pos hlt]; split at hg
    · rename_i hlt2
      rw [if_pos hlt2]; simpa [Array.getD_eq_getD_getElem?] using h3 i g hg
    · rename_i hge
      rw [if_neg hge]; rw [List.getElem?_map, Option.map_eq_some_iff] at hg; obtain ⟨x, hx, rfl⟩ := hg; have hx' : args[i - fs.length]? = some x := by simpa using hx
      simp only [Array.getElem?_map, hx', Option.map_some, Option.getD_some]; exact ev_rep hR hi (List.mem_cons_of_mem _ (List.mem_of_getElem? hx))
  · rename_i hge
    rw [if_neg hge]; simpa [Array.getD_eq_getD_getElem?] using h4 _ g hg
def φ (frag : List Nat) (nx : Nat) (b : Nat) : Nat := if b < frag.length then frag.getD b 0 else nx + (b - frag.length)
def rowOf : Option Blk → Bool
  | some (.rows ..) => true
  | _ => false
/-- How a call fits what is known of a function. -/
structure CallOk (s : TState) (gargs : List GV) (frag peek : List Nat) (args' : List GV) (sto0 sto' : List (Nat × Blk)) (cnt : Nat) : Prop where
  args : frzL s.get peek gargs = renL (φ frag s.nx) args'
  nodup : frag.Nodup
  fragLt : ∀ b ∈ frag, b < s.nx
  apart : ∀ b ∈ peek, b ∉ frag
  rows : ∀ b ∈ peek, rowOf (s.get b) = true
  blks : ∀ b, b < frag.length → (s.get (frag.getD b 0)) = (gt b sto0).map (Blk.ren (φ frag s.nx)) ∧ (gt b sto0).isSome = true
  live : ∀ x ∈ sto0, x.1 < frag.length ∧ x.2.live = true
  news : ∀ x ∈ sto', x.1 < frag.length + cnt
def ΔOf (s : TState) (frag peek : List Nat) (sto' : List (Nat × Blk)) (cnt : Nat) : List (Nat × Blk) :=
  ((List.range frag.length).map fun i => (frag.getD i 0, match gt i sto' with | some y => y.ren (φ frag s.nx) | none => .dead)) ++ ((List.range cnt).map fun j => (s.nx + j, match gt (frag.length + j) sto' with | some y => y.ren (φ frag s.nx) | none => .dead)) ++ peek.map fun b => (b, .dead)
def frCall (s : TState) (frag peek : List Nat) (cnt : Nat) : List (Nat × Option Blk) := (frag.map fun b => (b, s.get b)) ++ (peek.map fun b => (b, s.get b)) ++ (List.range cnt).map fun j => (s.nx + j, none)
theorem gt_map_in {β : Type} (f : β → Nat × Blk) {b : Nat} : ∀ {l : List β}, (∀ x ∈ l, (f x).1 ≠ b) → gt b (l.map f) = none
  | [], _ => rfl
  | x :: l, h => by
    have h0 := h x (List.mem_cons_self ..); simp only [List.map_cons, gt]; rw [if_neg (fun e => h0 e.symm)]
    exact gt_map_in f fun y hy => h y (List.mem_cons_of_mem _ hy)
theorem gt_map_at {β : Type} (f : β → Nat × Blk) {b : Nat} {x : β} : ∀ {l : List β}, x ∈ l → (f x).1 = b → (∀ y ∈ l, (f y).1 = b → f y = f x) → gt b (l.map f) = some (f x).2
  | y :: l, h, hb, hu => by
    simp only [List.map_cons, gt]; split
    · rename_i e
      rw [hu y (List.mem_cons_self ..) e.symm]
    · rename_i e
      rcases List.mem_cons.1 h with rfl | h
      · exact absurd hb.symm e
      · exact gt_map_at f h hb fun z hz => hu z (List.mem_cons_of_mem _ hz)
theorem nodup_get {l : List Nat} (h : l.Nodup) {i j : Nat} (hi : i < l.length) (hj : j < l.length) (e : l.getD i 0 = l.getD j 0) : i = j := by
  simp only [List.getD_eq_getElem?_getD, List.getElem?_eq_getElem hi, List.getElem?_eq_getElem hj, Option.getD_some] at e; exact (List.getElem_inj h).1 e
theorem op_call {fx : Operand} {args : Array Operand} {ats : Array TypeId} (ho : o.op = .call { callee := .value fx, args := args, argTypes := ats }) (hd : dstOk o nt = true) {f : FuncId} {fs cs : List GV} (hf : s.ev fx = .clo (.func f) fs cs) {frag peek : List Nat} {args' : List GV} {sto0 sto' : List (Nat × Blk)} {cnt : Nat} {r : GV}
    (hT : TC P E f args' frag.length sto0 r sto') (hk : CallOk s (fs ++ args.toList.map s.ev ++ cs) frag peek args' sto0 sto' cnt) (hr : ∀ b ∈ r.names, b < frag.length + cnt) (hsn : ∀ x ∈ sto', ∀ b ∈ x.2.names, b < frag.length + cnt) :
    OpL P E nt o (frCall s frag peek cnt) (insOf s.env (fx :: args.toList)) (r.ren (φ frag s.nx)) (ΔOf s frag peek sto' cnt) := by
  refine .call hd fun C env get a w ρ D hfr hi hR => ?_; obtain ⟨first, caps, e1, hsz, hargs⟩ := args_rep hR hi hf; obtain ⟨hent, hT⟩ := hT; refine ⟨f, _, call_run ho e1 hent w, ?_⟩; have hfrag : ∀ b ∈ frag, get b = s.get b := fun b hb => hfr (b, s.get b) (by simp only [frCall, List.mem_append, List.mem_map]; exact .inl (.inl ⟨b, hb, rfl⟩))
  have hpeek : ∀ b ∈ peek, get b = s.get b := fun b hb => hfr (b, s.get b) (by simp only [frCall, List.mem_append, List.mem_map]; exact .inl (.inr ⟨b, hb, rfl⟩))
  have hnew : ∀ j, j < cnt → get (s.nx + j) = none := fun j hj => hfr (s.nx + j, none) (by simp only [frCall, List.mem_append, List.mem_map, List.mem_range]; exact .inr ⟨j, hj, rfl⟩)
  have hfm : ∀ i, i < frag.length → frag.getD i 0 ∈ frag := fun i hi => by
    simp only [List.getD_eq_getElem?_getD, List.getElem?_eq_getElem hi, Option.getD_some]; exact List.getElem_mem hi
  have hplive : ∀ b ∈ peek, ∃ z, get b = some z ∧ z.live = true := by
    intro b hb; have := hk.rows b hb
    rw [hpeek b hb]; unfold rowOf at this; split at this
    · rename_i h; exact ⟨_, h, rfl⟩
    · cases this
  obtain ⟨D1, hR1, hD1, hDp⟩ := hR.consume peek hplive; have hgt1 : ∀ c, gt c (peek.map fun b => (b, Blk.dead)) = if c ∈ peek then some .dead else none := by
    intro c; by_cases hc : c ∈ peek
    · rw [if_pos hc]
      exact gt_map_at (fun b => (b, Blk.dead)) hc rfl fun y _ e => by simp only at e; rw [e]
    · rw [if_neg hc]
      exact gt_map_in _ fun x hx e => hc (by simp only at e; rw [← e]; exact hx)
  have hup1 : ∀ c, upd get (peek.map fun b => (b, Blk.dead)) c = if c ∈ peek then some .dead else get c := by
    intro c; simp only [upd, hgt1]; split <;> simp_all
  have hφ : ∀ i, i < frag.length → φ frag s.nx i = frag.getD i 0 := fun i hi => by simp only [φ, if_pos hi]
  have hφ' : ∀ i, ¬ i < frag.length → φ frag s.nx i = s.nx + (i - frag.length) := fun i hi => by simp only [φ, if_neg hi]
  have hblk : ∀ b y, gt b sto0 = some y → b < frag.length ∧ y.live = true ∧ get (frag.getD b 0) = some (y.ren (φ frag s.nx)) ∧ upd get (peek.map fun b => (b, Blk.dead)) (frag.getD b 0) = some (y.ren (φ frag s.nx)) := by
    intro b y hy; obtain ⟨h1, h2⟩ := hk.live _ (gt_mem hy); obtain ⟨h3, _⟩ := hk.blks b h1; rw [hy] at h3; have h4 : get (frag.getD b 0) = some (y.ren (φ frag s.nx)) := by rw [hfrag _ (hfm b h1), h3]; rfl
    refine ⟨h1, h2, h4, ?_⟩; rw [hup1, if_neg fun h => hk.apart _ h (hfm b h1)]
    exact h4
  have hrc : ∀ (i : Nat) (g : GV), args'[i]? = some g → GRep (fun b => ρ (φ frag s.nx b)) w D1 ((first ++ args.map a.eval ++ caps).getD i undef) g := by
    intro i g hg; have hlen : args'.length = (fs ++ args.toList.map s.ev ++ cs).length := by
      have := congrArg List.length hk.args
      rw [frzL_length, renL_length] at this; exact this.symm
    have hil : i < (fs ++ args.toList.map s.ev ++ cs).length := by rw [← hlen]; exact (List.getElem?_eq_some_iff.1 hg).1
    have h1 := hargs i _ (List.getElem?_eq_getElem hil); have h2 := h1.frz (cs := peek) hR hD1 hDp; have h3 : (renL (φ frag s.nx) args')[i]? = some (g.ren (φ frag s.nx)) := by rw [renL_get, hg]; rfl
    rw [← hk.args, frzL_get, List.getElem?_eq_getElem hil] at h3; simp only [Option.map_some, Option.some.injEq] at h3; have h4 : ∀ g : GV, g.frz get peek = g.frz s.get peek := GV.frz_congr hpeek
    rw [h4, h3] at h2; exact h2.ren fun b _ x hx => hx
  refine (hT w _ (fun b => ρ (φ frag s.nx b)) D1 (by rw [hsz, ← frzL_length s.get peek, hk.args, renL_length]) hrc (fun k hk' => (hR1.ro k hk').1) (fun b y hy => ?_) (fun b y g hy hl hg => ?_) (fun b y b' y' g hy hl hy' hl' hg hg' => ?_)).mono ?_
  · obtain ⟨h1, h2, h3, h4⟩ := hblk b y hy
    simp only [hφ b h1]; exact (hR1.blk _ _ h4).ren fun c _ x hx => hx
  · obtain ⟨h1, h2, h3, h4⟩ := hblk b y hy
    simp only [hφ b h1] at hg; exact (hR1.own _ _ g h4 (by rw [Blk.ren_live]; exact h2) hg).1
  · obtain ⟨h1, h2, h3, h4⟩ := hblk b y hy
    obtain ⟨h1', h2', h3', h4'⟩ := hblk b' y' hy'; simp only [hφ b h1] at hg; simp only [hφ b' h1'] at hg'; exact nodup_get hk.nodup h1 h1' (hR1.sep _ _ _ _ g h4 (by rw [Blk.ren_live]; exact h2) h4' (by rw [Blk.ren_live]; exact h2') hg hg')
  rintro e w' (h | ⟨v, ρ2, D2, rfl, hv, hP⟩)
  · exact .inl h
  right
  have hMf : ∀ k, Mf sto0 (fun b => ρ (φ frag s.nx b)) k → ∃ i z, i < frag.length ∧ get (frag.getD i 0) = some z ∧ z.live = true ∧ frag.getD i 0 ∉ peek ∧ blkOf (ρ (frag.getD i 0)) = some k := by
    rintro k ⟨b, y, hy, hl, hg⟩; obtain ⟨h1, h2, h3, h4⟩ := hblk b y hy; simp only [hφ b h1] at hg; exact ⟨b, _, h1, h3, by rw [Blk.ren_live]; exact h2, fun h => hk.apart _ h (hfm b h1), hg⟩
  have hMD : ∀ k, D1 k → ¬ Mf sto0 (fun b => ρ (φ frag s.nx b)) k := by
    intro k hdk hm; obtain ⟨i, z, h1, h2, h3, h4, h5⟩ := hMf k hm; exact (hR1.own _ z k (by rw [hup1, if_neg h4]; exact h2) h3 h5).1 hdk
  have hK : Keeps D1 w w' := fun k hdk => hP.old k (hR1.ro k hdk).1 (hMD k hdk)
  let ρ3 : Nat → Option Value := fun b => if b < s.nx then ρ b else if b < s.nx + cnt then ρ2 (frag.length + (b - s.nx)) else ρ b
  have hρ3 : ∀ b x, ρ b = some x → ρ3 b = some x := by
    intro b x hx; show (if b < s.nx then ρ b else if b < s.nx + cnt then ρ2 (frag.length + (b - s.nx)) else ρ b) = some x
    by_cases h1 : b < s.nx
    · rw [if_pos h1]; exact hx
    · by_cases h2 : b < s.nx + cnt
      · have := hR.free b (by have := hnew (b - s.nx) (by omega); rwa [show s.nx + (b - s.nx) = b by omega] at this)
        rw [hx] at this; cases this
      · rw [if_neg h1, if_neg h2]; exact hx
  have hρφ : ∀ b, b < frag.length + cnt → ρ3 (φ frag s.nx b) = ρ2 b := by
    intro b hb; by_cases h1 : b < frag.length
    · rw [hφ b h1, hP.same b h1]
      have hlt := hk.fragLt _ (hfm b h1); show (if frag.getD b 0 < s.nx then ρ (frag.getD b 0) else _) = ρ (φ frag s.nx b)
      rw [if_pos hlt, hφ b h1]
    · rw [hφ' b h1]
      show (if s.nx + (b - frag.length) < s.nx then _ else if s.nx + (b - frag.length) < s.nx + cnt then ρ2 (frag.length + (s.nx + (b - frag.length) - s.nx)) else _) = ρ2 b
      rw [if_neg (by omega), if_pos (by omega)]
      congr 1; omega
  let D3 : Nat → Prop := fun k => D1 k ∨ D2 k
  have hD2 : ∀ k, D2 k → k < w'.heap.size ∧ (D1 k ∨ Mf sto0 (fun b => ρ (φ frag s.nx b)) k ∨ w.heap.size ≤ k) := hP.ro
  have hget : ∀ c y, upd get (ΔOf s frag peek sto' cnt) c = some y → y.live = true → (∃ b y', b < frag.length + cnt ∧ c = φ frag s.nx b ∧ gt b sto' = some y' ∧ y = y'.ren (φ frag s.nx)) ∨ (c ∉ frag ∧ c ∉ peek ∧ get c = some y ∧ ¬ (s.nx ≤ c ∧ c < s.nx + cnt)) := by
    intro c y hy hl; simp only [upd, ΔOf, gt_append] at hy; by_cases h1 : c ∈ frag
    · left
      obtain ⟨i, hi', hic⟩ := List.getElem_of_mem h1; have hic' : frag.getD i 0 = c := by simp [List.getD_eq_getElem?_getD, hi', hic]
      rw [gt_map_at (x := i) _ (List.mem_range.2 hi') hic' (fun j hj e => by rw [nodup_get hk.nodup (List.mem_range.1 hj) hi' (by simp only at e; rw [e, hic'])])] at hy
      simp only [Option.some.injEq] at hy; split at hy
      · rename_i y' hy'
        exact ⟨i, y', by omega, by rw [hφ i hi', hic'], hy', hy.symm⟩
      · subst hy; simp [Blk.live] at hl
    · rw [gt_map_in _ (fun i hi' e => h1 (by simp only at e; rw [← e]; exact hfm i (List.mem_range.1 hi')))] at hy
      by_cases h2 : s.nx ≤ c ∧ c < s.nx + cnt
      · left
        rw [gt_map_at (x := c - s.nx) _ (List.mem_range.2 (by omega)) (by simp only; omega) (fun j hj e => by simp only at e; rw [show j = c - s.nx by omega])] at hy
        simp only [Option.some.injEq] at hy; split at hy
        · rename_i y' hy'
          refine ⟨frag.length + (c - s.nx), y', by omega, by rw [hφ' _ (by omega)]; omega, hy', hy.symm⟩
        · subst hy; simp [Blk.live] at hl
      · rw [gt_map_in _ (fun j hj e => h2 (by have := List.mem_range.1 hj; simp only at e; omega))] at hy
        by_cases h3 : c ∈ peek
        · rw [hgt1, if_pos h3] at hy
          simp only [Option.some.injEq] at hy; subst hy; simp [Blk.live] at hl
        · rw [hgt1, if_neg h3] at hy
          exact .inr ⟨h1, h3, hy, h2⟩
  have hold : ∀ c y, c ∉ frag → c ∉ peek → get c = some y → y.live = true → ∀ g, blkOf (ρ c) = some g → ¬ D3 g ∧ ¬ Mf sto0 (fun b => ρ (φ frag s.nx b)) g ∧ g < w.heap.size := by
    intro c y h1 h2 hy hl g hg; have hmf : ¬ Mf sto0 (fun b => ρ (φ frag s.nx b)) g := by
      intro hm; obtain ⟨i, z, i1, i2, i3, i4, i5⟩ := hMf g hm; have := hR.sep c y _ z g hy hl i2 i3 hg i5
      exact h1 (this ▸ hfm i i1)
    have hlt := hR.size_lt hy hl hg; have hd1 := (hR1.own c y g (by rw [hup1, if_neg h2]; exact hy) hl hg).1
    refine ⟨?_, hmf, hlt⟩; rintro (h | h)
    · exact hd1 h
    · rcases (hD2 g h).2 with h | h | h
      · exact hd1 h
      · exact hmf h
      · omega
  have hρc : ∀ c y, get c = some y → ¬ (s.nx ≤ c ∧ c < s.nx + cnt) → ρ3 c = ρ c := by
    intro c y _ h; show (if c < s.nx then ρ c else if c < s.nx + cnt then ρ2 (frag.length + (c - s.nx)) else ρ c) = ρ c
    by_cases h1 : c < s.nx
    · rw [if_pos h1]
    · rw [if_neg h1, if_neg (by omega)]
  have hnews : ∀ g b y', gt b sto' = some y' → y'.live = true → blkOf (ρ2 b) = some g → ¬ D3 g ∧ (Mf sto0 (fun b => ρ (φ frag s.nx b)) g ∨ w.heap.size ≤ g) := by
    intro g b y' hy' hl hg; obtain ⟨h1, h2⟩ := hP.own b y' g hy' hl hg; refine ⟨?_, h2⟩; rintro (h | h)
    · rcases h2 with h2 | h2
      · exact hMD g h h2
      · have := (hR1.ro g h).1; omega
    · exact h1 h
  have hMo : ∀ g, Mf sto0 (fun b => ρ (φ frag s.nx b)) g ∨ w.heap.size ≤ g → C.M g ∨ C.W.heap.size ≤ g := by
    rintro g (h | h)
    · obtain ⟨i, z, i1, i2, i3, i4, i5⟩ := hMf g h
      exact (hR.own _ z g i2 i3 i5).2
    · have := hR.size; exact .inr (by omega)
  have hsize := hR.size; have hpsize := hP.size; refine ⟨v, ρ3, D3, rfl, ⟨hP.os.trans hR.os, hP.tape.trans hR.tape, hP.output.trans hR.output, by omega, fun k hk1 hk2 => ?_, fun k hk' => ?_, fun c hc => ?_, fun c y hy => ?_, fun c y g hy hl hg => ?_, fun c y c' y' g hy hl hy' hl' hg hg' => ?_, fun t => (hR.env t).keep hρ3 (fun k hdk => hK k (hD1 k hdk)) (fun k hdk => .inl (hD1 k hdk)), hR.defers, hR.nt, fun b x hx => hρ3 b x (hR.ext b x hx)⟩, ?_⟩
  · rw [hP.old k (by omega) (fun hm => ?_)]
    · exact hR.old k hk1 hk2
    · rcases hMo k (.inl hm) with h | h
      · exact hk2 h
      · omega
  · rcases hk' with hk' | hk'
    · have := hR1.ro k hk'
      exact ⟨by omega, this.2⟩
    · obtain ⟨h1, h2⟩ := hD2 k hk'
      refine ⟨h1, ?_⟩; rcases h2 with h2 | h2
      · exact (hR1.ro k h2).2
      · exact .inr (hMo k h2)
  · -- free names
    have hng : gt c (ΔOf s frag peek sto' cnt) = none ∧ get c = none := by
      simp only [upd] at hc; split at hc
      · cases hc
      · rename_i h; exact ⟨h, hc⟩
    have hcn : ¬ (s.nx ≤ c ∧ c < s.nx + cnt) := by
      intro h2; have h0 := hng.1; simp only [ΔOf, gt_append] at h0; split at h0
      · cases h0
      · rename_i h0'
        split at h0'
        · cases h0'
        · rw [gt_map_at (x := c - s.nx) _ (List.mem_range.2 (by omega)) (by simp only; omega) (fun j hj e => by simp only at e; rw [show j = c - s.nx by omega])] at h0'
          cases h0'
    show (if c < s.nx then ρ c else if c < s.nx + cnt then ρ2 (frag.length + (c - s.nx)) else ρ c) = none
    have := hR.free c hng.2
    by_cases h1 : c < s.nx
    · rw [if_pos h1]; exact this
    · rw [if_neg h1, if_neg (by omega)]; exact this
  · by_cases hl : y.live = true
    · rcases hget c y hy hl with ⟨b, y', b1, rfl, b2, rfl⟩ | ⟨h1, h2, h3, h4⟩
      · rw [hρφ b b1]
        refine ((hP.blk b y' b2).keep (fun _ _ h => h) (Keeps.refl _ _) (fun k h => .inr h) (.inr fun _ _ => rfl)).unren fun c' hc' x hx => ?_; rw [hρφ c' (hsn _ (gt_mem b2) c' hc')]; exact hx
      · rw [hρc c y h3 h4]
        exact (hR.blk c y h3).keep hρ3 (fun k hdk => hK k (hD1 k hdk)) (fun k hdk => .inl (hD1 k hdk)) (.inr fun g hg => by
          obtain ⟨_, q2, q3⟩ := hold c y h1 h2 h3 hl g hg; exact hP.old g q3 q2)
    · cases y with
      | dead => trivial
      | box => simp [Blk.live] at hl
      | rows => simp [Blk.live] at hl
  · rcases hget c y hy hl with ⟨b, y', b1, rfl, b2, rfl⟩ | ⟨h1, h2, h3, h4⟩
    · rw [hρφ b b1] at hg
      rw [Blk.ren_live] at hl; obtain ⟨q1, q2⟩ := hnews g b y' b2 hl hg; exact ⟨q1, hMo g q2⟩
    · rw [hρc c y h3 h4] at hg
      exact ⟨(hold c y h1 h2 h3 hl g hg).1, (hR.own c y g h3 hl hg).2⟩
  · rcases hget c y hy hl with ⟨b, y1, b1, rfl, b2, rfl⟩ | ⟨h1, h2, h3, h4⟩
    · rw [hρφ b b1] at hg
      rw [Blk.ren_live] at hl; rcases hget c' y' hy' hl' with ⟨b', y1', b1', rfl, b2', rfl⟩ | ⟨h1', h2', h3', h4'⟩
      · rw [hρφ b' b1'] at hg'
        rw [Blk.ren_live] at hl'; rw [hP.sep b y1 b' y1' g b2 hl b2' hl' hg hg']
      · rw [hρc c' y' h3' h4'] at hg'
        obtain ⟨_, q2, q3⟩ := hold c' y' h1' h2' h3' hl' g hg'; rcases (hnews g b y1 b2 hl hg).2 with h | h
        · exact absurd h q2
        · omega
    · rw [hρc c y h3 h4] at hg
      rcases hget c' y' hy' hl' with ⟨b', y1', b1', rfl, b2', rfl⟩ | ⟨h1', h2', h3', h4'⟩
      · rw [hρφ b' b1'] at hg'
        rw [Blk.ren_live] at hl'; obtain ⟨_, q2, q3⟩ := hold c y h1 h2 h3 hl g hg; rcases (hnews g b' y1' b2' hl' hg').2 with h | h
        · exact absurd h q2
        · omega
      · rw [hρc c' y' h3' h4'] at hg'
        exact hR.sep c y c' y' g h3 hl h3' hl' hg hg'
  · refine (hv.keep (fun _ _ h => h) (Keeps.refl _ _) (fun k h => .inr h)).unren fun b hb x hx => ?_
    rw [hρφ b (hr b hb)]; exact hx
end
end Go.Proofs.Ytjklkppncmhehaa.T
namespace Go.Proofs.Ytjklkppncmhehaa.T
open Go Go.RowKit
def leafFs (P : Program) (rec : TypeId → Option (List Bool)) : Nat → List Field → Option (List Bool)
  | _, [] => some []
  | off, f :: fs => match rec f.type, tdOf P f.type, leafFs P rec (off + ((tdOf P f.type).map TD.size).getD 0) fs with
    | some a, some d, some b => if f.name ≠ "_" ∧ f.offset = off ∧ a.length = d.size then some (a ++ b) else none
    | _, _, _ => none
def leafK (P : Program) : Nat → TypeId → Option (List Bool)
  | 0, _ => none
  | n + 1, t => match P.underlying t with
    | some (.int _) => some [true]
    | some .bool => some [false]
    | some (.struct fs) => if P.stoodInHeld t = true then none else leafFs P (leafK P n) 0 fs.toList
    | _ => none
def leafT (P : Program) (t : TypeId) : Option (List Bool) :=
  if P.eqGuardType P.depth t = true then none else match P.underlying t, tdOf P t with
    | some (.struct _), some _ => leafK P 8 t
    | _, _ => none
def eqT : List Bool → List TV → List TV → Option Bool
  | [], [], [] => some true
  | true :: ks, .r (.v (.int k a)) :: xs, .r (.v (.int k' b)) :: ys => if k = k' then (eqT ks xs ys).map fun r => decide (a = b) && r else none
  | false :: ks, .r (.v (.bool a)) :: xs, .r (.v (.bool b)) :: ys => (eqT ks xs ys).map fun r => (a == b) && r
  | _, _, _ => none
theorem eqT_len : ∀ {ks : List Bool} {xs ys : List TV} {r : Bool}, eqT ks xs ys = some r → xs.length = ks.length ∧ ys.length = ks.length := by
  intro ks; induction ks with
  | nil =>
    intro xs ys r h; unfold eqT at h; split at h <;> simp_all
  | cons k ks ih =>
    intro xs ys r h; unfold eqT at h; split at h
    · simp_all
    · rename_i e1; cases e1
      split at h
      · obtain ⟨r', h', _⟩ := Option.map_eq_some_iff.1 h
        have := ih h'
        simp [this.1, this.2]
      · cases h
    · rename_i e1; cases e1
      obtain ⟨r', h', _⟩ := Option.map_eq_some_iff.1 h; have := ih h'
      simp [this.1, this.2]
    · cases h
theorem eqT_app : ∀ {a b : List Bool} {xs ys : List TV} {r : Bool}, eqT (a ++ b) xs ys = some r → ∃ r1 r2, eqT a (xs.take a.length) (ys.take a.length) = some r1 ∧ eqT b (xs.drop a.length) (ys.drop a.length) = some r2 ∧ r = (r1 && r2) := by
  intro a; induction a with
  | nil => intro b xs ys r h; exact ⟨true, r, by simp [eqT], by simpa using h, by simp⟩
  | cons k a ih =>
    intro b xs ys r h; rw [List.cons_append] at h; unfold eqT at h; split at h
    · simp_all
    · rename_i e1; cases e1
      split at h
      · rename_i hk
        obtain ⟨r', h', rfl⟩ := Option.map_eq_some_iff.1 h; obtain ⟨r1, r2, h1, h2, rfl⟩ := ih h'; exact ⟨_, r2, by simp only [List.length_cons, List.take_succ_cons, eqT, h1, hk, if_true]; rfl, by simpa using h2, by simp [Bool.and_assoc]⟩
      · cases h
    · rename_i e1; cases e1
      obtain ⟨r', h', rfl⟩ := Option.map_eq_some_iff.1 h; obtain ⟨r1, r2, h1, h2, rfl⟩ := ih h'; exact ⟨_, r2, by simp only [List.length_cons, List.take_succ_cons, eqT, h1]; rfl, by simpa using h2, by simp [Bool.and_assoc]⟩
    · cases h
section
variable {P : Program} {E : List PanicEntry → World → Prop} {nt : Nat} {o : Oper} {s : TState} {ρ : Nat → Option Value} {w : World} {D : Nat → Prop}
theorem agg_of_td {t : TypeId} {d : TD} {u : TypeDesc} (h : tdOf P t = some d) (hu : P.underlying t = some u) : d.k = tkOf u := by
  obtain ⟨i, u', z, _, h2, _, _, _, _, h7⟩ := tdOf_some h; rw [hu] at h2
  cases h2; exact h7.symm
theorem leaf_fields (e : Nat) {rec : TypeId → Option (List Bool)} (hrec : ∀ t ks, rec t = some ks → ∀ d, tdOf P t = some d → ∀ (v v' : Value) (xs ys : List TV) (r : Bool), GRep ρ w D v (mk d.k.agg xs) → GRep ρ w D v' (mk d.k.agg ys) → eqT ks xs ys = some r → (Op.equalIn e t v v').run P w = .ok r w)
    {arr arr' : Array Value} {ts ts' : List TV} (hn : arr.size = ts.length) (hn' : arr'.size = ts'.length) (h : ∀ (i : Nat) (t : TV), ts[i]? = some t → TRep ρ w D (arr.getD i undef) t) (h' : ∀ (i : Nat) (t : TV), ts'[i]? = some t → TRep ρ w D (arr'.getD i undef) t) :
    ∀ (fs : List Field) (off : Nat) (ks : List Bool) (r : Bool), leafFs P rec off fs = some ks → off ≤ ts.length → off ≤ ts'.length → eqT ks (ts.drop off) (ts'.drop off) = some r → (Op.eqFields e arr arr' fs).run P w = .ok r w
  | [], off, ks, r, hl, h1, h2, hr => by
    cases hl; unfold eqT at hr; split at hr <;> simp_all [Op.eqFields]
  | f :: fs, off, ks, r, hl, h1, h2, hr => by
    unfold leafFs at hl; split at hl
    · rename_i a d b ha hd hb
      split at hl
      · rename_i hc
        obtain ⟨c1, rfl, c3⟩ := hc
        cases hl; obtain ⟨r1, r2, e1, e2, rfl⟩ := eqT_app hr; have hlen := eqT_len hr; simp only [List.length_drop, List.length_append] at hlen; have hag := (tdOf_all hd).2.2.2; obtain ⟨v, q1, q2⟩ := part_rep (w := w) hd hn h (k := f.offset) (by omega) hag
        obtain ⟨v', q3, q4⟩ := part_rep (w := w) hd hn' h' (k := f.offset) (by omega) hag
        rw [c3] at e1 e2; have k1 := hrec _ _ ha d hd v v' _ _ r1 q2 q4 e1; simp only [hd, Option.map_some, Option.getD_some] at hb; have k2 := leaf_fields e hrec hn hn' h h' fs (f.offset + d.size) b r2 hb (by omega) (by omega) (by rw [List.drop_drop, List.drop_drop] at e2; exact e2)
        simp only [Op.eqFields, c1, ne_eq, not_false_eq_true, if_true, Sem.run_bind, q1, q3, k1, Result.andThen_ok, Sem.run_ite]
        cases r1
        · simp
        · simp [k2]
      · cases hl
    · cases hl
theorem leaf_eq (e : Nat) : ∀ (n : Nat) (t : TypeId) (ks : List Bool), leafK P n t = some ks → ∀ d, tdOf P t = some d → ∀ (v v' : Value) (xs ys : List TV) (r : Bool), GRep ρ w D v (mk d.k.agg xs) → GRep ρ w D v' (mk d.k.agg ys) → eqT ks xs ys = some r → (Op.equalIn (e + n) t v v').run P w = .ok r w
  | 0, t, ks, h, _, _, _, _, _, _, _, _, _, _ => by simp [leafK] at h
  | n + 1, t, ks, h, d, hd, v, v', xs, ys, r, hv, hv', hr => by
    unfold leafK at h; split at h
    · rename_i k hu
      cases h; have hk := agg_of_td hd hu; rw [hk] at hv hv'; unfold eqT at hr; split at hr
      · simp_all
      · rename_i e1; cases e1
        split at hr
        · rename_i hk
          subst hk; obtain ⟨r', h1, rfl⟩ := Option.map_eq_some_iff.1 hr; have := eqT_len h1
          simp only [List.length_nil, List.length_eq_zero_iff] at this; obtain ⟨rfl, rfl⟩ := this
          cases h1; have a1 := gI_rep hv; have a2 := gI_rep hv'; subst a1 a2; rw [show e + (n + 1) = (e + n) + 1 from rfl, run_equalIn_int w _ _ _ _ _ _ hu]
          simp only [Bool.and_true]; rfl
        · cases hr
      · rename_i e1; cases e1
      · cases hr
    · rename_i hu
      cases h; have hk := agg_of_td hd hu; rw [hk] at hv hv'; unfold eqT at hr; split at hr
      · simp_all
      · rename_i e1; cases e1
      · rename_i e1; cases e1
        obtain ⟨r', h1, rfl⟩ := Option.map_eq_some_iff.1 hr; have := eqT_len h1
        simp only [List.length_nil, List.length_eq_zero_iff] at this; obtain ⟨rfl, rfl⟩ := this
        cases h1; have a1 := gB_rep hv; have a2 := gB_rep hv'; subst a1 a2; rw [show e + (n + 1) = (e + n) + 1 from rfl, run_equalIn_bool' w _ _ _ _ hu]
        simp
      · cases hr
    · rename_i fs hu
      split at h
      · cases h
      · rename_i hst
        have hk := agg_of_td hd hu; rw [hk] at hv hv'; simp only [tkOf, TK.agg, mk, if_true] at hv hv'; have hfs : P.fieldsOf t = fs := by simp [Program.fieldsOf, hu]
        cases hv with
        | a hn hv =>
          cases hv' with
          | a hn' hv' =>
            rw [show e + (n + 1) = (e + n) + 1 from rfl, run_equalIn_struct w _ t _ _ (by rw [hfs]; exact hu) (by simpa using hst), hfs]
            exact leaf_fields (e + n) (fun t ks h d hd v v' xs ys r q1 q2 q3 => leaf_eq e n t ks h d hd v v' xs ys r q1 q2 q3) hn hn' hv hv' _ 0 ks r h (by omega) (by omega) hr
    · cases h
def isBoolT (P : Program) (t : TypeId) : Bool := match P.underlying t with
  | some .bool => true
  | _ => false
def gbin2 (P : Program) (t : TypeId) (op : BinOp) (gx gy : GV) : Option GV := match gx, gy with
  | .a xs, .a ys => match leafT P t with
    | some ks => match eqT ks xs ys with
      | some r => match op with
        | .eql => some (gB r)
        | .neq => some (gB (!r))
        | _ => none
      | none => none
    | none => none
  | _, _ => gbin (isBoolT P t) op gx gy
theorem op_bin2 {op : BinOp} {t yt : TypeId} {x y : Operand} (ho : o.op = .binOp op t x y yt) (hd : dstOk o nt = true) {g : GV} (hg : gbin2 P t op (s.ev x) (s.ev y) = some g) : OpL P E nt o [] (insOf s.env [x, y]) g [] := by
  unfold gbin2 at hg; split at hg
  · rename_i xs ys ex ey
    refine .still hd fun C env get a w ρ D hf hi hR => ?_; have hx := ev_rep hR hi (x := x) (by simp)
    have hy := ev_rep hR hi (x := y) (by simp)
    rw [ex] at hx; rw [ey] at hy; split at hg
    · rename_i ks hks
      split at hg
      · rename_i r hr
        unfold leafT at hks; split at hks
        · cases hks
        · rename_i hguard
          split at hks
          · rename_i fs d hu htd
            have hag := agg_of_td htd hu; have key : ∀ v v', GRep ρ w D v (.a xs) → GRep ρ w D v' (.a ys) → (Op.equalIn 10000 t v v').run P w = .ok r w := fun v v' h1 h2 =>
              leaf_eq (P := P) 9992 8 t ks hks d htd v v' xs ys r (by rw [hag]; exact h1) (by rw [hag]; exact h2) hr
            generalize ha : a.eval x = vx at hx; generalize hb : a.eval y = vy at hy; have key := key vx vy hx hy
            cases hx with
            | a hn hx =>
              cases hy with
              | a hn' hy =>
                have hguard : P.eqGuardType P.depth t = false := by simpa using hguard
                split at hg
                · cases hg
                  exact ⟨.bool r, by simp [execOp, ho, ha, hb, run_eqGuard_agg w _ _ _ _ _ _ hguard, run_eql_struct, key], .s (.r (.v rfl))⟩
                · cases hg
                  exact ⟨.bool (!r), by simp [execOp, ho, ha, hb, run_eqGuard_agg w _ _ _ _ _ _ hguard, run_neq_struct, key], .s (.r (.v rfl))⟩
                · cases hg
          · cases hks
      · cases hg
    · cases hg
  · exact op_bin ho hd (fun h => by unfold isBoolT at h; split at h <;> simp_all) hg
def intT (P : Program) (t : TypeId) : Option IntKind := match P.underlying t with
  | some (.int k) => some k
  | _ => none
theorem op_convert {src dst : TypeId} {x : Operand} (ho : o.op = .convert src dst x) (hd : dstOk o nt = true) {k k0 k1 : IntKind} {n : Int} (h1 : intT P src = some k1) (h2 : intT P dst = some k) (h3 : (s.ev x).i? = some (k0, n)) : OpL P E nt o [] (insOf s.env [x]) (gI k (k.wrap n)) [] := by
  refine .still hd fun C env get a w ρ D hf hi hR => ?_; have hx := GV.i?_rep h3 (ev_rep hR hi (x := x) (by simp))
  unfold intT at h1 h2; split at h1
  · rename_i u1
    split at h2
    · rename_i u2
      cases h1; cases h2
      exact ⟨.int k (k.wrap n), by simp [execOp, ho, hx, convert, run_underlying u1, run_underlying u2, Conv.intToInt], .s (.r (.v rfl))⟩
    · cases h2
  · cases h1
def ptrT : GV → Bool
  | .s (.ptr _ _) | .s (.row _ _ _ _) | .s (.rop _ _) => true
  | _ => false
theorem op_nilCheck {x : Operand} (ho : o.op = .nilCheck x) (hd : dstOk o nt = true) (h : ptrT (s.ev x) = true) : OpL P E nt o [] (insOf s.env [x]) (s.ev x) [] := by
  refine .still hd fun C env get a w ρ D hf hi hR => ?_; have hx := ev_rep hR hi (x := x) (by simp)
  generalize hv : a.eval x = v at hx; have : ∃ A, v = .pointer (some A) := by
    unfold ptrT at h; split at h
    · rename_i e; rw [e] at hx; cases hx with | s hx => cases hx with | ptr _ => exact ⟨_, rfl⟩
    · rename_i e; rw [e] at hx; cases hx with | s hx => cases hx with | row _ => exact ⟨_, rfl⟩
    · rename_i e; rw [e] at hx; cases hx with | s hx => cases hx with | rop _ _ _ _ => exact ⟨_, rfl⟩
    · cases h
  obtain ⟨A, hA⟩ := this; exact ⟨.pointer (some A), by simp [execOp, ho, hv, hA], hA ▸ hx⟩
end
end Go.Proofs.Ytjklkppncmhehaa.T
namespace Go.Proofs.Ytjklkppncmhehaa.T
open Go Go.RowKit
/-! ### a call that only looks -/
def TV.flat : TV → Bool
  | .r (.v _) => true
  | _ => false
mutual
def GV.flat : GV → Bool
  | .s t => t.flat
  | .a ts => ts.all TV.flat
  | .p gs => flatL gs
  | _ => false
def flatL : List GV → Bool
  | [] => true
  | g :: gs => g.flat && flatL gs
end
theorem TRep.flat {ρ ρ' : Nat → Option Value} {w w' : World} {D D' : Nat → Prop} {v : Value} {t : TV} (h : TRep ρ w D v t) (hf : t.flat = true) : TRep ρ' w' D' v t := by
  unfold TV.flat at hf; split at hf
  · cases h with | r h => cases h with | v h => exact .r (.v h)
  · cases hf
theorem flatL_mem {g : GV} : ∀ {gs : List GV}, flatL gs = true → g ∈ gs → g.flat = true
  | x :: gs, h, hm => by
    simp only [flatL, Bool.and_eq_true] at h; rcases List.mem_cons.1 hm with rfl | hm
    · exact h.1
    · exact flatL_mem h.2 hm
theorem GRep.flat {ρ ρ' : Nat → Option Value} {w w' : World} {D D' : Nat → Prop} {v : Value} {g : GV} (h : GRep ρ w D v g) : g.flat = true → GRep ρ' w' D' v g := by
  induction h with
  | s h => exact fun hf => .s (h.flat hf)
  | a hn h => exact fun hf => .a hn fun i t ht => (h i t ht).flat (by simp only [GV.flat, List.all_eq_true] at hf; exact hf t (List.mem_of_getElem? ht))
  | p hn _ ih => exact fun hf => .p hn fun i g hg => ih i g hg (flatL_mem hf (List.mem_of_getElem? hg))
  | clo => exact fun hf => by simp [GV.flat] at hf
  | u => exact fun hf => by simp [GV.flat] at hf
theorem TV.frz_nil (get : Nat → Option Blk) (t : TV) : t.frz get [] = t := by
  unfold TV.frz; split <;> simp
mutual
theorem GV.frz_nil (get : Nat → Option Blk) : ∀ (g : GV), g.frz get [] = g
  | .s t => by simp only [GV.frz, TV.frz_nil]
  | .a ts => by simp only [GV.frz]; congr 1; exact (List.map_congr_left fun t _ => TV.frz_nil get t).trans (List.map_id ts)
  | .p gs => by simp only [GV.frz, frzL_nil get gs]
  | .clo _ _ _ => by simp only [GV.frz]
  | .u => by simp only [GV.frz]
theorem frzL_nil (get : Nat → Option Blk) : ∀ (gs : List GV), frzL get [] gs = gs
  | [] => by simp only [frzL]
  | g :: gs => by simp only [frzL, GV.frz_nil get g, frzL_nil get gs]
end
theorem TV.ren_nil (f : Nat → Nat) (t : TV) (h : t.names = []) : t.ren f = t := by
  cases t <;> first | rfl | (simp [TV.names] at h)
mutual
theorem GV.ren_nil (f : Nat → Nat) : ∀ (g : GV), g.names = [] → g.ren f = g
  | .s t, h => by simp only [GV.ren, TV.ren_nil f t h]
  | .a ts, h => by
    simp only [GV.ren]; congr 1; refine (List.map_congr_left fun t ht => TV.ren_nil f t ?_).trans (List.map_id ts)
    simp only [GV.names, List.flatMap_eq_nil_iff] at h; exact h t ht
  | .p gs, h => by simp only [GV.ren, renL_nil f gs h]
  | .clo _ fs cs, h => by
    simp only [GV.names, List.append_eq_nil_iff] at h; simp only [GV.ren, renL_nil f fs h.1, renL_nil f cs h.2]
  | .u, _ => by simp only [GV.ren]
theorem renL_nil (f : Nat → Nat) : ∀ (gs : List GV), namesL gs = [] → renL f gs = gs
  | [], _ => by simp only [renL]
  | g :: gs, h => by
    simp only [namesL, List.append_eq_nil_iff] at h; simp only [renL, GV.ren_nil f g h.1, renL_nil f gs h.2]
end
theorem TV.ren_id (t : TV) : t.ren id = t := by cases t <;> rfl
mutual
theorem GV.ren_id : ∀ (g : GV), g.ren id = g
  | .s t => by simp only [GV.ren, TV.ren_id]
  | .a ts => by simp only [GV.ren]; congr 1; exact (List.map_congr_left fun t _ => TV.ren_id t).trans (List.map_id ts)
  | .p gs => by simp only [GV.ren, renL_id gs]
  | .clo _ fs cs => by simp only [GV.ren, renL_id fs, renL_id cs]
  | .u => by simp only [GV.ren]
theorem renL_id : ∀ (gs : List GV), renL id gs = gs
  | [] => by simp only [renL]
  | g :: gs => by simp only [renL, GV.ren_id g, renL_id gs]
end
section
variable {P : Program} {E : List PanicEntry → World → Prop} {nt : Nat} {o : Oper} {s : TState}
theorem op_peek {fx : Operand} {args : Array Operand} {ats : Array TypeId} (ho : o.op = .call { callee := .value fx, args := args, argTypes := ats }) (hd : dstOk o nt = true) {f : FuncId} {fs cs : List GV} (hf : s.ev fx = .clo (.func f) fs cs) {peek : List Nat} {args' : List GV} {r : GV}
    (hT : TC P E f args' 0 [] r []) (ha : frzL s.get peek (fs ++ args.toList.map s.ev ++ cs) = args') (hrow : ∀ b ∈ peek, rowOf (s.get b) = true) (hr : r.flat = true) :
    OpL P E nt o (peek.map fun b => (b, s.get b)) (insOf s.env (fx :: args.toList)) r [] := by
  refine .call hd fun C env get a w ρ D hfr hi hR => ?_; obtain ⟨first, caps, e1, hsz, hargs⟩ := args_rep hR hi hf; obtain ⟨hent, hT⟩ := hT; refine ⟨f, _, call_run ho e1 hent w, ?_⟩; have hpeek : ∀ b ∈ peek, get b = s.get b := fun b hb => hfr (b, s.get b) (List.mem_map.2 ⟨b, hb, rfl⟩)
  obtain ⟨D1, hR1, hD1, hDp⟩ := hR.consume peek fun b hb => by
    have := hrow b hb
    rw [hpeek b hb]; unfold rowOf at this; split at this
    · rename_i h; exact ⟨_, h, rfl⟩
    · cases this
  refine (hT w _ ρ D1 (by rw [hsz, ← ha, frzL_length]) (fun i g hg => ?_) (fun k hk => (hR1.ro k hk).1) (fun b y h => by cases h) (fun b y g h => by cases h) (fun b y b' y' g h => by cases h)).mono ?_
  · rw [← ha, frzL_get, Option.map_eq_some_iff] at hg
    obtain ⟨g', hg', rfl⟩ := hg; rw [← GV.frz_congr hpeek]; exact (hargs i g' hg').frz hR hD1 hDp
  rintro e w' (h | ⟨v, ρ2, D2, rfl, hv, hP⟩)
  · exact .inl h
  right
  have hm : ∀ k, ¬ Mf [] ρ k := fun k ⟨b, y, h, _⟩ => by cases h
  have hold : ∀ k, k < w.heap.size → w'.heap[k]? = w.heap[k]? := fun k hk => hP.old k hk (hm k)
  have hK : Keeps D w w' := fun k hd => hold k (hR.ro k hd).1
  have h1 := hR.size; have h2 := hP.size; refine ⟨v, ρ, D, rfl, ⟨hP.os.trans hR.os, hP.tape.trans hR.tape, hP.output.trans hR.output, by omega, fun k hk hM => (hold k (by omega)).trans (hR.old k hk hM), fun k hk => ⟨Nat.lt_of_lt_of_le (hR.ro k hk).1 h2, (hR.ro k hk).2⟩, hR.free, fun b y hy => ?_, hR.own, hR.sep, fun t => (hR.env t).keep (fun _ _ h => h) hK fun _ h => h, hR.defers, hR.nt, hR.ext⟩, hv.flat hr⟩
  refine (hR.blk b y hy).keep (fun _ _ h => h) hK (fun _ h => h) ?_
  by_cases hl : y.live = true
  · exact .inr fun g hg => hold g (hR.size_lt hy hl hg)
  · left
    cases y <;> simp [Blk.live] at hl
    rfl
/-! ### one operation -/
abbrev KT := List (Nat × Option Blk) → GV → List (Nat × Blk) → Nat → Prop
def GV.fn? : GV → Option (FuncId × List GV × List GV)
  | .clo (.func f) fs cs => some (f, fs, cs)
  | _ => none
def vcCall (P : Program) (E : List PanicEntry → World → Prop) (s : TState) (fx : GV) (args : List GV) (K : KT) : Prop :=
  ∃ f fs cs, fx.fn? = some (f, fs, cs) ∧
    ((namesL (fs ++ args ++ cs) = [] ∧ ∃ r, TC P E f (fs ++ args ++ cs) 0 [] r [] ∧ r.names = [] ∧ K [] r [] s.nx) ∨
     (∃ peek args' r, TC P E f args' 0 [] r [] ∧ frzL s.get peek (fs ++ args ++ cs) = args' ∧ (∀ b ∈ peek, rowOf (s.get b) = true) ∧ r.flat = true ∧ K (peek.map fun b => (b, s.get b)) r [] s.nx) ∨
     ∃ frag peek args' sto0 sto' cnt r, TC P E f args' frag.length sto0 r sto' ∧ CallOk s (fs ++ args ++ cs) frag peek args' sto0 sto' cnt ∧ (∀ b ∈ r.names, b < frag.length + cnt) ∧ (∀ x ∈ sto', ∀ b ∈ x.2.names, b < frag.length + cnt) ∧
       K (frCall s frag peek cnt) (r.ren (φ frag s.nx)) (ΔOf s frag peek sto' cnt) (s.nx + cnt))
def vcCallOp (P : Program) (E : List PanicEntry → World → Prop) (s : TState) : Callee → List Operand → List TypeId → KT → Prop
  | .builtin .len, [x], [t], K => ∃ d, tdOf P t = some d ∧ ∃ e, d.k = .slice e ∧ ∃ k xs fr, s.view (s.ev x) = some (k, xs, fr) ∧ K fr (gI .i64 xs.length) [] s.nx
  | .builtin .max, [x, y], _, K => ∃ k m, (s.ev x).i? = some (k, m) ∧ ∃ k' n, (s.ev y).i? = some (k', n) ∧ K [] (gI k (if n > m then n else m)) [] s.nx
  | .builtin .min, [x, y], _, K => ∃ k m, (s.ev x).i? = some (k, m) ∧ ∃ k' n, (s.ev y).i? = some (k', n) ∧ K [] (gI k (if n < m then n else m)) [] s.nx
  | .builtin .append, [bx, yx], [t, t'], K => t = t' ∧ ∃ d, tdOf P t = some d ∧ ∃ e, d.k = .slice e ∧ ∃ de, tdOf P e = some de ∧ 0 < de.size ∧ ∃ xs ob, s.baseOf e de.size (s.ev bx) = some (xs, ob) ∧ ∃ k ys fr, s.view (s.ev yx) = some (k, ys, fr) ∧ (k = de.size ∨ ys = []) ∧
      (xs.length + ys.length) * de.bytes ≤ 140737488355328 ∧ xs.length + ys.length ≤ maxLen ∧ K ((s.nx, none) :: (frOf s ob ++ fr)) (.s (.own s.nx)) ((s.nx, .rows e de.size (xs ++ ys)) :: deadOf ob) (s.nx + 1)
  | .value fx, args, _, K => vcCall P E s (s.ev fx) (args.map s.ev) K
  | _, _, _, _ => False
def vcOp (P : Program) (E : List PanicEntry → World → Prop) (s : TState) (op : Op) (K : KT) : Prop :=
  match op with
  | .move x => K [] (s.ev x) [] s.nx
  | .assign x => K [] (s.ev x) [] s.nx
  | .pick c x y => ∃ t, (s.ev c).b? = some t ∧ (t = true → K [] (s.ev x) [] s.nx) ∧ (t = false → K [] (s.ev y) [] s.nx)
  | .alloc t => ∃ d, tdOf P t = some d ∧ K [(s.nx, none)] (.s (.ptr s.nx 0)) [(s.nx, .box (d.zero.map fun x => .r (rtOf x)))] (s.nx + 1)
  | .box _ x => ∃ cs, (s.ev x).cells? = some cs ∧ K [(s.nx, none)] (.s (.ptr s.nx 0)) [(s.nx, .box cs)] (s.nx + 1)
  | .build t ps => ∃ d, tdOf P t = some d ∧ d.k.agg = true ∧ (d.k.subs.all fun t => (tdOf P t).isSome) = true ∧ ∃ cs, fillT (placeOf (tdOf P) d.k) (d.zero.map fun x => .r (rtOf x)) (evParts s ps.toList) = some cs ∧ K [] (.a cs) [] s.nx
  | .buildSlice t n ps => ∃ d, tdOf P t = some d ∧ ∃ e, d.k = .slice e ∧ ∃ de, tdOf P e = some de ∧ 0 < de.size ∧ ps.toList.length = n ∧ n * de.size ≤ 16777216 ∧ ∃ xs bs, rowsT s de.size 0 ps.toList = some (xs, bs) ∧
      K ((s.nx, none) :: bs.map fun c => (c, s.get c)) (.s (.own s.nx)) ((s.nx, .rows e de.size xs) :: bs.map fun c => (c, .dead)) (s.nx + 1)
  | .load t x => ∃ d, tdOf P t = some d ∧ ∃ fr cs, s.deref (s.ev x) = some (fr, cs) ∧ d.size ≤ cs.length ∧ K fr (mk d.k.agg (cs.take d.size)) [] s.nx
  | .store t ax vx => ∃ d, tdOf P t = some d ∧ ∃ ys, (s.ev vx).cells? = some ys ∧ ys.length = d.size ∧ match s.ev ax with
    | .s (.ptr b off) => ∃ cs, s.get b = some (.box cs) ∧ off + ys.length ≤ cs.length ∧ K [(b, some (.box cs))] .u [(b, .box (splice cs off ys))] s.nx
    | .s (.row b k i off) => ∃ e xs, s.get b = some (.rows e k xs) ∧ ∃ y, xs[i]? = some y ∧ off + ys.length ≤ y.length ∧ ∃ rs bs, s.toRTs ys = some (rs, bs) ∧ b ∉ bs ∧
        K ((b, some (.rows e k xs)) :: bs.map fun c => (c, s.get c)) .u ((b, .rows e k (xs.set i (splice y off rs))) :: bs.map fun c => (c, .dead)) s.nx
    | _ => False
  | .fieldAddr t x f => ∃ k d', fAddr (tdOf P) t f = some (k, d') ∧ d'.size ≠ 0 ∧ ∃ g, shiftA k (s.ev x) = some g ∧ K [] g [] s.nx
  | .field t x f => ∃ k d', fAddr (tdOf P) t f = some (k, d') ∧ ∃ ts, (s.ev x).agg? = some ts ∧ k + d'.size ≤ ts.length ∧ K [] (mk d'.k.agg ((ts.drop k).take d'.size)) [] s.nx
  | .indexAddr t x ix => ∃ k n, (s.ev ix).i? = some (k, n) ∧ 0 ≤ n ∧ s.elem (tdOf P) t n.toNat (s.ev x) fun fr g => K fr g [] s.nx
  | .index t x ix => ∃ d, tdOf P t = some d ∧ ∃ m e, d.k = .array m e ∧ ∃ de, tdOf P e = some de ∧ ∃ k n, (s.ev ix).i? = some (k, n) ∧ 0 ≤ n ∧ n < m ∧ ∃ ts, (s.ev x).agg? = some ts ∧ n.toNat * de.size + de.size ≤ ts.length ∧
      K [] (mk de.k.agg ((ts.drop (n.toNat * de.size)).take de.size)) [] s.nx
  | .binOp op t x y _ => ∃ g, gbin2 P t op (s.ev x) (s.ev y) = some g ∧ K [] g [] s.nx
  | .convert src dst x => ∃ k1, intT P src = some k1 ∧ ∃ k, intT P dst = some k ∧ ∃ k0 n, (s.ev x).i? = some (k0, n) ∧ K [] (gI k (k.wrap n)) [] s.nx
  | .nilCheck x => ptrT (s.ev x) = true ∧ K [] (s.ev x) [] s.nx
  | .unOp .not _ x => ∃ b, (s.ev x).b? = some b ∧ K [] (gB (!b)) [] s.nx
  | .unOp .neg _ x => ∃ k n, (s.ev x).i? = some (k, n) ∧ K [] (gI k (k.wrap (0 - n))) [] s.nx
  | .extract x i => ∃ gs, (s.ev x).tup? = some gs ∧ ∃ g, gs[i]? = some g ∧ K [] g [] s.nx
  | .makeFunc fn f c => K [] (.clo fn (f.toList.map s.ev) (c.toList.map s.ev)) [] s.nx
  | .makeSlice t lx cx => ∃ d, tdOf P t = some d ∧ ∃ e, d.k = .slice e ∧ ∃ de, tdOf P e = some de ∧ 0 < de.size ∧ ∃ k n, (s.ev lx).i? = some (k, n) ∧ ∃ k' m, (s.ev cx).i? = some (k', m) ∧ 0 ≤ n ∧ n ≤ m ∧ (de.bytes : Int) * m ≤ 281474976710656 ∧ m ≤ 9223372036854775807 ∧
      K [(s.nx, none)] (.s (.own s.nx)) [(s.nx, .rows e de.size (List.replicate n.toNat (de.zero.map rtOf)))] (s.nx + 1)
  | .slice t x lo hi none => ∃ d, tdOf P t = some d ∧ ∃ e, d.k = .slice e ∧ ∃ de, tdOf P e = some de ∧ ∃ k xs fr, s.view (s.ev x) = some (k, xs, fr) ∧ (k = de.size ∨ xs = []) ∧ ∃ l, bnd s 0 lo = some l ∧ ∃ h, bnd s xs.length hi = some h ∧ l ≤ h ∧ h ≤ xs.length ∧
      K fr (.s (.r (.sl de.size ((xs.take h).drop l)))) ((consumed (s.ev x)).map fun b => (b, .dead)) s.nx
  | .call c => vcCallOp P E s c.callee c.args.toList c.argTypes.toList K
  | _ => False
theorem new1 {nx b : Nat} {y : Blk} {Δ : List (Nat × Blk)} (h1 : nx ≤ b) (h2 : b < nx + 1) : gt b ((nx, y) :: Δ) ≠ none := by
  obtain rfl : b = nx := by omega
  simp [gt]
theorem get_nx (s : TState) (h : ∀ x ∈ s.sto, x.1 < s.nx) : s.get s.nx = none := by
  unfold TState.get; split
  · rename_i y hy
    have := h _ (gt_mem hy)
    simp at this
  · simp
theorem get_ge (s : TState) (h : ∀ x ∈ s.sto, x.1 < s.nx) {b : Nat} (hb : s.nx ≤ b) : s.get b = none := by
  unfold TState.get; split
  · rename_i y hy
    have := h _ (gt_mem hy)
    simp at this; omega
  · rw [if_neg (by omega)]
/-- The blocks that an operation turns are ones that it asks for, or new ones; its new names are the next ones. -/
structure Neat (s : TState) (fr : List (Nat × Option Blk)) (Δ : List (Nat × Blk)) (nx' : Nat) : Prop where
  fr : ∀ x ∈ fr, s.get x.1 = x.2
  le : s.nx ≤ nx'
  new : ∀ b, s.nx ≤ b → b < nx' → gt b Δ ≠ none
  lt : ∀ x ∈ Δ, x.1 < nx'
theorem get_lt {s : TState} (hs : ∀ x ∈ s.sto, x.1 < s.nx) {b : Nat} {y : Blk} (h : s.get b = some y) : b < s.nx := by
  rcases Nat.lt_or_ge b s.nx with h1 | h1
  · exact h1
  · rw [get_ge s hs h1] at h; cases h
theorem deref_fr {g : GV} {fr : List (Nat × Option Blk)} {cs : List TV} (hc : s.deref g = some (fr, cs)) : ∀ x ∈ fr, s.get x.1 = x.2 := by
  unfold TState.deref at hc; split at hc
  · split at hc
    · rename_i hg; cases hc; intro x hx; simp at hx; subst hx; exact hg
    · cases hc
  · split at hc
    · rename_i hg
      split at hc
      · split at hc
        · cases hc; intro x hx; simp at hx; subst hx; exact hg
        · cases hc
      · cases hc
    · cases hc
  · cases hc; intro x hx; cases hx
  · cases hc
theorem view_fr {g : GV} {k : Nat} {xs : List (List RT)} {fr : List (Nat × Option Blk)} (h : s.view g = some (k, xs, fr)) : ∀ x ∈ fr, s.get x.1 = x.2 := by
  unfold TState.view at h; split at h
  · cases h; intro x hx; cases hx
  · cases h; intro x hx; cases hx
  · split at h
    · rename_i hg; cases h; intro x hx; simp at hx; subst hx; exact hg
    · cases h
  · cases h
theorem Neat.nil (hs : ∀ x ∈ s.sto, x.1 < s.nx) {fr : List (Nat × Option Blk)} (h : ∀ x ∈ fr, s.get x.1 = x.2) : Neat s fr [] s.nx := ⟨h, Nat.le_refl _, fun b h1 h2 => by omega, fun x hx => by cases hx⟩
theorem vcOp_sound (hs : ∀ x ∈ s.sto, x.1 < s.nx) (hd : dstOk o nt = true) {K : KT} (h : vcOp P E s o.op K) : ∃ fr gv Δ nx', OpL P E nt o fr (insOf s.env o.op.operands.toList) gv Δ ∧ Neat s fr Δ nx' ∧ K fr gv Δ nx' := by
  have hnil : ∀ x ∈ ([] : List (Nat × Option Blk)), s.get x.1 = x.2 := fun x hx => by cases hx
  have hnew : s.get s.nx = none := get_nx s hs
  unfold vcOp at h; split at h
  · rename_i x ho
    exact ⟨_, _, _, _, by rw [ho]; exact op_move (.inl ho) hd, .nil hs hnil, h⟩
  · rename_i x ho
    exact ⟨_, _, _, _, by rw [ho]; exact op_move (.inr ho) hd, .nil hs hnil, h⟩
  · rename_i c x y ho
    obtain ⟨t, h1, h2, h3⟩ := h; refine ⟨_, _, _, _, by rw [ho]; exact op_pick ho hd h1, .nil hs hnil, ?_⟩
    cases t
    · exact h3 rfl
    · exact h2 rfl
  · rename_i t ho
    obtain ⟨d, h1, h2⟩ := h; exact ⟨_, _, _, _, by rw [ho]; exact op_alloc ho hd h1, ⟨fun x hx => by simp at hx; subst hx; exact hnew, by omega, fun b h1 h2 => new1 h1 h2, fun x hx => by simp at hx; subst hx; simp⟩, h2⟩
  · rename_i t x ho
    obtain ⟨cs, h1, h2⟩ := h; exact ⟨_, _, _, _, by rw [ho]; exact op_box ho hd h1, ⟨fun x hx => by simp at hx; subst hx; exact hnew, by omega, fun b h1 h2 => new1 h1 h2, fun x hx => by simp at hx; subst hx; simp⟩, h2⟩
  · rename_i t ps ho
    obtain ⟨d, h1, h2, h3, cs, h4, h5⟩ := h; exact ⟨_, _, _, _, by rw [ho]; exact op_build ho hd h1 h3 h4 h2, .nil hs hnil, h5⟩
  · rename_i t n ps ho
    obtain ⟨d, h1, e, h2, de, h3, h4, h5, h6, xs, bs, h7, h8⟩ := h; have hl := rowsT_live h7; refine ⟨_, _, _, _, by rw [ho]; exact op_buildSlice (b := s.nx) ho hd h1 h2 h3 h4 h5 h6 h7, ⟨fun x hx => ?_, by omega, fun b h1 h2 => new1 h1 h2, fun x hx => ?_⟩, h8⟩
    · rcases List.mem_cons.1 hx with rfl | hx
      · exact hnew
      · obtain ⟨c, _, rfl⟩ := List.mem_map.1 hx; rfl
    · rcases List.mem_cons.1 hx with rfl | hx
      · simp
      · obtain ⟨c, hc, rfl⟩ := List.mem_map.1 hx
        obtain ⟨e, k, xs, hc⟩ := hl c hc; have := get_lt hs hc
        simp only; omega
  · rename_i t x ho
    obtain ⟨d, h1, fr, cs, h2, h3, h4⟩ := h; exact ⟨_, _, _, _, by rw [ho]; exact op_load ho hd h1 h2 h3 (tdOf_all h1).2.2.2, .nil hs (deref_fr h2), h4⟩
  · rename_i t ax vx ho
    obtain ⟨d, h1, ys, h2, h3, h4⟩ := h; split at h4
    · rename_i b off ha
      obtain ⟨cs, h5, h6, h7⟩ := h4; exact ⟨_, _, _, _, by rw [ho]; exact op_storeBox ho hd h1 ha h5 h2 h3 h6, ⟨fun x hx => by simp at hx; subst hx; exact h5, Nat.le_refl _, fun b h1 h2 => by omega, fun x hx => by simp at hx; subst hx; exact get_lt hs h5⟩, h7⟩
    · rename_i b k i off ha
      obtain ⟨e, xs, h5, y, h6, h7, rs, bs, h8, h9, h10⟩ := h4; have hl := toRTs_live h8; refine ⟨_, _, _, _, by rw [ho]; exact op_storeRow ho hd h1 ha h5 h2 h6 h3 h7 h8 h9, ⟨fun x hx => ?_, Nat.le_refl _, fun b h1 h2 => by omega, fun x hx => ?_⟩, h10⟩
      · rcases List.mem_cons.1 hx with rfl | hx
        · exact h5
        · obtain ⟨c, _, rfl⟩ := List.mem_map.1 hx; rfl
      · rcases List.mem_cons.1 hx with rfl | hx
        · exact get_lt hs h5
        · obtain ⟨c, hc, rfl⟩ := List.mem_map.1 hx
          obtain ⟨e, k, xs, hc⟩ := hl c hc; exact get_lt hs hc
    · exact h4.elim
  · rename_i t x f ho
    obtain ⟨k, d', h1, h2, g, h3, h4⟩ := h; exact ⟨_, _, _, _, by rw [ho]; exact op_fieldAddr ho hd h1 h2 h3, .nil hs hnil, h4⟩
  · rename_i t x f ho
    obtain ⟨k, d', h1, ts, h2, h3, h4⟩ := h; have hag : d'.k.agg = true ∨ d'.size = 1 := by
      obtain ⟨_, _, _, _, _, h5⟩ := fAddr_some h1; exact (tdOf_all h5).2.2.2
    exact ⟨_, _, _, _, by rw [ho]; exact op_field ho hd h1 h2 h3 hag, .nil hs hnil, h4⟩
  · rename_i t x ix ho
    obtain ⟨k, n, h1, h2, h3⟩ := h; obtain ⟨fr, g, h4, h5, h6⟩ := op_elem (E := E) (nt := nt) ho hd h1 h2 h3; exact ⟨_, _, _, _, by rw [ho]; exact h4, .nil hs h5, h6⟩
  · rename_i t x ix ho
    obtain ⟨d, h1, m, e, h2, de, h3, k, n, h4, h5, h6, ts, h7, h8, h9⟩ := h; exact ⟨_, _, _, _, by rw [ho]; exact op_index ho hd h1 h2 h3 h4 h5 h6 h7 h8 (tdOf_all h3).2.2.2, .nil hs hnil, h9⟩
  · rename_i op t x y yt ho
    obtain ⟨g, h1, h2⟩ := h; exact ⟨_, _, _, _, by rw [ho]; exact op_bin2 ho hd h1, .nil hs hnil, h2⟩
  · rename_i src dst x ho
    obtain ⟨k1, h1, k, h2, k0, n, h3, h4⟩ := h; exact ⟨_, _, _, _, by rw [ho]; exact op_convert ho hd h1 h2 h3, .nil hs hnil, h4⟩
  · rename_i x ho
    exact ⟨_, _, _, _, by rw [ho]; exact op_nilCheck ho hd h.1, .nil hs hnil, h.2⟩
  · rename_i t x ho
    obtain ⟨b, h1, h2⟩ := h; exact ⟨_, _, _, _, by rw [ho]; exact op_not ho hd h1, .nil hs hnil, h2⟩
  · rename_i t x ho
    obtain ⟨k, n, h1, h2⟩ := h; exact ⟨_, _, _, _, by rw [ho]; exact op_neg ho hd h1, .nil hs hnil, h2⟩
  · rename_i x i ho
    obtain ⟨gs, h1, g, h2, h3⟩ := h; exact ⟨_, _, _, _, by rw [ho]; exact op_extract ho hd h1 h2, .nil hs hnil, h3⟩
  · rename_i fn f c ho
    exact ⟨_, _, _, _, by rw [ho]; exact op_makeFunc ho hd, .nil hs hnil, h⟩
  · rename_i t lx cx ho
    obtain ⟨d, h1, e, h2, de, h3, h4, k, n, h5, k', m, h6, h7, h8, h9, h10, h11⟩ := h; exact ⟨_, _, _, _, by rw [ho]; exact op_makeSlice (b := s.nx) ho hd h1 h2 h3 h4 h5 h6 h7 h8 h9 h10, ⟨fun x hx => by simp at hx; subst hx; exact hnew, by omega, fun b h1 h2 => new1 h1 h2, fun x hx => by simp at hx; subst hx; simp⟩, h11⟩
  · rename_i t x lo hi ho
    obtain ⟨d, h1, e, h2, de, h3, k, xs, fr, h4, h5, l, h6, h', h7, h8, h9, h10⟩ := h; have hop : (Op.slice t x lo hi none).operands.toList = x :: (optL lo ++ optL hi) := by cases lo <;> cases hi <;> simp [Op.operands, optL]
    refine ⟨_, _, _, _, by rw [ho, hop]; exact op_slice ho hd h1 h2 h3 h4 h5 h6 h7 h8 h9, ⟨view_fr h4, Nat.le_refl _, fun b h1 h2 => by omega, fun y hy => ?_⟩, h10⟩
    obtain ⟨c, hc, rfl⟩ := List.mem_map.1 hy; unfold consumed at hc; split at hc
    · rename_i b eb
      simp only [List.mem_cons, List.not_mem_nil, or_false] at hc; subst hc; rw [eb] at h4; simp only [TState.view] at h4; split at h4
      · rename_i hg; exact get_lt hs hg
      · cases h4
    · cases hc
  · rename_i c ho
    obtain ⟨callee, cargs, cts⟩ := c; simp only at h
    unfold vcCallOp at h; split at h
    · rename_i x t ea et
      obtain rfl : cargs = #[x] := Array.toList_inj.1 ea
      obtain rfl : cts = #[t] := Array.toList_inj.1 et
      obtain ⟨d, h1, e, h2, k, xs, fr, h3, h4⟩ := h; exact ⟨_, _, _, _, by rw [ho]; exact op_len ho hd h1 h2 h3, .nil hs (view_fr h3), h4⟩
    · rename_i x y ea
      obtain rfl : cargs = #[x, y] := Array.toList_inj.1 ea
      obtain ⟨k, m, h1, k', n, h2, h3⟩ := h; exact ⟨_, _, _, _, by rw [ho]; exact op_max ho hd h1 h2, .nil hs hnil, h3⟩
    · rename_i x y ea
      obtain rfl : cargs = #[x, y] := Array.toList_inj.1 ea
      obtain ⟨k, m, h1, k', n, h2, h3⟩ := h; exact ⟨_, _, _, _, by rw [ho]; exact op_min ho hd h1 h2, .nil hs hnil, h3⟩
    · rename_i bx yx t t' ea et
      obtain rfl : cargs = #[bx, yx] := Array.toList_inj.1 ea
      obtain rfl : cts = #[t, t'] := Array.toList_inj.1 et
      obtain ⟨rfl, d, h1, e, h2, de, h3, h4, xs, ob, h5, k, ys, fr, h6, h7, h8, h9, h10⟩ := h; refine ⟨_, _, _, _, by rw [ho]; exact op_append (b' := s.nx) ho hd h1 h2 h3 h4 h5 h6 h7 h8 h9, ⟨fun x hx => ?_, by omega, fun b h1 h2 => new1 h1 h2, fun x hx => ?_⟩, h10⟩
      · rcases List.mem_cons.1 hx with rfl | hx
        · exact hnew
        · rcases List.mem_append.1 hx with hx | hx
          · unfold frOf at hx
            split at hx
            · simp at hx; subst hx; rfl
            · cases hx
          · exact view_fr h6 x hx
      · rcases List.mem_cons.1 hx with rfl | hx
        · simp
        · unfold deadOf at hx
          split at hx
          · rename_i b
            simp at hx; subst hx
            unfold TState.baseOf at h5; split at h5
            · split at h5
              · rename_i hg
                split at h5
                · cases h5; have := get_lt hs hg; simp only; omega
                · cases h5
              · cases h5
            · cases h5
            · cases h5
          · cases hx
    · rename_i fx
      obtain ⟨f, fs, cs, h1, h2⟩ := h; have hf : s.ev fx = .clo (.func f) fs cs := by
        unfold GV.fn? at h1; split at h1
        · rename_i e; cases h1; exact e
        · cases h1
      have hops : (Op.call { callee := .value fx, args := cargs, argTypes := cts }).operands.toList = fx :: cargs.toList := by simp [Op.operands, Call.operands]
      rcases h2 with ⟨h0, r, h2, h3, h4⟩ | ⟨peek, args', r, h2, h3, h4, h5, h6⟩ | ⟨frag, peek, args', sto0, sto', cnt, r, h2, h3, h4, h5, h6⟩
      · have := op_call (E := E) (nt := nt) (frag := []) (peek := []) (sto0 := []) (sto' := []) (cnt := 0) ho hd hf h2 ⟨by rw [frzL_nil, renL_nil _ _ h0], List.nodup_nil, (fun b hb => by cases hb), (fun b hb => by cases hb), (fun b hb => by cases hb), (fun b hb => by cases hb), (fun b hb => by cases hb), fun b hb => by cases hb⟩ (fun b hb => by rw [h3] at hb; cases hb) fun x hx => by cases hx
        rw [GV.ren_nil _ _ h3] at this; exact ⟨_, _, _, _, by rw [ho, hops]; exact this, .nil hs hnil, h4⟩
      · exact ⟨_, _, _, _, by rw [ho, hops]; exact op_peek ho hd hf h2 h3 h4 h5, .nil hs (fun x hx => by obtain ⟨c, _, rfl⟩ := List.mem_map.1 hx; rfl), h6⟩
      · refine ⟨_, _, _, _, by rw [ho, hops]; exact op_call ho hd hf h2 h3 h4 h5, ⟨fun x hx => ?_, by omega, fun b h1 h2 => ?_, fun x hx => ?_⟩, h6⟩
        · simp only [frCall, List.mem_append, List.mem_map, List.mem_range] at hx
          rcases hx with (⟨c, _, rfl⟩ | ⟨c, _, rfl⟩) | ⟨j, hj, rfl⟩
          · rfl
          · rfl
          · exact get_ge s hs (by omega)
        · simp only [ΔOf, gt_append]
          split
          · simp
          · rename_i h0'
            split at h0'
            · cases h0'
            · rw [gt_map_at (x := b - s.nx) _ (List.mem_range.2 (by omega)) (by simp only; omega) (fun j hj e => by simp only at e; rw [show j = b - s.nx by omega])] at h0'
              cases h0'
        · simp only [ΔOf, List.mem_append, List.mem_map, List.mem_range] at hx
          rcases hx with (⟨i, hi, rfl⟩ | ⟨j, hj, rfl⟩) | ⟨c, hc, rfl⟩
          · simp only
            have := h3.fragLt (frag.getD i 0) (by simp only [List.getD_eq_getElem?_getD, List.getElem?_eq_getElem hi, Option.getD_some]; exact List.getElem_mem hi)
            omega
          · simp only; omega
          · have := h3.rows c hc
            unfold rowOf at this; split at this
            · rename_i hg; have := get_lt hs hg; simp only; omega
            · cases this
    · exact h.elim
  · exact h.elim
end
end Go.Proofs.Ytjklkppncmhehaa.T
