/-
What is proved: the walk of a region over trees ('vcRegion'), and that the machine does what it tells ('TW.region'). No condition. what each type is, in short, at the second program. No condition.
-/
import Derived.Test.YtjklkppncmhehaaSf30
import Derived.Test.YtjklkppncmhehaaSf14
import Derived.KernelRfl
set_option linter.unusedVariables false
set_option linter.unusedSimpArgs false
namespace Go.Proofs.Ytjklkppncmhehaa.T
open Go Go.RowKit
open Go.Proofs.Ytjklkppncmhehaa.Sr (OrdF ordF_go)
abbrev Pl := List (Nat ⊕ Nat) × List (Nat ⊕ Nat)
def tmpsOf : List Operand → List (Nat ⊕ Nat)
  | [] => []
  | .tmp t :: xs => .inl t :: tmpsOf xs
  | _ :: xs => tmpsOf xs
def plOf (o : Oper) (gd : List (Nat ⊕ Nat)) (fr : List (Nat × Option Blk)) (Δ : List (Nat × Blk)) : Pl :=
  (gd ++ tmpsOf o.op.operands.toList ++ fr.map (fun x => .inr x.1), (match o.dst with | some d => [.inl d] | none => []) ++ Δ.map fun x => .inr x.1)
def confP (g h : Pl) : Bool := g.2.any (fun l => memP l (h.1 ++ h.2)) || h.2.any fun l => memP l (g.1 ++ g.2)
def okD (gs : List Pl) (ms : List Nat) : Bool := (List.range gs.length).all fun j => (List.range j).all fun i => match gs[i]?, gs[j]? with
  | some g, some h => !confP g h || (ms.getD j 0).testBit i
  | _, _ => true
def plSg (g : Sg) : Pl := (locR g, locW g)
theorem okDrawP_eq (gs : List Sg) (ms : List Nat) : okD (gs.map plSg) ms = okDraw gs ms := by
  unfold okD okDraw; rw [List.length_map]; congr 1
  funext j
  congr 1
  funext i
  rw [List.getElem?_map, List.getElem?_map]
  cases gs[i]? <;> cases gs[j]? <;> rfl
theorem insOf_tmps (e : List (Nat × GV)) : ∀ (xs : List Operand), (insOf e xs).map (fun x => (Sum.inl x.1 : Nat ⊕ Nat)) = tmpsOf xs
  | [] => rfl
  | x :: xs => by cases x <;> simp [insOf, tmpsOf, insOf_tmps e xs]
def TState.step (s : TState) (dst : Option Nat) (g : GV) (Δ : List (Nat × Blk)) (nx' : Nat) : TState :=
  ⟨match dst with | some d => (d, g) :: s.env | none => s.env, Δ ++ s.sto, nx'⟩
def setL (d : Nat) (g : GV) : List (Nat × GV) → List (Nat × GV)
  | [] => [(d, g)]
  | (u, x) :: e => if d = u then (d, g) :: e else (u, x) :: setL d g e
theorem lk_setL (d : Nat) (g : GV) (t : Nat) : ∀ (e : List (Nat × GV)), lk t (setL d g e) = if t = d then g else lk t e
  | [] => by simp [setL, lk]
  | (u, x) :: e => by
    simp only [setL]; split
    · rename_i h; subst h
      simp only [lk]; split <;> rfl
    · rename_i h
      simp only [lk, lk_setL d g t e]; by_cases h1 : t = u
      · subst h1; rw [if_pos rfl, if_neg (fun e => h e.symm), if_pos rfl]
      · rw [if_neg h1, if_neg h1]
def TState.see (s : TState) (d : Nat) (b : Bool) : TState := ⟨setL d (gB b) s.env, s.sto, s.nx⟩
def GV.undef? : GV → Bool
  | .p [] => true
  | _ => false
def gdst (ops : Array Oper) (j : Nat) : Option Nat := (ops[j]?).bind (·.dst)
def vcOps (P : Program) (E : List PanicEntry → World → Prop) (nt : Nat) (ops : Array Oper) (draw : Bool) : List Oper → TState → List Pl → (TState → List Pl → Prop) → Prop
  | [], s, acc, K => K s acc
  | o :: os, s, acc, K => dstOk o nt = true ∧ match o.guard with
    | none => vcOp P E s o.op fun fr gv Δ nx' => vcOps P E nt ops draw os (s.step o.dst gv Δ nx') (if draw then acc ++ [plOf o [] fr Δ] else []) K
    | some (j, want) => ∃ d, gdst ops j = some d ∧ d < nt ∧ (((lk d s.env).undef? = true ∧ vcOps P E nt ops draw os (s.step o.dst (.p []) [] s.nx) (if draw then acc ++ [([.inl d], match o.dst with | some d => [.inl d] | none => [])] else []) K) ∨ ∃ b, (lk d s.env).b? = some b ∧
      (b = want → vcOp P E (s.see d want) o.op fun fr gv Δ nx' => vcOps P E nt ops draw os ((s.see d want).step o.dst gv Δ nx') (if draw then acc ++ [plOf o [.inl d] fr Δ] else []) K) ∧
      (b = !want → vcOps P E nt ops draw os ((s.see d (!want)).step o.dst (.p []) [] s.nx) (if draw then acc ++ [([.inl d], match o.dst with | some d => [.inl d] | none => [])] else []) K))
def stoLt (s : TState) : Bool := s.sto.all fun x => decide (x.1 < s.nx)
def vcRegion (P : Program) (E : List PanicEntry → World → Prop) (nt : Nat) (ops : Array Oper) (draw : Bool) (s : TState) (K : TState → Prop) : Prop :=
  stoLt s = true ∧ vcOps P E nt ops draw ops.toList s [] fun s' pl => (draw = true → (edsOk (edsOf ops.toList) && okD pl (masks (edsOf ops.toList))) = true) ∧ K s'
def Ag (s : TState) (σ : St) : Prop := (∀ t, lk t s.env = σ.1 t) ∧ ∀ b, s.get b = σ.2 b
theorem Ag.step {s : TState} {σ : St} (h : Ag s σ) {fr : List (Nat × Option Blk)} {Δ : List (Nat × Blk)} {nx' : Nat} (hn : Neat s fr Δ nx') (ins : List (Nat × GV)) (dst : Option Nat) (g : GV) : Ag (s.step dst g Δ nx') (ap ⟨fr, ins, dst, g, Δ⟩ σ) := by
  refine ⟨fun t => ?_, fun b => ?_⟩
  · simp only [TState.step, ap, put]
    cases dst with
    | none => simpa using h.1 t
    | some d =>
      simp only [lk, Option.some.injEq]; by_cases e : t = d
      · subst e; simp
      · rw [if_neg e, if_neg (fun e' => e e'.symm)]; exact h.1 t
  · show (match gt b (Δ ++ s.sto) with | some y => some y | none => if b < nx' then some Blk.dead else none) = (match gt b Δ with | some y => some y | none => σ.2 b)
    rw [gt_append]; have hb := h.2 b
    cases hg : gt b Δ with
    | some y => rfl
    | none =>
      simp only
      rw [← hb]; unfold TState.get
      cases gt b s.sto with
      | some y => rfl
      | none =>
        simp only
        by_cases h1 : b < s.nx
        · rw [if_pos h1, if_pos (by have := hn.le; omega)]
        · by_cases h2 : b < nx'
          · exact absurd hg (hn.new b (by omega) h2)
          · rw [if_neg h1, if_neg h2]
theorem Ag.see {s : TState} {σ : St} (h : Ag s σ) {d : Nat} {b : Bool} (hb : (lk d s.env).b? = some b) : Ag (s.see d b) σ := by
  refine ⟨fun t => ?_, h.2⟩
  simp only [TState.see, lk_setL]; by_cases e : t = d
  · subst e
    rw [if_pos rfl, ← h.1 t]; unfold GV.b? at hb; split at hb
    · rename_i e; cases hb; rw [e]; rfl
    · cases hb
  · rw [if_neg e]; exact h.1 t
theorem stoLt_mem {s : TState} (h : stoLt s = true) : ∀ x ∈ s.sto, x.1 < s.nx := by
  intro x hx; simp only [stoLt, List.all_eq_true] at h; simpa using h x hx
theorem stoLt_step {s : TState} (h : ∀ x ∈ s.sto, x.1 < s.nx) {fr : List (Nat × Option Blk)} {Δ : List (Nat × Blk)} {nx' : Nat} (hn : Neat s fr Δ nx') (dst : Option Nat) (g : GV) : ∀ x ∈ (s.step dst g Δ nx').sto, x.1 < (s.step dst g Δ nx').nx := by
  intro x hx; rcases List.mem_append.1 hx with hx | hx
  · exact hn.lt x hx
  · have := h x hx; have := hn.le; simp only [TState.step]; omega
theorem can_append {gs gs' : List Sg} {σ : St} (n : Nat) : n ≤ gs.length → can (gs ++ gs') σ n = can gs σ n := by
  induction n with
  | zero => intro _; rfl
  | succ n ih =>
    intro h; have ih := ih (by omega)
    have h1 : (gs ++ gs')[n]? = gs[n]? := List.getElem?_append_left (by omega)
    simp only [can] at ih; simp only [can, stX, h1, ih]
section
variable {P : Program} {E : List PanicEntry → World → Prop} {nt : Nat} {ops : Array Oper}
theorem step_run {i : Nat} {o : Oper} (ho : ops[i]? = some o) (hg : o.guard = none) {fr : List (Nat × Option Blk)} {ins : List (Nat × GV)} {gv : GV} {Δ : List (Nat × Blk)} (h : OpL P E nt o fr ins gv Δ) : StepOK P E nt ops i ⟨fr, ins, o.dst, gv, Δ⟩ := by
  intro C env get a w rest Q hC hf hi hR hK hE; simp only [wpOps, ho]; rw [if_pos (by simp [Region.wanted, hg])]
  exact .inl (h C env get a w _ Q hC hf hi hR (fun a' w' hR' => hK a' w' hR') hE)
theorem guard_val {C : Ctx} {env : Nat → GV} {get : Nat → Option Blk} {a : Act} {w : World} (hR : R C env get a w) {j d : Nat} (hd : gdst ops j = some d) (hlt : d < C.nt) {b : Bool} (he : env d = gB b) : yielded ops a.tmps j = some b := by
  obtain ⟨ρ, D, hR⟩ := hR; have := hR.env d
  rw [he] at this; have h1 := gB_rep this; have h2 : d < a.tmps.size := by rw [hR.nt]; exact hlt
  unfold yielded; unfold gdst at hd; rw [hd]; simp only [Option.bind_some]; rw [Array.getElem?_eq_getElem h2]; simp only [Array.getD_eq_getD_getElem?, Array.getElem?_eq_getElem h2, Option.getD_some] at h1; rw [h1]
theorem step_guard {i : Nat} {o : Oper} (ho : ops[i]? = some o) {j d : Nat} {want : Bool} (hg : o.guard = some (j, want)) (hj : gdst ops j = some d) (hlt : d < nt) {fr : List (Nat × Option Blk)} {ins : List (Nat × GV)} {gv : GV} {Δ : List (Nat × Blk)} (h : OpL P E nt o fr ins gv Δ) :
    StepOK P E nt ops i ⟨fr, (d, gB want) :: ins, o.dst, gv, Δ⟩ := by
  intro C env get a w rest Q hC hf hi hR hK hE; have hy := guard_val hR hj (by rw [hC]; exact hlt) (hi (d, gB want) (List.mem_cons_self ..))
  simp only [wpOps, ho]; rw [if_pos (by simp [Region.wanted, hg, hy])]
  exact .inl (h C env get a w _ Q hC hf (fun x hx => hi x (List.mem_cons_of_mem _ hx)) hR (fun a' w' hR' => hK a' w' hR') hE)
theorem step_skip' {i : Nat} {o : Oper} (ho : ops[i]? = some o) (hdo : dstOk o nt = true) {j d : Nat} {want : Bool} (hg : o.guard = some (j, want)) (hj : gdst ops j = some d) (hlt : d < nt) :
    StepOK P E nt ops i ⟨[], [(d, gB (!want))], o.dst, .p [], []⟩ := by
  intro C env get a w rest Q hC hf hi hR hK hE; have hy := guard_val hR hj (by rw [hC]; exact hlt) (hi (d, gB (!want)) (List.mem_cons_self ..))
  simp only [wpOps, ho]; rw [if_neg (by simp [Region.wanted, hg, hy])]
  refine hK _ _ ?_; obtain ⟨ρ, D, hR⟩ := hR; refine ⟨ρ, D, ?_⟩; show Rel C (put env o.dst (.p [])) (upd get []) (a.put o.dst undef) w ρ D
  rw [upd_nil]; refine hR.put (fun d' e => ?_) (.p rfl fun i g h => by simp at h)
  unfold dstOk at hdo; rw [e] at hdo; simpa [hC] using hdo
theorem step_undef {i : Nat} {o : Oper} (ho : ops[i]? = some o) (hdo : dstOk o nt = true) {j d : Nat} {want : Bool} (hg : o.guard = some (j, want)) (hj : gdst ops j = some d) (hlt : d < nt) :
    StepOK P E nt ops i ⟨[], [(d, .p [])], o.dst, .p [], []⟩ := by
  intro C env get a w rest Q hC hf hi hR hK hE; obtain ⟨ρ, D, hR⟩ := hR; have h1 := hR.env d; rw [hi (d, .p []) (List.mem_cons_self ..)] at h1; have hy : yielded ops a.tmps j = none := by
    unfold yielded; unfold gdst at hj; rw [hj]; have h2 : d < a.tmps.size := by rw [hR.nt, hC]; exact hlt
    simp only [Option.bind_some, Array.getElem?_eq_getElem h2]; simp only [Array.getD_eq_getD_getElem?, Array.getElem?_eq_getElem h2, Option.getD_some] at h1; generalize a.tmps[d] = v at h1
    cases h1; rfl
  simp only [wpOps, ho]; rw [if_neg (by simp [Region.wanted, hg, hy])]
  refine hK _ _ ⟨ρ, D, ?_⟩; show Rel C (put env o.dst (.p [])) (upd get []) (a.put o.dst undef) w ρ D
  rw [upd_nil]; refine hR.put (fun d' e => ?_) (.p rfl fun i g h => by simp at h)
  unfold dstOk at hdo; rw [e] at hdo; simpa [hC] using hdo
/-- The signs so far, and the state to which they have come. -/
structure Pre (P : Program) (E : List PanicEntry → World → Prop) (nt : Nat) (ops : Array Oper) (σ : St) (gs : List Sg) (s : TState) : Prop where
  step : ∀ (i : Nat) (g : Sg), gs[i]? = some g → StepOK P E nt ops i g
  fr : ∀ (i : Nat) (g : Sg), gs[i]? = some g → ∀ x ∈ g.fr, (can gs σ i).2 x.1 = x.2
  ins : ∀ (i : Nat) (g : Sg), gs[i]? = some g → ∀ x ∈ g.ins, (can gs σ i).1 x.1 = x.2
  ag : Ag s (can gs σ gs.length)
  lt : ∀ x ∈ s.sto, x.1 < s.nx
theorem Pre.push {σ : St} {gs : List Sg} {s s1 : TState} (h : Pre P E nt ops σ gs s) {g : Sg} (h1 : StepOK P E nt ops gs.length g) (h2 : ∀ x ∈ g.fr, s.get x.1 = x.2) (h3 : ∀ x ∈ g.ins, lk x.1 s.env = x.2) (h4 : Ag s1 (ap g (can gs σ gs.length))) (h5 : ∀ x ∈ s1.sto, x.1 < s1.nx) : Pre P E nt ops σ (gs ++ [g]) s1 := by
  have hcan : ∀ i, i ≤ gs.length → can (gs ++ [g]) σ i = can gs σ i := fun i hi => can_append i hi
  have hlast : (gs ++ [g])[gs.length]? = some g := by simp
  have hcase : ∀ (i : Nat) (g' : Sg), (gs ++ [g])[i]? = some g' → (i < gs.length ∧ gs[i]? = some g') ∨ (i = gs.length ∧ g' = g) := by
    intro i g' hi; rw [List.getElem?_append] at hi; split at hi
    · exact .inl ⟨‹_›, hi⟩
    · have : i - gs.length = 0 := by
        have := (List.getElem?_eq_some_iff.1 hi).1
        simp at this; omega
      rw [this] at hi
      cases hi; exact .inr ⟨by omega, rfl⟩
  refine ⟨fun i g' hi => ?_, fun i g' hi x hx => ?_, fun i g' hi x hx => ?_, ?_, h5⟩
  · rcases hcase i g' hi with ⟨_, hi⟩ | ⟨rfl, rfl⟩
    · exact h.step i g' hi
    · exact h1
  · rcases hcase i g' hi with ⟨hlt, hi⟩ | ⟨rfl, rfl⟩
    · rw [hcan i (by omega)]; exact h.fr i g' hi x hx
    · rw [hcan _ (Nat.le_refl _), ← h.ag.2]; exact h2 x hx
  · rcases hcase i g' hi with ⟨hlt, hi⟩ | ⟨rfl, rfl⟩
    · rw [hcan i (by omega)]; exact h.ins i g' hi x hx
    · rw [hcan _ (Nat.le_refl _), ← h.ag.1]; exact h3 x hx
  · rw [List.length_append, List.length_singleton, can_succ hlast, hcan _ (Nat.le_refl _)]
    exact h4
theorem insOf_ok (e : List (Nat × GV)) : ∀ (xs : List Operand), ∀ x ∈ insOf e xs, lk x.1 e = x.2
  | [], x, h => by cases h
  | y :: xs, x, h => by
    cases y with
    | tmp t =>
      rcases List.mem_cons.1 h with rfl | h
      · rfl
      · exact insOf_ok e xs x h
    | _ => exact insOf_ok e xs x h
theorem vcOps_sound {draw : Bool} {σ : St} {K : TState → List Pl → Prop} : ∀ (os : List Oper) (gs : List Sg) (s : TState) (acc : List Pl) (pre : List Oper), ops.toList = pre ++ os → gs.length = pre.length → Pre P E nt ops σ gs s → (draw = true → acc = gs.map plSg) → vcOps P E nt ops draw os s acc K →
    ∃ gs' s' acc', Pre P E nt ops σ gs' s' ∧ gs'.length = ops.size ∧ (draw = true → acc' = gs'.map plSg) ∧ K s' acc'
  | [], gs, s, acc, pre, hops, hl, hp, ha, h => ⟨gs, s, acc, hp, by rw [hl, ← Array.length_toList, hops, List.append_nil], ha, h⟩
  | o :: os, gs, s, acc, pre, hops, hl, hp, ha, h => by
    have ho : ops[gs.length]? = some o := by
      rw [← Array.getElem?_toList, hops, hl]; simp
    have hops' : ops.toList = (pre ++ [o]) ++ os := by simp [hops]
    simp only [vcOps] at h; obtain ⟨hd, h⟩ := h; split at h
    · rename_i hg
      obtain ⟨fr, gv, Δ, nx', h1, h2, h3⟩ := vcOp_sound (nt := nt) hp.lt hd h; refine vcOps_sound os (gs ++ [⟨fr, _, o.dst, gv, Δ⟩]) _ _ (pre ++ [o]) hops' (by simp [hl]) (hp.push (step_run ho hg h1) h2.fr (insOf_ok _ _) (hp.ag.step h2 _ _ _) (stoLt_step hp.lt h2 _ _)) (fun hdr => ?_) h3
      rw [hdr, if_pos rfl, ha hdr, List.map_append]; congr 1
      simp only [List.map_cons, List.map_nil, plSg, locR, locW, plOf, insOf_tmps, List.nil_append]; rfl
    · rename_i j want hg
      obtain ⟨d, hj, hlt, ⟨hu, h⟩ | ⟨b, hb, hr, hsk⟩⟩ := h
      · have hlk : lk d s.env = .p [] := by
          unfold GV.undef? at hu; split at hu
          · assumption
          · cases hu
        have hneat : Neat s [] [] s.nx := .nil hp.lt fun x hx => (by cases hx)
        refine vcOps_sound os (gs ++ [⟨[], [(d, .p [])], o.dst, .p [], []⟩]) _ _ (pre ++ [o]) hops' (by simp [hl]) (hp.push (step_undef ho hd hg hj hlt) (fun x hx => by cases hx) (fun x hx => ?_) (hp.ag.step hneat _ _ _) (stoLt_step hp.lt hneat _ _)) (fun hdr => ?_) h
        · simp only [List.mem_cons, List.not_mem_nil, or_false] at hx
          subst hx; exact hlk
        · rw [hdr, if_pos rfl, ha hdr, List.map_append]
          congr 1
          simp only [List.map_cons, List.map_nil, plSg, locR, locW, List.append_nil]; rfl
      by_cases hbw : b = want
      · subst hbw
        obtain ⟨fr, gv, Δ, nx', h1, h2, h3⟩ := vcOp_sound (s := s.see d b) (nt := nt) hp.lt hd (hr rfl); have hp' : Pre P E nt ops σ gs (s.see d b) := ⟨hp.step, hp.fr, hp.ins, hp.ag.see hb, hp.lt⟩
        refine vcOps_sound os (gs ++ [⟨fr, (d, gB b) :: _, o.dst, gv, Δ⟩]) _ _ (pre ++ [o]) hops' (by simp [hl]) (hp'.push (step_guard ho hg hj hlt h1) h2.fr (fun x hx => ?_) (hp'.ag.step h2 _ _ _) (stoLt_step hp'.lt h2 _ _)) (fun hdr => ?_) h3
        · rcases List.mem_cons.1 hx with rfl | hx
          · simp [TState.see, lk_setL]
          · exact insOf_ok _ _ x hx
        · rw [hdr, if_pos rfl, ha hdr, List.map_append]
          congr 1
          simp only [List.map_cons, List.map_nil, plSg, locR, locW, plOf, insOf_tmps, List.cons_append, List.nil_append]; rfl
      · have hbw' : b = !want := by cases b <;> cases want <;> simp_all
        subst hbw'; have hp' : Pre P E nt ops σ gs (s.see d (!want)) := ⟨hp.step, hp.fr, hp.ins, hp.ag.see hb, hp.lt⟩
        have hneat : Neat (s.see d (!want)) [] [] s.nx := Neat.nil (s := s.see d (!want)) hp.lt fun x hx => (by cases hx)
        refine vcOps_sound os (gs ++ [⟨[], [(d, gB (!want))], o.dst, .p [], []⟩]) _ _ (pre ++ [o]) hops' (by simp [hl]) (hp'.push (step_skip' ho hd hg hj hlt) (fun x hx => by cases hx) (fun x hx => ?_) (hp'.ag.step hneat _ _ _) (stoLt_step hp'.lt hneat _ _)) (fun hdr => ?_) (hsk rfl)
        · simp only [List.mem_cons, List.not_mem_nil, or_false] at hx
          subst hx; simp [TState.see, lk_setL]
        · rw [hdr, if_pos rfl, ha hdr, List.map_append]
          congr 1
          simp only [List.map_cons, List.map_nil, plSg, locR, locW, List.append_nil]; rfl
theorem TW.region {m id : Nat} {draw : Bool} {Q : Exit → TState → Prop} {s : TState} (hmix : P.follows .mixedOrders = true) (h : vcRegion P E nt ops draw s fun s' => Q .normal s') : TW P E nt m (.region id ops draw) Q s := by
  intro C a w hn hm hR Q' hQ hE; obtain ⟨hlt, h⟩ := h; obtain ⟨gs, s', acc, hp, hlen, hacc, hdr, hK⟩ := vcOps_sound (σ := (envF s, s.get)) ops.toList [] s [] [] rfl rfl ⟨fun i g h => by simp at h, fun i g h => by simp at h, fun i g h => by simp at h, ⟨fun t => rfl, fun b => rfl⟩, stoLt_mem hlt⟩ (fun _ => rfl) h
  have hok : Region.Ok P E nt ops gs (envF s, s.get) := ⟨hlen, hp.step, hp.fr, hp.ins⟩
  have hend : ∀ a w, R C (can gs (envF s, s.get) gs.length).1 (can gs (envF s, s.get) gs.length).2 a w → Q' .normal a w := by
    intro a w hR'; refine hQ _ s' a w hK ?_; have e1 : envF s' = (can gs (envF s, s.get) gs.length).1 := funext hp.ag.1
    have e2 : s'.get = (can gs (envF s, s.get) gs.length).2 := funext hp.ag.2
    rw [e1, e2]; exact hR'
  cases draw with
  | false =>
    refine wp_region ?_; rw [List.range_eq_range']; exact region_text hok hn hE hend ops.size 0 (by rw [Nat.zero_add]; exact hlen.symm) a w hR
  | true =>
    refine wp_region_draw fun t => ?_; have hd := hdr rfl; simp only [Bool.and_eq_true] at hd; obtain ⟨hd1, hd2⟩ := hd; rw [hacc rfl, okDrawP_eq] at hd2; have hord : OrdF ops ops.size (Array.replicate ops.size false) (Region.schedule (P.follows .mixedOrders) ops t) := by
      unfold Region.schedule; rw [hmix]; exact ordF_go ops _ _ _
    refine region_any hok hd1 hd2 hn hE hend ops.size _ _ hord (by simp) ?_ (fun j es hj hx => ?_) a _ ?_
    · unfold left
      exact Nat.le_trans (List.countP_le_length) (by simp)
    · simp only [Array.getD_eq_getD_getElem?, Array.getElem?_replicate] at hx
      split at hx <;> simp at hx
    · rw [stX_none (fun i hi => by
        simp only [Array.getD_eq_getD_getElem?, Array.getElem?_replicate]; split <;> rfl) _ (Nat.le_refl _)]
      obtain ⟨ρ, D, hR⟩ := hR; exact ⟨ρ, D, hR.heap rfl rfl rfl rfl⟩
end
end Go.Proofs.Ytjklkppncmhehaa.T
namespace Go.Proofs.Ytjklkppncmhehaa.Td
open Go Go.Proofs.Ytjklkppncmhehaa.T
theorem mixed : Tw.prog.follows .mixedOrders = true := by kernel_rfl
@[simp] theorem t3 : tdOf Tw.prog 3 = some ⟨1, 8, [.int .i64 0], .sc⟩ := by kernel_rfl
@[simp] theorem b3 : isBoolT Tw.prog 3 = false := by kernel_rfl
@[simp] theorem i3 : intT Tw.prog 3 = some .i64 := by kernel_rfl
@[simp] theorem t4 : tdOf Tw.prog 4 = some ⟨1, 1, [.bool false], .sc⟩ := by kernel_rfl
@[simp] theorem b4 : isBoolT Tw.prog 4 = true := by kernel_rfl
@[simp] theorem t5 : tdOf Tw.prog 5 = some ⟨1, 1, [.int .u8 0], .sc⟩ := by kernel_rfl
@[simp] theorem b5 : isBoolT Tw.prog 5 = false := by kernel_rfl
@[simp] theorem i5 : intT Tw.prog 5 = some .u8 := by kernel_rfl
@[simp] theorem t22 : tdOf Tw.prog 22 = some ⟨1, 24, [.slice none 0 0], .slice 5⟩ := by kernel_rfl
@[simp] theorem b22 : isBoolT Tw.prog 22 = false := by kernel_rfl
@[simp] theorem t23 : tdOf Tw.prog 23 = some ⟨1, 24, [.slice none 0 0], .slice 52⟩ := by kernel_rfl
@[simp] theorem b23 : isBoolT Tw.prog 23 = false := by kernel_rfl
@[simp] theorem t24 : tdOf Tw.prog 24 = some ⟨1, 24, [.slice none 0 0], .slice 44⟩ := by kernel_rfl
@[simp] theorem b24 : isBoolT Tw.prog 24 = false := by kernel_rfl
@[simp] theorem t25 : tdOf Tw.prog 25 = some ⟨1, 24, [.slice none 0 0], .slice 55⟩ := by kernel_rfl
@[simp] theorem b25 : isBoolT Tw.prog 25 = false := by kernel_rfl
@[simp] theorem t26 : tdOf Tw.prog 26 = some ⟨1, 24, [.slice none 0 0], .slice 4⟩ := by kernel_rfl
@[simp] theorem b26 : isBoolT Tw.prog 26 = false := by kernel_rfl
@[simp] theorem t27 : tdOf Tw.prog 27 = some ⟨1, 24, [.slice none 0 0], .slice 57⟩ := by kernel_rfl
@[simp] theorem b27 : isBoolT Tw.prog 27 = false := by kernel_rfl
@[simp] theorem t29 : tdOf Tw.prog 29 = some ⟨5, 120, [.slice none 0 0, .slice none 0 0, .slice none 0 0, .slice none 0 0, .slice none 0 0], .struct [(0, 23), (1, 24), (2, 25), (3, 26), (4, 27)]⟩ := by kernel_rfl
@[simp] theorem b29 : isBoolT Tw.prog 29 = false := by kernel_rfl
@[simp] theorem t37 : tdOf Tw.prog 37 = some ⟨2, 16, [.int .i64 0, .int .i64 0], .struct [(0, 3), (1, 3)]⟩ := by kernel_rfl
@[simp] theorem b37 : isBoolT Tw.prog 37 = false := by kernel_rfl
@[simp] theorem q37 : leafT Tw.prog 37 = some [true, true] := by kernel_rfl
@[simp] theorem t39 : tdOf Tw.prog 39 = some ⟨4, 32, [.int .i64 0, .int .i64 0, .int .i64 0, .bool false], .struct [(0, 3), (1, 37), (3, 4)]⟩ := by kernel_rfl
@[simp] theorem b39 : isBoolT Tw.prog 39 = false := by kernel_rfl
@[simp] theorem q39 : leafT Tw.prog 39 = some [true, true, true, false] := by kernel_rfl
@[simp] theorem t42 : tdOf Tw.prog 42 = some ⟨1, 24, [.slice none 0 0], .slice 39⟩ := by kernel_rfl
@[simp] theorem b42 : isBoolT Tw.prog 42 = false := by kernel_rfl
@[simp] theorem t44 : tdOf Tw.prog 44 = some ⟨4, 64, [.int .i64 0, .int .i64 0, .slice none 0 0, .slice none 0 0], .struct [(0, 3), (1, 3), (2, 42), (3, 42)]⟩ := by kernel_rfl
@[simp] theorem b44 : isBoolT Tw.prog 44 = false := by kernel_rfl
@[simp] theorem t52 : tdOf Tw.prog 52 = some ⟨1, 24, [.slice none 0 0], .slice 3⟩ := by kernel_rfl
@[simp] theorem b52 : isBoolT Tw.prog 52 = false := by kernel_rfl
@[simp] theorem t53 : tdOf Tw.prog 53 = some ⟨1, 24, [.slice none 0 0], .slice 37⟩ := by kernel_rfl
@[simp] theorem b53 : isBoolT Tw.prog 53 = false := by kernel_rfl
@[simp] theorem t55 : tdOf Tw.prog 55 = some ⟨3, 56, [.int .i64 0, .slice none 0 0, .slice none 0 0], .struct [(0, 3), (1, 52), (2, 53)]⟩ := by kernel_rfl
@[simp] theorem b55 : isBoolT Tw.prog 55 = false := by kernel_rfl
@[simp] theorem t57 : tdOf Tw.prog 57 = some ⟨5, 40, [.int .i64 0, .int .i64 0, .int .i64 0, .int .i64 0, .int .i64 0], .struct [(0, 3), (1, 3), (2, 3), (3, 37)]⟩ := by kernel_rfl
@[simp] theorem b57 : isBoolT Tw.prog 57 = false := by kernel_rfl
@[simp] theorem q57 : leafT Tw.prog 57 = some [true, true, true, true, true] := by kernel_rfl
@[simp] theorem t62 : tdOf Tw.prog 62 = some ⟨1, 8, [.pointer none], .sc⟩ := by kernel_rfl
@[simp] theorem b62 : isBoolT Tw.prog 62 = false := by kernel_rfl
@[simp] theorem t66 : tdOf Tw.prog 66 = some ⟨2, 48, [.slice none 0 0, .slice none 0 0], .array 2 42⟩ := by kernel_rfl
@[simp] theorem b66 : isBoolT Tw.prog 66 = false := by kernel_rfl
@[simp] theorem t69 : tdOf Tw.prog 69 = some ⟨1, 8, [.nilFunc], .sc⟩ := by kernel_rfl
@[simp] theorem b69 : isBoolT Tw.prog 69 = false := by kernel_rfl
@[simp] theorem t78 : tdOf Tw.prog 78 = some ⟨1, 24, [.slice none 0 0], .slice 3⟩ := by kernel_rfl
@[simp] theorem b78 : isBoolT Tw.prog 78 = false := by kernel_rfl
@[simp] theorem t84 : tdOf Tw.prog 84 = some ⟨2, 32, [.slice none 0 0, .int .i64 0], .struct [(0, 22), (1, 3)]⟩ := by kernel_rfl
@[simp] theorem b84 : isBoolT Tw.prog 84 = false := by kernel_rfl
@[simp] theorem t86 : tdOf Tw.prog 86 = some ⟨12, 12, [.bool false, .bool false, .bool false, .bool false, .bool false, .bool false, .bool false, .bool false, .bool false, .bool false, .bool false, .bool false], .array 12 4⟩ := by kernel_rfl
@[simp] theorem b86 : isBoolT Tw.prog 86 = false := by kernel_rfl
@[simp] theorem t87 : tdOf Tw.prog 87 = some ⟨1, 24, [.slice none 0 0], .slice 91⟩ := by kernel_rfl
@[simp] theorem b87 : isBoolT Tw.prog 87 = false := by kernel_rfl
@[simp] theorem t91 : tdOf Tw.prog 91 = some ⟨5, 40, [.int .i64 0, .int .i64 0, .int .i64 0, .bool false, .bool false], .struct [(0, 39), (4, 4)]⟩ := by kernel_rfl
@[simp] theorem b91 : isBoolT Tw.prog 91 = false := by kernel_rfl
@[simp] theorem q91 : leafT Tw.prog 91 = some [true, true, true, false, false] := by kernel_rfl
@[simp] theorem t95 : tdOf Tw.prog 95 = some ⟨2, 48, [.slice none 0 0, .slice none 0 0], .struct [(0, 78), (1, 53)]⟩ := by kernel_rfl
@[simp] theorem b95 : isBoolT Tw.prog 95 = false := by kernel_rfl
@[simp] theorem t101 : tdOf Tw.prog 101 = some ⟨2, 16, [.int .i64 0, .int .i64 0], .struct [(0, 3), (1, 3)]⟩ := by kernel_rfl
@[simp] theorem b101 : isBoolT Tw.prog 101 = false := by kernel_rfl
@[simp] theorem q101 : leafT Tw.prog 101 = some [true, true] := by kernel_rfl
@[simp] theorem t110 : tdOf Tw.prog 110 = some ⟨1, 8, [.nilFunc], .sc⟩ := by kernel_rfl
@[simp] theorem b110 : isBoolT Tw.prog 110 = false := by kernel_rfl
@[simp] theorem t118 : tdOf Tw.prog 118 = some ⟨0, 0, [], .struct []⟩ := by kernel_rfl
@[simp] theorem b118 : isBoolT Tw.prog 118 = false := by kernel_rfl
@[simp] theorem q118 : leafT Tw.prog 118 = some [] := by kernel_rfl
@[simp] theorem t119 : tdOf Tw.prog 119 = some ⟨0, 0, [], .struct []⟩ := by kernel_rfl
@[simp] theorem b119 : isBoolT Tw.prog 119 = false := by kernel_rfl
@[simp] theorem q119 : leafT Tw.prog 119 = some [] := by kernel_rfl
@[simp] theorem t120 : tdOf Tw.prog 120 = some ⟨0, 0, [], .struct []⟩ := by kernel_rfl
@[simp] theorem b120 : isBoolT Tw.prog 120 = false := by kernel_rfl
@[simp] theorem q120 : leafT Tw.prog 120 = some [] := by kernel_rfl
@[simp] theorem t121 : tdOf Tw.prog 121 = some ⟨1, 8, [.int .u64 0], .sc⟩ := by kernel_rfl
@[simp] theorem b121 : isBoolT Tw.prog 121 = false := by kernel_rfl
@[simp] theorem i121 : intT Tw.prog 121 = some .u64 := by kernel_rfl
@[simp] theorem t123 : tdOf Tw.prog 123 = some ⟨1, 8, [.int .u64 0], .struct [(0, 119), (0, 120), (0, 121)]⟩ := by kernel_rfl
@[simp] theorem b123 : isBoolT Tw.prog 123 = false := by kernel_rfl
@[simp] theorem t124 : tdOf Tw.prog 124 = some ⟨1, 4, [.int .u32 0], .sc⟩ := by kernel_rfl
@[simp] theorem b124 : isBoolT Tw.prog 124 = false := by kernel_rfl
@[simp] theorem i124 : intT Tw.prog 124 = some .u32 := by kernel_rfl
@[simp] theorem t126 : tdOf Tw.prog 126 = some ⟨2, 16, [.int .u64 0, .int .u32 0], .struct [(0, 118), (0, 123), (1, 124)]⟩ := by kernel_rfl
@[simp] theorem b126 : isBoolT Tw.prog 126 = false := by kernel_rfl
end Go.Proofs.Ytjklkppncmhehaa.Td
