/-
What is proved: the starter's steps at memory of its own ('MP.alloc', 'MP.put', 'MP.get', 'MP.look'). Conditions: those that each theorem states. the starter's way through impl.entriesOf ('ask_way'). Conditions: those that the theorem states. what a worker of impl.ask has to be shown to do follows from the contract of its question at a lone run ('work_ok'). Conditions: those that the theorem states.
-/
import Derived.Test.YtjklkppncmhehaaSf20
import Derived.Test.YtjklkppncmhehaaSf22
import Derived.Test.YtjklkppncmhehaaSf13
import Derived.Test.YtjklkppncmhehaaSf15
set_option linter.unusedVariables false
set_option linter.unusedSimpArgs false
namespace Go.Proofs.Ytjklkppncmhehaa.Sr
open Go Go.Conc Go.ConcN
section
variable {P : Program} {Q : Gh → World → Trace → Nat → Outcome → World → Prop} {d : Nat} {γ γ' : Gh} {w w' : World} {g g' : Goroutine} {b o : Nat} {x v : Value}
def Mine (γ : Gh) (b : Nat) : Prop := ¬ γ.sh b ∧ (∀ k, ¬ γ.ow k b) ∧ ∀ p, γ.ph = some p → b ≠ p.A
theorem Mine.rely (h : Mine γ b) (hb : b < w.heap.size) (r : RM γ w γ' w') : Mine γ' b ∧ w'.heap[b]? = w.heap[b]? := by
  obtain ⟨h1, h2, h3⟩ := h; obtain ⟨g1, g2, _⟩ := r.gh; exact ⟨⟨by rw [g1]; exact h1, fun k hk => h2 k ((r.ow k b hb).1 hk), fun p hp => h3 p (g2 ▸ hp)⟩, r.heap b hb h2 h1 h3⟩
theorem noRd_rely (h : ∀ k, ¬ γ.ro k b) (r : RM γ w γ' w') : ∀ k, ¬ γ'.ro k b := by
  obtain ⟨_, _, g3, _⟩ := r.gh; rw [g3]; exact h
theorem okM_pl {j B : Nat} {wr : Bool} (h : Mine γ b) (hr : wr = true → ∀ k, ¬ γ.ro k b) (hB : b < B) : OkM γ j B (plE ⟨b, o, none⟩ wr) := by
  refine ⟨fun z hz => .inr ?_, hB, nofun⟩
  have : z = ⟨.cell ⟨b, o, none⟩, wr, .plain⟩ := (Option.some.inj hz).symm
  subst this; refine ⟨fun ⟨a, ha, hs⟩ => ?_, fun k _ _ hk => ?_, fun hw k _ _ ⟨b', hb', hk⟩ => ?_⟩
  · cases ha; exact h.1 hs
  · rcases hk with ⟨b', hb', hk⟩ | ⟨a, ha, p, hp, _, hA, _⟩
    · cases hb'; exact h.2.1 k hk
    · cases ha; exact h.2.2 p hp hA
  · cases hb'; exact hr hw k hk
theorem MP.alloc (hs : g.status = .running) (h : ∀ γ' w' t j, RM γ w γ' w' → JJ γ' w' t j → ∃ g' ob, nstep P w'.heap.size g = some (g', #[], ob) ∧ MP (sys P) Q false d γ' { w' with heap := w'.heap.push ob } g') : MP (sys P) Q false d γ w g := by
  refine .go hs fun γ1 w1 t j hR hJ hd => ?_; obtain ⟨g', ob, hq, hm⟩ := h γ1 w1 t j (rm_of hR) hJ; obtain ⟨a1, a2⟩ := M_own (w1 := { w1 with heap := w1.heap.push ob }) (fn := g.frame.fn) (pos := g.frame.place) (es := #[]) hJ ⟨rfl, rfl, rfl⟩ (by simp) (fun b hb _ => by
    show (w1.heap.push ob)[b]? = _
    rw [Array.getElem?_push, if_neg (by omega)]) fun e he => by simp at he
  exact ⟨⟨g', _, #[], γ1⟩, false, ⟨(nstep_sound hq).2 true w1 rfl, a1, a2⟩, hm⟩
theorem MP.put (hq : sstep P g = some (g', #[plE ⟨b, o, none⟩ true], [(⟨b, o, none⟩, x)])) (hb : b < w.heap.size) (hm : Mine γ b) (hr : ∀ k, ¬ γ.ro k b) (hc : (w.cell? ⟨b, o, none⟩).isSome = true ∧ w.frozen? ⟨b, o, none⟩ = false)
    (K : ∀ γ' w', RM γ w γ' w' → MP (sys P) Q false d γ' (w'.setCell ⟨b, o, none⟩ x) g') : MP (sys P) Q false d γ w g := by
  obtain ⟨s1, s2⟩ := sstep_sound hq; refine .go s1 fun γ1 w1 t j hR hJ hd => ?_; have r := rm_of hR; obtain ⟨m1, e1⟩ := hm.rely hb r; have r1 := noRd_rely hr r; have hb1 : b < w1.heap.size := Nat.lt_of_lt_of_le hb r.size
  have hc1 : (w1.cell? ⟨b, o, none⟩).isSome = true ∧ w1.frozen? ⟨b, o, none⟩ = false := by
    have c1 : w1.cell? ⟨b, o, none⟩ = w.cell? ⟨b, o, none⟩ := cell_of e1
    have c2 : w1.frozen? ⟨b, o, none⟩ = w.frozen? ⟨b, o, none⟩ := by unfold World.frozen?; rw [show w1.heap[(⟨b, o, none⟩ : Addr).block]? = w.heap[(⟨b, o, none⟩ : Addr).block]? from e1]
    rw [c1, c2]; exact hc
  obtain ⟨a1, a2⟩ := M_own (w1 := w1.setCell ⟨b, o, none⟩ x) (fn := g.frame.fn) (pos := g.frame.place) (es := #[plE ⟨b, o, none⟩ true]) hJ ⟨rfl, rfl, rfl⟩ (Nat.le_of_eq set_size.symm) (fun b' _ hb' => set_o b' fun e => by
    subst e; rcases hb' with ⟨k, hk⟩ | hk | ⟨p, hp, hk⟩
    · exact hk.elim (m1.2.1 k) (r1 k)
    · exact m1.1 hk
    · exact m1.2.2 p hp hk) fun e he => by
      simp at he; subst he
      exact okM_pl m1 (fun _ => r1) (by rw [set_size]; exact hb1)
  exact ⟨⟨g', _, _, γ1⟩, false, ⟨s2 true w1 fun q hq => by
    have : q = (⟨b, o, none⟩, x) := by simpa using hq
    subst this; exact hc1, a1, a2⟩, K γ1 w1 r⟩
theorem M_get {t : Trace} {j : Nat} {fn : FuncId} {pos : String} (hJ : JJ γ w t j) (hm : Mine γ b) (hb : b < w.heap.size) : JJ γ w (t ++ MemOp.ofEvents 0 fn pos #[plE ⟨b, o, none⟩ false]) j ∧ ∀ k', k' ≠ 0 → RR k' γ w γ w :=
  quietM hJ (okM_pl hm nofun hb)
theorem MP.get (hq : vst P v none g = some ⟨g', #[plE ⟨b, o, none⟩ false], [⟨b, o, none⟩], [], none⟩) (hb : b < w.heap.size) (hm : Mine γ b) (hc : w.cell? ⟨b, o, none⟩ = some v ∧ w.frozen? ⟨b, o, none⟩ = false)
    (K : ∀ γ' w', RM γ w γ' w' → MP (sys P) Q false d γ' w' g') : MP (sys P) Q false d γ w g := by
  refine .vis (vS hq).1 fun γ1 w1 t j r hJ hd => ?_; obtain ⟨m1, e1⟩ := hm.rely hb r; obtain ⟨a1, a2⟩ := M_get (o := o) (fn := g.frame.fn) (pos := g.frame.place) hJ m1 (Nat.lt_of_lt_of_le hb r.size); refine ⟨_, _, _, γ1, false, hq, fun a ha => ?_, fun q hq => (by cases hq), a1, a2, K γ1 w1 r⟩
  have : a = ⟨b, o, none⟩ := by simpa using ha
  subst this; have c1 : w1.cell? ⟨b, o, none⟩ = w.cell? ⟨b, o, none⟩ := cell_of e1
  have c2 : w1.frozen? ⟨b, o, none⟩ = w.frozen? ⟨b, o, none⟩ := by unfold World.frozen?; rw [show w1.heap[(⟨b, o, none⟩ : Addr).block]? = w.heap[(⟨b, o, none⟩ : Addr).block]? from e1]
  rw [c1, c2]; exact hc
theorem MP.look (hq : lstep P v g = some (g', #[plE ⟨b, o, none⟩ false], [⟨b, o, none⟩])) (hb : b < w.heap.size) (hm : Mine γ b) (hc : w.cell? ⟨b, o, none⟩ = some v)
    (K : ∀ γ' w', RM γ w γ' w' → MP (sys P) Q false d γ' w' g') : MP (sys P) Q false d γ w g := by
  obtain ⟨s1, s2⟩ := lstep_sound hq; refine .go s1 fun γ1 w1 t j hR hJ hd => ?_; have r := rm_of hR; obtain ⟨m1, e1⟩ := hm.rely hb r; obtain ⟨a1, a2⟩ := M_get (o := o) (fn := g.frame.fn) (pos := g.frame.place) hJ m1 (Nat.lt_of_lt_of_le hb r.size); refine ⟨⟨g', w1, _, γ1⟩, false, ⟨s2 true w1 fun a ha => ?_, a1, a2⟩, K γ1 w1 r⟩
  have : a = ⟨b, o, none⟩ := by simpa using ha
  subst this; have c1 : w1.cell? ⟨b, o, none⟩ = w.cell? ⟨b, o, none⟩ := cell_of e1
  rw [c1]; exact hc
theorem rm_none (hn : γ.ph = none) (r : RM γ w γ' w') : γ' = γ ∧ w'.heap = w.heap ∧ SameOs w w' := ⟨(r.none hn).1, (r.none hn).2, r.same⟩
theorem SameOs.trans {a b c : World} (h : SameOs a b) (g : SameOs b c) : SameOs a c := ⟨g.1.trans h.1, g.2.1.trans h.2.1, g.2.2.trans h.2.2⟩
theorem mp_still0 {n : Nat} (hm : mute P (n + 1) g = true) (hn : γ.ph = none) (h : ∀ w', w'.heap = w.heap → SameOs w w' → MP (sys P) Q false d γ w' (adv P (n + 1) g)) : MP (sys P) Q false d γ w g :=
  mS hm fun γ1 w1 r => by
    obtain ⟨rfl, e, s⟩ := rm_none hn r; exact h w1 e s
theorem MP.alloc0 {r : Nat} {ob : Obj} (hq : nstep P r g = some (g', #[], ob)) (hn : γ.ph = none) (hr : w.heap.size = r) (h : ∀ w', w'.heap = w.heap.push ob → SameOs w w' → MP (sys P) Q false d γ w' g') : MP (sys P) Q false d γ w g :=
  .alloc (nstep_sound hq).1 fun γ1 w1 t j r1 hJ => by
    obtain ⟨rfl, e, s⟩ := rm_none hn r1; refine ⟨g', ob, by rw [e, hr]; exact hq, h _ (by show w1.heap.push ob = _; rw [e]) s⟩
end
end Go.Proofs.Ytjklkppncmhehaa.Sr
namespace Go.Proofs.Ytjklkppncmhehaa.Sr
open Go Go.Conc Go.ConcN
section
variable {Q : Gh → World → Trace → Nat → Outcome → World → Prop}
/-- What the starter has, while a call of ask is under way. -/
structure AskMem (ga : Addr) (gl gc : Nat) (ms : Int) (N n : Nat) (p : Ph) (γ0 : Gh) (w0 : World) (γ : Gh) (w : World) : Prop where
  same : SameOs w0 w
  size : N + 6 ≤ w.heap.size
  sh : ∀ b, γ.sh b ↔ γ0.sh b ∨ b = N + 5
  ph : γ.ph = some p
  ow : ∀ k b, b < N + 6 → ¬ γ.ow k b
  old : ∀ b, b < N → ¬ γ0.sh b → w.heap[b]? = w0.heap[b]?
  b0 : w.heap[N]? = some (.cells #[.slice (some ga) gl gc] 24)
  b1 : w.heap[N + 1]? = some (.cells #[.int .i64 ms] 3)
  b2 : w.heap[N + 2]? = some (.cells #[fnq N] 110)
  b4 : w.heap[N + 4]? = some (.cells #[.slice (some ⟨N + 3, 0, none⟩) n n] 87)
variable {ga : Addr} {gl gc sb so sc : Nat} {ms : Int} {N n : Nat} {c : Frame} {cs : List Frame} {p : Ph} {γ0 γ γ' : Gh} {w0 w w' : World}
theorem AskMem.mv (h : AskMem ga gl gc ms N n p γ0 w0 γ w) (hA : p.A = N + 3) (h0 : ∀ b, γ0.sh b → b < N) (r : Mv γ w γ' w') : AskMem ga gl gc ms N n p γ0 w0 γ' w' := by
  obtain ⟨r1, r2, r3, r4⟩ := r.gh; have hs := h.size; have key : ∀ b, b < N + 5 → ¬ γ0.sh b → b ≠ N + 3 → w'.heap[b]? = w.heap[b]? := fun b hb hn hne =>
    r.heap b (by omega) (fun k => h.ow k b (by omega)) (fun e => ((h.sh b).1 e).elim hn fun e => by omega) fun q hq => by
      rw [h.ph] at hq; cases hq; rw [hA]; exact hne
  have n0 : ∀ b, N ≤ b → ¬ γ0.sh b := fun b hb e => by have := h0 b e; omega
  exact ⟨h.same.trans r.same, Nat.le_trans hs r.size, by rw [r1]; exact h.sh, r2.trans h.ph, fun k b hb e => h.ow k b hb ((r.ow k b (by omega)).1 e), fun b hb hn => (key b (by omega) hn (by omega)).trans (h.old b hb hn),
    (key N (by omega) (n0 _ (by omega)) (by omega)).trans h.b0, (key (N + 1) (by omega) (n0 _ (by omega)) (by omega)).trans h.b1, (key (N + 2) (by omega) (n0 _ (by omega)) (by omega)).trans h.b2, (key (N + 4) (by omega) (n0 _ (by omega)) (by omega)).trans h.b4⟩
theorem AskMem.own (h : AskMem ga gl gc ms N n p γ0 w0 γ w) (hs : w.heap.size ≤ w'.heap.size) (hh : ∀ b, b < N + 6 → w'.heap[b]? = w.heap[b]?) (ho : SameOs w w') : AskMem ga gl gc ms N n p γ0 w0 γ w' :=
  ⟨h.same.trans ho, Nat.le_trans h.size hs, h.sh, h.ph, h.ow, fun b hb hn => (hh b (by omega)).trans (h.old b hb hn), (hh _ (by omega)).trans h.b0, (hh _ (by omega)).trans h.b1, (hh _ (by omega)).trans h.b2, (hh _ (by omega)).trans h.b4⟩
theorem one_cell {w : World} {b : Nat} {v : Value} {t : TypeId} (h : w.heap[b]? = some (.cells #[v] t)) : w.cell? ⟨b, 0, none⟩ = some v ∧ w.frozen? ⟨b, 0, none⟩ = false := by
  unfold World.cell? World.frozen?; simp [h]
theorem round_way {i g : Nat} {gi : Int} {x : Nat → Value} (hA : p.A = N + 3) (hW : p.wg = N + 5) (heW : p.eW = 126) (hn : p.n = n) (h0 : ∀ b, γ0.sh b → b < N) (h5 : n ≤ 5) (hi : i < n)
    (hM : AskMem ga gl gc ms N n p γ0 w0 γ w) (hO : AtOp γ p 0 (p.j0 + i)) (hsb : sb < N) (hsh : ¬ γ0.sh sb) (hset : w0.cell? ⟨sb, so + i, none⟩ = some (.int .i64 gi))
    (hwk : ∀ γ w gb ib, WBox (p.j0 + i + 1) p (N + 2) gb (N + 4) ib (fnq N) (.int .i64 gi) (.slice (some ⟨N + 3, 0, none⟩) n n) (.int .i64 i) γ w → SameOs w0 w → (∀ b, b < N → ¬ γ0.sh b → γ.ro (p.j0 + i + 1) b ∧ w.heap[b]? = w0.heap[b]?) →
      γ.ro (p.j0 + i + 1) N ∧ γ.ro (p.j0 + i + 1) (N + 1) ∧ w.heap[N]? = some (.cells #[.slice (some ga) gl gc] 24) ∧ w.heap[N + 1]? = some (.cells #[.int .i64 ms] 3) → WP (sys Try.prog) (p.j0 + i + 1) 0 γ w (wsG Try.prog (N + 5) (N + 2) gb (N + 4) ib))
    (K : ∀ γ' w' x', AskMem ga gl gc ms N n p γ0 w0 γ' w' → AtOp γ' p 0 (p.j0 + (i + 1)) → MP (sys Try.prog) Q false 0 γ' w' (lpG Try.prog ga gl gc sb so sc ms N n c cs ((i + 1 : Nat) : Int) x' (hdT Try.prog))) :
    MP (sys Try.prog) Q false 0 γ w (lpG Try.prog ga gl gc sb so sc ms N n c cs (i : Nat) x (hdT Try.prog)) := by
  refine mS (n := 12) (hd_mute ga gl gc sb so sc ms N n c cs x i hi h5) fun γ1 w1 r1 => ?_; have M1 := hM.mv hA h0 (Mv.of r1); have O1 := hO.rely r1; have s1 := M1.size; have mine : ∀ {γ w} (h : AskMem ga gl gc ms N n p γ0 w0 γ w) b, b < N + 5 → b ≠ N + 3 → ¬ γ0.sh b → Mine γ b := fun h b hb hne hns => ⟨fun e => ((h.sh b).1 e).elim hns fun e => by omega, fun k => h.ow k b (by omega), fun q hq => by rw [h.ph] at hq; cases hq; rw [hA]; exact hne⟩
  refine MP.look (hd_load ga gl gc sb so sc ms N n c cs x i hi h5 gi) (by omega) (mine M1 sb (by omega) (by omega) hsh) ?_ fun γ2 w2 r2 => ?_
  · have : w1.cell? ⟨sb, so + i, none⟩ = w0.cell? ⟨sb, so + i, none⟩ := cell_of (M1.old sb hsb hsh)
    rw [this]; exact hset
  have M2 := M1.mv hA h0 (Mv.of r2); have O2 := O1.rely r2; refine MP.alloc (nstep_sound (lq0_new ga gl gc sb so sc ms N n c cs (i : Nat) _ 0)).1 fun γ3 w3 t3 j3 r3 J3 => ?_; have M3 := M2.mv hA h0 (Mv.of r3); have O3 := O2.rely r3; refine ⟨_, _, lq0_new ga gl gc sb so sc ms N n c cs (i : Nat) _ w3.heap.size, ?_⟩; have sz3 := M3.size; generalize hr1 : w3.heap.size = r1b; have M3' : AskMem ga gl gc ms N n p γ0 w0 γ3 { w3 with heap := w3.heap.push (.cells #[.int .i64 0] 3) } := M3.own (by simp) (fun b hb => by
    show (w3.heap.push _)[b]? = _
    rw [Array.getElem?_push, if_neg (by omega)]) ⟨rfl, rfl, rfl⟩
  have m3 : Mine γ3 r1b := ⟨fun e => by have := J3.shlt _ e; omega, fun k e => by have := J3.owlt _ _ e; omega, fun q hq => by rw [M3.ph] at hq; cases hq; rw [hA]; omega⟩
  have n3 : ∀ k, ¬ γ3.ro k r1b := fun k e => by have := J3.rolt _ _ e; omega
  have c3 : ({ w3 with heap := w3.heap.push (.cells #[.int .i64 0] 3) } : World).heap[r1b]? = some (.cells #[.int .i64 0] 3) := by
    show (w3.heap.push _)[r1b]? = _
    rw [← hr1]; simp
  have z3 : r1b < ({ w3 with heap := w3.heap.push (.cells #[.int .i64 0] 3) } : World).heap.size := by
    show r1b < (w3.heap.push _).size
    simp; omega
  generalize ({ w3 with heap := w3.heap.push (.cells #[.int .i64 0] 3) } : World) = w3' at M3' c3 z3
  refine MP.alloc (nstep_sound (lq1_new ga gl gc sb so sc ms N n c cs (i : Nat) _ r1b 0)).1 fun γ4 w4 t4 j4 r4 J4 => ?_; have M4 := M3'.mv hA h0 (Mv.of r4); have O4 := O3.rely (w := w3') r4; refine ⟨_, _, lq1_new ga gl gc sb so sc ms N n c cs (i : Nat) _ r1b w4.heap.size, ?_⟩; obtain ⟨m4, e4⟩ := m3.rely z3 r4; have n4 := noRd_rely n3 r4; have sz4 := M4.size; have z4 : r1b < w4.heap.size := Nat.lt_of_lt_of_le z3 r4.size
  have gr1 : N + 6 ≤ r1b := by omega
  generalize hr2 : w4.heap.size = r2b; have pu : ∀ b, b < r2b → (w4.heap.push (.cells #[.int .i64 0] 3))[b]? = w4.heap[b]? := fun b hb => by rw [Array.getElem?_push, if_neg (by omega)]
  have M4' : AskMem ga gl gc ms N n p γ0 w0 γ4 { w4 with heap := w4.heap.push (.cells #[.int .i64 0] 3) } := M4.own (by simp) (fun b hb => pu b (by omega)) ⟨rfl, rfl, rfl⟩
  have m4' : Mine γ4 r2b := ⟨fun e => by have := J4.shlt _ e; omega, fun k e => by have := J4.owlt _ _ e; omega, fun q hq => by rw [M4.ph] at hq; cases hq; rw [hA]; omega⟩
  have n4' : ∀ k, ¬ γ4.ro k r2b := fun k e => by have := J4.rolt _ _ e; omega
  have c4 : ({ w4 with heap := w4.heap.push (.cells #[.int .i64 0] 3) } : World).heap[r1b]? = some (.cells #[.int .i64 0] 3) := (pu r1b (by omega)).trans (e4.trans c3)
  have c4' : ({ w4 with heap := w4.heap.push (.cells #[.int .i64 0] 3) } : World).heap[r2b]? = some (.cells #[.int .i64 0] 3) := by
    show (w4.heap.push _)[r2b]? = _
    rw [← hr2]; simp
  have z4' : r2b < ({ w4 with heap := w4.heap.push (.cells #[.int .i64 0] 3) } : World).heap.size := by
    show r2b < (w4.heap.push _).size
    simp; omega
  generalize ({ w4 with heap := w4.heap.push (.cells #[.int .i64 0] 3) } : World) = w4' at M4' c4 c4' z4'
  have o1 := one_cell c4; refine MP.put (lq2_put ga gl gc sb so sc ms N n c cs (i : Nat) r1b r2b x ⟨sb, so + i, none⟩ gi) (by omega) m4 n4 ⟨by rw [o1.1]; rfl, o1.2⟩ fun γ5 w5 r5 => ?_
  obtain ⟨m5, e5⟩ := m4.rely (show r1b < w4'.heap.size by omega) r5
  obtain ⟨m5', e5'⟩ := m4'.rely z4' r5; have n5 := noRd_rely n4 r5; have n5' := noRd_rely n4' r5; have M5 := (M4'.mv hA h0 (Mv.of r5)).own (w' := w5.setCell ⟨r1b, 0, none⟩ (.int .i64 i)) (Nat.le_of_eq set_size.symm) (fun b hb => set_o b (by omega)) ⟨rfl, rfl, rfl⟩
  have O5 := O4.rely (w := w4') r5; have z5' : r2b < (w5.setCell ⟨r1b, 0, none⟩ (.int .i64 i)).heap.size := by rw [set_size]; exact Nat.lt_of_lt_of_le z4' r5.size
  have c5' : (w5.setCell ⟨r1b, 0, none⟩ (.int .i64 i)).heap[r2b]? = some (.cells #[.int .i64 0] 3) := (set_o r2b (by omega)).trans (e5'.trans c4')
  have c5 : (w5.setCell ⟨r1b, 0, none⟩ (.int .i64 i)).heap[r1b]? = some (.cells #[.int .i64 i] 3) := by
    rw [sCh, e5, c4]; simp
  generalize w5.setCell ⟨r1b, 0, none⟩ (.int .i64 i) = w5' at M5 c5 c5' z5'; have o2 := one_cell c5'; refine MP.put (lq3_put ga gl gc sb so sc ms N n c cs (i : Nat) r1b r2b x ⟨sb, so + i, none⟩ gi) z5' m5' n5' ⟨by rw [o2.1]; rfl, o2.2⟩ fun γ6 w6 r6 => ?_
  obtain ⟨m6, e6⟩ := m5.rely (show r1b < w5'.heap.size by omega) r6
  obtain ⟨m6', e6'⟩ := m5'.rely z5' r6; have M6 := (M5.mv hA h0 (Mv.of r6)).own (w' := w6.setCell ⟨r2b, 0, none⟩ (.int .i64 gi)) (Nat.le_of_eq set_size.symm) (fun b hb => set_o b (by omega)) ⟨rfl, rfl, rfl⟩
  have O6 := O5.rely (w := w5') r6; have z6' : r2b < (w6.setCell ⟨r2b, 0, none⟩ (.int .i64 gi)).heap.size := by rw [set_size]; exact Nat.lt_of_lt_of_le z5' r6.size
  have c6 : (w6.setCell ⟨r2b, 0, none⟩ (.int .i64 gi)).heap[r1b]? = some (.cells #[.int .i64 i] 3) := (set_o r1b (by omega)).trans (e6.trans c5)
  have c6' : (w6.setCell ⟨r2b, 0, none⟩ (.int .i64 gi)).heap[r2b]? = some (.cells #[.int .i64 gi] 3) := by
    rw [sCh, e6', c5']; simp
  generalize w6.setCell ⟨r2b, 0, none⟩ (.int .i64 gi) = w6' at M6 c6 c6' z6'; refine mS (n := 3) (lq4_mute ga gl gc sb so sc ms N n c cs (i : Nat) r1b r2b x ⟨sb, so + i, none⟩ gi) fun γ7 w7 r7 => ?_; rw [lq4_add, ← hW]; refine add_prog _ _ heW (O6.rely (w := w6') r7) (by omega) fun γ8 w8 v8 O8 => ?_
  rw [show adR (laF Try.prog ga gl gc sb so sc ms N n c cs (i : Nat) (xl x (i : Nat) ⟨sb, so + i, none⟩ gi) r1b r2b) (lpC Try.prog ga gl gc sb so sc ms N n c cs) = lr0 Try.prog ga gl gc sb so sc ms N n c cs (i : Nat) (xl x (i : Nat) ⟨sb, so + i, none⟩ gi) r1b r2b from rfl]
  have mv : Mv γ6 w6' γ8 w8 := (Mv.of r7).trans v8
  refine mS (n := 2) (lr0_mute ga gl gc sb so sc ms N n c cs (i : Nat) r1b r2b x ⟨sb, so + i, none⟩ gi) fun γ9 w9 r9 => ?_; rw [show adv Try.prog (2 + 1) (lr0 Try.prog ga gl gc sb so sc ms N n c cs (i : Nat) (xl x (i : Nat) ⟨sb, so + i, none⟩ gi) r1b r2b) = lr1 Try.prog ga gl gc sb so sc ms N n c cs (i : Nat) (xl x (i : Nat) ⟨sb, so + i, none⟩ gi) r1b r2b from rfl]
  have mv9 := mv.trans (Mv.of r9); have O9 := O8.rely r9; obtain ⟨p1, p2⟩ := pstep_sound (lr1_go ga gl gc sb so sc ms N n c cs (i : Nat) r1b r2b x ⟨sb, so + i, none⟩ gi); have l2 := lr2_mute ga gl gc sb so sc ms N n c cs r1b r2b i (by omega) x ⟨sb, so + i, none⟩ gi
  obtain ⟨x', hx⟩ := lr2_back ga gl gc sb so sc ms N n c cs r1b r2b i (by omega) x ⟨sb, so + i, none⟩ gi
  generalize hgW : wsG Try.prog (N + 5) (N + 2) r2b (N + 4) r1b = gW at p2; generalize lr2 Try.prog ga gl gc sb so sc ms N n c cs (i : Nat) (xl x (i : Nat) ⟨sb, so + i, none⟩ gi) r1b r2b = gQ at p2 l2 hx; generalize lr1 Try.prog ga gl gc sb so sc ms N n c cs (i : Nat) (xl x (i : Nat) ⟨sb, so + i, none⟩ gi) r1b r2b = gP at p1 p2 ⊢; refine .mk p1 nofun nofun fun γa wa ta ja ra Ja da _ => ?_; have mva := mv9.trans (Mv.of (rm_of ra)); have Oa := O9.rely (rm_of ra); have Ma := M6.mv hA h0 mva; have sa := Ma.size; have ej := Ja.j; have ejj := Oa.j; have hja : ja = p.j0 + i := by omega
  obtain ⟨q1, q2⟩ := M_spawn (x := { g := 0, fn := gP.frame.fn, pos := gP.frame.place, act := .go (ja + 1) })
    (y := { g := ja + 1, fn := gW.frame.fn, pos := gP.frame.place, act := .start })
    Ja Oa.ph Oa.wm Oa.extra da ⟨rfl, rfl⟩ ⟨rfl, rfl⟩
  have mm : ∀ b, b < w6'.heap.size → (∀ k, ¬ γ6.ow k b) → ¬ γ6.sh b → b ≠ p.A → wa.heap[b]? = w6'.heap[b]? := fun b hb h1 h2 h3 => mva.heap b hb h1 h2 fun q hq => by
    rw [M6.ph] at hq; cases hq; exact h3
  have ca : wa.heap[r1b]? = some (.cells #[.int .i64 i] 3) := (mm r1b (by omega) m6.2.1 m6.1 (by rw [hA]; omega)).trans c6
  have ca' : wa.heap[r2b]? = some (.cells #[.int .i64 gi] 3) := (mm r2b z6' m6'.2.1 m6'.1 (by rw [hA]; omega)).trans c6'
  have sz6 := mva.size; have roS : ∀ b, b < wa.heap.size → (∀ k, ¬ γa.ow k b) → ¬ γa.sh b → b ≠ p.A → (γa.spawn p wa.heap.size).ro (p.j0 + i + 1) b := fun b h1 h2 h3 h4 => .inl ⟨by omega, h1, h2, h3, h4⟩
  have owa : ∀ b, b < w6'.heap.size → (∀ k, ¬ γ6.ow k b) → ∀ k, ¬ γa.ow k b := fun b hb h k e => h k ((mva.ow k b hb).1 e)
  have sha : ∀ b, ¬ γ6.sh b → ¬ γa.sh b := fun b h e => h (mva.gh.1 ▸ e)
  have roB : ∀ b, b < N + 5 → b ≠ N + 3 → ¬ γ0.sh b → (γa.spawn p wa.heap.size).ro (p.j0 + i + 1) b := fun b h1 h2 h3 =>
    roS b (by omega) (fun k => Ma.ow k b (by omega)) (fun e => ((Ma.sh b).1 e).elim h3 fun e => by omega) (by rw [hA]; exact h2)
  have n0 : ∀ b, N ≤ b → ¬ γ0.sh b := fun b hb e => by have := h0 b e; omega
  have stk : (γa.spawn p wa.heap.size).st (p.j0 + i + 1) = .busy := if_pos (by omega)
  refine ⟨.spawn ⟨⟨gQ, wa, #[], γa.spawn p wa.heap.size⟩, gW⟩ false, ⟨⟨p2 true wa, ?_, fun k' h1 h2 => q2 k' h1 h2⟩, ?_⟩, fun y b' e => (by cases e), fun y b' e => ?_⟩
  · rw [oEn]
    exact q1
  · show WP (sys Try.prog) (ja + 1) 0 (γa.spawn p wa.heap.size) wa gW
    rw [hja, ← hgW]; refine hwk _ _ _ _ ⟨Ma.ph, stk, ⟨roB _ (by omega) (by omega) (n0 _ (by omega)), roS r2b (by omega) (owa r2b z6' m6'.2.1) (sha r2b m6'.1) (by rw [hA]; omega), roB _ (by omega) (by omega) (n0 _ (by omega)), roS r1b (by omega) (owa r1b (by omega) m6.2.1) (sha r1b m6.1) (by rw [hA]; omega)⟩,
      one_cell Ma.b2, one_cell ca', one_cell Ma.b4, one_cell ca⟩ Ma.same (fun b hb hns => ⟨roB b (by omega) (by omega) hns, Ma.old b hb hns⟩) ⟨roB _ (by omega) (by omega) (n0 _ (by omega)), roB _ (by omega) (by omega) (n0 _ (by omega)), Ma.b0, Ma.b1⟩
  · injection e with e1 e2
    subst e1 e2; show MP (sys Try.prog) Q false 0 (γa.spawn p wa.heap.size) wa gQ
    have Mb : AskMem ga gl gc ms N n p γ0 w0 (γa.spawn p wa.heap.size) wa := ⟨Ma.same, Ma.size, Ma.sh, Ma.ph, Ma.ow, Ma.old, Ma.b0, Ma.b1, Ma.b2, Ma.b4⟩
    have Ob : AtOp (γa.spawn p wa.heap.size) p 0 (p.j0 + (i + 1)) := ⟨Oa.ph, Oa.wm, rfl, by show γa.j + 1 = _; omega⟩
    refine mS (n := 6) l2 fun γc wc rc => ?_; rw [hx]; exact K γc wc x' (Mb.mv hA h0 (Mv.of rc)) (Ob.rely rc)
def WorkOk (ga : Addr) (gl gc : Nat) (ms : Int) (N n : Nat) (p : Ph) (gs : Nat → Int) (γ0 : Gh) (w0 : World) : Prop := ∀ i, i < n → ∀ γ w gb ib, WBox (p.j0 + i + 1) p (N + 2) gb (N + 4) ib (fnq N) (.int .i64 (gs i)) (.slice (some ⟨N + 3, 0, none⟩) n n) (.int .i64 i) γ w → SameOs w0 w →
  (∀ b, b < N → ¬ γ0.sh b → γ.ro (p.j0 + i + 1) b ∧ w.heap[b]? = w0.heap[b]?) → γ.ro (p.j0 + i + 1) N ∧ γ.ro (p.j0 + i + 1) (N + 1) ∧ w.heap[N]? = some (.cells #[.slice (some ga) gl gc] 24) ∧ w.heap[N + 1]? = some (.cells #[.int .i64 ms] 3) →
  WP (sys Try.prog) (p.j0 + i + 1) 0 γ w (wsG Try.prog (N + 5) (N + 2) gb (N + 4) ib)
/-- Where the call has returned. -/
structure AskEnd (N n : Nat) (a : Nat → AnsV) (γ0 : Gh) (w0 : World) (γ : Gh) (w : World) : Prop where
  ph : γ.ph = none
  same : SameOs w0 w
  size : N + 6 ≤ w.heap.size
  old : ∀ b, b < N → ¬ γ0.sh b → w.heap[b]? = w0.heap[b]?
  sh : ∀ b, γ.sh b ↔ γ0.sh b ∨ b = N + 5
  ans : ∃ cs, w.heap[N + 3]? = some (.cells cs 91) ∧ cs.size = 5 * n ∧ ∀ i c, i < n → c < 5 → cs[5 * i + c]? = some ((a i).cell c)
theorem loop_way {a : Nat → AnsV} {gs : Nat → Int} (hA : p.A = N + 3) (hW : p.wg = N + 5) (heW : p.eW = 126) (heA : p.eA = 91) (hn : p.n = n) (hans : ∀ i c, p.ans i c = (a i).cell c) (h0 : ∀ b, γ0.sh b → b < N) (h1 : 1 ≤ n) (h5 : n ≤ 5)
    (hsb : sb < N) (hsh : ¬ γ0.sh sb) (hset : ∀ i, i < n → w0.cell? ⟨sb, so + i, none⟩ = some (.int .i64 (gs i))) (hwk : WorkOk ga gl gc ms N n p gs γ0 w0)
    (K : ∀ γ' w', AskEnd N n a γ0 w0 γ' w' → MP (sys Try.prog) Q false 0 γ' w' { frame := c.finish (.slice (some ⟨N + 3, 0, none⟩) n n), callers := cs, status := .running, dying := none }) :
    ∀ (m i : Nat) (x : Nat → Value) (γ : Gh) (w : World), i + m = n → AskMem ga gl gc ms N n p γ0 w0 γ w → AtOp γ p 0 (p.j0 + i) → MP (sys Try.prog) Q false 0 γ w (lpG Try.prog ga gl gc sb so sc ms N n c cs (i : Nat) x (hdT Try.prog)) := by
  intro m; induction m with
  | zero =>
    intro i x γ w him hM hO; obtain rfl : i = n := by omega
    refine mS (n := 9) (hd_wait ga gl gc sb so sc ms N i c cs x h1 h5) fun γ1 w1 r1 => ?_; rw [hd_wait' ga gl gc sb so sc ms N i c cs x h1 h5, ← hW]; have M1 := hM.mv hA h0 (Mv.of r1); refine wait_prog _ _ heW (hO.rely r1) fun γ2 w2 γ3 w3 v2 hAns r3 => ?_; rw [show adR (lwF Try.prog ga gl gc sb so sc ms N i c cs x) (lpC Try.prog ga gl gc sb so sc ms N i c cs) = lw0 Try.prog ga gl gc sb so sc ms N i c cs x from rfl]
    have M2 := M1.mv hA h0 v2; have s2 := M2.size; obtain ⟨rfl, e3, s3⟩ := rm_none (γ := γ2.idle) rfl r3; refine mp_still0 (n := 2) (lw0_mute ga gl gc sb so sc ms N i c cs x h1 h5) rfl fun w4 e4 s4 => ?_; have hb4 : w4.heap[N + 4]? = some (.cells #[.slice (some ⟨N + 3, 0, none⟩) i i] 87) := by rw [e4, e3]; exact M2.b4
    have n4 : ¬ γ2.idle.sh (N + 4) := fun e => by
      have e' : γ2.sh (N + 4) := e
      rcases (M2.sh _).1 e' with e' | e'
      · have := h0 _ e'; omega
      · omega
    rw [show adv Try.prog (2 + 1) (lw0 Try.prog ga gl gc sb so sc ms N i c cs x) = lw1 Try.prog ga gl gc sb so sc ms N i c cs x from rfl]
    refine MP.get (lw1_load ga gl gc sb so sc ms N i c cs x h1 h5 (.slice (some ⟨N + 3, 0, none⟩) i i)) (by rw [e4, e3]; omega) ⟨n4, fun _ e => e, nofun⟩ (one_cell hb4) fun γ5 w5 r5 => ?_
    obtain ⟨rfl, e5, s5⟩ := rm_none (γ := γ2.idle) rfl r5; refine mp_still0 (n := 7) (lw1_mute ga gl gc sb so sc ms N i c cs x h1 h5 (N + 3) i i) rfl fun w6 e6 s6 => ?_; rw [lw1_ret ga gl gc sb so sc ms N i c cs x h1 h5 (N + 3) i i]; have eh : w6.heap = w2.heap := by rw [e6, e5, e4, e3]
    obtain ⟨cells, c1, c2, c3⟩ := hAns; refine K _ _ ⟨rfl, (((M2.same.trans s3).trans s4).trans s5).trans s6, by rw [eh]; exact s2, fun b hb hnb => by rw [eh]; exact M2.old b hb hnb, M2.sh, cells, by rw [eh, ← hA, ← heA]; exact c1, by rw [c2, hn], fun i' c' hi' hc' => ?_⟩
    rw [c3 i' c' (by omega) hc', hans]
  | succ m ih =>
    intro i x γ w him hM hO; have hi : i < n := by omega
    exact round_way (g := 0) hA hW heW hn h0 h5 hi hM hO hsb hsh (hset i hi) (hwk i hi) fun γ' w' x' M' O' => ih (i + 1) x' γ' w' (by omega) M' O'
theorem ask_way {a : Nat → AnsV} {gs : Nat → Int} (hnone : γ.ph = none) (hN : w.heap.size = N) (h1 : 1 ≤ n) (h5 : n ≤ 5) (hsb : sb < N) (hsh : ¬ γ.sh sb) (hset : ∀ i, i < n → w.cell? ⟨sb, so + i, none⟩ = some (.int .i64 (gs i)))
    (hwk : WorkOk ga gl gc ms N n { wg := N + 5, A := N + 3, n, j0 := γ.j, ans := fun i c => (a i).cell c, eW := 126, eA := 91 } gs γ w)
    (K : ∀ γ' w', AskEnd N n a γ w γ' w' → MP (sys Try.prog) Q false 0 γ' w' { frame := c.finish (.slice (some ⟨N + 3, 0, none⟩) n n), callers := cs, status := .running, dying := none }) :
    MP (sys Try.prog) Q false 0 γ w (as0 Try.prog ga gl gc sb so sc ms N n c cs) := by
  refine mp_still0 (n := 1) (as0_mute ga gl gc sb so sc ms N n c cs) hnone fun w1 e1 s1 => ?_; rw [show adv Try.prog (1 + 1) (as0 Try.prog ga gl gc sb so sc ms N n c cs) = as1 Try.prog ga gl gc sb so sc ms N n c cs from rfl]
  refine MP.alloc (nstep_sound (as1_new ga gl gc sb so sc ms N n c cs)).1 fun γ2 w2 t2 j2 r2 J2 => ?_; obtain ⟨rfl, e2, s2⟩ := rm_none hnone r2; have hN2 : w2.heap.size = N := by rw [e2, e1, hN]
  have h0 : ∀ b, γ2.sh b → b < N := fun b hb => by have := J2.shlt b hb; omega
  have hj := J2.j; refine ⟨_, _, by rw [hN2]; exact as1_new ga gl gc sb so sc ms N n c cs, ?_⟩
  generalize hw2 : ({ w2 with heap := w2.heap.push (.cells #[.slice (some ga) gl gc] 24) } : World) = w2'
  have E2 : w2'.heap = w.heap.push (.cells #[.slice (some ga) gl gc] 24) := by rw [← hw2]; show w2.heap.push _ = _; rw [e2, e1]
  have S2 : SameOs w w2' := by rw [← hw2]; exact (s1.trans s2)
  clear hw2 J2; refine MP.alloc0 (as2_new ga gl gc sb so sc ms N n c cs) hnone (by rw [E2]; simp [hN]) fun w3 E3 s3 => ?_
  have S3 := S2.trans s3; refine mp_still0 (n := 8) (as2_mute ga gl gc sb so sc ms N n c cs) hnone fun w3' e3 s3' => ?_; rw [show adv Try.prog (8 + 1) (nx Try.prog (N + 1) (as2 Try.prog ga gl gc sb so sc ms N n c cs)) = as3 Try.prog ga gl gc sb so sc ms N n c cs from rfl]
  rw [E3, E2] at e3; refine MP.alloc0 (as3_new ga gl gc sb so sc ms N n c cs) hnone (by rw [e3]; simp [hN]) fun w4 E4 s4 => ?_
  refine mp_still0 (n := 5) (as3_mute ga gl gc sb so sc ms N n c cs) hnone fun w4' e4 s4' => ?_; rw [show adv Try.prog (5 + 1) (nx Try.prog (N + 2) (as3 Try.prog ga gl gc sb so sc ms N n c cs)) = as4 Try.prog ga gl gc sb so sc ms N n c cs from rfl]
  rw [E4, e3] at e4; obtain ⟨z, hz, q4⟩ := as4_new ga gl gc sb so sc ms N n c cs h1 h5; refine MP.alloc0 q4 hnone (by rw [e4]; simp [hN]) fun w5 E5 s5 => ?_
  rw [e4] at E5; refine MP.alloc0 (as5_new ga gl gc sb so sc ms N n c cs h1 h5) hnone (by rw [E5]; simp [hN]) fun w6 E6 s6 => ?_
  rw [E5] at E6; have S6 : SameOs w w6 := (((((S3.trans s3').trans s4).trans s4').trans s5).trans s6)
  have sz6 : w6.heap.size = N + 5 := by rw [E6]; simp [hN]
  have hb6 : w6.heap[N + 4]? = some (.cells #[.slice none 0 0] 87) := by rw [E6]; (simp only [Array.getElem?_push, Array.size_push, hN]; repeat (first | rw [if_pos trivial] | rw [if_pos (by omega)] | rw [if_neg (by omega)]))
  have o6 := one_cell hb6; have n6 : ∀ b, N ≤ b → ¬ γ2.sh b := fun b hb e => by have := h0 b e; omega
  have q6 := as6_put ga gl gc sb so sc ms N n c cs h1 h5; have u6 := as6_mute ga gl gc sb so sc ms N n c cs h1 h5; have a6 : adv Try.prog (2 + 1) (sx Try.prog (as6 Try.prog ga gl gc sb so sc ms N n c cs)) = as7 Try.prog ga gl gc sb so sc ms N n c cs := rfl
  generalize sx Try.prog (as6 Try.prog ga gl gc sb so sc ms N n c cs) = gX at q6 u6 a6; generalize as6 Try.prog ga gl gc sb so sc ms N n c cs = gY at q6 ⊢; obtain ⟨v6, y6⟩ := sstep_sound q6; refine .go v6 fun γ7 w7 t7 j7 r7 J7 hd7 => ?_; obtain ⟨eg7, e7, s7⟩ := rm_none hnone (rm_of r7); obtain rfl := eg7.symm
  obtain ⟨x1, x2, x3⟩ := J7.none hnone; have o7 : (w7.cell? ⟨N + 4, 0, none⟩).isSome = true ∧ w7.frozen? ⟨N + 4, 0, none⟩ = false := by
    have := one_cell (show w7.heap[N + 4]? = _ by rw [e7]; exact hb6)
    exact ⟨by rw [this.1]; rfl, this.2⟩
  have m7 : Mine γ2 (N + 4) := ⟨n6 _ (by omega), fun k => (x1 k _).1, fun q hq => by rw [hnone] at hq; cases hq⟩
  obtain ⟨a1, a2⟩ := M_own (w1 := w7.setCell ⟨N + 4, 0, none⟩ (.slice (some ⟨N + 3, 0, none⟩) n n)) (fn := gY.frame.fn) (pos := gY.frame.place) (es := #[plE ⟨N + 4, 0, none⟩ true]) J7 ⟨rfl, rfl, rfl⟩ (Nat.le_of_eq set_size.symm) (fun b' _ hb' => set_o b' fun e => by
    subst e; rcases hb' with ⟨k, hk⟩ | hk | ⟨p, hp, hk⟩
    · exact hk.elim (x1 k _).1 (x1 k _).2
    · exact m7.1 hk
    · rw [hnone] at hp; cases hp) fun e he => by
      simp at he; subst he
      exact okM_pl m7 (fun _ k => (x1 k _).2) (by rw [set_size, e7, sz6]; omega)
  refine ⟨⟨gX, _, _, γ2⟩, false, ⟨y6 true w7 fun q hq => by
    have : q = (⟨N + 4, 0, none⟩, .slice (some ⟨N + 3, 0, none⟩) n n) := by simpa using hq
    subst this; exact o7, a1, a2⟩, ?_⟩
  show MP (sys Try.prog) Q false 0 γ2 (w7.setCell ⟨N + 4, 0, none⟩ (.slice (some ⟨N + 3, 0, none⟩) n n)) gX
  have H8 : ∀ b, b ≠ N + 4 → (w7.setCell ⟨N + 4, 0, none⟩ (.slice (some ⟨N + 3, 0, none⟩) n n)).heap[b]? = w6.heap[b]? := fun b hb => by rw [set_o b hb, e7]
  have B8 : (w7.setCell ⟨N + 4, 0, none⟩ (.slice (some ⟨N + 3, 0, none⟩) n n)).heap[N + 4]? = some (.cells #[.slice (some ⟨N + 3, 0, none⟩) n n] 87) := by rw [sCh, e7, hb6]; simp
  have S8 : SameOs w (w7.setCell ⟨N + 4, 0, none⟩ (.slice (some ⟨N + 3, 0, none⟩) n n)) := S6.trans s7
  have sz8 : (w7.setCell ⟨N + 4, 0, none⟩ (.slice (some ⟨N + 3, 0, none⟩) n n)).heap.size = N + 5 := by rw [set_size, e7, sz6]
  generalize w7.setCell ⟨N + 4, 0, none⟩ (.slice (some ⟨N + 3, 0, none⟩) n n) = w8 at H8 B8 S8 sz8 ⊢; clear a1 a2; refine mp_still0 (n := 2) u6 hnone fun w9 e9 s9 => ?_; rw [a6]; have q7 := as7_new ga gl gc sb so sc ms N n c cs h1 h5; have u7 := as7_mute ga gl gc sb so sc ms N n c cs h1 h5; have a7 : adv Try.prog (9 + 1) (nx Try.prog (N + 5) (as7 Try.prog ga gl gc sb so sc ms N n c cs)) = as8 Try.prog ga gl gc sb so sc ms N n c cs := rfl
  rw [as8_head ga gl gc sb so sc ms N n c cs h1 h5] at a7; generalize nx Try.prog (N + 5) (as7 Try.prog ga gl gc sb so sc ms N n c cs) = gX at q7 u7 a7; generalize as7 Try.prog ga gl gc sb so sc ms N n c cs = gY at q7 ⊢; obtain ⟨v7, y7⟩ := nstep_sound q7; refine .go v7 fun γa wa ta ja ra Ja hda => ?_; obtain ⟨ega, ea, sa⟩ := rm_none hnone (rm_of ra); obtain rfl := ega.symm
  have eha : wa.heap = w8.heap := ea.trans e9
  have sza : wa.heap.size = N + 5 := by rw [eha, sz8]
  obtain ⟨b1, b2⟩ := M_open (w1 := { wa with heap := wa.heap.push (.cells #[.int .u64 0, .int .u32 0] 126) }) (p := { wg := N + 5, A := N + 3, n, j0 := γ2.j, ans := fun i c => (a i).cell c, eW := 126, eA := 91 }) (cs := z)
    Ja hnone Ja.j sza.symm h5 (by show N + 3 < wa.heap.size; rw [sza]; omega) (n6 (N + 3) (by omega)) (by
      show wa.heap[N + 3]? = _
      rw [eha, H8 _ (by omega), E6]
      (simp only [Array.getElem?_push, Array.size_push, hN]; repeat (first | rw [if_pos trivial] | rw [if_pos (by omega)] | rw [if_neg (by omega)]))) hz ⟨rfl, rfl, rfl⟩ rfl
  refine ⟨⟨gX, _, #[], γ2.begin _⟩, false, ⟨y7 true wa sza, b1.nil, b2⟩, ?_⟩; show MP (sys Try.prog) Q false 0 (γ2.begin { wg := N + 5, A := N + 3, n, j0 := γ2.j, ans := fun i c => (a i).cell c, eW := 126, eA := 91 }) { wa with heap := wa.heap.push (.cells #[.int .u64 0, .int .u32 0] 126) } gX
  have Hb : ∀ b, b < N + 5 → (wa.heap.push (.cells #[.int .u64 0, .int .u32 0] 126))[b]? = w8.heap[b]? := fun b hb => by rw [Array.getElem?_push, if_neg (by omega), eha]
  have Hc : ∀ b, b < N + 4 → (wa.heap.push (.cells #[.int .u64 0, .int .u32 0] 126))[b]? = w6.heap[b]? := fun b hb => (Hb b (by omega)).trans (H8 b (by omega))
  have AM : AskMem ga gl gc ms N n { wg := N + 5, A := N + 3, n, j0 := γ2.j, ans := fun i c => (a i).cell c, eW := 126, eA := 91 } γ2 w (γ2.begin { wg := N + 5, A := N + 3, n, j0 := γ2.j, ans := fun i c => (a i).cell c, eW := 126, eA := 91 })
      { wa with heap := wa.heap.push (.cells #[.int .u64 0, .int .u32 0] 126) } := by
    refine ⟨S8.trans (s9.trans sa), by simp [sza], fun b => .rfl, rfl, fun k b _ => (x1 k b).1, fun b hb _ => ?_, ?_, ?_, ?_, ?_⟩
    · show (wa.heap.push _)[b]? = _
      rw [Hc b (by omega), E6]
      simp only [Array.getElem?_push, Array.size_push, hN]; repeat (first | rw [if_pos trivial] | rw [if_pos (by omega)] | rw [if_neg (by omega)])
    · show (wa.heap.push _)[N]? = _
      rw [Hc N (by omega), E6]
      (simp only [Array.getElem?_push, Array.size_push, hN]; repeat (first | rw [if_pos trivial] | rw [if_pos (by omega)] | rw [if_neg (by omega)]))
    · show (wa.heap.push _)[N + 1]? = _
      rw [Hc (N + 1) (by omega), E6]
      (simp only [Array.getElem?_push, Array.size_push, hN]; repeat (first | rw [if_pos trivial] | rw [if_pos (by omega)] | rw [if_neg (by omega)]))
    · show (wa.heap.push _)[N + 2]? = _
      rw [Hc (N + 2) (by omega), E6]
      (simp only [Array.getElem?_push, Array.size_push, hN]; repeat (first | rw [if_pos trivial] | rw [if_pos (by omega)] | rw [if_neg (by omega)]))
    · show (wa.heap.push _)[N + 4]? = _
      rw [Hb (N + 4) (by omega)]
      exact B8
  have OB : AtOp (γ2.begin { wg := N + 5, A := N + 3, n, j0 := γ2.j, ans := fun i c => (a i).cell c, eW := 126, eA := 91 }) { wg := N + 5, A := N + 3, n, j0 := γ2.j, ans := fun i c => (a i).cell c, eW := 126, eA := 91 } 0 (γ2.j + 0) := ⟨rfl, x3, rfl, rfl⟩
  refine mS (n := 9) u7 fun γb wb rb => ?_; rw [a7]; exact loop_way rfl rfl rfl rfl rfl (fun _ _ => rfl) h0 h1 h5 hsb hsh hset hwk K n 0 x0 γb wb (Nat.zero_add n) (AM.mv rfl h0 (Mv.of rb)) (OB.rely rb)
end
end Go.Proofs.Ytjklkppncmhehaa.Sr
namespace Go.Proofs.Ytjklkppncmhehaa.Sr
open Go Go.Conc Go.ConcN
/-! ### a memory in which nothing can be written -/
def fzObj : Obj → Obj
  | .cells us e fz => .cells us e (0, max us.size fz.2)
  | o => o
def fzWorld (v : World) (b1 b2 : Obj) : World := { v with heap := ((v.heap.map fzObj).push (fzObj b1)).push (fzObj b2) }
section
variable {v w : World} {b1 b2 : Obj} {m : Ren}
theorem fz_old {r : Nat} (h : r < v.heap.size) : (fzWorld v b1 b2).heap[r]? = (v.heap[r]?).map fzObj := by
  show (((v.heap.map fzObj).push (fzObj b1)).push (fzObj b2))[r]? = _
  rw [Array.getElem?_push, if_neg (by simp; omega), Array.getElem?_push, if_neg (by simp; omega), Array.getElem?_map]
theorem fz_b1 : (fzWorld v b1 b2).heap[v.heap.size]? = some (fzObj b1) := by
  show (((v.heap.map fzObj).push (fzObj b1)).push (fzObj b2))[v.heap.size]? = _
  rw [Array.getElem?_push, if_neg (by simp), Array.getElem?_push, if_pos (by simp)]
theorem fz_b2 : (fzWorld v b1 b2).heap[v.heap.size + 1]? = some (fzObj b2) := by
  show (((v.heap.map fzObj).push (fzObj b1)).push (fzObj b2))[v.heap.size + 1]? = _
  rw [Array.getElem?_push, if_pos (by simp)]
theorem fz_cell {p : Addr} (h : p.block < v.heap.size) : (fzWorld v b1 b2).cell? p = v.cell? p := by
  unfold World.cell?; rw [fz_old h]
  cases v.heap[p.block]? with
  | none => rfl
  | some o => cases o <;> rfl
theorem cell_cells {w : World} {b : Nat} {cs : Array Value} {e : TypeId} {f : Nat × Nat} (h : w.heap[b]? = some (.cells cs e f)) : w.cell? ⟨b, 0, none⟩ = cs[0]? := by
  unfold World.cell?; simp [h]
theorem fz_froz {w : World} {r : Nat} {o : Obj} (h : w.heap[r]? = some (fzObj o)) (hb : Borne o) : Froz w r := by
  rcases hb with ⟨us, e, fz, rfl⟩ | ⟨a, l, rfl⟩
  · exact .inl ⟨us, e, _, h, Nat.le_max_left ..⟩
  · exact .inr ⟨a, l, h⟩
theorem ObjR.borne {o p : Obj} (h : ObjR m o p) : Borne o := by
  rcases h with ⟨us, vs, e, fz, gz, rfl, rfl, _, _⟩ | ⟨a, b, l, rfl, rfl, _⟩
  · exact .inl ⟨us, e, fz, rfl⟩
  · exact .inr ⟨a, l, rfl⟩
theorem ObjR.fz {o p : Obj} (h : ObjR m o p) : ObjR m (fzObj o) p := by
  rcases h with ⟨us, vs, e, fz, gz, rfl, rfl, hf, ha⟩ | ⟨a, b, l, rfl, rfl, ha⟩
  · refine .inl ⟨us, vs, e, _, gz, rfl, rfl, fun o h1 h2 => ⟨Nat.zero_le _, ?_⟩, ha⟩
    have := (hf o h1 h2).2
    show o < max us.size fz.2
    omega
  · exact .inr ⟨a, b, l, rfl, rfl, ha⟩
theorem put_le {m : Ren} {r t : Nat} (h : m r = none) : Ren.le m (m.put r t) := by
  refine ⟨fun q u hq => ?_, rfl⟩
  show (if q = r then some t else m q) = some u
  by_cases e : q = r
  · subst e; rw [h] at hq; cases hq
  · rw [if_neg e]; exact hq
theorem put_at {m : Ren} {r t : Nat} : (m.put r t) r = some t := by
  show (if r = r then some t else m r) = some t
  simp
theorem put_or {m : Ren} {r t q u : Nat} (h : (m.put r t) q = some u) : (q = r ∧ u = t) ∨ m q = some u := by
  have h' : (if q = r then some t else m q) = some u := h
  by_cases e : q = r
  · rw [if_pos e] at h'; exact .inl ⟨e, (Option.some.inj h').symm⟩
  · rw [if_neg e] at h'; exact .inr h'
theorem WR.none_ge (h : WR m v w) {r : Nat} (hr : v.heap.size ≤ r) : m r = none := by
  cases e : m r with
  | none => rfl
  | some t => exact absurd (h.lt e).1 (by omega)
end
section
variable {P : Program} {F : Array Func} {spec : FuncId → Bool} {m : Ren} {τ : TypeId}
theorem FR.enter (B : Both τ P F spec m.good) {f : FuncId} {us vs : Array Value} (hg : m.good f = true) (hs : spec f = false) (h : AR m us vs) :
    FR P spec m (Frame.enter (Program.mk (Program.toTables P) F) f us .normal) (Frame.enter P f vs .normal) := by
  obtain ⟨fr, e1, e2, e3⟩ := B.same f hg hs; have en : ∀ (Q : Program) (xs : Array Value), Q.funcs[f]? = some fr → Frame.enter Q f xs .normal = mkF f (xs ++ Array.replicate (fr.ntmps - xs.size) undef) [.code (fr.body.getD (.refuse "unsupported: a function without a Go body is entered"))] .run := by
    intro Q xs hq; simp [Frame.enter, hq, mkF]
  rw [en _ us e1, en _ vs e2, h.1]; refine .mk f _ .run hs hg ?_ (fun x hx => ?_) (.inl rfl)
  · refine ⟨by simp [h.1], fun i h1 h2 => ?_⟩
    by_cases hi : i < us.size
    · rw [Array.getElem_append_left hi, Array.getElem_append_left (by rw [← h.1]; exact hi)]
      exact h.2 i hi _
    · rw [Array.getElem_append_right (by omega), Array.getElem_append_right (by rw [← h.1]; omega)]
      simp only [Array.getElem_replicate]; exact vr_const (m := m) undef rfl
  · simp only [List.mem_singleton] at hx
    subst hx; show okCode P m.good _ = true
    unfold okFunc at e3
    cases hb : fr.body with
    | none => rw [hb] at e3; cases e3
    | some c => rw [hb] at e3; exact e3
end
theorem size3 {us : Array Value} (h : us.size = 3) : ∃ a b x, us = #[a, b, x] := by
  obtain ⟨l⟩ := us; match l, h with
  | [a, b, x], _ => exact ⟨a, b, x, rfl⟩
theorem no_ask {spec : FuncId → Bool} {m : Ren} (B : Both τA Try.prog Tw.prog.funcs spec m.good) (hsA : ∀ f, spec f = true → f = askId) {A : Value} {f' f : Frame} {fs' fs : List Frame} {v : World} (he : Enters Try.prog Tw.prog.funcs spec m f' f) (hfs : FRs Try.prog spec m fs' fs) (hne : fs' ≠ []) :
    ¬ Ends (Program.mk (Program.toTables Try.prog) Tw.prog.funcs) (StopC (Program.mk (Program.toTables Try.prog) Tw.prog.funcs) fun e _ => e = .returned A) f' (fs' ++ [dum]) v := by
  intro hE; obtain ⟨g, us, vs, e1, h1, h2, _, h3⟩ := enters_args he; have := hsA g e1
  subst this; subst h1; obtain ⟨a, b, x, rfl⟩ := size3 (h3 3 rfl); obtain ⟨v', _, hR⟩ := ask_escape (R := fun e _ => e = .returned A) (fun _ h => (by cases h)) (gs := fs') rfl (frs_has B hfs) hE
  cases hR
section
variable {w0 w : World} {γ0 γ : Gh} {m : Ren} {v : World} {ga ga' : Addr} {gl gc : Nat} {ms : Int} {N n : Nat} {p : Ph} {gs : Nat → Int} {a : Nat → AnsV}
theorem ptr_vr {m : Ren} {r t : Nat} (h : m r = some t) : VR m (ptr r) (ptr t) := .ptr ⟨h, rfl, rfl, rfl⟩
theorem WBox.grow {k : Nat} {qb gb ab ib : Nat} {fv gv av iv : Value} {w1 : World} {x y : Nat} (h : WBox k p qb gb ab ib fv gv av iv γ w) (hh : ∀ b, γ.ro k b → w1.heap[b]? = w.heap[b]?) : WBox k p qb gb ab ib fv gv av iv (γ.grow k x y) w1 := by
  obtain ⟨o1, o2, o3, o4⟩ := h.ro; have key : ∀ {b : Nat} {v : Value}, γ.ro k b → w.cell? ⟨b, 0, none⟩ = some v ∧ w.frozen? ⟨b, 0, none⟩ = false → w1.cell? ⟨b, 0, none⟩ = some v ∧ w1.frozen? ⟨b, 0, none⟩ = false := by
    intro b v hb hc; have e := hh b hb; rw [cell_of e, frozen_of e]; exact hc
  exact ⟨h.ph, h.st, h.ro, key o1 h.cq, key o2 h.cg, key o3 h.ca, key o4 h.ci⟩
set_option maxRecDepth 100000 in
/-- ████ WHAT A WORKER HAS TO BE SHOWN TO DO. ████ -/
theorem work_ok {good spec : FuncId → Bool} (B : Both τA Try.prog Tw.prog.funcs spec good) (hsA : ∀ f, spec f = true → f = askId) (hsQ : spec 70 = false) (hgd : good 70 = true) (hmg : m.good = good) (hw : WR m (v.on w0.tape w0.drawn) w0) (hN : w0.heap.size = N) (hga : AddrR m ga ga') (hsh : ∀ r t, m r = some t → ¬ γ0.sh t)
    (hA : p.A = N + 3) (hwg : p.wg = N + 5) (hn : p.n = n) (h5 : n ≤ 5) (heW : p.eW = 126) (hans : ∀ i c, p.ans i c = (a i).cell c)
    (ask : ∀ i, i < n → ∀ (u : World) (gb mb : Nat), (∀ q : Addr, q.block < v.heap.size → u.cell? q = v.cell? q) → u.cell? ⟨gb, 0, none⟩ = some (.slice (some ga) gl gc) → u.cell? ⟨mb, 0, none⟩ = some (.int .i64 ms) →
      Calls Tw.prog 70 #[.int .i64 (gs i), ptr gb, ptr mb] u fun e _ => e = .returned (a i).val) : WorkOk ga' gl gc ms N n p gs γ0 w0 := by
  subst hmg; intro i hi γ w gb ib hbox hso hold hro; obtain ⟨hr1, hr2, hc1, hc2⟩ := hro; have ek : p.j0 + i + 1 - p.j0 - 1 = i := by omega
  let B1 : Obj := .cells #[.slice (some ga) gl gc] 24
  let B2 : Obj := .cells #[.int .i64 ms] 3
  let mW : Ren := (m.put v.heap.size N).put (v.heap.size + 1) (N + 1)
  have hvs : ∀ r t, m r = some t → r < v.heap.size ∧ t < N := fun r t h => by
    have := hw.lt h
    rw [hN] at this; exact this
  have n1 : m v.heap.size = none := by
    cases e : m v.heap.size with
    | none => rfl
    | some t => exact absurd (hvs _ _ e).1 (by omega)
  have n2 : (m.put v.heap.size N) (v.heap.size + 1) = none := by
    cases e : (m.put v.heap.size N) (v.heap.size + 1) with
    | none => rfl
    | some t =>
      rcases put_or e with ⟨h1, _⟩ | h1
      · omega
      · exact absurd (hvs _ _ h1).1 (by omega)
  have le1 : Ren.le m (m.put v.heap.size N) := put_le n1
  have le2 : Ren.le (m.put v.heap.size N) mW := put_le n2
  have le : Ren.le m mW := ⟨fun r t h => le2.sub r t (le1.sub r t h), rfl⟩
  have mN : mW v.heap.size = some N := le2.sub _ _ put_at
  have mN1 : mW (v.heap.size + 1) = some (N + 1) := put_at
  have split : ∀ {r t : Nat}, mW r = some t → m r = some t ∨ (r = v.heap.size ∧ t = N) ∨ (r = v.heap.size + 1 ∧ t = N + 1) := fun h => by
    rcases put_or h with h | h
    · exact .inr (.inr h)
    · rcases put_or h with h | h
      · exact .inr (.inl h)
      · exact .inl h
  let F : Gh → World → Prop := fun γ w => WBox (p.j0 + i + 1) p (N + 2) gb (N + 4) ib (fnq N) (.int .i64 (gs i)) (.slice (some ⟨N + 3, 0, none⟩) n n) (.int .i64 i) γ w ∧ SameOs w0 w ∧ (∀ b, b < N → ¬ γ0.sh b → γ.ro (p.j0 + i + 1) b ∧ w.heap[b]? = w0.heap[b]?) ∧
    γ.ro (p.j0 + i + 1) N ∧ γ.ro (p.j0 + i + 1) (N + 1) ∧ w.heap[N]? = some (.cells #[.slice (some ga') gl gc] 24) ∧ w.heap[N + 1]? = some (.cells #[.int .i64 ms] 3)
  have f0 : F γ w := ⟨hbox, hso, hold, hr1, hr2, hc1, hc2⟩
  have fR : ∀ γ w γ' w', F γ w → RR (p.j0 + i + 1) γ w γ' w' → F γ' w' := by
    rintro γ w γ' w' ⟨b1, b2, b3, b4, b5, b6, b7⟩ r; have b1' := b1.rely (by omega) r
    obtain ⟨_, _, r3, _, _, _, r7, _⟩ := (rw_of (by omega) r).live (bLv b1.st (by decide))
    exact ⟨b1', b2.trans (rw_of (by omega) r).same, fun b hb hn => ⟨(r3 _).2 (b3 b hb hn).1, (r7 b (.inr (b3 b hb hn).1)).trans (b3 b hb hn).2⟩, (r3 _).2 b4, (r3 _).2 b5, (r7 _ (.inr b4)).trans b6, (r7 _ (.inr b5)).trans b7⟩
  have fG : ∀ γ w w1, F γ w → (∀ b, γ.ro (p.j0 + i + 1) b → w1.heap[b]? = w.heap[b]?) → SameOs w w1 → F (γ.grow (p.j0 + i + 1) w.heap.size w1.heap.size) w1 := by
    rintro γ w w1 ⟨b1, b2, b3, b4, b5, b6, b7⟩ hh hs; exact ⟨b1.grow hh, b2.trans hs, fun b hb hn => ⟨(b3 b hb hn).1, (hh b (b3 b hb hn).1).trans (b3 b hb hn).2⟩, b4, b5, (hh _ b4).trans b6, (hh _ b5).trans b7⟩
  have hE : Ends Tw.prog (StopC Tw.prog fun e _ => e = .returned (a i).val) (Frame.enter Tw.prog 70 #[.int .i64 (gs i), ptr v.heap.size, ptr (v.heap.size + 1)] .normal) [dum] (fzWorld v B1 B2) := by
    refine ends_of_calls (fun _ h => (by cases h)) fun T => ask i hi ((fzWorld v B1 B2).on T 0) v.heap.size (v.heap.size + 1) (fun q hq => fz_cell hq) ?_ ?_
    · exact cell_cells (fz_b1 (b1 := B1) (b2 := B2))
    · exact cell_cells (fz_b2 (b1 := B1) (b2 := B2))
  rw [← hwg]; refine worker_way F (fv := fnq N) (gi := gs i) (a := a i) rfl heW hn h5 (by omega) (by omega) (fun c _ => by rw [ek]; exact hans i c) (fun γ w h => by rw [ek, hA]; exact h.1) fR (fun x5 x6 l γ1 w1 h1 K => ?_) f0
  obtain ⟨b1, b2, b3, b4, b5, b6, b7⟩ := h1; have hWR : WR mW ((fzWorld v B1 B2).on w1.tape w1.drawn) w1 := by
    refine ⟨fun r s t hr hs => ?_, fun r t hr => ?_, b2.2.1.trans hw.os, rfl, rfl⟩
    · rcases split hr with h1 | ⟨h1, h2⟩ | ⟨h1, h2⟩ <;> rcases split hs with h3 | ⟨h3, h4⟩ | ⟨h3, h4⟩
      · exact hw.inj r s t h1 h3
      · exact absurd (hvs _ _ h1).2 (by omega)
      · exact absurd (hvs _ _ h1).2 (by omega)
      · exact absurd (hvs _ _ h3).2 (by omega)
      · omega
      · omega
      · exact absurd (hvs _ _ h3).2 (by omega)
      · omega
      · omega
    · rcases split hr with h1 | ⟨h1, h2⟩ | ⟨h1, h2⟩
      · obtain ⟨o, q, d1, d2, d3⟩ := hw.dom r t h1
        refine ⟨fzObj o, q, ?_, ((b3 t (hvs _ _ h1).2 (hsh _ _ h1)).2).trans d2, d3.fz.mono le⟩; show (fzWorld v B1 B2).heap[r]? = _
        rw [fz_old (hvs _ _ h1).1]; have d1' : v.heap[r]? = some o := d1
        rw [d1']; rfl
      · subst h1 h2
        refine ⟨_, _, fz_b1, b6, ObjR.fz (o := B1) (.cells (Fz.refl _) ⟨rfl, fun i h1 h2 => ?_⟩)⟩
        obtain rfl : i = 0 := by simp at h1; exact h1
        exact .slice gl gc ⟨le.sub _ _ hga.1, hga.2.1, hga.2.2.1, hga.2.2.2⟩
      · subst h1 h2
        refine ⟨_, _, fz_b2, b7, ObjR.fz (o := B2) (.cells (Fz.refl _) ⟨rfl, fun i h1 h2 => ?_⟩)⟩
        obtain rfl : i = 0 := by simp at h1; exact h1
        exact .int _ _
  have hI : InvW (p.j0 + i + 1) mW (fzWorld v B1 B2) γ1 := by
    intro r t hr; left
    rcases split hr with h1 | ⟨h1, h2⟩ | ⟨h1, h2⟩
    · obtain ⟨o, q, d1, d2, d3⟩ := hw.dom r t h1
      have d1' : v.heap[r]? = some o := d1
      exact ⟨fz_froz (o := o) (by rw [fz_old (hvs _ _ h1).1, d1']; rfl) d3.borne, (b3 t (hvs _ _ h1).2 (hsh _ _ h1)).1⟩
    · subst h1 h2
      exact ⟨fz_froz (o := B1) fz_b1 (.inl ⟨_, _, _, rfl⟩), b4⟩
    · subst h1 h2
      exact ⟨fz_froz (o := B2) fz_b2 (.inl ⟨_, _, _, rfl⟩), b5⟩
  have hfr : FR Try.prog spec mW (Frame.enter Tw.prog 70 #[.int .i64 (gs i), ptr v.heap.size, ptr (v.heap.size + 1)] .normal) (Frame.enter Try.prog 70 #[.int .i64 (gs i), ptr N, ptr (N + 1)] .normal) := by
    refine FR.enter (m := mW) (F := Tw.prog.funcs) (P := Try.prog) B hgd hsQ ⟨rfl, fun j h1 h2 => ?_⟩
    obtain rfl | rfl | rfl : j = 0 ∨ j = 1 ∨ j = 2 := by simp at h1; omega
    · exact .int _ _
    · exact ptr_vr mN
    · exact ptr_vr mN1
  exact call_way (P := Try.prog) (F0 := Tw.prog.funcs) (spec := spec) (good := m.good) (R := fun e _ => e = .returned (a i).val) (p := p) B (fun _ h => (by cases h)) (fun x w _ h => (by cases h)) (a := a i) (fun x w h => by injection h) F (by omega)
    (fun {n f' f fs' fs v} hgn he hfs hne => no_ask (hgn ▸ B) hsA he hfs hne) (fun γ w h => ⟨h.1.ph, h.1.st⟩) fR fG
    (c := wrF Try.prog p.wg (N + 2) gb (N + 4) ib x5 x6 (fnq N) (.int .i64 (gs i)) undef undef (4 :: l)) (e0 := [botF Try.prog]) (fun γ w h => K γ w h) hE (fs' := []) (fs := []) (m := mW) rfl rfl hfr .nil hWR hI ⟨b1, b2, b3, b4, b5, b6, b7⟩
end
end Go.Proofs.Ytjklkppncmhehaa.Sr
