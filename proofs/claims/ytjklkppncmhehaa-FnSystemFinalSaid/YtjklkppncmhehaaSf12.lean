/-
What is proved: the starter's steps, as the system sees them. Conditions: those that each theorem states. the ways of a worker over steps that the kernel has reckoned ('WP.mute', 'WP.said', 'WP.vis', 'WP.quits'). Conditions: those that each theorem states. a worker that has stored its answer makes its way ('done_way'). Conditions: those that the theorem states. a worker of ask that has stored its answer makes its way ('done_prog'). Conditions: those that the theorem states. the orders in which a region's operations are taken ('schedule_ord'). No condition.
-/
import Derived.Test.YtjklkppncmhehaaSf11
import Derived.Test.YtjklkppncmhehaaSf05
import Derived.Test.YtjklkppncmhehaaSf07
import Derived.Test.YtjklkppncmhehaaProg
import Derived.Orders
set_option linter.unusedVariables false
set_option linter.unusedSimpArgs false
namespace Go.Proofs.Ytjklkppncmhehaa.Sr
open Go Go.Conc Go.ConcN
section
variable {γ : Gh} {w w1 : World} {t : Trace} {j k : Nat} {p : Ph} {fn : FuncId} {pos : String} {es : Array Event}
theorem M_own (h : JJ γ w t j) (hso : SameOs w w1) (hs : w.heap.size ≤ w1.heap.size) (hh : ∀ b, b < w.heap.size → (∃ k, γ.ow k b ∨ γ.ro k b) ∨ γ.sh b ∨ (∃ p, γ.ph = some p ∧ b = p.A) → w1.heap[b]? = w.heap[b]?) (hes : ∀ e ∈ es, OkM γ j w1.heap.size e) :
    JJ γ w1 (t ++ MemOp.ofEvents 0 fn pos es) j ∧ ∀ k', k' ≠ 0 → RR k' γ w γ w1 := by
  refine ⟨⟨h.tj.main h.ba hs hes, h.ba, h.j, fun i b x => Nat.lt_of_lt_of_le (h.owlt i b x) hs, fun i b x => Nat.lt_of_lt_of_le (h.rolt i b x) hs, fun b x => Nat.lt_of_lt_of_le (h.shlt b x) hs, h.none, h.out, fun p hp => ?_⟩, fun k' hk' => ?_⟩
  · have x := h.phase p hp
    obtain ⟨l1, l2, l3⟩ := h.lt hp; obtain ⟨cs, a1, a2, a3⟩ := x.arr; exact ⟨x.j0, x.jn, x.n5, x.sh, Nat.lt_of_lt_of_le l2 hs, (hh _ l1 (.inr (.inl x.sh))).trans x.wg, x.reg, x.la, x.rel, cs, (hh _ l2 (.inr (.inr ⟨p, hp, rfl⟩))).trans a1, a2, a3⟩
  · unfold RR
    rw [if_neg hk']; refine ⟨hs, hso, .rfl, fun _ => ⟨rfl, fun _ => .rfl, fun _ => .rfl, rfl, .rfl, .rfl, fun b hb => hh b (hb.elim (h.owlt _ _) (h.rolt _ _)) (.inl ⟨k', hb⟩), fun a ha => ?_⟩⟩
    obtain ⟨q, hq, _, hA, _⟩ := ha; exact cell_of (by rw [hA]; exact hh _ (h.lt hq).2.1 (.inr (.inr ⟨q, hq, rfl⟩)))
theorem M_quiet (h : JJ γ w t j) (hes : ∀ e ∈ es, OkM γ j w.heap.size e) : JJ γ w (t ++ MemOp.ofEvents 0 fn pos es) j ∧ ∀ k', k' ≠ 0 → RR k' γ w γ w :=
  M_own h ⟨rfl, rfl, rfl⟩ (Nat.le_refl _) (fun _ _ _ => rfl) hes
theorem M_add (h : JJ γ w t j) (hp : γ.ph = some p) (hop : γ.wm = .op) (he : γ.extra = 0) (hn : j - p.j0 < p.n) (hso : SameOs w w1) (hs : w1.heap.size = w.heap.size) (hh : ∀ b, b ≠ p.wg → w1.heap[b]? = w.heap[b]?)
    (hw : w1.heap[p.wg]? = some (wgObj p.eW (((γ.v p + 1 : Nat) : Int) * KK2) 0)) (hes : ∀ e ∈ es, OkM γ j w.heap.size e) :
    JJ { γ with extra := 1 } w1 (t ++ MemOp.ofEvents 0 fn pos es) j ∧ ∀ k', k' ≠ 0 → RR k' γ w { γ with extra := 1 } w1 := by
  have x := h.phase p hp; obtain ⟨l1, l2, l3⟩ := h.lt hp; obtain ⟨cs, a1, a2, a3⟩ := x.arr; have ev : Gh.v { γ with extra := 1 } p = γ.v p + 1 := by unfold Gh.v; simp only [he]
  have tj := h.tj.main (fn := fn) (pos := pos) h.ba (Nat.le_refl _) hes; refine ⟨⟨hs ▸ ⟨tj.ct, tj.low, tj.over, tj.rel, tj.norel, tj.old⟩, ⟨h.ba.ow, h.ba.owRo, h.ba.owSh, h.ba.roSh, h.ba.A⟩, h.j, hs ▸ h.owlt, hs ▸ h.rolt, hs ▸ h.shlt, h.none, h.out, fun p' hp' => ?_⟩, fun k' hk' => ?_⟩
  · have e : γ.ph = some p' := hp'
    rw [hp] at e; cases e; refine ⟨x.j0, by show γ.j - p.j0 + 1 ≤ p.n; rw [h.j]; omega, x.n5, x.sh, hs ▸ l2, ?_, fun e => ?_, fun i e => ?_, fun e => ?_, cs, (hh _ (Ne.symm l3)).trans a1, a2, a3⟩
    · show w1.heap[p.wg]? = some (wgObj p.eW (stOf γ.wm (Gh.v { γ with extra := 1 } p)) (smOf γ.wm))
      rw [hw, ev, hop]; rfl
    · have e' : γ.wm = .reg := e
      rw [hop] at e'; cases e'
    · have e' : γ.wm = .la i ∨ γ.wm = .lb i := e
      rw [hop] at e'; rcases e' with e' | e' <;> cases e'
    · have e' : γ.wm = .rel := e
      rw [hop] at e'; cases e'
  · unfold RR
    rw [if_neg hk']; refine ⟨Nat.le_of_eq hs.symm, hso, .rfl, fun _ => ⟨rfl, fun _ => .rfl, fun _ => .rfl, rfl, .rfl, .rfl, fun b hb => hh b ?_, fun a ha => cell_of (hh _ ?_)⟩⟩
    · rintro rfl
      exact hb.elim (fun y => h.ba.owSh _ _ y x.sh) (fun y => h.ba.roSh _ _ y x.sh)
    · obtain ⟨q, hq, _, hA, _⟩ := ha
      rw [hp] at hq; cases hq; rw [hA]; exact Ne.symm l3
def Gh.spawn (γ : Gh) (p : Ph) (B : Nat) : Gh :=
  { γ with extra := 0, j := γ.j + 1, st := fun i => if i = γ.j + 1 then .busy else γ.st i, ro := fun i b => (i = γ.j + 1 ∧ b < B ∧ (∀ k, ¬ γ.ow k b) ∧ ¬ γ.sh b ∧ b ≠ p.A) ∨ γ.ro i b }
theorem M_spawn (h : JJ γ w t j) (hp : γ.ph = some p) (hop : γ.wm = .op) (he : γ.extra = 1) (hd : Deaf t 0 = 0) {x y : MemOp} (hx : x.g = 0 ∧ x.act = .go (j + 1)) (hy : y.g = j + 1 ∧ y.act = .start) :
    JJ (γ.spawn p w.heap.size) w (t ++ #[x, y]) (j + 1) ∧ ∀ k', k' ≠ 0 → k' ≤ j → RR k' γ w (γ.spawn p w.heap.size) w := by
  have x' := h.phase p hp; obtain ⟨l1, l2, l3⟩ := h.lt hp; obtain ⟨cs, a1, a2, a3⟩ := x'.arr; have ej := h.j; have hba : BA (γ.spawn p w.heap.size) := by
    refine ⟨h.ba.ow, ?_, h.ba.owSh, ?_, fun p' hp' => ⟨fun i => ⟨((h.ba.A p' hp').1 i).1, ?_⟩, (h.ba.A p' hp').2⟩⟩
    · rintro i i' b h1 (⟨_, _, h2, _⟩ | h2)
      · exact h2 i h1
      · exact h.ba.owRo _ _ _ h1 h2
    · rintro i b (⟨_, _, _, h2, _⟩ | h2)
      · exact h2
      · exact h.ba.roSh _ _ h2
    · have e : γ.ph = some p' := hp'
      rw [hp] at e; cases e; rintro (⟨_, _, _, _, h2⟩ | h2)
      · exact h2 rfl
      · exact ((h.ba.A p hp).1 i).2 h2
  have tj : TJ (γ.spawn p w.heap.size) w.heap.size t j := by
    refine h.tj.same rfl (fun i i1 ij => ⟨fun l => .rfl, fun l => ⟨?_, fun ⟨b, hb, hr⟩ => ⟨b, hb, .inr hr⟩⟩⟩) (fun i hi => if_neg (by omega)) (fun p' hp' => ⟨p', hp', rfl, rfl⟩) (fun p' hp' => ⟨p', hp', rfl, rfl⟩)
    rintro ⟨b, hb, ⟨h2, _⟩ | hr⟩
    · omega
    · exact ⟨b, hb, hr⟩
  have ec : cnt (γ.spawn p w.heap.size).st p.j0 (γ.j - p.j0) = cnt γ.st p.j0 (γ.j - p.j0) := cnt_congr fun i i1 i2 => by
    have hj0 := x'.j0; show (if i = γ.j + 1 then WSt.busy else γ.st i) = .off ↔ _
    rw [if_neg (by omega)]
  have ev : (γ.spawn p w.heap.size).v p = γ.v p := by
    have hj0 := x'.j0; unfold Gh.v; have e1 : (γ.spawn p w.heap.size).j - p.j0 = (γ.j - p.j0) + 1 := by show γ.j + 1 - p.j0 = _; omega
    rw [e1]; simp only [cnt]; rw [ec]; have e2 : (γ.spawn p w.heap.size).st (p.j0 + (γ.j - p.j0) + 1) = .busy := if_pos (by omega)
    rw [e2, he]; rfl
  refine ⟨⟨tj.fork hba hd hp (by have := x'.j0; omega) (if_pos (by rw [ej])) hx hy, hba, by show γ.j + 1 = _; rw [ej], h.owlt, ?_, h.shlt, fun e => ?_, fun p' hp' i hi => ?_, fun p' hp' => ?_⟩, fun k' hk' kj' => ?_⟩
  · rintro i b (⟨_, h2, _⟩ | h2)
    · exact h2
    · exact h.rolt _ _ h2
  · have : γ.ph = none := e
    rw [hp] at this; cases this
  · have e : γ.ph = some p' := hp'
    rw [hp] at e; cases e; have hi' : i ≤ p.j0 ∨ γ.j + 1 < i := hi
    have hj0 := x'.j0; obtain ⟨h1, h2⟩ := h.out p hp i (by omega)
    have hne : i ≠ γ.j + 1 := by omega
    refine ⟨(if_neg hne).trans h1, fun b => ⟨(h2 b).1, ?_⟩⟩
    rintro (⟨h3, _⟩ | h3)
    · exact hne h3
    · exact (h2 b).2 h3
  · have e : γ.ph = some p' := hp'
    rw [hp] at e; cases e; have hj0 := x'.j0; have hjn := x'.jn; refine ⟨by show p.j0 ≤ γ.j + 1; omega, by show γ.j + 1 - p.j0 + 0 ≤ p.n; omega, x'.n5, x'.sh, l2, by rw [ev]; exact x'.wg, fun e => ?_, fun i e => ?_, fun e => ?_, cs, a1, a2, fun i i1 i2 i3 c hc => ?_⟩
    · have e' : γ.wm = .reg := e
      rw [hop] at e'; cases e'
    · have e' : γ.wm = .la i ∨ γ.wm = .lb i := e
      rw [hop] at e'; rcases e' with e' | e' <;> cases e'
    · have e' : γ.wm = .rel := e
      rw [hop] at e'; cases e'
    · have i3' : (if i = γ.j + 1 then WSt.busy else γ.st i) ≠ .busy := i3
      by_cases hi : i = γ.j + 1
      · rw [if_pos hi] at i3'; exact absurd rfl i3'
      · rw [if_neg hi] at i3'
        have i2' : i ≤ γ.j + 1 := i2
        exact a3 i i1 (by omega) i3' c hc
  · unfold RR
    rw [if_neg hk']; have hne : k' ≠ γ.j + 1 := by omega
    have e1 : (γ.spawn p w.heap.size).st k' = γ.st k' := if_neg hne
    refine ⟨Nat.le_refl _, ⟨rfl, rfl, rfl⟩, ?_, fun _ => ⟨e1, fun _ => .rfl, fun b => ⟨?_, .inr⟩, rfl, .rfl, .rfl, fun _ _ => rfl, fun _ _ => rfl⟩⟩
    · unfold Gh.Gone
      rw [e1]; exact .rfl
    · rintro (⟨h2, _⟩ | h2)
      · exact absurd h2 hne
      · exact h2
theorem M_cas (h : JJ γ w t j) (hp : γ.ph = some p) (hop : γ.wm = .op) (he : γ.extra = 0) (hv : 0 < γ.v p) (hso : SameOs w w1) (hs : w1.heap.size = w.heap.size) (hh : ∀ b, b ≠ p.wg → w1.heap[b]? = w.heap[b]?)
    (hw : w1.heap[p.wg]? = some (wgObj p.eW ((γ.v p : Int) * KK2 + 1) 0)) (hes : ∀ e ∈ es, OkM γ j w.heap.size e) :
    JJ (γ.wgo γ.st .reg) w1 (t ++ MemOp.ofEvents 0 fn pos es) j ∧ ∀ k', k' ≠ 0 → RR k' γ w (γ.wgo γ.st .reg) w1 := by
  have x := h.phase p hp; refine ⟨wg_inv h hp hs hh ?_ (fun i hi => rfl) ⟨hw, fun _ => ⟨he, hv⟩, fun i e => (by rcases e with e | e <;> cases e), nofun⟩ fun _ => id, wg_guar hp x.sh h.ba hs hso hh (fun i hi => rfl) (fun i hi _ => by rw [hop]; simp) fun e => absurd rfl e⟩
  exact ((hs ▸ h.tj.main h.ba (Nat.le_refl _) hes : TJ γ w1.heap.size _ j)).wgo fun _ => id
theorem M_sem (h : JJ γ w t j) (hp : γ.ph = some p) (hop : γ.wm = .rel) (hso : SameOs w w1) (hs : w1.heap.size = w.heap.size) (hh : ∀ b, b ≠ p.wg → w1.heap[b]? = w.heap[b]?)
    (hw : w1.heap[p.wg]? = some (wgObj p.eW 0 0)) (hes : ∀ e ∈ es, OkM γ j w.heap.size e) :
    γ.v p = 0 ∧ JJ (γ.wgo γ.st .op) w1 (t ++ MemOp.ofEvents 0 fn pos es) j ∧ ∀ k', k' ≠ 0 → RR k' γ w (γ.wgo γ.st .op) w1 := by
  have x := h.phase p hp; have hv := x.rel hop; have hv' : (γ.wgo γ.st .op).v p = 0 := hv
  refine ⟨hv, wg_inv h hp hs hh ?_ (fun i hi => rfl) ⟨?_, nofun, fun i e => (by rcases e with e | e <;> cases e), nofun⟩ fun _ => id, wg_guar hp x.sh h.ba hs hso hh (fun i hi => rfl) (fun i hi _ => by rw [hop]; simp) fun e => absurd rfl e⟩
  · exact ((hs ▸ h.tj.main h.ba (Nat.le_refl _) hes : TJ γ w1.heap.size _ j)).wgo fun _ => id
  · rw [hw, hv']
    show some (wgObj p.eW 0 0) = some (wgObj p.eW (((0 : Nat) : Int) * KK2) 0)
    rw [Int.natCast_zero, Int.zero_mul]
def Gh.idle (γ : Gh) : Gh := { γ with ow := fun _ _ => False, ro := fun _ _ => False, ph := none, st := fun _ => .off, wm := .op, extra := 0 }
theorem all_off (h : JJ γ w t j) (hp : γ.ph = some p) (hv : γ.v p = 0) (k : Nat) : γ.st k = .off := by
  have x := h.phase p hp; have hj0 := x.j0; by_cases hk : k ≤ p.j0 ∨ γ.j < k
  · exact (h.out p hp k hk).1
  · unfold Gh.v at hv
    exact cnt_zero (j0 := p.j0) (m := γ.j - p.j0) (by omega) k (by omega) (by omega)
theorem M_join (h : JJ γ w t j) (hp : γ.ph = some p) (hop : γ.wm = .op) (hv : γ.v p = 0) (hd : Deaf t 0 = 0) :
    JJ γ.idle w (t ++ MemOp.ofEvents 0 fn pos #[⟨.mark (.acquire ⟨p.wg, 0, none⟩), false, true⟩]) j ∧ (∀ k', k' ≠ 0 → RR k' γ w γ.idle w) ∧
      ∃ cs, w.heap[p.A]? = some (.cells cs p.eA) ∧ cs.size = 5 * p.n ∧ ∀ i c, i < j - p.j0 → c < 5 → cs[5 * i + c]? = some (p.ans i c) := by
  have x := h.phase p hp; obtain ⟨l1, l2, l3⟩ := h.lt hp; have off := all_off h hp hv; obtain ⟨cs, a1, a2, a3⟩ := x.arr; have tj := h.tj.join (fn := fn) (pos := pos) h.ba hp (fun k _ _ e => by rw [off k] at e; cases e) hd l1 (fun _ => .off) .op
  refine ⟨⟨⟨tj.ct, tj.low, tj.over, tj.rel, tj.norel, tj.old⟩, ⟨fun _ _ _ e => e.elim, fun _ _ _ e => e.elim, fun _ _ e => e.elim, fun _ _ e => e.elim, nofun⟩, h.j, fun _ _ e => e.elim, fun _ _ e => e.elim, h.shlt, fun _ => ⟨fun _ _ => ⟨id, id⟩, fun _ => rfl, rfl⟩, nofun, nofun⟩, fun k' hk' => ?_, cs, a1, a2, fun i c hi hc => ?_⟩
  · unfold RR
    rw [if_neg hk']; have hg : γ.Gone k' := ⟨off k', by rw [hop]; nofun, by rw [hop]; nofun⟩
    have hg' : γ.idle.Gone k' := ⟨rfl, nofun, nofun⟩
    exact ⟨Nat.le_refl _, ⟨rfl, rfl, rfl⟩, ⟨fun _ => hg', fun _ => hg⟩, fun hn => absurd hg hn⟩
  · have ej := h.j
    have := a3 (p.j0 + 1 + i) (by omega) (by omega) (by rw [off]; nofun) c hc
    have e1 : p.j0 + 1 + i - p.j0 - 1 = i := by omega
    rwa [e1] at this
def Gh.begin (γ : Gh) (p : Ph) : Gh := { γ with sh := fun b => γ.sh b ∨ b = p.wg, ph := some p, extra := 0 }
theorem M_open (h : JJ γ w t j) (hn : γ.ph = none) (hj : p.j0 = j) (hw : p.wg = w.heap.size) (n5 : p.n ≤ 5) (hA : p.A < w.heap.size) (hAs : ¬ γ.sh p.A) {cs : Array Value} (hcs : w.heap[p.A]? = some (.cells cs p.eA)) (hsz : cs.size = 5 * p.n)
    (hso : SameOs w w1) (h1 : w1.heap = w.heap.push (wgObj p.eW 0 0)) : JJ (γ.begin p) w1 t j ∧ ∀ k', k' ≠ 0 → RR k' γ w (γ.begin p) w1 := by
  obtain ⟨n1, n2, n3⟩ := h.none hn; have hs : w.heap.size ≤ w1.heap.size := by rw [h1]; simp
  have hh : ∀ b, b < w.heap.size → w1.heap[b]? = w.heap[b]? := fun b hb => by rw [h1, Array.getElem?_push, if_neg (by omega)]
  have tj := h.tj.open (B' := w1.heap.size) hs hn n1 p hj (by omega) γ.st γ.wm
  refine ⟨⟨⟨tj.ct, tj.low, tj.over, tj.rel, tj.norel, tj.old⟩, ⟨h.ba.ow, h.ba.owRo, fun i b e => absurd e (n1 i b).1, fun i b e => absurd e (n1 i b).2, fun p' hp' => ?_⟩, h.j, fun i b e => absurd e (n1 i b).1, fun i b e => absurd e (n1 i b).2, fun b e => ?_, nofun, fun p' hp' i _ => ⟨n2 i, n1 i⟩, fun p' hp' => ?_⟩, fun k' hk' => ?_⟩
  · cases hp'
    refine ⟨fun i => n1 i _, ?_⟩
    rintro (e | e)
    · exact hAs e
    · omega
  · rcases e with e | e
    · exact Nat.lt_of_lt_of_le (h.shlt b e) hs
    · rw [e, hw, h1]; simp
  · cases hp'
    have ev : (γ.begin p).v p = 0 := by
      unfold Gh.v Gh.begin; simp only
      have e1 : γ.j - p.j0 = 0 := by rw [h.j]; omega
      rw [e1]; rfl
    have ej := h.j; refine ⟨by show p.j0 ≤ γ.j; omega, by show γ.j - p.j0 + 0 ≤ p.n; omega, n5, .inr rfl, by omega, ?_, fun e => ?_, fun i e => ?_, fun _ => ev, cs, (hh _ hA).trans hcs, hsz, fun i i1 i2 i3 => ?_⟩
    · rw [ev]
      show _ = some (wgObj p.eW (stOf γ.wm 0) (smOf γ.wm))
      rw [n3, h1, hw]; show _ = some (wgObj p.eW (((0 : Nat) : Int) * KK2) 0)
      rw [Int.natCast_zero, Int.zero_mul]; simp
    · have e' : γ.wm = .reg := e
      rw [n3] at e'; cases e'
    · have e' : γ.wm = .la i ∨ γ.wm = .lb i := e
      rw [n3] at e'; rcases e' with e' | e' <;> cases e'
    · have i2' : i ≤ γ.j := i2
      omega
  · unfold RR
    rw [if_neg hk']; have hg : γ.Gone k' := ⟨n2 k', by rw [n3]; nofun, by rw [n3]; nofun⟩
    exact ⟨hs, hso, .rfl, fun hn => absurd hg hn⟩
end
end Go.Proofs.Ytjklkppncmhehaa.Sr
namespace Go.Proofs.Ytjklkppncmhehaa.Sr
open Go Go.Conc Go.ConcN
theorem quits_sound {P : Program} : ∀ {n d : Nat} {g : Goroutine}, quits P n d g = true → QuitsD P n d g
  | 0, d, g, h => by simpa [quits, QuitsD] using h
  | n + 1, d, g, h => by
    simp only [quits, Bool.or_eq_true] at h; rcases h with h | h
    · left; simpa using h
    · cases hq : qst P g with
      | none => rw [hq] at h; cases h
      | some y =>
        obtain ⟨g', es⟩ := y; rw [hq] at h; simp only [Bool.and_eq_true] at h; obtain ⟨h1, h2⟩ := qstep_sound hq; exact .inr ⟨h1, g', es, fun e he => Array.all_eq_true_iff_forall_mem.1 h.1 e he, fun w => h2 false w, quits_sound h.2⟩
section
variable {P : Program} {Γ : Type} {S : Sys P Γ} {k d : Nat} {γ : Γ} {w : World} {g : Goroutine}
theorem WP.mute : ∀ {n : Nat} {g : Goroutine} {γ : Γ} {w : World}, mute P n g = true → (∀ γ' w', S.R k γ w γ' w' → ¬ S.Gone γ' k) → (∀ γ' w', S.R k γ w γ' w' → WP S k d γ' w' (adv P n g)) → WP S k d γ w g
  | 0, g, γ, w, _, _, h => h γ w (S.refl _ _ _)
  | n + 1, g, γ, w, hm, hg, h => by
    obtain ⟨g', hs, hst, hm', ha⟩ := mute_step hm; rw [ha] at h; refine .mk hs hg fun γ' w' t j hR hJ hd kj => ⟨⟨g', w', #[], γ'⟩, ⟨hst false w', by rw [oEn, Array.append_empty]; exact hJ, fun k' _ => S.refl _ _ _⟩, fun a b => absurd a b, ?_⟩
    exact WP.mute hm' (fun a b x => hg a b (S.trans hR x)) fun a b x => h a b (S.trans hR x)
theorem MP.mute {Q : Γ → World → Trace → Nat → Outcome → World → Prop} : ∀ {n : Nat} {g : Goroutine} {γ : Γ} {w : World}, mute P (n + 1) g = true → (∀ γ' w', S.R 0 γ w γ' w' → ∃ b, MP S Q b d γ' w' (adv P (n + 1) g)) → MP S Q false d γ w g := by
  intro n; induction n with
  | zero =>
    intro g γ w hm h; obtain ⟨g', hs, hst, hm', ha⟩ := mute_step hm; rw [ha] at h; refine .go hs fun γ' w' t j hR hJ hd => ?_; obtain ⟨b, hb⟩ := h γ' w' hR; exact ⟨⟨g', w', #[], γ'⟩, b, ⟨hst true w', by rw [oEn, Array.append_empty]; exact hJ, fun k' _ => S.refl _ _ _⟩, hb⟩
  | succ n ih =>
    intro g γ w hm h; obtain ⟨g', hs, hst, hm', ha⟩ := mute_step hm; rw [ha] at h; exact .go hs fun γ' w' t j hR hJ hd => ⟨⟨g', w', #[], γ'⟩, false, ⟨hst true w', by rw [oEn, Array.append_empty]; exact hJ, fun k' _ => S.refl _ _ _⟩, ih hm' fun a b x => h a b (S.trans hR x)⟩
end
section
variable {P : Program} {k d : Nat} {γ : Gh} {w : World} {g : Goroutine}
theorem WP.said {g' : Goroutine} {es : Array Event} (h : qst P g = some (g', es)) (hg : ∀ γ' w', RR k γ w γ' w' → ¬ γ'.Gone k)
    (hj : ∀ γ' w' t j, RR k γ w γ' w' → JJ γ' w' t j → Deaf t k = d → k ≤ j → ∃ γ1, JJ γ1 w' (t ++ MemOp.ofEvents k g.frame.fn g.frame.place es) j ∧ (∀ k', k' ≠ k → RR k' γ' w' γ1 w') ∧ (γ1.wm = .rel → γ'.wm = .rel) ∧ WP (sys P) k (deafBehind d es) γ1 w' g') : WP (sys P) k d γ w g := by
  obtain ⟨h1, h2⟩ := qstep_sound h; refine .mk h1 hg fun γ' w' t j hR hJ hd kj => ?_; obtain ⟨γ1, c1, c2, c3, c4⟩ := hj γ' w' t j hR hJ hd kj; exact ⟨⟨g', w', es, γ1⟩, ⟨h2 false w', c1, c2⟩, fun a b => absurd (fun e => a (c3 e)) b, c4⟩
theorem WP.vis (hs : g.status = .running) (hg : ∀ γ' w', RR k γ w γ' w' → ¬ γ'.Gone k)
    (hj : ∀ γ' w' t j, RR k γ w γ' w' → JJ γ' w' t j → Deaf t k = d → k ≤ j → ∃ v sh y γ1, vst P v sh g = some y ∧ (∀ a ∈ y.ls, w'.cell? a = some v ∧ w'.frozen? a = false) ∧ (∀ r ∈ y.rs, w'.shape? r = sh) ∧
      JJ γ1 (putSto w' y.sto) (t ++ MemOp.ofEvents k g.frame.fn g.frame.place y.es) j ∧ (∀ k', k' ≠ k → RR k' γ' w' γ1 (putSto w' y.sto)) ∧ (γ'.wm ≠ .rel → γ1.wm = .rel → mayWake P g = true ∧ y.x.status = .running) ∧ WP (sys P) k (deafBehind d y.es) γ1 (putSto w' y.sto) y.x) : WP (sys P) k d γ w g := by
  refine .mk hs hg fun γ' w' t j hR hJ hd kj => ?_; obtain ⟨v, sh, y, γ1, c0, c1, c2, c3, c4, c5, c6⟩ := hj γ' w' t j hR hJ hd kj; exact ⟨⟨y.x, putSto w' y.sto, y.es, γ1⟩, ⟨(vS c0).2 false w' c1 c2, c3, c4⟩, fun a b => c5 a (Classical.not_not.1 b), c6⟩
end
end Go.Proofs.Ytjklkppncmhehaa.Sr
namespace Go.Proofs.Ytjklkppncmhehaa.Sr
open Go Go.Conc Go.ConcN
section
variable {k : Nat} {γ γ' : Gh} {w w' : World} {p : Ph}
theorem rw_of (hk : 1 ≤ k) (h : RR k γ w γ' w') : RW k γ w γ' w' := by
  unfold RR at h; rwa [if_neg (by omega)] at h
/-- What a worker that is not gone keeps. -/
structure Kp (k : Nat) (γ γ' : Gh) : Prop where
  st : γ'.st k = γ.st k
  ph : γ'.ph = γ.ph
  la : γ'.wm = .la k ↔ γ.wm = .la k
  lb : γ'.wm = .lb k ↔ γ.wm = .lb k
theorem kp_of (hk : 1 ≤ k) (h : RR k γ w γ' w') (hg : ¬ γ.Gone k) : Kp k γ γ' :=
  let ⟨a, _, _, b, c, d, _, _⟩ := (rw_of hk h).live hg; ⟨a, b, c, d⟩
theorem gNt (hk : 1 ≤ k) (hg : ¬ γ.Gone k) : ∀ γ' w', RR k γ w γ' w' → ¬ γ'.Gone k := fun _ _ h x => hg ((rw_of hk h).gone.2 x)
theorem bLv {s : WSt} (h : γ.st k = s) (hs : s ≠ .off) : ¬ γ.Gone k := fun x => hs (h ▸ x.1)
theorem la_live (h : γ.wm = .la k) : ¬ γ.Gone k := fun x => x.2.1 h
theorem lb_live (h : γ.wm = .lb k) : ¬ γ.Gone k := fun x => x.2.2 h
theorem wg_cell0 {wg : Nat} {e : TypeId} {st sm : Int} (h : w.heap[wg]? = some (wgObj e st sm)) : w.cell? ⟨wg, 0, none⟩ = some (.int .u64 st) ∧ w.frozen? ⟨wg, 0, none⟩ = false := by
  unfold World.cell? World.frozen?; simp only [h, wgObj]; exact ⟨rfl, by simp⟩
theorem wg_cell1 {wg : Nat} {e : TypeId} {st sm : Int} (h : w.heap[wg]? = some (wgObj e st sm)) : w.cell? ⟨wg, 1, none⟩ = some (.int .u32 sm) ∧ w.frozen? ⟨wg, 1, none⟩ = false := by
  unfold World.cell? World.frozen?; simp only [h, wgObj]; exact ⟨rfl, by simp⟩
theorem wg_shape {wg : Nat} {e : TypeId} {st sm : Int} (h : w.heap[wg]? = some (wgObj e st sm)) : w.shape? wg = some (e, 2) := by
  unfold World.shape?; simp only [h, wgObj]; rfl
theorem wg_set0 {wg : Nat} {e : TypeId} {st sm : Int} (h : w.heap[wg]? = some (wgObj e st sm)) (s : Int) : (w.setCell ⟨wg, 0, none⟩ (.int .u64 s)).heap[wg]? = some (wgObj e s sm) := by
  unfold World.setCell; simp only [Array.getElem?_modify, if_true, h, Option.map_some, wgObj]; rfl
theorem wg_set1 {wg : Nat} {e : TypeId} {st sm : Int} (h : w.heap[wg]? = some (wgObj e st sm)) (s : Int) : (w.setCell ⟨wg, 1, none⟩ (.int .u32 s)).heap[wg]? = some (wgObj e st s) := by
  unfold World.setCell; simp only [Array.getElem?_modify, if_true, h, Option.map_some, wgObj]; rfl
theorem set_other {a : Addr} {x : Value} : ∀ b, b ≠ a.block → (w.setCell a x).heap[b]? = w.heap[b]? := fun b hb => by
  unfold World.setCell; simp only [Array.getElem?_modify]; rw [if_neg (Ne.symm hb)]
theorem set_o {wg o : Nat} {x : Value} : ∀ b, b ≠ wg → (w.setCell ⟨wg, o, none⟩ x).heap[b]? = w.heap[b]? := fun b hb => set_other b hb
theorem set_size {a : Addr} {x : Value} : (w.setCell a x).heap.size = w.heap.size := by
  unfold World.setCell; simp
theorem okS_marks {γ : Gh} {d B : Nat} {es : Array Event} (h : ∀ e ∈ es, e.mute = true) : OkS γ d B es := fun i e hi => by
  have := mute_quiet (h e (Array.mem_of_getElem? hi)) B
  exact ⟨.inl this.1, this.2⟩
theorem okS_rd {γ : Gh} {B wg o : Nat} (hs : γ.sh wg) (hB : wg < B) : OkS γ 1 B #[rdE ⟨wg, o, none⟩] := fun i e hi => by
  have hi0 : i = 0 := by have := (Array.getElem?_eq_some_iff.1 hi).1; simp at this; omega
  subst hi0; simp at hi; subst hi
  exact ⟨.inr ⟨⟨_, _, rfl, hs⟩, by simp [deafBehind]⟩, hB, nofun⟩
theorem okS_wr {γ : Gh} {B wg o : Nat} (hs : γ.sh wg) (hB : wg < B) : OkS γ 1 B #[wrE ⟨wg, o, none⟩] := fun i e hi => by
  have hi0 : i = 0 := by have := (Array.getElem?_eq_some_iff.1 hi).1; simp at this; omega
  subst hi0; simp at hi; subst hi
  exact ⟨.inr ⟨⟨_, _, rfl, hs⟩, by simp [deafBehind]⟩, hB, nofun⟩
theorem okS_rw {γ : Gh} {B wg o : Nat} (hs : γ.sh wg) (hB : wg < B) : OkS γ 1 B #[rdE ⟨wg, o, none⟩, wrE ⟨wg, o, none⟩] := fun i e hi => by
  have hlt := (Array.getElem?_eq_some_iff.1 hi).1; simp at hlt
  obtain rfl | rfl : i = 0 ∨ i = 1 := by omega
  · simp at hi; subst hi
    exact ⟨.inr ⟨⟨_, _, rfl, hs⟩, by simp [deafBehind]⟩, hB, nofun⟩
  · simp at hi; subst hi
    exact ⟨.inr ⟨⟨_, _, rfl, hs⟩, by simp [deafBehind]⟩, hB, nofun⟩
theorem okS_sem {γ : Gh} {B wg o : Nat} (hs : γ.sh wg) (hB : wg < B) : OkS γ 1 B #[mkE .disable, rdE ⟨wg, o, none⟩, wrE ⟨wg, o, none⟩, mkE .enable] := fun i e hi => by
  have hlt := (Array.getElem?_eq_some_iff.1 hi).1; simp at hlt
  obtain rfl | rfl | rfl | rfl : i = 0 ∨ i = 1 ∨ i = 2 ∨ i = 3 := by omega
  · simp at hi; subst hi
    exact ⟨.inl rfl, trivial, nofun⟩
  · simp at hi; subst hi
    exact ⟨.inr ⟨⟨_, _, rfl, hs⟩, by simp [deafBehind]⟩, hB, nofun⟩
  · simp at hi; subst hi
    exact ⟨.inr ⟨⟨_, _, rfl, hs⟩, by simp [deafBehind]⟩, hB, nofun⟩
  · simp at hi; subst hi
    exact ⟨.inl rfl, trivial, nofun⟩
theorem mem1 {a b : Addr} (h : a ∈ [b]) : b = a := (by simpa using h : a = b).symm
theorem mem3 {a b : Nat} (h : a ∈ [b, b]) : b = a := (by simpa using h : a = b).symm
theorem mem2 {a b : Addr} (h : a ∈ [b, b]) : b = a := (by simpa using h : a = b).symm
theorem last_way {P : Program} {g7 g8 g8' g9 g9' g10 g10' : Goroutine} (m7 : mute P 103 g7 = true) (a7 : adv P 103 g7 = g8) (v8 : vst P (.int .u64 1) none g8 = some ⟨g8', #[rdE ⟨p.wg, 0, none⟩], [⟨p.wg, 0, none⟩], [], none⟩)
    (m8 : mute P 20 g8' = true) (a8 : adv P 20 g8' = g9) (v9 : vst P (.int .u64 1) none g9 = some ⟨g9', #[wrE ⟨p.wg, 0, none⟩], [⟨p.wg, 0, none⟩], [], some (⟨p.wg, 0, none⟩, .int .u64 0)⟩)
    (m9 : mute P 27 g9' = true) (a9 : adv P 27 g9' = g10) (v10 : vst P (.int .u32 0) none g10 = some ⟨g10', #[mkE .disable, rdE ⟨p.wg, 1, none⟩, wrE ⟨p.wg, 1, none⟩, mkE .enable], [⟨p.wg, 1, none⟩, ⟨p.wg, 1, none⟩], [], some (⟨p.wg, 1, none⟩, .int .u32 1)⟩)
    (mw : mayWake P g10 = true) (mr : g10'.status = .running) (mq : quits P 30 1 g10' = true) (hk : 1 ≤ k) (hl : γ.wm = .la k) (hp : γ.ph = some p) : WP (sys P) k 1 γ w g7 := by
  have lv : ∀ {γ' : Gh} {w' : World}, RR k γ w γ' w' → γ'.wm = .la k ∧ γ'.ph = some p := fun hR => by
    have kp := kp_of hk hR (la_live hl); exact ⟨kp.la.2 hl, kp.ph.trans hp⟩
  refine WP.mute (n := 103) m7 (gNt hk (la_live hl)) fun γ1 w1 h1 => ?_; rw [a7]; obtain ⟨l1, p1⟩ := lv h1; refine .vis (vS v8).1 (gNt hk (la_live l1)) fun γ2 w2 tr j h2 hJ hd kj => ?_; have kp2 := kp_of hk h2 (la_live l1); have l2 := kp2.la.2 l1; have p2 := kp2.ph.trans p1; have x2 := hJ.phase p p2; have hw2 : w2.heap[p.wg]? = some (wgObj p.eW 1 0) := by have := x2.wg; rw [l2] at this; exact this
  obtain ⟨q1, q2⟩ := W_quiet (fn := g8.frame.fn) (pos := g8.frame.place) (es := #[rdE ⟨p.wg, 0, none⟩]) hJ hk kj (by rw [hd]; exact okS_rd x2.sh (hJ.shlt _ x2.sh))
  refine ⟨_, _, _, γ2, v8, fun a ha => (mem1 ha) ▸ wg_cell0 hw2, fun r hr => (by cases hr), q1, q2, fun _ e => (by rw [l2] at e; cases e), ?_⟩
  refine WP.mute (n := 20) m8 (gNt hk (la_live l2)) fun γ3 w3 h3 => ?_; rw [a8]; have kp3 := kp_of hk h3 (la_live l2); have l3 := kp3.la.2 l2; have p3 := kp3.ph.trans p2; refine .vis (vS v9).1 (gNt hk (la_live l3)) fun γ4 w4 tr4 j4 h4 hJ4 hd4 kj4 => ?_; have kp4 := kp_of hk h4 (la_live l3); have l4 := kp4.la.2 l3; have p4 := kp4.ph.trans p3; have x4 := hJ4.phase p p4; have hw4 : w4.heap[p.wg]? = some (wgObj p.eW 1 0) := by have := x4.wg; rw [l4] at this; exact this
  have hd4' : Deaf tr4 k = 1 := hd4
  obtain ⟨r1, r2⟩ := W_clear (w1 := w4.setCell ⟨p.wg, 0, none⟩ (.int .u64 0)) (fn := g9.frame.fn) (pos := g9.frame.place) (es := #[wrE ⟨p.wg, 0, none⟩]) hJ4 p4 l4 ⟨rfl, rfl, rfl⟩ set_size set_o (wg_set0 hw4 0) (by rw [hd4']; exact okS_wr x4.sh (hJ4.shlt _ x4.sh))
  refine ⟨_, _, _, _, v9, fun a ha => (mem1 ha) ▸ wg_cell0 hw4, fun r hr => (by cases hr), r1, r2, fun _ e => (by cases e), ?_⟩
  have l5 : (γ4.wgo γ4.st (.lb k)).wm = .lb k := rfl
  refine WP.mute (n := 27) m9 (gNt hk (lb_live l5)) fun γ6 w6 h6 => ?_; rw [a9]; have kp6 := kp_of hk h6 (lb_live l5); have l6 := kp6.lb.2 l5; have p6 : γ6.ph = some p := kp6.ph.trans p4
  refine .vis (vS v10).1 (gNt hk (lb_live l6)) fun γ7 w7 tr7 j7 h7 hJ7 hd7 kj7 => ?_; have kp7 := kp_of hk h7 (lb_live l6); have l7 := kp7.lb.2 l6; have p7 := kp7.ph.trans p6; have x7 := hJ7.phase p p7; have hw7 : w7.heap[p.wg]? = some (wgObj p.eW 0 0) := by have := x7.wg; rw [l7] at this; exact this
  have hd7' : Deaf tr7 k = 1 := hd7
  obtain ⟨s1, s2⟩ := W_wake (w1 := w7.setCell ⟨p.wg, 1, none⟩ (.int .u32 1)) (fn := g10.frame.fn) (pos := g10.frame.place) (es := #[mkE .disable, rdE ⟨p.wg, 1, none⟩, wrE ⟨p.wg, 1, none⟩, mkE .enable]) hJ7 p7 l7 ⟨rfl, rfl, rfl⟩ set_size set_o (wg_set1 hw7 1) (by rw [hd7']; exact okS_sem x7.sh (hJ7.shlt _ x7.sh))
  refine ⟨_, _, _, _, v10, fun a ha => (mem2 ha) ▸ wg_cell1 hw7, fun r hr => (by cases hr), s1, s2, fun _ _ => ⟨mw, mr⟩, ?_⟩
  obtain ⟨_, _, _, c4⟩ := x7.la k (.inr l7); refine .quit 30 (quits_sound mq) fun γ8 w8 h8 => ?_; exact (rw_of hk h8).gone.1 ⟨c4, nofun, nofun⟩
theorem done_way {P : Program} {g0 g1 g2 g3 g4 g5 g6 : Goroutine} {g7 : Int → Goroutine} {eW : TypeId} (m0 : mute P 16 g0 = true) (a0 : adv P 16 g0 = g1) (v1 : vst P undef (some (eW, 2)) g1 = some ⟨g2, #[], [], [p.wg, p.wg], none⟩)
    (q2 : qst P g2 = some (g3, #[mkE (.releaseMerge ⟨p.wg, 0, none⟩)])) (m3 : mute P 3 g3 = true) (a3 : adv P 3 g3 = g4) (q4 : qst P g4 = some (g5, #[mkE .disable])) (m5 : mute P 34 g5 = true) (a5 : adv P 34 g5 = g6)
    (v6 : ∀ (v : Nat) (wm : WM), 1 ≤ v → v ≤ 5 → wm = .op ∨ wm = .reg → vst P (.int .u64 (stOf wm v)) none g6 = some ⟨g7 (stOf wm v - KK2), #[rdE ⟨p.wg, 0, none⟩, wrE ⟨p.wg, 0, none⟩], [⟨p.wg, 0, none⟩, ⟨p.wg, 0, none⟩], [], some (⟨p.wg, 0, none⟩, .int .u64 (stOf wm v - KK2))⟩)
    (q7 : ∀ (v : Nat) (wm : WM), 1 ≤ v → v ≤ 5 → wm = .op ∨ (wm = .reg ∧ v ≠ 1) → quits P 110 1 (g7 (stOf wm v - KK2)) = true) (hlast : ∀ (γ : Gh) (w : World), γ.wm = .la k → γ.ph = some p → WP (sys P) k 1 γ w (g7 (stOf .reg 1 - KK2)))
    (he : p.eW = eW) (hp : γ.ph = some p) (hk : p.j0 < k) (hb : γ.st k = .busy) (hc : ∀ c, c < 5 → w.cell? ⟨p.A, 5 * (k - p.j0 - 1) + c, none⟩ = some (p.ans (k - p.j0 - 1) c)) : WP (sys P) k 0 γ w g0 := by
  have k1 : 1 ≤ k := by omega
  have lb := bLv hb (by decide : WSt.busy ≠ .off)
  have slot : ∀ {γ γ' : Gh} {w w' : World}, γ.ph = some p → RR k γ w γ' w' → ¬ γ.Gone k → (∀ c, c < 5 → w.cell? ⟨p.A, 5 * (k - p.j0 - 1) + c, none⟩ = some (p.ans (k - p.j0 - 1) c)) → ∀ c, c < 5 → w'.cell? ⟨p.A, 5 * (k - p.j0 - 1) + c, none⟩ = some (p.ans (k - p.j0 - 1) c) := by
    intro γ γ' w w' hp hR hg h c hc; obtain ⟨_, _, _, _, _, _, _, h8⟩ := (rw_of k1 hR).live hg; rw [h8 _ ⟨p, hp, hk, rfl, by show _ ≤ 5 * (k - p.j0 - 1) + c; omega, by show 5 * (k - p.j0 - 1) + c < _; omega⟩]
    exact h c hc
  refine WP.mute (n := 16) m0 (gNt k1 lb) fun γ1 w1 h1 => ?_; rw [a0]; have kp1 := kp_of k1 h1 lb; have b1 := kp1.st.trans hb; have p1 := kp1.ph.trans hp; have c1 := slot hp h1 lb hc; have lb1 := bLv b1 (by decide : WSt.busy ≠ .off)
  refine .vis (vS v1).1 (gNt k1 lb1) fun γ2 w2 t2 j2 h2 hJ2 hd2 kj2 => ?_; have kp2 := kp_of k1 h2 lb1; have b2 := kp2.st.trans b1; have p2 := kp2.ph.trans p1; have c2 := slot p1 h2 lb1 c1; have lb2 := bLv b2 (by decide : WSt.busy ≠ .off)
  have x2 := hJ2.phase p p2; refine ⟨_, _, _, γ2, v1, fun a ha => (by cases ha), fun r hr => ?_, ?_, fun k' _ => (sys P).refl k' γ2 w2, fun e e' => absurd e' e, ?_⟩
  · have : p.wg = r := mem3 hr
    rw [← this, ← he]; exact wg_shape x2.wg
  · show JJ γ2 w2 (t2 ++ MemOp.ofEvents k g1.frame.fn g1.frame.place #[]) j2
    rw [oEn, Array.append_empty]; exact hJ2
  refine .said q2 (gNt k1 lb2) fun γ3 w3 t3 j3 h3 hJ3 hd3 kj3 => ?_; have kp3 := kp_of k1 h3 lb2; have b3 := kp3.st.trans b2; have p3 := kp3.ph.trans p2; have c3 := slot p2 h3 lb2 c2; have hd3' : Deaf t3 k = 0 := hd3
  obtain ⟨r1, r2⟩ := W_release (fn := g2.frame.fn) (pos := g2.frame.place) hJ3 p3 hk kj3 b3 hd3' c3; refine ⟨_, r1, r2, fun e => e, ?_⟩
  have b4 : ({ γ3 with st := fun i => if i = k then .said else γ3.st i } : Gh).st k = .said := if_pos rfl
  have lb4 := bLv b4 (by decide : WSt.said ≠ .off)
  refine WP.mute (n := 3) m3 (gNt k1 lb4) fun γ5 w5 h5 => ?_; rw [a3]; have kp5 := kp_of k1 h5 lb4; have b5 := kp5.st.trans b4; have p5 : γ5.ph = some p := kp5.ph.trans p3
  have lb5 := bLv b5 (by decide : WSt.said ≠ .off)
  refine .said q4 (gNt k1 lb5) fun γ6 w6 t6 j6 h6 hJ6 hd6 kj6 => ?_; have kp6 := kp_of k1 h6 lb5; have b6 := kp6.st.trans b5; have p6 := kp6.ph.trans p5; have lb6 := bLv b6 (by decide : WSt.said ≠ .off)
  obtain ⟨s1, s2⟩ := W_quiet (fn := g4.frame.fn) (pos := g4.frame.place) (es := #[mkE .disable]) hJ6 k1 kj6 (okS_marks fun e he => by simp at he; subst he; rfl)
  refine ⟨_, s1, s2, fun e => e, ?_⟩
  refine WP.mute (n := 34) m5 (gNt k1 lb6) fun γ7 w7 h7 => ?_; rw [a5]; have kp7 := kp_of k1 h7 lb6; have b7 := kp7.st.trans b6; have p7 := kp7.ph.trans p6; have lb7 := bLv b7 (by decide : WSt.said ≠ .off)
  refine .vis (vS (v6 1 .op (by omega) (by omega) (.inl rfl))).1 (gNt k1 lb7) fun γ8 w8 t8 j8 h8 hJ8 hd8 kj8 => ?_
  have kp8 := kp_of k1 h8 lb7; have b8 := kp8.st.trans b7; have p8 := kp8.ph.trans p7; have x8 := hJ8.phase p p8; have hno : γ8.st k ≠ .off := by rw [b8]; decide
  have hv := (v_off hJ8 p8 hk kj8 hno .op).1; have hop : γ8.wm = .op ∨ γ8.wm = .reg := by
    cases e : γ8.wm with
    | op => exact .inl rfl
    | reg => exact .inr rfl
    | la i => have := (x8.la i (.inl e)).1; omega
    | lb i => have := (x8.la i (.inr e)).1; omega
    | rel => have := x8.rel e; omega
  have v5 : γ8.v p ≤ 5 := by
    have h5 := cnt_le (st := γ8.st) (j0 := p.j0) (m := γ8.j - p.j0); have h6 := x8.jn; have h7 := x8.n5; unfold Gh.v; omega
  have hsm : smOf γ8.wm = 0 := by rcases hop with e | e <;> rw [e] <;> rfl
  have hw8 := x8.wg; rw [hsm] at hw8; have hd8' : Deaf t8 k = 1 := hd8
  obtain ⟨_, _, u1, u2⟩ := W_add (w1 := w8.setCell ⟨p.wg, 0, none⟩ (.int .u64 (stOf γ8.wm (γ8.v p) - KK2))) (fn := g6.frame.fn) (pos := g6.frame.place) (es := #[rdE ⟨p.wg, 0, none⟩, wrE ⟨p.wg, 0, none⟩]) hJ8 p8 hk kj8 b8 ⟨rfl, rfl, rfl⟩ set_size set_o (wg_set0 hw8 _) (by rw [hd8']; exact okS_rw x8.sh (hJ8.shlt _ x8.sh))
  refine ⟨_, _, _, _, v6 _ _ (by omega) v5 hop, fun a ha => (mem2 ha) ▸ wg_cell0 hw8, fun r hr => (by cases hr), u1, u2, fun _ e => ?_, ?_⟩
  · have e' : (if γ8.wm = .reg ∧ γ8.v p = 1 then WM.la k else γ8.wm) = .rel := e
    split at e'
    · cases e'
    · rcases hop with e2 | e2 <;> rw [e2] at e' <;> cases e'
  · by_cases hc8 : γ8.wm = .reg ∧ γ8.v p = 1
    · have hla := hlast (γ8.wgo (offAt γ8 k) (if γ8.wm = .reg ∧ γ8.v p = 1 then WM.la k else γ8.wm)) (w8.setCell ⟨p.wg, 0, none⟩ (.int .u64 (stOf γ8.wm (γ8.v p) - KK2))) (if_pos hc8) p8
      have e9 : stOf WM.reg 1 - KK2 = stOf γ8.wm (γ8.v p) - KK2 := by rw [hc8.1, hc8.2]
      rw [e9] at hla; exact hla
    · have hq := q7 (γ8.v p) γ8.wm (by omega) v5 (by
        rcases hop with e | e
        · exact .inl e
        · exact .inr ⟨e, fun h => hc8 ⟨e, h⟩⟩)
      refine .quit 110 (quits_sound hq) fun γ9 w9 h9 => ?_; refine (rw_of k1 h9).gone.1 ⟨if_pos rfl, ?_, ?_⟩
      · show (if γ8.wm = .reg ∧ γ8.v p = 1 then WM.la k else γ8.wm) ≠ _
        rw [if_neg hc8]; rcases hop with e | e <;> rw [e] <;> nofun
      · show (if γ8.wm = .reg ∧ γ8.v p = 1 then WM.la k else γ8.wm) ≠ _
        rw [if_neg hc8]; rcases hop with e | e <;> rw [e] <;> nofun
end
end Go.Proofs.Ytjklkppncmhehaa.Sr
namespace Go.Proofs.Ytjklkppncmhehaa.Sr
open Go Go.Conc Go.ConcN
theorem st_op_1 : stOf .op 1 = 4294967296 := by simp [stOf, KK2]
theorem st_reg_1 : stOf .reg 1 = 4294967297 := by simp [stOf, KK2]
theorem st_op_1' : stOf .op 1 - KK2 = 0 := by rw [st_op_1]; simp [KK2]
theorem st_reg_1' : stOf .reg 1 - KK2 = 1 := by rw [st_reg_1]; simp [KK2]
theorem st_op_2 : stOf .op 2 = 8589934592 := by simp [stOf, KK2]
theorem st_reg_2 : stOf .reg 2 = 8589934593 := by simp [stOf, KK2]
theorem st_op_2' : stOf .op 2 - KK2 = 4294967296 := by rw [st_op_2]; simp [KK2]
theorem st_reg_2' : stOf .reg 2 - KK2 = 4294967297 := by rw [st_reg_2]; simp [KK2]
theorem st_op_3 : stOf .op 3 = 12884901888 := by simp [stOf, KK2]
theorem st_reg_3 : stOf .reg 3 = 12884901889 := by simp [stOf, KK2]
theorem st_op_3' : stOf .op 3 - KK2 = 8589934592 := by rw [st_op_3]; simp [KK2]
theorem st_reg_3' : stOf .reg 3 - KK2 = 8589934593 := by rw [st_reg_3]; simp [KK2]
theorem st_op_4 : stOf .op 4 = 17179869184 := by simp [stOf, KK2]
theorem st_reg_4 : stOf .reg 4 = 17179869185 := by simp [stOf, KK2]
theorem st_op_4' : stOf .op 4 - KK2 = 12884901888 := by rw [st_op_4]; simp [KK2]
theorem st_reg_4' : stOf .reg 4 - KK2 = 12884901889 := by rw [st_reg_4]; simp [KK2]
theorem st_op_5 : stOf .op 5 = 21474836480 := by simp [stOf, KK2]
theorem st_reg_5 : stOf .reg 5 = 21474836481 := by simp [stOf, KK2]
theorem st_op_5' : stOf .op 5 - KK2 = 17179869184 := by rw [st_op_5]; simp [KK2]
theorem st_reg_5' : stOf .reg 5 - KK2 = 17179869185 := by rw [st_reg_5]; simp [KK2]
section
variable {k : Nat} {γ : Gh} {w : World} {p : Ph} (t : Array Value)
theorem add_facts (v : Nat) (wm : WM) (h1 : 1 ≤ v) (h2 : v ≤ 5) (h : wm = .op ∨ wm = .reg) :
    vst Try.prog (.int .u64 (stOf wm v)) none (wk6 Try.prog p.wg t) = some ⟨wk7 Try.prog p.wg t (stOf wm v - KK2), #[rdE ⟨p.wg, 0, none⟩, wrE ⟨p.wg, 0, none⟩], [⟨p.wg, 0, none⟩, ⟨p.wg, 0, none⟩], [], some (⟨p.wg, 0, none⟩, .int .u64 (stOf wm v - KK2))⟩ := by
  obtain rfl | rfl | rfl | rfl | rfl : v = 1 ∨ v = 2 ∨ v = 3 ∨ v = 4 ∨ v = 5 := by omega
  · rcases h with rfl | rfl
    · rw [st_op_1', st_op_1]; exact wk6_add_1_0 p.wg t
    · rw [st_reg_1', st_reg_1]; exact wk6_add_1_1 p.wg t
  · rcases h with rfl | rfl
    · rw [st_op_2', st_op_2]; exact wk6_add_2_0 p.wg t
    · rw [st_reg_2', st_reg_2]; exact wk6_add_2_1 p.wg t
  · rcases h with rfl | rfl
    · rw [st_op_3', st_op_3]; exact wk6_add_3_0 p.wg t
    · rw [st_reg_3', st_reg_3]; exact wk6_add_3_1 p.wg t
  · rcases h with rfl | rfl
    · rw [st_op_4', st_op_4]; exact wk6_add_4_0 p.wg t
    · rw [st_reg_4', st_reg_4]; exact wk6_add_4_1 p.wg t
  · rcases h with rfl | rfl
    · rw [st_op_5', st_op_5]; exact wk6_add_5_0 p.wg t
    · rw [st_reg_5', st_reg_5]; exact wk6_add_5_1 p.wg t
theorem quit_facts (v : Nat) (wm : WM) (h1 : 1 ≤ v) (h2 : v ≤ 5) (h : wm = .op ∨ (wm = .reg ∧ v ≠ 1)) : quits Try.prog 110 1 (wk7 Try.prog p.wg t (stOf wm v - KK2)) = true := by
  obtain rfl | rfl | rfl | rfl | rfl : v = 1 ∨ v = 2 ∨ v = 3 ∨ v = 4 ∨ v = 5 := by omega
  · rcases h with rfl | ⟨rfl, h⟩
    · rw [st_op_1']; exact wk7_quits_0_0 p.wg t
    · exact absurd rfl h
  · rcases h with rfl | ⟨rfl, h⟩
    · rw [st_op_2']; exact wk7_quits_1_0 p.wg t
    · rw [st_reg_2']; exact wk7_quits_1_1 p.wg t
  · rcases h with rfl | ⟨rfl, h⟩
    · rw [st_op_3']; exact wk7_quits_2_0 p.wg t
    · rw [st_reg_3']; exact wk7_quits_2_1 p.wg t
  · rcases h with rfl | ⟨rfl, h⟩
    · rw [st_op_4']; exact wk7_quits_3_0 p.wg t
    · rw [st_reg_4']; exact wk7_quits_3_1 p.wg t
  · rcases h with rfl | ⟨rfl, h⟩
    · rw [st_op_5']; exact wk7_quits_4_0 p.wg t
    · rw [st_reg_5']; exact wk7_quits_4_1 p.wg t
theorem done_prog (he : p.eW = 126) (hp : γ.ph = some p) (hk : p.j0 < k) (hb : γ.st k = .busy) (hc : ∀ c, c < 5 → w.cell? ⟨p.A, 5 * (k - p.j0 - 1) + c, none⟩ = some (p.ans (k - p.j0 - 1) c)) : WP (sys Try.prog) k 0 γ w (wk0 Try.prog p.wg t) :=
  done_way (wk0_mute p.wg t) rfl (wk1_conv p.wg t) (wk2_rel p.wg t) (wk3_mute p.wg t) rfl (wk4_dis p.wg t) (wk5_mute p.wg t) rfl (add_facts t) (quit_facts t)
    (fun γ w hl hp' => by
      rw [st_reg_1']; exact last_way (wk7_mute p.wg t) rfl (wk8_load p.wg t) (wk8_mute p.wg t) rfl (wk9_store p.wg t) (wk9_mute p.wg t) rfl (wk10_sem p.wg t) (wk10_wakes p.wg t) rfl (wk10_quits p.wg t) (by omega) hl hp') he hp hk hb hc
end
end Go.Proofs.Ytjklkppncmhehaa.Sr
namespace Go.Proofs.Ytjklkppncmhehaa.Sr
open Go
def OrdF (ops : Array Oper) : Nat → Array Bool → List Nat → Prop
  | 0, _, l => l = []
  | n + 1, L, l => (Region.ready .any ops L = [] ∧ l = []) ∨ ∃ i l', i ∈ Region.ready .any ops L ∧ l = i :: l' ∧ OrdF ops n (L.setIfInBounds i true) l'
theorem ordF_go (ops : Array Oper) : ∀ (fuel t : Nat) (L : Array Bool), OrdF ops fuel L (Region.linearise.go .any ops fuel t L [])
  | 0, t, L => rfl
  | fuel + 1, t, L => by
    simp only [Region.linearise.go]; have e : (List.range ops.size).filter (fun i => !L.getD i true && ((ops[i]?).map (·.after.all fun e => !Region.binds .any e || L.getD e.on false)).getD false) = Region.ready .any ops L := rfl
    rw [e]; split
    · rename_i i hi
      rw [linearise_go_acc]; exact .inr ⟨i, _, List.mem_of_getElem? hi, rfl, ordF_go ops fuel _ _⟩
    · rename_i hi
      refine .inl ⟨?_, rfl⟩
      cases hr : Region.ready .any ops L with
      | nil => rfl
      | cons a l =>
        rw [hr] at hi; rw [List.getElem?_eq_none_iff] at hi; have : t % (a :: l).length < (a :: l).length := Nat.mod_lt _ (by simp)
        omega
theorem schedule_ord (ops : Array Oper) (mixed : Bool) (hd : Region.departs ops = false) (t : Nat) : OrdF ops ops.size (Array.replicate ops.size false) (Region.schedule mixed ops t) := by
  unfold Region.schedule; rw [hd]; simp only [Bool.not_false, Bool.or_true, if_true]; exact ordF_go ops _ _ _
theorem ready_spec {ops : Array Oper} {L : Array Bool} {i : Nat} (h : i ∈ Region.ready .any ops L) : i < ops.size ∧ L.getD i true = false ∧ ∃ o, ops[i]? = some o ∧ ∀ e ∈ o.after, Region.binds .any e = true → L.getD e.on false = true := by
  unfold Region.ready at h; rw [List.mem_filter, List.mem_range] at h; obtain ⟨h1, h2⟩ := h; simp only [Bool.and_eq_true, Bool.not_eq_true'] at h2; obtain ⟨h3, h4⟩ := h2; refine ⟨h1, h3, ops[i], Array.getElem?_eq_getElem h1, fun e he hb => ?_⟩
  rw [Array.getElem?_eq_getElem h1] at h4; simp only [Option.map_some, Option.getD_some] at h4; have := Array.all_eq_true_iff_forall_mem.1 h4 e he
  simpa [hb] using this
end Go.Proofs.Ytjklkppncmhehaa.Sr
