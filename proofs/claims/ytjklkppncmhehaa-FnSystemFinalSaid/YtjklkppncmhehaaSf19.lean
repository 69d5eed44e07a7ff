/-
What is proved: the starter's way through Wait ('wait_way'). Conditions: those that the theorem states.
-/
import Derived.Test.YtjklkppncmhehaaSf15
import Derived.Test.YtjklkppncmhehaaSf18
set_option linter.unusedVariables false
set_option linter.unusedSimpArgs false
namespace Go.Proofs.Ytjklkppncmhehaa.Sr
open Go Go.Conc Go.ConcN
section
variable {P : Program} {Q : Gh → World → Trace → Nat → Outcome → World → Prop} {γ : Gh} {w : World}
/-- The starter has said that it waits. -/
structure AtReg (γ : Gh) (p : Ph) (n0 : Nat) : Prop where
  ph : γ.ph = some p
  wm : γ.wm ≠ .op
  extra : γ.extra = 0
  j : γ.j = n0
theorem AtReg.rely {γ γ' : Gh} {w w' : World} {p : Ph} {n0 : Nat} (h : AtReg γ p n0) (r : RM γ w γ' w') : AtReg γ' p n0 := by
  obtain ⟨_, a, _, b, c⟩ := r.gh; exact ⟨a.trans h.ph, fun e => h.wm (r.wm.2 e), b.trans h.extra, c.trans h.j⟩
theorem v_le {γ γ' : Gh} {w w' : World} {p : Ph} {n0 : Nat} (h : AtOp γ p 0 n0) (r : RM γ w γ' w') : γ'.v p ≤ γ.v p := by
  have h1 := r.le p h.ph; obtain ⟨_, _, _, b, c⟩ := r.gh; unfold Gh.v; rw [b, c]; omega
theorem quietM {t : Trace} {j : Nat} {fn : FuncId} {pos : String} {e0 : Event} (hJ : JJ γ w t j) (h : OkM γ j w.heap.size e0) : JJ γ w (t ++ MemOp.ofEvents 0 fn pos #[e0]) j ∧ ∀ k', k' ≠ 0 → RR k' γ w γ w :=
  M_quiet hJ fun e he => by simp at he; subst he; exact h
theorem JJ.nil {t : Trace} {j : Nat} {fn : FuncId} {pos : String} (hJ : JJ γ w t j) : JJ γ w (t ++ MemOp.ofEvents 0 fn pos #[]) j := by
  rw [oEn, Array.append_empty]; exact hJ
def Ans (p : Ph) (n0 : Nat) (w : World) : Prop := ∃ cs, w.heap[p.A]? = some (.cells cs p.eA) ∧ cs.size = 5 * p.n ∧ ∀ i c, i < n0 - p.j0 → c < 5 → cs[5 * i + c]? = some (p.ans i c)
theorem join_way {g2 g3 g4 gR : Goroutine} {n : Nat} {eW : TypeId} {p : Ph} {n0 : Nat}
    (v2 : vst P undef (some (eW, 2)) g2 = some ⟨g3, #[], [], [p.wg, p.wg], none⟩) (q3 : qst P g3 = some (g4, #[mkE (.acquire ⟨p.wg, 0, none⟩)])) (m4 : mute P (n + 1) g4 = true) (a4 : adv P (n + 1) g4 = gR)
    (he : p.eW = eW) (hA : AtOp γ p 0 n0) (hv : γ.v p = 0) (K : ∀ γ1 w1 γ' w', Mv γ w γ1 w1 → Ans p n0 w1 → RM γ1.idle w1 γ' w' → MP (sys P) Q false 0 γ' w' gR) : MP (sys P) Q false 0 γ w g2 := by
  refine .vis (vS v2).1 fun γ1 w1 t1 j1 h1 hJ1 hd1 => ?_; have A1 := hA.rely h1; have x1 := hJ1.phase p A1.ph; have z1 : γ1.v p = 0 := by have := v_le hA h1; omega
  refine ⟨_, _, _, γ1, false, v2, fun a ha => (by cases ha), fun r hr => ?_, hJ1.nil, fun k' _ => (sys P).refl k' γ1 w1, ?_⟩
  · have : p.wg = r := mem3 hr
    rw [← this, ← he]; exact wg_shape x1.wg
  refine .said q3 fun γ2 w2 t2 j2 h2 hJ2 hd2 => ?_; have A2 := A1.rely h2; have z2 : γ2.v p = 0 := by have := v_le A1 h2; omega
  have hd2' : Deaf t2 0 = 0 := hd2
  obtain ⟨r1, r2, r3⟩ := M_join (fn := g3.frame.fn) (pos := g3.frame.place) hJ2 A2.ph A2.wm z2 hd2'; refine ⟨_, false, r1, r2, mS (n := n) m4 fun γ3 w3 h3 => ?_⟩
  rw [a4]; refine K γ2 w2 γ3 w3 ((Mv.of h1).trans (Mv.of h2)) ?_ h3; obtain ⟨cs, c1, c2, c3⟩ := r3; have ej := hJ2.j; have ej' := A2.j; exact ⟨cs, c1, c2, fun i c hi hc => c3 i c (by omega) hc⟩
theorem reg_way {r1 r2 r2' r3 s1 w1g w1' w2g w2' w3 w4 w5 gR : Goroutine} {eW : TypeId} {p : Ph} {n0 : Nat}
    (vr1 : vst P undef (some (eW, 2)) r1 = some ⟨r2, #[], [], [p.wg, p.wg], none⟩) (qr2 : qst P r2 = some (r2', #[mkE (.write ⟨p.wg, 1, none⟩)])) (mr2 : mute P 23 r2' = true) (ar2 : adv P 23 r2' = r3)
    (br3 : vblock P (.int .u32 0) r3 = some [⟨p.wg, 1, none⟩]) (vr3 : vst P (.int .u32 1) none r3 = some ⟨s1, #[mkE .disable, rdE ⟨p.wg, 1, none⟩, wrE ⟨p.wg, 1, none⟩, mkE .enable], [⟨p.wg, 1, none⟩, ⟨p.wg, 1, none⟩], [], some (⟨p.wg, 1, none⟩, .int .u32 0)⟩)
    (or3 : r3.offers = none) (ms1 : mute P 16 s1 = true) (as1 : adv P 16 s1 = w1g) (vw1 : vst P (.int .u64 0) none w1g = some ⟨w1', #[rdE ⟨p.wg, 0, none⟩], [⟨p.wg, 0, none⟩], [], none⟩) (mw1 : mute P 11 w1' = true) (aw1 : adv P 11 w1' = w2g)
    (qw2 : qst P w2g = some (w2', #[mkE .enable])) (mw2 : mute P 3 w2' = true) (aw2 : adv P 3 w2' = w3) (vw3 : vst P undef (some (eW, 2)) w3 = some ⟨w4, #[], [], [p.wg, p.wg], none⟩) (qw4 : qst P w4 = some (w5, #[mkE (.acquire ⟨p.wg, 0, none⟩)])) (mw5 : mute P 10 w5 = true) (aw5 : adv P 10 w5 = gR)
    (he : p.eW = eW) (hA : AtReg γ p n0) (K : ∀ γ1 w1 γ' w', Mv γ w γ1 w1 → Ans p n0 w1 → RM γ1.idle w1 γ' w' → MP (sys P) Q false 0 γ' w' gR) : MP (sys P) Q false 1 γ w r1 := by
  refine .vis (vS vr1).1 fun γ1 w1 t1 j1 h1 hJ1 hd1 => ?_; have A1 := hA.rely h1; have x1 := hJ1.phase p A1.ph; refine ⟨_, _, _, γ1, false, vr1, fun a ha => (by cases ha), fun r hr => ?_, hJ1.nil, fun k' _ => (sys P).refl k' γ1 w1, ?_⟩
  · have : p.wg = r := mem3 hr
    rw [← this, ← he]; exact wg_shape x1.wg
  refine .said qr2 fun γ2 w2 t2 j2 h2 hJ2 hd2 => ?_; have A2 := A1.rely h2; have x2 := hJ2.phase p A2.ph; obtain ⟨u1, u2⟩ := quietM (fn := r2.frame.fn) (pos := r2.frame.place) hJ2 (okM_sw (o := 1) x2.sh (hJ2.shlt _ x2.sh)); refine ⟨γ2, false, u1, u2, ?_⟩; have M2 := (Mv.of h1).trans (Mv.of h2); clear h1 hJ1 hd1 A1 x1 u1 u2 h2 hJ2 x2 hd2; have aft : ∀ γ5 w5, AtOp γ5 p 0 n0 → γ5.v p = 0 → Mv γ w γ5 w5 → MP (sys P) Q false 1 γ5 w5 s1 := by
    intro γ5 w5 A5 z5 M5; refine mS (n := 15) ms1 fun γ6 w6 h6 => ?_; rw [as1]; have A6 := A5.rely h6; have z6 : γ6.v p = 0 := by have := v_le A5 h6; omega
    refine .vis (vS vw1).1 fun γ7 w7 t7 j7 h7 hJ7 hd7 => ?_; have A7 := A6.rely h7; have x7 := hJ7.phase p A7.ph; have z7 : γ7.v p = 0 := by have := v_le A6 h7; omega
    have hw7 := x7.wg; rw [A7.wm, z7] at hw7; have hw7' : w7.heap[p.wg]? = some (wgObj p.eW 0 0) := by
      rw [hw7]; show some (wgObj p.eW (((0 : Nat) : Int) * KK2) 0) = _
      rw [Int.natCast_zero, Int.zero_mul]
    obtain ⟨u1, u2⟩ := quietM (fn := w1g.frame.fn) (pos := w1g.frame.place) hJ7 (okM_rd (o := 0) x7.sh (hJ7.shlt _ x7.sh)); refine ⟨_, _, _, γ7, false, vw1, fun a ha => (mem1 ha) ▸ wg_cell0 hw7', fun r hr => (by cases hr), u1, u2, ?_⟩
    refine mS (n := 10) mw1 fun γ8 w8 h8 => ?_; rw [aw1]; have A8 := A7.rely h8; have z8 : γ8.v p = 0 := by have := v_le A7 h8; omega
    refine .said qw2 fun γ9 w9 t9 j9 h9 hJ9 hd9 => ?_; have A9 := A8.rely h9; have z9 : γ9.v p = 0 := by have := v_le A8 h9; omega
    obtain ⟨u3, u4⟩ := quietM (fn := w2g.frame.fn) (pos := w2g.frame.place) hJ9 (okM_mark (e := mkE .enable) rfl); refine ⟨γ9, false, u3, u4, mS (n := 2) mw2 fun γ10 w10 h10 => ?_⟩
    rw [aw2]; have A10 := A9.rely h10; have z10 : γ10.v p = 0 := by have := v_le A9 h10; omega
    refine join_way vw3 qw4 (n := 9) mw5 aw5 he A10 z10 fun γ11 w11 γ' w' hM hAns hR => K γ11 w11 γ' w' ?_ hAns hR
    exact (((((M5.trans (Mv.of h6)).trans (Mv.of h7)).trans (Mv.of h8)).trans (Mv.of h9)).trans (Mv.of h10)).trans hM
  have rest : ∀ γ3 w3, RM γ2 w2 γ3 w3 → MP (sys P) Q true 1 γ3 w3 r3 := by
    intro γ3 w3g h3; have A3 := A2.rely h3; refine .mk (vS vr3).1 (fun _ => or3) (fun _ γ4 w4g t4 j4 h4 hJ4 hd4 hBl => ?_) fun γ4 w4g t4 j4 h4 hJ4 hd4 hnb => ?_
    · have A4 := A3.rely (rm_of h4)
      have x4 := hJ4.phase p A4.ph; have hBl' : γ4.wm ≠ .rel := hBl
      have hw4 := x4.wg; have hsm : smOf γ4.wm = 0 := by
        cases e : γ4.wm with
        | rel => exact absurd e hBl'
        | _ => rfl
      rw [hsm] at hw4; refine ⟨vblock_sound br3 w4g fun a ha => ?_, ?_⟩
      · have : a = ⟨p.wg, 1, none⟩ := by simpa using ha
        rw [this]; exact (wg_cell1 hw4).1
      · cases e : γ4.wm with
        | rel => exact absurd e hBl'
        | op => exact absurd e A4.wm
        | reg =>
          obtain ⟨e1, e2⟩ := x4.reg e; unfold Gh.v at e2; rw [e1] at e2; obtain ⟨k, k1, k2, k3⟩ := cnt_pos (by simpa using e2)
          have hj0 := x4.j0; have ej := hJ4.j; exact ⟨k, by omega, by omega, fun hg => k3 hg.1⟩
        | la k =>
          obtain ⟨_, k1, k2, _⟩ := x4.la k (.inl e); have ej := hJ4.j; exact ⟨k, by omega, by omega, la_live e⟩
        | lb k =>
          obtain ⟨_, k1, k2, _⟩ := x4.la k (.inr e); have ej := hJ4.j; exact ⟨k, by omega, by omega, lb_live e⟩
    · have A4 := A3.rely (rm_of h4)
      have x4 := hJ4.phase p A4.ph; have hrel : γ4.wm = .rel := Classical.not_not.1 (hnb rfl)
      have hw4 := x4.wg; rw [hrel] at hw4; obtain ⟨hv4, s2, s3⟩ := M_sem (w1 := w4g.setCell ⟨p.wg, 1, none⟩ (.int .u32 0)) (fn := r3.frame.fn) (pos := r3.frame.place) (es := #[mkE .disable, rdE ⟨p.wg, 1, none⟩, wrE ⟨p.wg, 1, none⟩, mkE .enable]) hJ4 A4.ph hrel ⟨rfl, rfl, rfl⟩ set_size set_o (wg_set1 hw4 0) fun e he => by
        have hB := hJ4.shlt _ x4.sh; simp at he
        rcases he with rfl | rfl | rfl | rfl
        · exact okM_mark rfl
        · exact okM_rd x4.sh hB
        · exact okM_wr x4.sh hB
        · exact okM_mark rfl
      refine ⟨.go ⟨s1, _, _, _⟩ false, ⟨(vS vr3).2 true w4g (fun a ha => (mem2 ha) ▸ wg_cell1 hw4) (fun r hr => (by cases hr)), s2, s3⟩, fun x b' e => ?_, fun x b' e => (by cases e)⟩
      cases e; have A5 : AtOp (γ4.wgo γ4.st .op) p 0 n0 := ⟨A4.ph, rfl, A4.extra, A4.j⟩
      have M5 : Mv γ w (γ4.wgo γ4.st .op) (w4g.setCell ⟨p.wg, 1, none⟩ (.int .u32 0)) := ((M2.trans (Mv.of h3)).trans (Mv.of (rm_of h4))).trans (mv_set _ x4.sh rfl rfl rfl rfl rfl)
      have z5 : (γ4.wgo γ4.st .op).v p = 0 := hv4
      exact aft _ _ A5 z5 M5
  refine MP.mute (n := 22) mr2 fun γ3 w3g h3 => ⟨true, ?_⟩
  rw [ar2]; exact rest γ3 w3g (rm_of h3)
theorem wait_way {T : Type} {g0 g1 g2 gR : Goroutine} {wlG l1 : T → Goroutine} {l2 : T → Nat → Goroutine} {c1 : T → Nat → Goroutine} {c2 : T → Nat → Bool → Goroutine} {eW : TypeId} {p : Ph} {n0 : Nat} {tm0 : T}
    (m0 : mute P 3 g0 = true) (a0 : adv P 3 g0 = g1) (q1 : qst P g1 = some (g2, #[mkE .disable])) (m2 : mute P 3 g2 = true) (a2 : adv P 3 g2 = wlG tm0)
    (ml : ∀ tm, mute P 16 (wlG tm) = true) (al : ∀ tm, adv P 16 (wlG tm) = l1 tm)
    (vl : ∀ tm v, v ≤ 5 → vst P (.int .u64 (stOf .op v)) none (l1 tm) = some ⟨l2 tm v, #[rdE ⟨p.wg, 0, none⟩], [⟨p.wg, 0, none⟩], [], none⟩)
    (zero : ∀ tm, mute P 31 (l2 tm 0) = true ∧ ∃ z1' z2 z3 z4, qst P (adv P 31 (l2 tm 0)) = some (z1', #[mkE .enable]) ∧ mute P 3 z1' = true ∧ adv P 3 z1' = z2 ∧ vst P undef (some (eW, 2)) z2 = some ⟨z3, #[], [], [p.wg, p.wg], none⟩ ∧
      qst P z3 = some (z4, #[mkE (.acquire ⟨p.wg, 0, none⟩)]) ∧ mute P 20 z4 = true ∧ adv P 20 z4 = gR)
    (mc : ∀ tm v, 1 ≤ v → v ≤ 5 → mute P 48 (l2 tm v) = true ∧ adv P 48 (l2 tm v) = c1 tm v)
    (miss : ∀ tm v u, 1 ≤ v → v ≤ 5 → u < v → vst P (.int .u64 (stOf .op u)) (some (eW, 2)) (c1 tm v) = some ⟨c2 tm v false, #[rdE ⟨p.wg, 0, none⟩], [⟨p.wg, 0, none⟩, ⟨p.wg, 0, none⟩], [p.wg], none⟩)
    (missed : ∀ tm v, 1 ≤ v → v ≤ 5 → mute P 9 (c2 tm v false) = true ∧ ∃ tm', adv P 9 (c2 tm v false) = wlG tm')
    (hit : ∀ tm v, 1 ≤ v → v ≤ 5 → vst P (.int .u64 (stOf .op v)) (some (eW, 2)) (c1 tm v) = some ⟨c2 tm v true, #[rdE ⟨p.wg, 0, none⟩, wrE ⟨p.wg, 0, none⟩], [⟨p.wg, 0, none⟩, ⟨p.wg, 0, none⟩, ⟨p.wg, 0, none⟩], [p.wg], some (⟨p.wg, 0, none⟩, .int .u64 (stOf .reg v))⟩)
    (reg : ∀ tm v, 1 ≤ v → v ≤ 5 → mute P 19 (c2 tm v true) = true ∧ ∀ γ w, AtReg γ p n0 → (∀ γ1 w1 γ' w', Mv γ w γ1 w1 → Ans p n0 w1 → RM γ1.idle w1 γ' w' → MP (sys P) Q false 0 γ' w' gR) → MP (sys P) Q false 1 γ w (adv P 19 (c2 tm v true)))
    (he : p.eW = eW) (hA : AtOp γ p 0 n0) (K : ∀ γ1 w1 γ' w', Mv γ w γ1 w1 → Ans p n0 w1 → RM γ1.idle w1 γ' w' → MP (sys P) Q false 0 γ' w' gR) : MP (sys P) Q false 0 γ w g0 := by
  have loop : ∀ (m : Nat) (γ : Gh) (w : World) (tm : T), AtOp γ p 0 n0 → γ.v p ≤ m → m ≤ 5 → (∀ γ1 w1 γ' w', Mv γ w γ1 w1 → Ans p n0 w1 → RM γ1.idle w1 γ' w' → MP (sys P) Q false 0 γ' w' gR) → MP (sys P) Q false 1 γ w (wlG tm) := by
    intro m; induction m using Nat.strongRecOn with
    | ind m ih =>
      intro γ w tm hA hm hm5 K; refine mS (n := 15) (ml tm) fun γ1 w1 h1 => ?_; rw [al]; have A1 := hA.rely h1; have e1 : γ1.v p ≤ m := Nat.le_trans (v_le hA h1) hm
      refine .vis (vS (vl tm 0 (by omega))).1 fun γ2 w2 t2 j2 h2 hJ2 hd2 => ?_
      have A2 := A1.rely h2; have x2 := hJ2.phase p A2.ph; have e2 : γ2.v p ≤ m := Nat.le_trans (v_le A1 h2) e1
      have hw2 := x2.wg; rw [A2.wm] at hw2; obtain ⟨u1, u2⟩ := quietM (fn := (l1 tm).frame.fn) (pos := (l1 tm).frame.place) hJ2 (okM_rd (o := 0) x2.sh (hJ2.shlt _ x2.sh)); refine ⟨_, _, _, γ2, false, vl tm (γ2.v p) (by omega), fun a ha => (mem1 ha) ▸ wg_cell0 hw2, fun r hr => (by cases hr), u1, u2, ?_⟩
      have M2 := (Mv.of h1).trans (Mv.of h2); generalize hv : γ2.v p = v at *; show MP (sys P) Q false 1 γ2 w2 (l2 tm v)
      rcases Nat.eq_zero_or_pos v with rfl | hpos
      · obtain ⟨k1, z1', z2, z3, z4, k2, k3, k4, k5, k6, k7, k8⟩ := zero tm
        refine mS (n := 30) k1 fun γ3 w3 h3 => ?_; have A3 := A2.rely h3; have e3 : γ3.v p = 0 := by have := v_le A2 h3; omega
        refine .said k2 fun γ4 w4 t4 j4 h4 hJ4 hd4 => ?_; have A4 := A3.rely h4; have e4 : γ4.v p = 0 := by have := v_le A3 h4; omega
        obtain ⟨u3, u4⟩ := quietM (fn := (adv P 31 (l2 tm 0)).frame.fn) (pos := (adv P 31 (l2 tm 0)).frame.place) hJ4 (okM_mark (e := mkE .enable) rfl); refine ⟨γ4, false, u3, u4, mS (n := 2) k3 fun γ5 w5 h5 => ?_⟩
        rw [k4]; have A5 := A4.rely h5; have e5 : γ5.v p = 0 := by have := v_le A4 h5; omega
        refine join_way k5 k6 (n := 19) k7 k8 he A5 e5 fun γ11 w11 γ' w' hM hAns hR => K γ11 w11 γ' w' ?_ hAns hR
        exact (((M2.trans (Mv.of h3)).trans (Mv.of h4)).trans (Mv.of h5)).trans hM
      · obtain ⟨k1, k2⟩ := mc tm v hpos (by omega)
        refine mS (n := 47) k1 fun γ3 w3 h3 => ?_; rw [k2]; have A3 := A2.rely h3; have e3 : γ3.v p ≤ v := by have := v_le A2 h3; omega
        refine .vis (vS (hit tm v hpos (by omega))).1 fun γ4 w4 t4 j4 h4 hJ4 hd4 => ?_
        have A4 := A3.rely h4; have e4 : γ4.v p ≤ v := by have := v_le A3 h4; omega
        have x4 := hJ4.phase p A4.ph; have hw4 := x4.wg; rw [A4.wm] at hw4; have hB := hJ4.shlt _ x4.sh; have M4 := (M2.trans (Mv.of h3)).trans (Mv.of h4); have shp : ∀ r ∈ [p.wg], w4.shape? r = some (eW, 2) := fun r hr => by
          have : p.wg = r := (by simpa using hr : r = p.wg).symm
          rw [← this, ← he]; exact wg_shape hw4
        by_cases hv4 : γ4.v p = v
        · rw [hv4] at hw4
          obtain ⟨s1, s2⟩ := M_cas (w1 := w4.setCell ⟨p.wg, 0, none⟩ (.int .u64 (stOf .reg v))) (fn := (c1 tm v).frame.fn) (pos := (c1 tm v).frame.place) (es := #[rdE ⟨p.wg, 0, none⟩, wrE ⟨p.wg, 0, none⟩]) hJ4 A4.ph A4.wm A4.extra (by omega) ⟨rfl, rfl, rfl⟩ set_size set_o (by rw [hv4]; exact wg_set0 hw4 _) fun e he => by
            simp at he
            rcases he with rfl | rfl
            · exact okM_rd x4.sh hB
            · exact okM_wr x4.sh hB
          refine ⟨_, _, _, _, false, hit tm v hpos (by omega), fun a ha => ?_, shp, s1, s2, ?_⟩
          · have : a = ⟨p.wg, 0, none⟩ := by simpa using ha
            rw [this]; exact wg_cell0 hw4
          · obtain ⟨k3, k4⟩ := reg tm v hpos (by omega)
            have A5 : AtReg (γ4.wgo γ4.st .reg) p n0 := ⟨A4.ph, nofun, A4.extra, A4.j⟩
            have M5 : Mv γ w (γ4.wgo γ4.st .reg) (w4.setCell ⟨p.wg, 0, none⟩ (.int .u64 (stOf .reg v))) := M4.trans (mv_set _ x4.sh rfl rfl rfl rfl rfl)
            refine mS (n := 18) k3 fun γ6 w6 h6 => ?_; exact k4 γ6 w6 (A5.rely h6) fun γ11 w11 γ' w' hM hAns hR => K γ11 w11 γ' w' ((M5.trans (Mv.of h6)).trans hM) hAns hR
        · obtain ⟨s1, s2⟩ := quietM (fn := (c1 tm v).frame.fn) (pos := (c1 tm v).frame.place) hJ4 (okM_rd (o := 0) x4.sh hB)
          refine ⟨_, _, _, γ4, false, miss tm v (γ4.v p) hpos (by omega) (by omega), fun a ha => (mem2 ha) ▸ wg_cell0 hw4, shp, s1, s2, ?_⟩
          obtain ⟨k3, tm', k4⟩ := missed tm v hpos (by omega)
          refine mS (n := 8) k3 fun γ5 w5 h5 => ?_; rw [k4]; refine ih (v - 1) (by omega) γ5 w5 tm' (A4.rely h5) ?_ (by omega) fun γ11 w11 γ' w' hM hAns hR => K γ11 w11 γ' w' ((M4.trans (Mv.of h5)).trans hM) hAns hR
          have := v_le A4 h5
          omega
  refine mS (n := 2) m0 fun γ1 w1 h1 => ?_; rw [a0]; have A1 := hA.rely h1; refine .said q1 fun γ2 w2 t2 j2 h2 hJ2 hd2 => ?_; have A2 := A1.rely h2; have x2 := hJ2.phase p A2.ph; have hv2 : γ2.v p ≤ 5 := by
    have h5 := cnt_le (st := γ2.st) (j0 := p.j0) (m := γ2.j - p.j0); have h6 := x2.jn; have h7 := x2.n5; unfold Gh.v; omega
  obtain ⟨r1, r2⟩ := quietM (fn := g1.frame.fn) (pos := g1.frame.place) hJ2 (okM_mark (e := mkE .disable) rfl); refine ⟨γ2, false, r1, r2, mS (n := 2) m2 fun γ3 w3 h3 => ?_⟩
  rw [a2]; refine loop 5 γ3 w3 tm0 (A2.rely h3) (by have := v_le A2 h3; omega) (Nat.le_refl _) fun γ11 w11 γ' w' hM hAns hR => K γ11 w11 γ' w' ((((Mv.of h1).trans (Mv.of h2)).trans (Mv.of h3)).trans hM) hAns hR
end
end Go.Proofs.Ytjklkppncmhehaa.Sr
