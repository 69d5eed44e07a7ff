/-
What is proved: of makeSlice, append, slice, max and min, what each does to trees. No condition. a region's operations, whatever the order in which they are taken, come to where the order of the text comes to ('region_any', 'region_text'). No condition.
-/
import Derived.Test.YtjklkppncmhehaaSf27
import Derived.Test.YtjklkppncmhehaaSf12
set_option linter.unusedVariables false
set_option linter.unusedSimpArgs false
namespace Go.Proofs.Ytjklkppncmhehaa.T
open Go Go.RowKit
section
variable {P : Program} {E : List PanicEntry → World → Prop} {nt : Nat} {o : Oper} {s : TState}
theorem op_makeSlice {t b : Nat} {lx cx : Operand} (ho : o.op = .makeSlice t lx cx) (hd : dstOk o nt = true) {d de : TD} {e : TypeId} (ht : tdOf P t = some d) (hk : d.k = .slice e) (he : tdOf P e = some de) (h0 : 0 < de.size) {k k' : IntKind} {n m : Int}
    (hl : (s.ev lx).i? = some (k, n)) (hc : (s.ev cx).i? = some (k', m)) (h1 : 0 ≤ n) (h2 : n ≤ m) (h3 : (de.bytes : Int) * m ≤ 281474976710656) (h4 : m ≤ 9223372036854775807) :
    OpL P E nt o [(b, none)] (insOf s.env [lx, cx]) (.s (.own b)) [(b, .rows e de.size (List.replicate n.toNat (de.zero.map rtOf)))] := by
  refine .act hd fun C env get a w ρ D hf hi hR => ?_; have el := GV.i?_rep hl (ev_rep hR hi (x := lx) (by simp))
  have ec := GV.i?_rep hc (ev_rep hR hi (x := cx) (by simp))
  obtain ⟨i, u, z, q1, q2, q3, q4, q5, q6, q7⟩ := tdOf_some he; have hrun := run_make (P := P) (w := w) t e i z (td_slice ht hk) q1 q3 k k' n m h1 h2 (by rw [q5]; exact h3) h4
  have hzs : z.cells.size = de.size := by have := (tdOf_all he).2.1; rw [← q6] at this; simpa using this
  obtain ⟨ρ', g1, g2⟩ := newRowT hR (hf _ (List.mem_cons_self ..)) (arr := madeCells z.cells (m.toNat * i.size)) (e := e) (k := de.size) (c := m.toNat) (xs := List.replicate n.toNat (de.zero.map rtOf)) h0 (by simp; omega) (by simp only [maxLen]; omega) (by simp [madeCells, q4]) (fun j y hy => by
    have hj : j < n.toNat := by have := (List.getElem?_eq_some_iff.1 hy).1; simpa using this
    rw [List.getElem?_replicate, if_pos hj] at hy
    cases hy; refine ⟨by rw [List.length_map, (tdOf_all he).2.1], fun p r hp => ?_⟩
    rw [List.getElem?_map, Option.map_eq_some_iff] at hp; obtain ⟨x, hx, rfl⟩ := hp; have hpl : p < de.size := by rw [← (tdOf_all he).2.1]; exact (List.getElem?_eq_some_iff.1 hx).1
    have hlt : j * de.size + p < m.toNat * i.size := by rw [q4]; exact row_lt (by omega) hpl
    have hmod : (j * de.size + p) % z.cells.size = p := by rw [hzs, Nat.mul_comm, Nat.mul_add_mod, Nat.mod_eq_of_lt hpl]
    have hxz : z.cells[p]? = some x := by rw [← q6] at hx; simpa using hx
    have : (madeCells z.cells (m.toNat * i.size)).getD (j * de.size + p) undef = x := by
      have hp' : p < z.cells.size := by omega
      simp [madeCells, hlt, hmod, Array.getD_eq_getD_getElem?]; rw [Array.getElem?_eq_getElem hp'] at hxz; simpa [getElem!_pos z.cells p hp'] using hxz
    rw [this]; exact rtOf_rep ((tdOf_all he).2.2.1 x (List.mem_of_getElem? hx)))
  rw [List.length_replicate] at g2; exact ⟨_, _, ρ', D, by simp [execOp, ho, el, ec, hrun], g1, g2⟩
def newsOf (w : World) (A : Option Addr) (n : Nat) : List Value := (List.range n).map fun t => match A with
  | some a => (w.cell? (a.add t)).getD undef
  | none => undef
theorem newsOf_get {w : World} {D : Nat → Prop} {A : Option Addr} {k : Nat} {ys : List (List RT)} (h0 : 0 < k) (h : Row w D A k ys) {t : Nat} (ht : t < ys.length * k) :
    ∃ b o v y r, A = some ⟨b, o, none⟩ ∧ w.cell? ⟨b, o + t, none⟩ = some v ∧ (newsOf w A (ys.length * k))[t]? = some v ∧ ys[t / k]? = some y ∧ y[t % k]? = some r ∧ RRep w D v r := by
  have hi : t / k < ys.length := (Nat.div_lt_iff_lt_mul h0).2 ht
  obtain ⟨h1, b, o, rfl, h2⟩ := h (t / k) ys[t / k] (List.getElem?_eq_getElem hi); have hm : t % k < ys[t / k].length := by rw [h1]; exact Nat.mod_lt _ h0
  obtain ⟨v, hv, hr⟩ := h2 (t % k) _ (List.getElem?_eq_getElem hm); have e : t / k * k + t % k = t := by rw [Nat.mul_comm]; exact Nat.div_add_mod t k
  rw [e] at hv; refine ⟨b, o, v, _, _, rfl, hv, ?_, List.getElem?_eq_getElem hi, List.getElem?_eq_getElem hm, hr⟩; simp [newsOf, ht, add_lit, hv]
theorem rows_of_owns {w' : World} {ρ : Nat → Option Value} {D : Nat → Prop} {e k n : Nat} {v' : Value} {xs ys : List (List RT)} {vals news : List Value} (h0 : 0 < k) (hx : ∀ (i : Nat) (y : List RT), xs[i]? = some y → y.length = k ∧ ∀ (j : Nat) (r : RT), y[j]? = some r → RRep w' D (vals.getD (i * k + j) undef) r)
    (hvl : vals.length = xs.length * k) (hy : ∀ (i : Nat) (y : List RT), ys[i]? = some y → y.length = k ∧ ∀ (j : Nat) (r : RT), y[j]? = some r → RRep w' D (news.getD (i * k + j) undef) r) (hn : n = (xs ++ ys).length) (ho : w'.ownsRow 0 e k v' n (vals ++ news)) : BRep ρ w' D (some v') (.rows e k (xs ++ ys)) := by
  have hall : ∀ (i : Nat) (y : List RT), (xs ++ ys)[i]? = some y → y.length = k ∧ ∀ (j : Nat) (r : RT), y[j]? = some r → RRep w' D ((vals ++ news).getD (i * k + j) undef) r := by
    intro i y hiy; rw [List.getElem?_append] at hiy; split at hiy
    · rename_i hlt
      obtain ⟨a1, a2⟩ := hx i y hiy; refine ⟨a1, fun j r hj => ?_⟩
      have hjk : j < k := by rw [← a1]; exact (List.getElem?_eq_some_iff.1 hj).1
      have : i * k + j < vals.length := by rw [hvl]; exact row_lt hlt hjk
      rw [List.getD_eq_getElem?_getD, List.getElem?_append_left this, ← List.getD_eq_getElem?_getD]; exact a2 j r hj
    · rename_i hge
      obtain ⟨a1, a2⟩ := hy _ y hiy; refine ⟨a1, fun j r hj => ?_⟩
      have hge' : xs.length * k ≤ i * k := Nat.mul_le_mul_right k (by omega)
      rw [List.getD_eq_getElem?_getD, List.getElem?_append_right (by rw [hvl]; omega), ← List.getD_eq_getElem?_getD, hvl, show i * k + j - xs.length * k = (i - xs.length) * k + j by rw [Nat.sub_mul]; omega]
      exact a2 j r hj
  obtain ⟨o1, o2⟩ := ho; rcases o2 with ⟨rfl, hz⟩ | ⟨g, cap, cur, rfl, _, q1, q2, q3, q4, q5⟩
  · have : xs ++ ys = [] := List.eq_nil_of_length_eq_zero (by omega)
    exact ⟨none, 0, by rw [this]; rfl, by rw [this]; exact Nat.zero_le _, Nat.zero_le _, h0, fun i y h => (hall i y h).1, .inl ⟨rfl, this, rfl⟩⟩
  · refine ⟨_, cap, by rw [hn], by omega, q3, h0, fun i y h => (hall i y h).1, .inr ⟨g, cur, rfl, q1, q4, fun i y hiy j r hj => ?_⟩⟩
    obtain ⟨a1, a2⟩ := hall i y hiy; have hjk : j < k := by rw [← a1]; exact (List.getElem?_eq_some_iff.1 hj).1
    have hlt : i * k + j < n * k := row_lt (by rw [hn]; exact (List.getElem?_eq_some_iff.1 hiy).1) hjk
    have := a2 j r hj
    rw [← q5, List.getD_eq_getElem?_getD, List.getElem?_take, if_pos hlt] at this; simpa [Array.getD_eq_getD_getElem?] using this
theorem owns_of_rows {w : World} {ρ : Nat → Option Value} {D : Nat → Prop} {e k : Nat} {v : Option Value} {xs : List (List RT)} (h : BRep ρ w D v (.rows e k xs)) : ∃ A c vals, v = some (.slice A xs.length c) ∧ w.ownsRow 0 e k (.slice A xs.length c) xs.length vals ∧ 0 < k ∧
    ∀ (i : Nat) (y : List RT), xs[i]? = some y → y.length = k ∧ ∀ (j : Nat) (r : RT), y[j]? = some r → RRep w D (vals.getD (i * k + j) undef) r := by
  obtain ⟨A, c, rfl, h1, h2, h3, h4, h5⟩ := h; rcases h5 with ⟨rfl, rfl, rfl⟩ | ⟨g, arr, rfl, h6, h7, h8⟩
  · exact ⟨none, 0, [], rfl, World.ownsRow_nil w 0 e k, h3, fun i y hy => by simp at hy⟩
  · have hle : xs.length * k ≤ arr.size := by rw [h7]; exact Nat.mul_le_mul_right k h1
    refine ⟨_, c, arr.toList.take (xs.length * k), rfl, ⟨by have := hle; simp only [List.length_take, Array.length_toList, List.size_toArray]; omega, .inr ⟨g, c, arr, rfl, Nat.zero_le _, h6, h1, h2, h7, rfl⟩⟩, h3, fun i y hy => ⟨h4 i y hy, fun j r hj => ?_⟩⟩
    have hjk : j < k := by rw [← h4 i y hy]; exact (List.getElem?_eq_some_iff.1 hj).1
    have hlt : i * k + j < xs.length * k := row_lt (List.getElem?_eq_some_iff.1 hy).1 hjk
    rw [List.getD_eq_getElem?_getD, List.getElem?_take, if_pos hlt]; simpa [Array.getD_eq_getD_getElem?] using h8 i y hy j r hj
theorem ownBlock_blkOf (A : Option Addr) (n c : Nat) : (Value.slice A n c).ownBlock = blkOf (some (.slice A n c)) := by cases A <;> rfl
def TState.baseOf (s : TState) (e k : Nat) : GV → Option (List (List RT) × Option Nat)
  | .s (.own b) => match s.get b with
    | some (.rows e' k' xs) => if e = e' ∧ k = k' then some (xs, some b) else none
    | _ => none
  | .s (.r .nil) => some ([], none)
  | _ => none
def deadOf : Option Nat → List (Nat × Blk)
  | some b => [(b, .dead)]
  | none => []
def frOf (s : TState) : Option Nat → List (Nat × Option Blk)
  | some b => [(b, s.get b)]
  | none => []
theorem op_append {t b' : Nat} {bx yx : Operand} (ho : o.op = .call { callee := .builtin .append, args := #[bx, yx], argTypes := #[t, t] }) (hd : dstOk o nt = true) {d de : TD} {e : TypeId} (ht : tdOf P t = some d) (hk : d.k = .slice e) (he : tdOf P e = some de) (h0 : 0 < de.size)
    {xs : List (List RT)} {ob : Option Nat} (hb : s.baseOf e de.size (s.ev bx) = some (xs, ob)) {k : Nat} {ys : List (List RT)} {fr : List (Nat × Option Blk)} (hy : s.view (s.ev yx) = some (k, ys, fr)) (hkk : k = de.size ∨ ys = []) (hbytes : (xs.length + ys.length) * de.bytes ≤ 140737488355328) (h63 : xs.length + ys.length ≤ maxLen) :
    OpL P E nt o ((b', none) :: (frOf s ob ++ fr)) (insOf s.env [bx, yx]) (.s (.own b')) ((b', .rows e de.size (xs ++ ys)) :: deadOf ob) := by
  refine .act hd fun C env get a w ρ D hf hi hR => ?_; have hb' := hf _ (List.mem_cons_self ..); simp only at hb'
  have hf1 : ∀ x ∈ frOf s ob, get x.1 = x.2 := fun x hx => hf x (List.mem_cons_of_mem _ (List.mem_append_left _ hx))
  have hf2 : ∀ x ∈ fr, get x.1 = x.2 := fun x hx => hf x (List.mem_cons_of_mem _ (List.mem_append_right _ hx))
  obtain ⟨Ay, cy, ey, r1, r2, hrow0⟩ := view_rep hR hy hf2 (ev_rep hR hi (x := yx) (by simp))
  have hrow : Row w D Ay de.size ys := by
    rcases hkk with rfl | rfl
    · exact hrow0
    · intro i e he; simp at he
  obtain ⟨i, u, z, q1, q2, q3, q4, q5, q6, q7⟩ := tdOf_some he; have hu := td_slice ht hk; have hzs : z.cells.size = de.size := by have := (tdOf_all he).2.1; rw [← q6] at this; simpa using this
  obtain ⟨A, c, vals, ev, hown, hvl, hxs, hbase⟩ : ∃ A c vals, a.eval bx = .slice A xs.length c ∧ w.ownsRow 0 e de.size (.slice A xs.length c) xs.length vals ∧ vals.length = xs.length * de.size ∧
      (∀ (i : Nat) (y : List RT), xs[i]? = some y → y.length = de.size ∧ ∀ (j : Nat) (r : RT), y[j]? = some r → RRep w D (vals.getD (i * de.size + j) undef) r) ∧
      ((ob = none ∧ A = none) ∨ ∃ b, ob = some b ∧ (∃ z, get b = some z ∧ z.live = true) ∧ ρ b = some (.slice A xs.length c)) := by
    have hr := ev_rep hR hi (x := bx) (by simp)
    unfold TState.baseOf at hb; split at hb
    · rename_i b eb
      split at hb
      · rename_i e' k' xs' hg
        split at hb
        · rename_i hc
          obtain ⟨rfl, rfl⟩ := hc
          cases hb; have hgb : get b = some (.rows e de.size xs) := (hf1 (b, s.get b) (List.mem_cons_self ..)).trans hg
          obtain ⟨A, c, vals, a1, a2, a3, a4⟩ := owns_of_rows (hR.blk b _ hgb); rw [eb] at hr; generalize a.eval bx = v at hr ⊢
          cases hr with | s hr => cases hr with | own hr =>
          rw [a1] at hr
          cases hr; exact ⟨A, c, vals, rfl, a2, a2.1, a4, .inr ⟨b, rfl, ⟨_, hgb, rfl⟩, a1⟩⟩
        · cases hb
      · cases hb
    · rename_i eb
      cases hb; rw [eb] at hr; generalize a.eval bx = v at hr ⊢
      cases hr with | s hr => cases hr with | r hr =>
      cases hr; exact ⟨none, 0, [], rfl, World.ownsRow_nil w 0 e de.size, by simp, fun i y h => (by simp at h), .inl ⟨rfl, rfl⟩⟩
    · cases hb
  obtain ⟨v', w', hrun, hown', hgr, hnew⟩ : ∃ v' w', (execOp a.eval o).run P w = .ok (.value v') w' ∧ w'.ownsRow 0 e de.size v' (xs.length + ys.length) (vals ++ newsOf w Ay (ys.length * de.size)) ∧ w.grownBy w' (Value.slice A xs.length c).ownBlock ∧ (∀ g, blkOf (some v') = some g → blkOf (some (.slice A xs.length c)) = some g ∨ w.heap.size ≤ g) := by
    cases hA : Ay with
    | none =>
      have hys : ys = [] := by
        cases ys with
        | nil => rfl
        | cons y ys =>
          obtain ⟨_, b, o, e', _⟩ := hrow 0 y rfl; rw [hA] at e'; cases e'
      subst hys; rw [hA] at ey; have hcy : cy = 0 ∨ cy ≠ 0 := by omega
      have hrun : (execOp a.eval o).run P w = .ok (.value (.slice A xs.length c)) w := by
        obtain ⟨o1, o2⟩ := hown; have hsc : xs.length ≤ c := by
          rcases o2 with ⟨e1, e2⟩ | ⟨g, cap, cur, e1, _, _, e2, _⟩
          · omega
          · simp only [Value.slice.injEq] at e1
            omega
        simp only [execOp, ho, resolve, invoke, builtin, Builtin.append_, List.map_toArray, List.map_cons, List.map_nil, ev, ey, Sem.run_bind, Sem.run_pure, Result.andThen_ok, List.getElem?_toArray, List.getElem?_cons_zero, List.getElem?_cons_succ, run_underlying hu, rSz he]; simp [Builtin.lenOf, hsc, Builtin.firstCells]; rcases o2 with ⟨e1, e2⟩ | ⟨g, cap, cur, e1, _, q, _⟩
        · simp only [Value.slice.injEq] at e1
          obtain ⟨rfl, _, rfl⟩ := e1; simp
        · simp only [Value.slice.injEq] at e1
          obtain ⟨rfl, _, rfl⟩ := e1; simp [storeCells]
      refine ⟨_, w, hrun, ?_, ⟨rfl, rfl, rfl, Nat.le_refl _, fun _ _ _ => rfl⟩, fun g h => .inl h⟩
      simpa [newsOf] using hown
    | some ad =>
      have hnl : (newsOf w (some ad) (ys.length * de.size)).length = ys.length * de.size := by simp [newsOf]
      have hcell : ∀ j u, (newsOf w (some ad) (ys.length * de.size))[j]? = some u → w.cell? (ad.add j) = some u ∧ u.oneCell' = true := by
        intro j u hu; have hj : j < ys.length * de.size := by rw [← hnl]; exact (List.getElem?_eq_some_iff.1 hu).1
        rw [hA] at hrow; obtain ⟨b, o', v, y, r, e1, e2, e3, _, _, e4⟩ := newsOf_get h0 hrow hj; rw [e3] at hu; cases hu
        cases e1; rw [add_lit]; exact ⟨e2, e4.one⟩
      obtain ⟨v', w', r1', r2', r3', _⟩ := run_append_own (P := P) (w := w) 0 t o.type e i z de.size de.bytes hu q1 q3 q4 q5 hzs h0 (.slice A xs.length c) xs.length vals hown ad ys.length cy (newsOf w (some ad) (ys.length * de.size)) hnl (fun j u h => (hcell j u h).1) (fun u hu => by
        obtain ⟨j, hj, rfl⟩ := List.getElem_of_mem hu; exact (hcell j _ (List.getElem?_eq_getElem hj)).2) h63 hbytes (Nat.zero_le _)
      refine ⟨v', w', ?_, r2', r3', fun g hg => ?_⟩
      · rw [hA] at ey
        simp [execOp, ho, resolve, invoke, builtin, ev, ey, r1']
      · have hn0 := hown.2
        rcases hn0 with ⟨e1, e2⟩ | ⟨g0, cap, cur, e1, _, p1, p2, p3, p4, p5⟩
        · simp only [Value.slice.injEq] at e1
          obtain ⟨rfl, _, rfl⟩ := e1; by_cases hm : ys.length = 0
          · have hrn : v' = .slice none 0 0 := by
              have hz0 : newsOf w (some ad) (ys.length * de.size) = [] := List.eq_nil_of_length_eq_zero (by rw [hnl, hm, Nat.zero_mul])
              simp [Builtin.append_, run_underlying hu, sizeOf, typeInfo, q1, Builtin.lenOf, Builtin.firstCells, loadCells, loadCellsFrom, hm, e2] at r1'; exact r1'.1.symm
            rw [hrn] at hg; cases hg
          · rw [e2] at r1'
            have hr := run_append_nil (P := P) w t o.type e i z hu q1 q3 ad ys.length cy (newsOf w (some ad) (ys.length * de.size)) (by rw [hnl, q4]) (fun j u h => (hcell j u h).1) (by omega) (by simp only [maxLen] at h63; omega) (by rw [q5]; have hb := hbytes; simp only [e2, Nat.zero_add] at hb; omega)
            rw [hr] at r1'; injection r1' with r1' _
            rw [← r1'] at hg; injection hg with hg
            simp at hg
            exact .inr (by omega)
        · simp only [Value.slice.injEq] at e1
          obtain ⟨rfl, _, rfl⟩ := e1; by_cases hroom : xs.length + ys.length ≤ c
          · have hfit : xs.length * i.size + (newsOf w (some ad) (ys.length * de.size)).length ≤ cur.size := by rw [hnl, p4, q4, ← Nat.add_mul]; exact Nat.mul_le_mul_right _ hroom
            have hr := run_append_room (P := P) w t o.type e i hu q1 g0 xs.length c cur p1 ad ys.length cy (newsOf w (some ad) (ys.length * de.size)) (by rw [hnl, q4]) (fun j u h => (hcell j u h).1) (fun u hu => by
              obtain ⟨j, hj, rfl⟩ := List.getElem_of_mem hu; exact (hcell j _ (List.getElem?_eq_getElem hj)).2) hroom hfit
            rw [hr] at r1'; injection r1' with r1' _
            rw [← r1'] at hg; exact .inl hg
          · have holds : ∀ j u, vals[j]? = some u → w.cell? ((⟨g0, 0, none⟩ : Addr).add j) = some u := hown.cells (g := g0) rfl
            have hr := run_append_grow (P := P) w t o.type e i z hu q1 q3 ⟨g0, 0, none⟩ xs.length c vals (by rw [hvl, q4]) holds ad ys.length cy (newsOf w (some ad) (ys.length * de.size)) (by rw [hnl, q4]) (fun j u h => (hcell j u h).1) (by omega) (by simp only [maxLen] at h63; omega) (by rw [q5]; exact growslice_fits (by omega) hbytes)
            rw [hr] at r1'; injection r1' with r1' _
            rw [← r1'] at hg; injection hg with hg
            simp at hg
            exact .inr (by omega)
  rw [ownBlock_blkOf] at hgr; have hKD : Keeps D w w' := by
    intro k hdk; refine hgr.block k (hR.ro k hdk).1 fun e' => ?_; rcases hbase with ⟨_, rfl⟩ | ⟨b, _, ⟨z', hz1, hz2⟩, hρb⟩
    · cases e'
    · exact (hR.own b z' k hz1 hz2 (by rw [hρb]; exact e'.symm)).1 hdk
  have hy' : ∀ (i : Nat) (y : List RT), ys[i]? = some y → y.length = de.size ∧ ∀ (j : Nat) (r : RT), y[j]? = some r → RRep w' D ((newsOf w Ay (ys.length * de.size)).getD (i * de.size + j) undef) r := by
    intro i y hiy; have a1 := (hrow i y hiy).1; refine ⟨a1, fun j r hj => ?_⟩
    have hjk : j < de.size := by rw [← a1]; exact (List.getElem?_eq_some_iff.1 hj).1
    have hlt : i * de.size + j < ys.length * de.size := row_lt (List.getElem?_eq_some_iff.1 hiy).1 hjk
    obtain ⟨b, o', v, y', r', _, _, e3, e4, e5, e6⟩ := newsOf_get h0 hrow hlt; have d1 : (i * de.size + j) / de.size = i := by rw [Nat.mul_comm, Nat.mul_add_div h0, Nat.div_eq_of_lt hjk, Nat.add_zero]
    have d2 : (i * de.size + j) % de.size = j := by rw [Nat.mul_comm, Nat.mul_add_mod, Nat.mod_eq_of_lt hjk]
    rw [d1, hiy] at e4; cases e4; rw [d2, hj] at e5; cases e5; rw [List.getD_eq_getElem?_getD, e3]; exact e6.keep hKD fun _ h => h
  have hx' : ∀ (i : Nat) (y : List RT), xs[i]? = some y → y.length = de.size ∧ ∀ (j : Nat) (r : RT), y[j]? = some r → RRep w' D (vals.getD (i * de.size + j) undef) r := fun i y h => ⟨(hxs i y h).1, fun j r hj => ((hxs i y h).2 j r hj).keep hKD fun _ h => h⟩
  have hB : ∀ ρ', BRep ρ' w' D (some v') (.rows e de.size (xs ++ ys)) := fun ρ' => rows_of_owns h0 hx' hvl hy' (by simp) hown'
  have hv's : ∃ A' n' c', v' = .slice A' n' c' := by
    obtain ⟨A', c', e1, _⟩ := hB ρ
    cases e1; exact ⟨_, _, _, rfl⟩
  obtain ⟨A', n', c', rfl⟩ := hv's; refine ⟨_, w', (fun c0 => if c0 = b' then some (.slice A' n' c') else ρ c0), D, hrun, ?_, .s (.own (by simp))⟩
  rcases hbase with ⟨rfl, rfl⟩ | ⟨b, rfl, hlive, hρb⟩
  · refine hR.alloc hb' hgr.os hgr.tape hgr.output hgr.size (fun k hk => hgr.block k hk (by simp [blkOf])) (fun g hg => ?_) (hB _)
    rcases hnew g hg with h1 | h1
    · cases h1
    · exact h1
  · refine hR.move hb' hlive hgr.os hgr.tape hgr.output hgr.size (fun k hk hne => hgr.block k hk fun e' => hne (by rw [hρb]; exact e'.symm)) (fun g hg => by rw [hρb]; exact hnew g hg) (hB _)
def bnd (s : TState) (dflt : Nat) : Option Operand → Option Nat
  | none => some dflt
  | some x => match (s.ev x).i? with
    | some (_, n) => if 0 ≤ n then some n.toNat else none
    | none => none
theorem bnd_some {C : Ctx} {env : Nat → GV} {get : Nat → Option Blk} {a : Act} {w : World} {ρ : Nat → Option Value} {D : Nat → Prop} (hR : Rel C env get a w ρ D) {xs : List Operand} (hi : ∀ x ∈ insOf s.env xs, env x.1 = x.2) {dflt : Nat} {x : Operand} {n : Nat} (h : bnd s dflt (some x) = some n) (hx : x ∈ xs) :
    ∃ k, a.eval x = .int k (n : Int) := by
  simp only [bnd] at h; split at h
  · rename_i k m hm
    split at h
    · cases h
      refine ⟨k, ?_⟩; rw [GV.i?_rep hm (ev_rep hR hi hx)]; congr 1; omega
    · cases h
  · cases h
def optL : Option Operand → List Operand
  | some x => [x]
  | none => []
def consumed : GV → List Nat
  | .s (.own b) => [b]
  | _ => []
theorem op_slice {t : TypeId} {x : Operand} {lo hi' : Option Operand} (ho : o.op = .slice t x lo hi' none) (hd : dstOk o nt = true) {d de : TD} {e : TypeId} (ht : tdOf P t = some d) (hk : d.k = .slice e) (he : tdOf P e = some de) {k : Nat} {xs : List (List RT)} {fr : List (Nat × Option Blk)}
    (hv : s.view (s.ev x) = some (k, xs, fr)) (hkk : k = de.size ∨ xs = []) {l h : Nat} (hl : bnd s 0 lo = some l) (hh : bnd s xs.length hi' = some h) (h1 : l ≤ h) (h2 : h ≤ xs.length) :
    OpL P E nt o fr (insOf s.env (x :: (optL lo ++ optL hi'))) (.s (.r (.sl de.size ((xs.take h).drop l)))) ((consumed (s.ev x)).map fun b => (b, .dead)) := by
  refine .act hd fun C env get a w ρ D hf hi hR0 => ?_; have hr := ev_rep hR0 hi (x := x) (by simp)
  obtain ⟨A, c, ev, hc, hm, hrow0⟩ := view_rep hR0 hv hf hr; have hrow : Row w D A de.size xs := by
    rcases hkk with rfl | rfl
    · exact hrow0
    · intro i e he; simp at he
  have hlive : ∀ b ∈ consumed (s.ev x), ∃ z, get b = some z ∧ z.live = true := by
    intro b hb; unfold consumed at hb; split at hb
    · rename_i b' eb
      simp only [List.mem_cons, List.not_mem_nil, or_false] at hb; subst hb; rw [eb] at hv; simp only [TState.view] at hv; split at hv
      · rename_i hg
        cases hv; exact ⟨_, hf _ (List.mem_cons_self ..), rfl⟩
      · cases hv
    · cases hb
  obtain ⟨D', hR, hDD, hDb⟩ := hR0.consume (consumed (s.ev x)) hlive; have hAD : ∀ b o, A = some ⟨b, o, none⟩ → xs ≠ [] → D' b := by
    intro b o' hA hne; rw [ev] at hr
    cases hg : s.ev x with
    | s t =>
      cases t with
      | own b' =>
        rw [hg] at hr
        cases hr with | s hr => cases hr with | own hr =>
        exact hDb b' (by rw [hg]; exact List.mem_cons_self ..) b (by rw [hr, hA]; rfl)
      | r t =>
        rw [hg] at hr hv
        cases t with
        | sl k' xs' =>
          simp only [TState.view, Option.some.injEq, Prod.mk.injEq] at hv; obtain ⟨rfl, rfl, _⟩ := hv
          cases hr with | s hr => cases hr with | r hr =>
          obtain ⟨A', c', e1, _, _, _, h4⟩ := hr.slice; simp only [Value.slice.injEq] at e1; exact hDD b (h4 b o' (e1.1 ▸ hA) hne)
        | nil =>
          simp only [TState.view, Option.some.injEq, Prod.mk.injEq] at hv; exact absurd hv.2.1.symm hne
        | v y => simp [TState.view] at hv
      | _ => rw [hg] at hv; simp [TState.view] at hv
    | _ => rw [hg] at hv; simp [TState.view] at hv
  have hu := td_slice ht hk; have hrun : (execOp a.eval o).run P w = .ok (.value (.slice (if c = l then A else A.map (·.add (l * de.size))) (h - l) (c - l))) w := by
    cases hlo : lo with
    | none =>
      rw [hlo] at hl
      cases hl
      cases hhi : hi' with
      | none =>
        rw [hhi] at hh
        cases hh; simp [execOp, ho, hlo, hhi, Instr.sliceAt, Instr.slice, Instr.sliceBounds, run_underlying hu, ev, rSz he]
      | some y =>
        rw [hhi] at hh; obtain ⟨k1, e1⟩ := bnd_some hR0 hi hh (by simp [optL, hhi])
        have : h ≤ c := by omega
        simp [execOp, ho, hlo, hhi, Instr.sliceAt, Instr.slice, Instr.sliceBounds, Instr.sliceBound, asIntOf, run_underlying hu, ev, rSz he, e1, this]
    | some z =>
      rw [hlo] at hl; obtain ⟨k2, e2⟩ := bnd_some hR0 hi hl (by simp [optL, hlo])
      cases hhi : hi' with
      | none =>
        rw [hhi] at hh
        cases hh; simp [execOp, ho, hlo, hhi, Instr.sliceAt, Instr.slice, Instr.sliceBounds, Instr.sliceBound, asIntOf, run_underlying hu, ev, rSz he, e2, h1]
      | some y =>
        rw [hhi] at hh; obtain ⟨k1, e1⟩ := bnd_some hR0 hi hh (by simp [optL, hhi])
        have : h ≤ c := by omega
        simp [execOp, ho, hlo, hhi, Instr.sliceAt, Instr.slice, Instr.sliceBounds, Instr.sliceBound, asIntOf, run_underlying hu, ev, rSz he, e1, e2, this, h1]
  refine ⟨_, w, ρ, D', hrun, hR, .s (.r ?_)⟩; have hlen : ((xs.take h).drop l).length = h - l := by simp only [List.length_drop, List.length_take]; omega
  by_cases hz : h = l
  · have hnil : (xs.take h).drop l = [] := List.eq_nil_of_length_eq_zero (by omega)
    rw [hnil, hz, Nat.sub_self]; exact .sl0 (by omega)
  · have hcl : ¬ c = l := by omega
    have hne : xs ≠ [] := by intro e; subst e; simp at h2; omega
    obtain ⟨x0, hx0⟩ : ∃ x0, xs[0]? = some x0 := by
      cases xs with
      | nil => exact absurd rfl hne
      | cons x0 xs => exact ⟨x0, rfl⟩
    obtain ⟨_, b, o', rfl, _⟩ := hrow 0 x0 hx0; simp only [hcl, if_false, Option.map_some, add_lit]; rw [← hlen]; refine .of_row (by omega) (by omega) (hAD b o' rfl hne) fun i y hy => ?_
    rw [List.getElem?_drop, List.getElem?_take] at hy; split at hy
    · obtain ⟨a1, b2, o2, e2, a2⟩ := hrow _ y hy
      cases e2; refine ⟨a1, b, _, rfl, fun j r hj => ?_⟩
      obtain ⟨v, hv1, hv2⟩ := a2 j r hj; refine ⟨v, ?_, hv2.keep (Keeps.refl _ _) hDD⟩; rw [Nat.add_mul] at hv1; rw [← hv1]; congr 2; omega
    · cases hy
theorem op_max {xa xb : Operand} {ts : Array TypeId} (ho : o.op = .call { callee := .builtin .max, args := #[xa, xb], argTypes := ts }) (hd : dstOk o nt = true) {k k' : IntKind} {m n : Int} (h1 : (s.ev xa).i? = some (k, m)) (h2 : (s.ev xb).i? = some (k', n)) : OpL P E nt o [] (insOf s.env [xa, xb]) (gI k (if n > m then n else m)) [] := by
  refine .still hd fun C env get a w ρ D hf hi hR => ⟨.int k (if n > m then n else m), ?_, .s (.r (.v rfl))⟩
  have e1 := GV.i?_rep h1 (ev_rep hR hi (x := xa) (by simp))
  have e2 := GV.i?_rep h2 (ev_rep hR hi (x := xb) (by simp))
  have := run_max_int2 (P := P) w ts o.type k k' m n
  simp [execOp, ho, resolve, invoke, builtin, e1, e2, this]
theorem op_min {xa xb : Operand} {ts : Array TypeId} (ho : o.op = .call { callee := .builtin .min, args := #[xa, xb], argTypes := ts }) (hd : dstOk o nt = true) {k k' : IntKind} {m n : Int} (h1 : (s.ev xa).i? = some (k, m)) (h2 : (s.ev xb).i? = some (k', n)) : OpL P E nt o [] (insOf s.env [xa, xb]) (gI k (if n < m then n else m)) [] := by
  refine .still hd fun C env get a w ρ D hf hi hR => ⟨.int k (if n < m then n else m), ?_, .s (.r (.v rfl))⟩
  have e1 := GV.i?_rep h1 (ev_rep hR hi (x := xa) (by simp))
  have e2 := GV.i?_rep h2 (ev_rep hR hi (x := xb) (by simp))
  have := run_min_int2 (P := P) w ts o.type k k' m n
  simp [execOp, ho, resolve, invoke, builtin, e1, e2, this]
end
end Go.Proofs.Ytjklkppncmhehaa.T
namespace Go.Proofs.Ytjklkppncmhehaa.T
open Go Go.RowKit
open Go.Proofs.Ytjklkppncmhehaa.Sr (OrdF schedule_ord ready_spec)
/-- What one operation asks for and leaves. -/
structure Sg where
  fr : List (Nat × Option Blk)
  ins : List (Nat × GV)
  dst : Option Nat
  gv : GV
  Δ : List (Nat × Blk)
abbrev St := (Nat → GV) × (Nat → Option Blk)
def ap (g : Sg) (σ : St) : St := (put σ.1 g.dst g.gv, upd σ.2 g.Δ)
def StepOK (P : Program) (E : List PanicEntry → World → Prop) (nt : Nat) (ops : Array Oper) (i : Nat) (g : Sg) : Prop :=
  ∀ C env get a w rest Q, C.nt = nt → (∀ x ∈ g.fr, get x.1 = x.2) → (∀ x ∈ g.ins, env x.1 = x.2) → R C env get a w → (∀ a' w', R C (ap g (env, get)).1 (ap g (env, get)).2 a' w' → wpOps P ops Q rest a' w') → EscTo E Q → wpOps P ops Q (i :: rest) a w
/-! ### places -/
def at_ (σ : St) : Nat ⊕ Nat → GV ⊕ Option Blk
  | .inl t => .inl (σ.1 t)
  | .inr b => .inr (σ.2 b)
def locW (g : Sg) : List (Nat ⊕ Nat) := (match g.dst with | some d => [.inl d] | none => []) ++ g.Δ.map fun x => .inr x.1
def locR (g : Sg) : List (Nat ⊕ Nat) := (g.ins.map fun x => .inl x.1) ++ g.fr.map fun x => .inr x.1
theorem st_ext {σ τ : St} (h : ∀ l, at_ σ l = at_ τ l) : σ = τ := by
  obtain ⟨e, g⟩ := σ; obtain ⟨e', g'⟩ := τ; have h1 : e = e' := funext fun t => by have := h (.inl t); simpa [at_] using this
  have h2 : g = g' := funext fun b => by have := h (.inr b); simpa [at_] using this
  rw [h1, h2]
theorem gt_none {b : Nat} : ∀ {l : List (Nat × Blk)}, (∀ x ∈ l, x.1 ≠ b) → gt b l = none
  | [], _ => rfl
  | (u, y) :: l, h => by
    have := h (u, y) (List.mem_cons_self ..)
    simp only [gt]; rw [if_neg (fun e => this e.symm)]
    exact gt_none fun x hx => h x (List.mem_cons_of_mem _ hx)
theorem gt_some {b : Nat} : ∀ {l : List (Nat × Blk)}, (∃ x ∈ l, x.1 = b) → ∃ y, gt b l = some y
  | [], h => by obtain ⟨x, hx, _⟩ := h; cases hx
  | (u, y) :: l, h => by
    simp only [gt]; split
    · exact ⟨_, rfl⟩
    · rename_i hn
      obtain ⟨x, hx, rfl⟩ := h; rcases List.mem_cons.1 hx with rfl | hx
      · exact absurd rfl hn
      · exact gt_some ⟨x, hx, rfl⟩
theorem at_out (g : Sg) (σ : St) {l : Nat ⊕ Nat} (h : l ∉ locW g) : at_ (ap g σ) l = at_ σ l := by
  cases l with
  | inl t =>
    simp only [at_, ap, put]; split
    · rename_i e
      exact absurd (by simp [locW, e]) h
    · rfl
  | inr b =>
    simp only [at_, ap, upd]; rw [gt_none fun x hx e => h (by simp only [locW, List.mem_append, List.mem_map]; exact .inr ⟨x, hx, by rw [e]⟩)]
theorem at_in (g : Sg) (σ τ : St) {l : Nat ⊕ Nat} (h : l ∈ locW g) : at_ (ap g σ) l = at_ (ap g τ) l := by
  cases l with
  | inl t =>
    have : g.dst = some t := by
      simp only [locW, List.mem_append, List.mem_map] at h; rcases h with h | ⟨x, _, e⟩
      · split at h
        · rename_i e; simp at h; rw [e, h]
        · cases h
      · cases e
    simp only [at_, ap, put, this, if_true]
  | inr b =>
    obtain ⟨y, hy⟩ : ∃ y, gt b g.Δ = some y := gt_some (by
      simp only [locW, List.mem_append, List.mem_map] at h; rcases h with h | ⟨x, hx, e⟩
      · split at h <;> simp at h
      · cases e; exact ⟨x, hx, rfl⟩)
    simp only [at_, ap, upd, hy]
instance decPlace : DecidableEq (Nat ⊕ Nat)
  | .inl a, .inl b => if h : a = b then isTrue (by rw [h]) else isFalse fun e => by cases e; exact h rfl
  | .inr a, .inr b => if h : a = b then isTrue (by rw [h]) else isFalse fun e => by cases e; exact h rfl
  | .inl _, .inr _ => isFalse fun e => by cases e
  | .inr _, .inl _ => isFalse fun e => by cases e
def memP (l : Nat ⊕ Nat) (xs : List (Nat ⊕ Nat)) : Bool := xs.any fun x => decide (l = x)
theorem memP_of {l : Nat ⊕ Nat} {xs : List (Nat ⊕ Nat)} (h : l ∈ xs) : memP l xs = true := List.any_eq_true.2 ⟨l, h, by simp⟩
def conf (g h : Sg) : Bool := (locW g).any (fun l => memP l (locR h ++ locW h)) || (locW h).any fun l => memP l (locR g ++ locW g)
theorem conf_l {g h : Sg} {l : Nat ⊕ Nat} (h1 : l ∈ locW g) (h2 : l ∈ locR h ∨ l ∈ locW h) : conf g h = true := by
  simp only [conf, Bool.or_eq_true, List.any_eq_true]; exact .inl ⟨l, h1, memP_of (List.mem_append.2 h2)⟩
theorem conf_r {g h : Sg} {l : Nat ⊕ Nat} (h1 : l ∈ locW h) (h2 : l ∈ locR g ∨ l ∈ locW g) : conf g h = true := by
  simp only [conf, Bool.or_eq_true, List.any_eq_true]; exact .inr ⟨l, h1, memP_of (List.mem_append.2 h2)⟩
/-! ### states of which some operations are done -/
def stX (gs : List Sg) (L : Nat → Bool) (σ : St) : Nat → St
  | 0 => σ
  | n + 1 => if L n then match gs[n]? with
    | some g => ap g (stX gs L σ n)
    | none => stX gs L σ n
    else stX gs L σ n
def can (gs : List Sg) (σ : St) (n : Nat) : St := stX gs (fun _ => true) σ n
theorem can_succ {gs : List Sg} {σ : St} {n : Nat} {g : Sg} (h : gs[n]? = some g) : can gs σ (n + 1) = ap g (can gs σ n) := by simp [can, stX, h]
def maskOf (acc : List Nat) (es : List Nat) : Nat := es.foldl (fun s e => s ||| 2 ^ e ||| acc.getD e 0) 0
def masks (eds : List (List Nat)) : List Nat := eds.foldl (fun acc es => acc ++ [maskOf acc es]) []
theorem maskOf_test {acc es : List Nat} {i : Nat} (h : (maskOf acc es).testBit i = true) : ∃ e ∈ es, i = e ∨ (acc.getD e 0).testBit i = true := by
  have key : ∀ (es : List Nat) (s : Nat), (es.foldl (fun s e => s ||| 2 ^ e ||| acc.getD e 0) s).testBit i = true → s.testBit i = true ∨ ∃ e ∈ es, i = e ∨ (acc.getD e 0).testBit i = true := by
    intro es; induction es with
    | nil => intro s h; exact .inl h
    | cons e es ih =>
      intro s h; rcases ih _ h with h | ⟨e', he, h⟩
      · simp only [Nat.testBit_or, Bool.or_eq_true, Nat.testBit_two_pow, decide_eq_true_eq] at h
        rcases h with (h | h) | h
        · exact .inl h
        · exact .inr ⟨e, List.mem_cons_self .., .inl h.symm⟩
        · exact .inr ⟨e, List.mem_cons_self .., .inr h⟩
      · exact .inr ⟨e', List.mem_cons_of_mem _ he, h⟩
  rcases key es 0 h with h | h
  · simp at h
  · exact h
theorem masks_spec (X : Nat → Prop) (eds : List (List Nat)) (hX : ∀ (j : Nat) (es : List Nat), eds[j]? = some es → X j → ∀ e ∈ es, X e) {i j : Nat} (h : ((masks eds).getD j 0).testBit i = true) (hj : X j) : X i := by
  have key : ∀ (pre rest : List (List Nat)) (acc : List Nat), eds = pre ++ rest → acc.length = pre.length → (∀ j i, (acc.getD j 0).testBit i = true → X j → X i) → ∀ j i, ((rest.foldl (fun acc es => acc ++ [maskOf acc es]) acc).getD j 0).testBit i = true → X j → X i := by
    intro pre rest; induction rest generalizing pre with
    | nil => intro acc _ _ h; exact h
    | cons es rest ih =>
      intro acc he hl hacc; refine ih (pre ++ [es]) (acc ++ [maskOf acc es]) (by simp [he]) (by simp [hl]) fun j i hb hj => ?_
      rw [List.getD_eq_getElem?_getD, List.getElem?_append] at hb; split at hb
      · exact hacc j i (by rw [List.getD_eq_getElem?_getD]; exact hb) hj
      · rename_i hge
        by_cases e : j = acc.length
        · subst e
          simp only [Nat.sub_self, List.getElem?_cons_zero, Option.getD_some] at hb; obtain ⟨e', he', h⟩ := maskOf_test hb; have hx := hX acc.length es (by rw [he, hl]; simp) hj e' he'
          rcases h with rfl | h
          · exact hx
          · exact hacc e' i h hx
        · have : ([maskOf acc es])[j - acc.length]? = none := List.getElem?_eq_none (by simp; omega)
          rw [this] at hb; simp at hb
  exact key [] eds [] rfl rfl (fun j i h _ => by simp at h) j i h hj
def okDraw (gs : List Sg) (ms : List Nat) : Bool := (List.range gs.length).all fun j => (List.range j).all fun i => match gs[i]?, gs[j]? with
  | some g, some h => !conf g h || (ms.getD j 0).testBit i
  | _, _ => true
theorem okDraw_spec {gs : List Sg} {ms : List Nat} (h : okDraw gs ms = true) {i j : Nat} (hij : i < j) {g g' : Sg} (hi : gs[i]? = some g) (hj : gs[j]? = some g') (hc : conf g g' = true) : (ms.getD j 0).testBit i = true := by
  simp only [okDraw, List.all_eq_true, List.mem_range] at h; have := h j (List.getElem?_eq_some_iff.1 hj).1 i hij
  rw [hi, hj] at this; simpa [hc] using this
def edsOf (ops : List Oper) : List (List Nat) := ops.map fun o => (o.after.toList.filter (Region.binds .any ·)).map (·.on)
def edsOk (eds : List (List Nat)) : Bool := (List.range eds.length).all fun j => (eds.getD j []).all fun e => e < j
section
variable {gs : List Sg} {ms : List Nat} {σ : St} {L : Nat → Bool}
theorem stX_loc (hok : okDraw gs ms = true) (hL : ∀ i j, L j = true → (ms.getD j 0).testBit i = true → L i = true) {i : Nat} {g : Sg} (hi : gs[i]? = some g) (hn : L i = false) (hpre : ∀ m, (ms.getD i 0).testBit m = true → L m = true) {l : Nat ⊕ Nat} (hl : l ∈ locR g ∨ l ∈ locW g) :
    ∀ n, i ≤ n → at_ (stX gs L σ n) l = at_ (can gs σ i) l := by
  have h1 : ∀ m, m ≤ i → at_ (stX gs L σ m) l = at_ (can gs σ m) l := by
    intro m; induction m with
    | zero => intro _; rfl
    | succ m ih =>
      intro hm; have ih := ih (by omega)
      cases hg : gs[m]? with
      | none => simp only [stX, can, hg, if_true, ite_self]; exact ih
      | some gm =>
        rw [can_succ hg]
        cases hLm : L m with
        | true =>
          simp only [stX, hLm, if_true, hg]; by_cases hw : l ∈ locW gm
          · exact at_in gm _ _ hw
          · rw [at_out gm _ hw, at_out gm _ hw]; exact ih
        | false =>
          simp only [stX, hLm, Bool.false_eq_true, if_false]; by_cases hw : l ∈ locW gm
          · have := hpre m (okDraw_spec hok (by omega) hg hi (conf_l hw hl))
            rw [hLm] at this; cases this
          · rw [at_out gm _ hw]; exact ih
  intro n hin; induction n with
  | zero =>
    obtain rfl : i = 0 := by omega
    exact h1 0 (Nat.le_refl _)
  | succ n ih =>
    by_cases e : i = n + 1
    · subst e; exact h1 _ (Nat.le_refl _)
    · have ih := ih (by omega)
      rw [← ih]
      cases hLn : L n with
      | false => simp [stX, hLn]
      | true =>
        cases hg : gs[n]? with
        | none => simp [stX, hLn, hg]
        | some gn =>
          simp only [stX, hLn, if_true, hg]; refine at_out gn _ fun hw => ?_; by_cases e' : n = i
          · subst e'; rw [hn] at hLn; cases hLn
          · have := hL i n hLn (okDraw_spec hok (by omega) hi hg (conf_r hw hl))
            rw [hn] at this; cases this
theorem stX_add (hok : okDraw gs ms = true) (hL : ∀ i j, L j = true → (ms.getD j 0).testBit i = true → L i = true) {i : Nat} {g : Sg} (hi : gs[i]? = some g) (hn : L i = false) : ∀ n, i < n → ap g (stX gs L σ n) = stX gs (fun m => L m || m == i) σ n := by
  have h0 : ∀ m, m ≤ i → stX gs (fun m => L m || m == i) σ m = stX gs L σ m := by
    intro m; induction m with
    | zero => intro _; rfl
    | succ m ih =>
      intro hm; have hmi : (m == i) = false := by simp; omega
      simp only [stX, hmi, Bool.or_false]; rw [ih (by omega)]
  intro n hin; induction n with
  | zero => omega
  | succ n ih =>
    by_cases e : n = i
    · subst e
      have : stX gs L σ (n + 1) = stX gs L σ n := by simp [stX, hn]
      rw [this]; simp only [stX, beq_self_eq_true, Bool.or_true, if_true, hi, h0 n (Nat.le_refl _)]
    · have hni : (n == i) = false := by simpa using e
      have ih := ih (by omega)
      cases hLn : L n with
      | false =>
        have h1 : stX gs L σ (n + 1) = stX gs L σ n := by simp [stX, hLn]
        have h2 : stX gs (fun m => L m || m == i) σ (n + 1) = stX gs (fun m => L m || m == i) σ n := by simp [stX, hLn, hni]
        rw [h1, h2, ih]
      | true =>
        cases hg : gs[n]? with
        | none =>
          have h1 : stX gs L σ (n + 1) = stX gs L σ n := by simp [stX, hLn, hg]
          have h2 : stX gs (fun m => L m || m == i) σ (n + 1) = stX gs (fun m => L m || m == i) σ n := by simp [stX, hLn, hg]
          rw [h1, h2, ih]
        | some gn =>
          have h1 : stX gs L σ (n + 1) = ap gn (stX gs L σ n) := by simp [stX, hLn, hg]
          have h2 : stX gs (fun m => L m || m == i) σ (n + 1) = ap gn (stX gs (fun m => L m || m == i) σ n) := by simp [stX, hLn, hg]
          rw [h1, h2, ← ih]; refine st_ext fun l => ?_; have hno : ¬ (l ∈ locW gn ∧ l ∈ locW g) := fun ⟨a, b⟩ => by
            have := hL i n hLn (okDraw_spec hok (by omega) hi hg (conf_l b (.inr a)))
            rw [hn] at this; cases this
          by_cases w1 : l ∈ locW g
          · have w2 : l ∉ locW gn := fun h => hno ⟨h, w1⟩
            rw [at_out gn _ w2]; exact at_in g _ _ w1
          · rw [at_out g _ w1]
            by_cases w2 : l ∈ locW gn
            · exact at_in gn _ _ w2
            · rw [at_out gn _ w2, at_out gn _ w2, at_out g _ w1]
theorem stX_all (h : ∀ i, i < gs.length → L i = true) : ∀ n, n ≤ gs.length → stX gs L σ n = can gs σ n := by
  intro n; induction n with
  | zero => intro _; rfl
  | succ n ih =>
    intro hn; have := ih (by omega)
    simp only [can] at this; simp only [stX, can, h n (by omega), if_true, this]
theorem stX_none (h : ∀ i, i < gs.length → L i = false) : ∀ n, n ≤ gs.length → stX gs L σ n = σ := by
  intro n; induction n with
  | zero => intro _; rfl
  | succ n ih =>
    intro hn; simp only [stX, h n (by omega), Bool.false_eq_true, if_false]
    exact ih (by omega)
end
/-- All that a region's signs must fulfil. -/
structure Region.Ok (P : Program) (E : List PanicEntry → World → Prop) (nt : Nat) (ops : Array Oper) (gs : List Sg) (σ : St) : Prop where
  len : gs.length = ops.size
  step : ∀ (i : Nat) (g : Sg), gs[i]? = some g → StepOK P E nt ops i g
  fr : ∀ (i : Nat) (g : Sg), gs[i]? = some g → ∀ x ∈ g.fr, (can gs σ i).2 x.1 = x.2
  ins : ∀ (i : Nat) (g : Sg), gs[i]? = some g → ∀ x ∈ g.ins, (can gs σ i).1 x.1 = x.2
section
variable {P : Program} {E : List PanicEntry → World → Prop} {nt : Nat} {ops : Array Oper} {gs : List Sg} {σ : St}
theorem ready_mem {L : Array Bool} {i : Nat} {o : Oper} (hi : ops[i]? = some o) (hn : L.getD i true = false) (h : ∀ e ∈ o.after, Region.binds .any e = true → L.getD e.on false = true) : i ∈ Region.ready .any ops L := by
  unfold Region.ready; rw [List.mem_filter, List.mem_range]; refine ⟨(Array.getElem?_eq_some_iff.1 hi).1, ?_⟩; simp only [hn, Bool.not_false, Bool.true_and, hi, Option.map_some, Option.getD_some]; rw [Array.all_eq_true_iff_forall_mem]; intro e he
  cases hb : Region.binds .any e
  · simp
  · simp [h e he hb]
theorem eds_get {i : Nat} {es : List Nat} (h : (edsOf ops.toList)[i]? = some es) : ∃ o, ops[i]? = some o ∧ es = (o.after.toList.filter (Region.binds .any ·)).map (·.on) := by
  simp only [edsOf, List.getElem?_map, Option.map_eq_some_iff] at h; obtain ⟨o, ho, rfl⟩ := h; exact ⟨o, by simpa using ho, rfl⟩
def left (L : Array Bool) (n : Nat) : Nat := (List.range n).countP fun i => !(L.getD i true)
theorem region_any (hgs : Region.Ok P E nt ops gs σ) (he : edsOk (edsOf ops.toList) = true) (hok : okDraw gs (masks (edsOf ops.toList)) = true) {C : Ctx} (hC : C.nt = nt) {Q : Exit → Act → World → Prop} (hE : EscTo E Q) (hQ : ∀ a w, R C (can gs σ gs.length).1 (can gs σ gs.length).2 a w → Q .normal a w) :
    ∀ (n : Nat) (L : Array Bool) (l : List Nat), OrdF ops n L l → L.size = ops.size → left L ops.size ≤ n → (∀ (j : Nat) (es : List Nat), (edsOf ops.toList)[j]? = some es → L.getD j false = true → ∀ e ∈ es, L.getD e false = true) →
    ∀ a w, R C (stX gs (fun i => L.getD i false) σ gs.length).1 (stX gs (fun i => L.getD i false) σ gs.length).2 a w → wpOps P ops Q l a w := by
  have hend : ∀ (L : Array Bool), L.size = ops.size → (∀ i, i < ops.size → L.getD i true = true) → ∀ a w, R C (stX gs (fun i => L.getD i false) σ gs.length).1 (stX gs (fun i => L.getD i false) σ gs.length).2 a w → Q .normal a w := by
    intro L hs hall a w hR; rw [stX_all (fun i hi => by
      have := hall i (by rw [← hgs.len]; exact hi)
      have hlt : i < L.size := by rw [hs, ← hgs.len]; exact hi
      simp only [Array.getD_eq_getD_getElem?, Array.getElem?_eq_getElem hlt, Option.getD_some] at this ⊢; exact this) _ (Nat.le_refl _)] at hR
    exact hQ a w hR
  intro n; induction n with
  | zero =>
    intro L l hl hs hleft hcl a w hR; obtain rfl : l = [] := hl
    refine hend L hs (fun i hi => ?_) a w hR
    have h0 : left L ops.size = 0 := by omega
    simp only [left, List.countP_eq_zero, List.mem_range, Bool.not_eq_true', Bool.not_eq_false] at h0; exact h0 i hi
  | succ n ih =>
    intro L l hl hs hleft hcl a w hR; rcases hl with ⟨hr, rfl⟩ | ⟨i, l', hi, rfl, hl⟩
    · refine hend L hs (fun i hi => ?_) a w hR
      induction i using Nat.strongRecOn with
      | _ i ihs =>
        cases hLi : L.getD i true with
        | true => rfl
        | false =>
          exfalso
          have ho : ops[i]? = some ops[i] := Array.getElem?_eq_getElem hi
          have hmem : i ∈ Region.ready .any ops L := ready_mem ho hLi fun e hem hb => by
            have hlt : e.on < i := by
              simp only [edsOk, List.all_eq_true, List.mem_range] at he; have h1 := he i (by simp [edsOf]; exact hi)
              have : (edsOf ops.toList).getD i [] = (ops[i].after.toList.filter (Region.binds .any ·)).map (·.on) := by simp [edsOf, hi]
              rw [this] at h1; have := h1 e.on (List.mem_map.2 ⟨e, by simp [hem, hb], rfl⟩)
              simpa using this
            have := ihs e.on hlt (by omega)
            have hlt' : e.on < L.size := by omega
            simp only [Array.getD_eq_getD_getElem?, Array.getElem?_eq_getElem hlt', Option.getD_some] at this ⊢; exact this
          rw [hr] at hmem
          cases hmem
    · obtain ⟨h1, h2, o, ho, h3⟩ := ready_spec hi
      have hL0 : L.getD i false = false := by
        have hlt' : i < L.size := by omega
        simp only [Array.getD_eq_getD_getElem?, Array.getElem?_eq_getElem hlt', Option.getD_some] at h2 ⊢; exact h2
      obtain ⟨g, hg⟩ : ∃ g, gs[i]? = some g := ⟨_, List.getElem?_eq_getElem (by rw [hgs.len]; exact h1)⟩
      have hclm : ∀ i j, L.getD j false = true → ((masks (edsOf ops.toList)).getD j 0).testBit i = true → L.getD i false = true := fun i j hj hb => masks_spec (fun m => L.getD m false = true) _ hcl hb hj
      have hpre : ∀ m, ((masks (edsOf ops.toList)).getD i 0).testBit m = true → L.getD m false = true := by
        intro m hb; have hX : ∀ (j : Nat) (es : List Nat), (edsOf ops.toList)[j]? = some es → (L.getD j false = true ∨ j = i) → ∀ e ∈ es, (L.getD e false = true ∨ e = i) := by
          intro j es hj hx e hem; rcases hx with hx | rfl
          · exact .inl (hcl j es hj hx e hem)
          · obtain ⟨o', ho', rfl⟩ := eds_get hj
            rw [ho] at ho'; cases ho'; obtain ⟨e', he', rfl⟩ := List.mem_map.1 hem; simp only [List.mem_filter, Array.mem_toList_iff] at he'; exact .inl (h3 e' he'.1 he'.2)
        have hmm : ∀ (acc : List Nat) (es : List Nat), True := fun _ _ => trivial
        have := masks_spec (fun m => L.getD m false = true ∨ m = i) _ hX hb (.inr rfl)
        rcases this with h | rfl
        · exact h
        · exfalso
          have hX' : ∀ (j : Nat) (es : List Nat), (edsOf ops.toList)[j]? = some es → (j < m ∨ L.getD j false = true ∨ j = m) → ∀ e ∈ es, (e < m ∨ L.getD e false = true ∨ e = m) := by
            intro j es hj hx e hem; have hlt : e < j := by
              simp only [edsOk, List.all_eq_true, List.mem_range] at he; have h1' := he j (List.getElem?_eq_some_iff.1 hj).1 e (by rw [List.getD_eq_getElem?_getD, hj]; exact hem)
              simpa using h1'
            rcases hx with hx | hx | rfl
            · exact .inl (by omega)
            · exact .inr (.inl (hcl j es hj hx e hem))
            · exact .inl hlt
          have key : ∀ (pre rest : List (List Nat)) (acc : List Nat), edsOf ops.toList = pre ++ rest → acc.length = pre.length → (∀ j i, (acc.getD j 0).testBit i = true → i < j) → ∀ j i, ((rest.foldl (fun acc es => acc ++ [maskOf acc es]) acc).getD j 0).testBit i = true → i < j := by
            intro pre rest; induction rest generalizing pre with
            | nil => intro acc _ _ h; exact h
            | cons es rest ihr =>
              intro acc hee hll hacc; refine ihr (pre ++ [es]) (acc ++ [maskOf acc es]) (by simp [hee]) (by simp [hll]) fun j i hb => ?_
              rw [List.getD_eq_getElem?_getD, List.getElem?_append] at hb; split at hb
              · exact hacc j i (by rw [List.getD_eq_getElem?_getD]; exact hb)
              · by_cases e : j = acc.length
                · subst e
                  simp only [Nat.sub_self, List.getElem?_cons_zero, Option.getD_some] at hb; obtain ⟨e', he', h⟩ := maskOf_test hb; have hlt : e' < acc.length := by
                    simp only [edsOk, List.all_eq_true, List.mem_range] at he; have := he acc.length (by rw [hee, hll]; simp) e' (by rw [List.getD_eq_getElem?_getD, hee, hll]; simpa using he')
                    simpa using this
                  rcases h with rfl | h
                  · exact hlt
                  · have := hacc e' i h; omega
                · have : ([maskOf acc es])[j - acc.length]? = none := List.getElem?_eq_none (by simp; omega)
                  rw [this] at hb; simp at hb
          have := key [] _ [] rfl rfl (fun j i h => by simp at h) m m hb
          omega
      refine hgs.step i g hg C _ _ a w l' Q hC (fun x hx => ?_) (fun x hx => ?_) hR (fun a' w' hR' => ?_) hE
      · have := stX_loc hok hclm hg hL0 hpre (σ := σ) (l := .inr x.1) (.inl (by simp only [locR, List.mem_append, List.mem_map]; exact .inr ⟨x, hx, rfl⟩)) gs.length (by rw [hgs.len]; omega)
        simp only [at_, Sum.inr.injEq] at this; rw [this]; exact hgs.fr i g hg x hx
      · have := stX_loc hok hclm hg hL0 hpre (σ := σ) (l := .inl x.1) (.inl (by simp only [locR, List.mem_append, List.mem_map]; exact .inl ⟨x, hx, rfl⟩)) gs.length (by rw [hgs.len]; omega)
        simp only [at_, Sum.inl.injEq] at this; rw [this]; exact hgs.ins i g hg x hx
      · have hadd := stX_add hok hclm hg hL0 (σ := σ) gs.length (by rw [hgs.len]; exact h1)
        have hset : ∀ m, (L.setIfInBounds i true).getD m false = (L.getD m false || m == i) := by
          intro m; simp only [Array.getD_eq_getD_getElem?, Array.getElem?_setIfInBounds]; by_cases e : i = m
          · subst e
            simp [show i < L.size by omega]
          · simp only [e, if_false]
            rw [show (m == i) = false by simp; omega, Bool.or_false]
        refine ih _ _ hl (by simp [hs]) ?_ (fun j es hj hx e hem => ?_) a' w' ?_
        · -- one less is left
          have hlt : left (L.setIfInBounds i true) ops.size < left L ops.size := by
            unfold left; have : ∀ (n : Nat), i < n → n ≤ ops.size → (List.range n).countP (fun j => !(L.setIfInBounds i true).getD j true) < (List.range n).countP fun j => !L.getD j true := by
              intro n; have hsame : ∀ j, j ≠ i → (L.setIfInBounds i true).getD j true = L.getD j true := by
                intro j hj; simp only [Array.getD_eq_getD_getElem?, Array.getElem?_setIfInBounds, if_neg (fun e => hj (Eq.symm e))]
              have hset' : (L.setIfInBounds i true).getD i true = true := by
                simp [Array.getD_eq_getD_getElem?, Array.getElem?_setIfInBounds, show i < L.size by omega]
              have hle : ∀ n, n ≤ i → (List.range n).countP (fun j => !(L.setIfInBounds i true).getD j true) = (List.range n).countP fun j => !L.getD j true := by
                intro n hn; refine List.countP_congr fun j hj => ?_; rw [hsame j (by have := List.mem_range.1 hj; omega)]
              induction n with
              | zero => omega
              | succ n ihn =>
                intro hin hno; rw [List.range_succ, List.countP_append, List.countP_append]; by_cases e : n = i
                · subst e
                  rw [hle n (Nat.le_refl _)]; have h2' : L[n]?.getD true = false := by simpa using h2
                  simp [hset', h2']
                · have := ihn (by omega) (by omega)
                  simp only [List.countP_cons, List.countP_nil, hsame n e]; omega
            exact this ops.size h1 (Nat.le_refl _)
          omega
        · rw [hset] at hx ⊢
          simp only [Bool.or_eq_true, beq_iff_eq] at hx ⊢; rcases hx with hx | rfl
          · exact .inl (hcl j es hj hx e hem)
          · obtain ⟨o', ho', rfl⟩ := eds_get hj
            rw [ho] at ho'; cases ho'; obtain ⟨e', he', rfl⟩ := List.mem_map.1 hem; simp only [List.mem_filter, Array.mem_toList_iff] at he'; exact .inl (h3 e' he'.1 he'.2)
        · rw [show (fun m => (L.setIfInBounds i true).getD m false) = fun m => L.getD m false || m == i from funext hset, ← hadd]
          exact hR'
theorem region_text (hgs : Region.Ok P E nt ops gs σ) {C : Ctx} (hC : C.nt = nt) {Q : Exit → Act → World → Prop} (hE : EscTo E Q) (hQ : ∀ a w, R C (can gs σ gs.length).1 (can gs σ gs.length).2 a w → Q .normal a w) :
    ∀ (m k : Nat), k + m = gs.length → ∀ a w, R C (can gs σ k).1 (can gs σ k).2 a w → wpOps P ops Q (List.range' k m) a w := by
  intro m; induction m with
  | zero => intro k hk a w hR; exact hQ a w (by rw [← hk]; exact hR)
  | succ m ih =>
    intro k hk a w hR; obtain ⟨g, hg⟩ : ∃ g, gs[k]? = some g := ⟨_, List.getElem?_eq_getElem (by omega)⟩
    rw [List.range'_succ]; refine hgs.step k g hg C _ _ a w _ Q hC (hgs.fr k g hg) (hgs.ins k g hg) hR (fun a' w' hR' => ih (k + 1) (by omega) a' w' ?_) hE
    rw [can_succ hg]; exact hR'
end
end Go.Proofs.Ytjklkppncmhehaa.T
