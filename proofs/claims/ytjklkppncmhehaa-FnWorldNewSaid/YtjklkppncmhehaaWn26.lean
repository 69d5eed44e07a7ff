/-
  What is proved: plain facts about memory: a slice that reads as a list of values, a block that is known whole, an append onto a row of the call's own. No condition beyond those that each theorem states.
  What is proved: how entries and groups read in memory; the contracts of impl.indexOf, impl.StampValid, impl.less, impl.isGroup, impl.isTime, impl.isMessage over the second program. Conditions: those that each theorem states.
  What is proved: the contract of impl.areEntries over the second program. Conditions: those that the theorem states.
  What is proved: the contract of impl.clone at entries; those of impl.GroupValid, impl.GroupStamp at groups without entries, over the second program. Conditions: those that each theorem states.
-/
import Derived.Below
import Derived.Laws.OwnMore
import Derived.Deep.AppendLies
import Derived.Deep.Draws
import Derived.Laws.Rows
import Derived.Maps.AppendAt
import Derived.RegionTactic
import Derived.OwnWalk
import Derived.Lib.Hide
import Derived.Test.YtjklkppncmhehaaWn14
import Derived.WalkKit
import Derived.ProofKit
import Derived.OneCell
import Derived.LoopTactic
import Derived.Deep.RegionHeld3
import Derived.Deep.RegionWith
import Derived.BigQuiet
import Derived.Deep.RegionLaw
set_option linter.unusedVariables false
set_option linter.unusedSimpArgs false
namespace Go.Proofs.Ytjklkppncmhehaa
open Go.RowKit

theorem block_of_add (a : Addr) (n : Nat) : (a.add n).block = a.block := by unfold Addr.add; split <;> rfl
theorem add_of_add (a : Addr) (i j : Nat) : (a.add i).add j = a.add (i + j) := by
  unfold Addr.add
  by_cases hi : i = 0 <;> by_cases hj : j = 0 <;> simp [hi, hj, Nat.add_assoc]

def Reads (w : World) (B size : Nat) (A : Option Addr) (n : Nat) (xs : List Value) : Prop :=
  xs.length = n * size ∧ (0 < n → ∃ ad, A = some ad ∧ ad.block < B ∧ ∀ j u, xs[j]? = some u → w.cell? (ad.add j) = some u)

section
variable {w w' : World} {B B' size n : Nat} {A : Option Addr} {xs : List Value}
theorem Reads.none_ : Reads w B size A 0 [] := ⟨by simp, fun h => absurd h (by omega)⟩
theorem Reads.at_ {k : Nat} (h : Reads w B 1 A n xs) (hk : k < n) : ∃ ad u, A = some ad ∧ ad.block < B ∧ xs[k]? = some u ∧ w.cell? (ad.add k) = some u := by
  obtain ⟨ad, e, hb, hc⟩ := h.2 (by omega)
  have hl : k < xs.length := by have := h.1; omega
  exact ⟨ad, xs[k], e, hb, List.getElem?_eq_getElem hl, hc k _ (List.getElem?_eq_getElem hl)⟩
theorem Reads.keep (h : Reads w B size A n xs) (hk : ∀ p : Addr, p.block < B → w'.cell? p = w.cell? p) : Reads w' B size A n xs :=
  ⟨h.1, fun hn => by
    obtain ⟨ad, e, hb, hc⟩ := h.2 hn
    exact ⟨ad, e, hb, fun j u hu => (hk _ (by rw [block_of_add]; exact hb)).trans (hc j u hu)⟩⟩
theorem Reads.more (h : Reads w B size A n xs) (hB : B ≤ B') : Reads w B' size A n xs :=
  ⟨h.1, fun hn => by
    obtain ⟨ad, e, hb, hc⟩ := h.2 hn
    exact ⟨ad, e, by omega, hc⟩⟩
theorem Reads.below (h : Reads w B size A n xs) (hb : Below B w w') : Reads w' B size A n xs := h.keep fun _ hp => hb.cell hp
theorem Reads.drew (h : Reads w B size A n xs) : Reads w.drew B size A n xs := h
theorem Reads.drewN (h : Reads w B size A n xs) (k : Nat) : Reads (w.drewN k) B size A n xs := h
theorem Reads.alloc (h : Reads w B size A n xs) (hB : B ≤ w.heap.size) (o : Obj) : Reads (w.alloc o) B size A n xs := h.keep fun p hp => World.cell?_alloc_lt w o p (by omega)
theorem Reads.setCell (h : Reads w B size A n xs) {p : Addr} (hB : B ≤ p.block) (u : Value) : Reads (w.setCell p u) B size A n xs :=
  h.keep fun q hq => World.cell?_setCell_other w p q u (fun e => by subst e; omega)
theorem Reads.grown (h : Reads w B size A n xs) {row : Option Nat} (hg : w.grownBy w' row) (hB : B ≤ w.heap.size) (hr : ∀ g, row = some g → B ≤ g) : Reads w' B size A n xs :=
  h.keep fun p hp => World.cell?_of_block (hg.block p.block (by omega) (fun e => by have := hr _ e.symm; omega))
theorem Reads.cut (h : Reads w B size A n xs) {k cap : Nat} (hk : k ≤ n) (hc : n ≤ cap) :
    Reads w B size (if cap = k then A else A.map (·.add (k * size))) (n - k) (xs.drop (k * size)) := by
  refine ⟨by rw [List.length_drop, h.1, Nat.sub_mul], fun hn => ?_⟩
  obtain ⟨ad, rfl, hb, hcell⟩ := h.2 (by omega)
  rw [if_neg (by omega)]
  refine ⟨ad.add (k * size), rfl, by rw [block_of_add]; exact hb, fun j u hu => ?_⟩
  rw [add_of_add]
  exact hcell _ u (by rw [← hu, List.getElem?_drop])
theorem Reads.of_own {base : Nat} {e : TypeId} {c : Nat} (h : w.ownsRow base e size (.slice A n c) n xs) : Reads w w.heap.size size A n xs := by
  refine ⟨h.1, fun hn => ?_⟩
  obtain ⟨g, cap, hv, _, hlt⟩ := h.form hn
  have hA : A = some ⟨g, 0, none⟩ := by injection hv
  subst hA
  exact ⟨_, rfl, hlt, h.cells (g := g) rfl⟩
end

def Blk (w : World) (g : Nat) (t : TypeId) (cs : Array Value) : Prop := w.heap[g]? = some (.cells cs t (0, 0))

section
variable {w w' : World} {g : Nat} {t : TypeId} {cs : Array Value}
theorem Blk.lt (h : Blk w g t cs) : g < w.heap.size := by
  rcases Nat.lt_or_ge g w.heap.size with hlt | hge
  · exact hlt
  · unfold Blk at h; rw [Array.getElem?_eq_none hge] at h; cases h
theorem Blk.cell (h : Blk w g t cs) (i : Nat) : w.cell? ⟨g, i, none⟩ = cs[i]? := cell_of_row w g i cs t (0, 0) h
theorem Blk.frozen (h : Blk w g t cs) (i : Nat) : w.frozen? ⟨g, i, none⟩ = false := by
  unfold Blk at h
  simp [World.frozen?, h]
theorem Blk.new (w : World) (t : TypeId) (cs : Array Value) : Blk (w.alloc (.cells cs t)) w.heap.size t cs := heap_alloc_new w _
theorem Blk.drew (h : Blk w g t cs) : Blk w.drew g t cs := h
theorem Blk.drewN (h : Blk w g t cs) (n : Nat) : Blk (w.drewN n) g t cs := h
theorem Blk.alloc (h : Blk w g t cs) (o : Obj) : Blk (w.alloc o) g t cs := (Below.heap_alloc w o g h.lt).trans h
theorem Blk.set_ (h : Blk w g t cs) (i : Nat) (u : Value) : Blk (w.setCell ⟨g, i, none⟩ u) g t (cs.setIfInBounds i u) := by
  unfold Blk at h ⊢
  simp [World.setCell, Array.getElem?_modify, h]
theorem Blk.far (h : Blk w g t cs) {p : Addr} (hp : g ≠ p.block) (u : Value) : Blk (w.setCell p u) g t cs := (Below.heap_setCell w p u g hp).trans h
theorem Blk.below {B : Nat} (h : Blk w g t cs) (hb : Below B w w') (hg : g < B) : Blk w' g t cs := (hb.block g hg).trans h
theorem Blk.grown {row : Option Nat} (h : Blk w g t cs) (hb : w.grownBy w' row) (hg : some g ≠ row) : Blk w' g t cs := (hb.block g h.lt hg).trans h
theorem Blk.ne_ {g' : Nat} {t' : TypeId} {cs' : Array Value} (h : Blk w g t cs) (h' : Blk w g' t' cs') (hne : t ≠ t') : g ≠ g' := by
  rintro rfl
  unfold Blk at h h'
  rw [h] at h'
  injection h' with h'
  injection h' with _ ht
  exact hne ht
theorem own_blk_ne {base : Nat} {e : TypeId} {size n : Nat} {v : Value} {xs : List Value} (h : w.ownsRow base e size v n xs) (hg : Blk w g t cs) (hne : e ≠ t) : v.ownBlock ≠ some g := by
  rcases h.2 with ⟨rfl, _⟩ | ⟨g', cap, cur, rfl, _, hh, _⟩
  · simp [Value.ownBlock]
  · intro he
    have : g' = g := by simpa [Value.ownBlock] using he
    subst this
    exact Blk.ne_ (t := e) hh hg hne rfl
end

section
variable {P : Program} (w : World)

theorem run_append_of_nil (base : Nat) (t ty e : TypeId) (i : TypeInfo) (size : Nat) (ht : P.underlying t = some (.slice e)) (hi : P.info? e = some i)
    (v : Value) (n : Nat) (xs : List Value) (hown : w.ownsRow base e size v n xs) (c : Nat) : (Builtin.append_ #[t, t] ty #[v, .slice none 0 c]).run P w = .ok v w := by
  rcases hown.2 with ⟨rfl, rfl⟩ | ⟨g, cap, cur, rfl, _, _, hnc, _⟩
  · simp [Builtin.append_, run_underlying ht, sizeOf, typeInfo, hi, Builtin.lenOf, Builtin.firstCells]
  · simp [Builtin.append_, run_underlying ht, sizeOf, typeInfo, hi, Builtin.lenOf, Builtin.firstCells, hnc, storeCells]

theorem run_append_any (base : Nat) (t ty e : TypeId) (i : TypeInfo) (z : Value) (size bytes : Nat) (ht : P.underlying t = some (.slice e)) (hi : P.info? e = some i) (hz : i.zero = some z)
    (hsize : i.size = size) (hby : i.bytes = bytes) (hzs : z.cells.size = size) (hsz : 0 < size)
    (v : Value) (n : Nat) (xs : List Value) (hown : w.ownsRow base e size v n xs)
    (B : Nat) (A : Option Addr) (m c : Nat) (news : List Value) (hr : Reads w B size A m news) (h1 : ∀ u ∈ news, u.oneCell' = true)
    (h63 : n + m ≤ maxLen) (hbytes : (n + m) * bytes ≤ 140737488355328) (hbase : base ≤ w.heap.size) :
    ∃ v' w', (Builtin.append_ #[t, t] ty #[v, .slice A m c]).run P w = .ok v' w' ∧ w'.ownsRow base e size v' (n + m) (xs ++ news) ∧ w.grownBy w' v.ownBlock ∧
      (v'.ownBlock = v.ownBlock ∨ v'.ownBlock = some w.heap.size) := by
  rcases A with _ | ad
  · have hm : m = 0 := by
      rcases Nat.eq_zero_or_pos m with h0 | h0
      · exact h0
      · obtain ⟨ad, h, _⟩ := hr.2 h0
        cases h
    subst hm
    have hn : news = [] := List.eq_nil_of_length_eq_zero (by simpa using hr.1)
    subst hn
    exact ⟨v, w, run_append_of_nil w base t ty e i size ht hi v n xs hown c, by simpa using hown, World.grownBy.refl w _, .inl rfl⟩
  · have hcells : ∀ j u, news[j]? = some u → w.cell? (ad.add j) = some u := by
      intro j u hu
      rcases Nat.eq_zero_or_pos m with h0 | h0
      · subst h0
        have hn : news = [] := List.eq_nil_of_length_eq_zero (by simpa using hr.1)
        subst hn
        simp at hu
      · obtain ⟨ad', h, _, hc⟩ := hr.2 h0
        injection h with h
        subst h
        exact hc j u hu
    obtain ⟨v', w', hrun, h2, h3, _, h5⟩ := run_append_own_at (P := P) w base t ty e i z size bytes ht hi hz hsize hby hzs hsz v n xs hown ad m c news hr.1 hcells h1 h63 hbytes hbase
    exact ⟨v', w', hrun, h2, h3, h5⟩

theorem wp_append_any {o : Oper} {a : Act} {K : Act → World → Prop} {Q : Exit → Act → World → Prop} (s x : Operand) (t : TypeId)
    (ho : o.op = .call { callee := .builtin .append, args := #[s, x], argTypes := #[t, t] })
    (base : Nat) (e : TypeId) (i : TypeInfo) (z : Value) (size bytes : Nat) (ht : P.underlying t = some (.slice e)) (hi : P.info? e = some i) (hz : i.zero = some z)
    (hsize : i.size = size) (hby : i.bytes = bytes) (hzs : z.cells.size = size) (hsz : 0 < size)
    (v : Value) (n : Nat) (xs : List Value) (hs : a.eval s = v) (hown : w.ownsRow base e size v n xs)
    (B : Nat) (A : Option Addr) (m c : Nat) (news : List Value) (hx : a.eval x = .slice A m c) (hr : Reads w B size A m news) (h1 : ∀ u ∈ news, u.oneCell' = true)
    (h63 : n + m ≤ maxLen) (hbytes : (n + m) * bytes ≤ 140737488355328) (hbase : base ≤ w.heap.size)
    (h : ∀ v' w', w'.ownsRow base e size v' (n + m) (xs ++ news) → w.grownBy w' v.ownBlock → (v'.ownBlock = v.ownBlock ∨ v'.ownBlock = some w.heap.size) → K (a.put o.dst v') w') : o.wp P a w K Q := by
  obtain ⟨v', w', hrun, h2, h3, h4⟩ := run_append_any (P := P) w base t o.type e i z size bytes ht hi hz hsize hby hzs hsz v n xs hown B A m c news hr h1 h63 hbytes hbase
  unfold Oper.wp execOp
  simp only [ho, resolve, invoke, builtin, Sem.run_bind, Sem.run_pure, Result.andThen_ok, List.map_toArray, List.map_cons, List.map_nil, hs, hx, hrun]
  exact h v' w' h2 h3 h4

theorem wpList_append_any {ops : Array Oper} {rest : List Oper} {o : Oper} {a : Act} {Q : Exit → Act → World → Prop} (hgd : o.guard = none) (s x : Operand) (t : TypeId)
    (ho : o.op = .call { callee := .builtin .append, args := #[s, x], argTypes := #[t, t] })
    (base : Nat) (e : TypeId) (i : TypeInfo) (z : Value) (size bytes : Nat) (ht : P.underlying t = some (.slice e)) (hi : P.info? e = some i) (hz : i.zero = some z)
    (hsize : i.size = size) (hby : i.bytes = bytes) (hzs : z.cells.size = size) (hsz : 0 < size)
    (v : Value) (n : Nat) (xs : List Value) (hs : a.eval s = v) (hown : w.ownsRow base e size v n xs)
    (B : Nat) (A : Option Addr) (m c : Nat) (news : List Value) (hx : a.eval x = .slice A m c) (hr : Reads w B size A m news) (h1 : ∀ u ∈ news, u.oneCell' = true)
    (h63 : n + m ≤ maxLen) (hbytes : (n + m) * bytes ≤ 140737488355328) (hbase : base ≤ w.heap.size)
    (h : ∀ v' w', w'.ownsRow base e size v' (n + m) (xs ++ news) → w.grownBy w' v.ownBlock → (v'.ownBlock = v.ownBlock ∨ v'.ownBlock = some w.heap.size) → wpList P ops Q rest (a.put o.dst v') w') : wpList P ops Q (o :: rest) a w :=
  wpList_plain hgd fun _ hK => wp_append_any w s x t ho base e i z size bytes ht hi hz hsize hby hzs hsz v n xs hs hown B A m c news hx hr h1 h63 hbytes hbase fun v' w' h2 h3 h4 => hK _ _ (h v' w' h2 h3 h4)

theorem step_append_any {ops : Array Oper} {o : Oper} {a : Act} {K : Act → World → Prop} {Q : Exit → Act → World → Prop} {E : Prop} (hgd : o.guard = none) (s x : Operand) (t : TypeId)
    (ho : o.op = .call { callee := .builtin .append, args := #[s, x], argTypes := #[t, t] })
    (base : Nat) (e : TypeId) (i : TypeInfo) (z : Value) (size bytes : Nat) (ht : P.underlying t = some (.slice e)) (hi : P.info? e = some i) (hz : i.zero = some z)
    (hsize : i.size = size) (hby : i.bytes = bytes) (hzs : z.cells.size = size) (hsz : 0 < size)
    (v : Value) (n : Nat) (xs : List Value) (hs : a.eval s = v) (hown : w.ownsRow base e size v n xs)
    (B : Nat) (A : Option Addr) (m c : Nat) (news : List Value) (hx : a.eval x = .slice A m c) (hr : Reads w B size A m news) (h1 : ∀ u ∈ news, u.oneCell' = true)
    (h63 : n + m ≤ maxLen) (hbytes : (n + m) * bytes ≤ 140737488355328) (hbase : base ≤ w.heap.size)
    (h : ∀ v' w', w'.ownsRow base e size v' (n + m) (xs ++ news) → w.grownBy w' v.ownBlock → (v'.ownBlock = v.ownBlock ∨ v'.ownBlock = some w.heap.size) → K (a.put o.dst v') w') :
    if Region.wanted o (yielded ops a.tmps) = true then Oper.wp P o a w K Q else E := by
  have hw : Region.wanted o (yielded ops a.tmps) = true := by simp [Region.wanted, hgd]
  rw [if_pos hw]
  exact wp_append_any w s x t ho base e i z size bytes ht hi hz hsize hby hzs hsz v n xs hs hown B A m c news hx hr h1 h63 hbytes hbase h
end

theorem own_mono {w : World} {b b' : Nat} {e : TypeId} {size : Nat} {v : Value} {n : Nat} {xs : List Value} (h : w.ownsRow b e size v n xs) (hb : b' ≤ b) : w.ownsRow b' e size v n xs :=
  ⟨h.1, h.2.imp id fun ⟨g, cap, cur, h1, h2, h3⟩ => ⟨g, cap, cur, h1, Nat.le_trans hb h2, h3⟩⟩
theorem own_slice {w : World} {b : Nat} {e : TypeId} {size : Nat} {v : Value} {n : Nat} {xs : List Value} (h : w.ownsRow b e size v n xs) : ∃ A c, v = .slice A n c := by
  rcases h.2 with ⟨rfl, rfl⟩ | ⟨g, cap, cur, rfl, _⟩
  · exact ⟨_, _, rfl⟩
  · exact ⟨_, _, rfl⟩
theorem Blk.new' (w : World) (t : TypeId) (cs : Array Value) {g : Nat} (hg : g = w.heap.size) : Blk (w.alloc (.cells cs t)) g t cs := by subst hg; exact Blk.new w t cs
theorem own_lit (w : World) {base : Nat} {e : TypeId} {g n : Nat} {xs : List Value} (hg : g = w.heap.size) (hb : base ≤ g) (hn : xs.length = n) (hm : n ≤ maxLen) :
    (w.alloc (.cells xs.toArray e)).ownsRow base e 1 (.slice (some ⟨g, 0, none⟩) n n) n xs := by
  subst hg
  have := World.ownsRow_lit (base := base) (e := e) (size := 1) w xs.toArray n hb hm (by simpa using hn)
  simpa using this
theorem reads_new (w : World) {t : TypeId} {g n : Nat} {xs : List Value} (hg : g = w.heap.size) (hn : xs.length = n) : Reads (w.alloc (.cells xs.toArray t)) (g + 1) 1 (some ⟨g, 0, none⟩) n xs := by
  subst hg
  refine ⟨by omega, fun _ => ⟨_, rfl, by simp, fun j u hu => ?_⟩⟩
  have := (Blk.new w t xs.toArray).cell j
  rw [Addr.add_lit, Nat.zero_add, this]
  simpa using hu

end Go.Proofs.Ytjklkppncmhehaa

namespace Go.Proofs.Ytjklkppncmhehaa
open Go Go.RowKit

/-! ### data -/
structure EntD where
  m : Int
  t : Int
  g : Int
  f : Bool
  deriving DecidableEq
def EntD.cells (e : EntD) : List Value := [.int .i64 e.m, .int .i64 e.t, .int .i64 e.g, .bool e.f]
def EntD.zero : EntD := ⟨0, 0, 0, false⟩
def entsC (es : List EntD) : List Value := es.flatMap EntD.cells
structure GrpD where
  id : Int
  clock : Int
  pend : List EntD
  done : List EntD

theorem entsC_length (es : List EntD) : (entsC es).length = es.length * 4 := by
  induction es with
  | nil => rfl
  | cons e es ih => simp only [entsC, List.flatMap_cons, List.length_append] at *; rw [ih]; simp [EntD.cells]; omega
theorem entsC_at {es : List EntD} {k : Nat} {e : EntD} (h : es[k]? = some e) : (entsC es)[k * 4]? = some (.int .i64 e.m) ∧ (entsC es)[k * 4 + 1]? = some (.int .i64 e.t) ∧ (entsC es)[k * 4 + 2]? = some (.int .i64 e.g) ∧ (entsC es)[k * 4 + 3]? = some (.bool e.f) := by
  induction es generalizing k with
  | nil => simp at h
  | cons a es ih =>
    cases k with
    | zero =>
      simp at h; subst h
      refine ⟨rfl, rfl, rfl, rfl⟩
    | succ k =>
      simp only [List.getElem?_cons_succ] at h
      have := ih h
      have e0 : ∀ j, (entsC (a :: es))[(k + 1) * 4 + j]? = (entsC es)[k * 4 + j]? := fun j => by
        show (a.cells ++ entsC es)[(k + 1) * 4 + j]? = _
        rw [List.getElem?_append_right (by simp [EntD.cells]; omega)]
        congr 1
        simp [EntD.cells]; omega
      exact ⟨(e0 0).trans this.1, (e0 1).trans this.2.1, (e0 2).trans this.2.2.1, (e0 3).trans this.2.2.2⟩

/-- A slice of entries reads as a list. -/
def RdE (w : World) (B : Nat) (A : Option Addr) (n c : Nat) (es : List EntD) : Prop := Reads w B 4 A n (entsC es) ∧ n ≤ c ∧ c ≤ maxLen
section
variable {w w' : World} {B n c : Nat} {A : Option Addr} {es : List EntD}
theorem RdE.len (h : RdE w B A n c es) : es.length = n := by
  have := h.1.1
  rw [entsC_length] at this
  omega
theorem add_at (a : Addr) (j i : Nat) (hi : 0 < i) : a.add (j + i) = { block := (a.add j).block, off := (a.add j).off + i } := by
  rw [← add_of_add]
  unfold Addr.add
  simp [show i ≠ 0 by omega]
/-- The four cells of an entry. -/
def EntAt (w : World) (a : Addr) (e : EntD) : Prop := w.cell? a = some (.int .i64 e.m) ∧ w.cell? { block := a.block, off := a.off + 1 } = some (.int .i64 e.t) ∧ w.cell? { block := a.block, off := a.off + 2 } = some (.int .i64 e.g) ∧ w.cell? { block := a.block, off := a.off + 3 } = some (.bool e.f)
theorem RdE.at_ {k : Nat} (h : RdE w B A n c es) (hk : k < n) : ∃ ad e, A = some ad ∧ ad.block < B ∧ es[k]? = some e ∧ EntAt w (ad.add (k * 4)) e := by
  obtain ⟨ad, e0, hb, hc⟩ := h.1.2 (by omega)
  have hl := h.len
  have he : es[k]? = some es[k] := List.getElem?_eq_getElem (by omega)
  obtain ⟨h1, h2, h3, h4⟩ := entsC_at he
  refine ⟨ad, es[k], e0, hb, he, hc _ _ h1, ?_, ?_, ?_⟩
  · rw [← add_at _ _ _ (by omega)]; exact hc _ _ h2
  · rw [← add_at _ _ _ (by omega)]; exact hc _ _ h3
  · rw [← add_at _ _ _ (by omega)]; exact hc _ _ h4
theorem RdE.below (h : RdE w B A n c es) (hb : Below B w w') : RdE w' B A n c es := ⟨h.1.below hb, h.2⟩
end

/-! ### what the functions reckon -/
def idxOf (es : List EntD) (m : Int) : Nat → Int
  | k => match es[k]? with
    | some e => if e.m = m then k else -1
    | none => -1
/-- The index of the first entry of a message from k on, or -1. -/
def findFrom (m : Int) : List EntD → Nat → Int
  | [], _ => -1
  | e :: es, k => if e.m = m then k else findFrom m es (k + 1)
def findE (es : List EntD) (m : Int) : Int := findFrom m es 0
theorem findFrom_drop {es : List EntD} {m : Int} {k : Nat} {e : EntD} (h : es[k]? = some e) : findFrom m (es.drop k) k = if e.m = m then (k : Int) else findFrom m (es.drop (k + 1)) (k + 1) := by
  have hk : k < es.length := (List.getElem?_eq_some_iff.1 h).1
  have he : es[k] = e := (List.getElem?_eq_some_iff.1 h).2
  rw [List.drop_eq_getElem_cons hk, findFrom, he]

set_option maxRecDepth 100000 in
theorem indexOf_any (A : Option Addr) (n c : Nat) (es : List EntD) (m : Int) (B : Nat) (w : World) (hr : RdE w B A n c es) (hB : B ≤ w.heap.size) :
    Calls Tw.prog 30 #[.slice A n c, .int .i64 m] w fun e w' => e = .returned (.int .i64 (findE es m)) ∧ Below w.heap.size w w' := by
  have HR := Lib.hid hr
  have hl := hr.len
  have hn : n ≤ maxLen := Nat.le_trans hr.2.1 hr.2.2
  clear hr
  go_enter Tw.func30, Try.ntmps30
  go_wp2
  go_loopw [9] (fun i wr => ∃ k : Nat, k ≤ n ∧ i = .int .i64 k ∧ findE es m = findFrom m (es.drop k) k ∧ Below w.heap.size w wr) (fun i _ => n - (intOf i).toNat)
  case atStart => exact ⟨0, by omega, rfl, rfl, Below.refl _ _⟩
  case round =>
    obtain ⟨k, hk, rfl, hf, hb⟩ := hrel
    have HB := Lib.hid hb
    have hsz := hb.size
    by_cases hlt : k < n
    · obtain ⟨ad, e, rfl, had, he, q0, q1, q2, q3⟩ := (HR.out.below (hb.mono hB)).at_ hlt
      have hfd := findFrom_drop (m := m) he
      have hlB : ad.block < w.heap.size := by omega
      clear hb
      simp only [maxLen] at hn
      go_wp2
      · rename_i h
        go_ret
        rw [if_pos (by simpa using h)] at hfd
        exact ⟨by rw [hf, hfd]; rfl, HB.out.alloc hsz _⟩
      · rename_i h
        refine ⟨⟨k + 1, by omega, by go_num, ?_, HB.out.alloc hsz _⟩, by simp [intOf]; omega⟩
        rw [hf, hfd, if_neg (by simpa using h)]
    · obtain rfl : k = n := by omega
      clear hb
      simp only [maxLen] at hn
      go_wp2
      go_ret
      refine ⟨?_, HB.out⟩
      rw [hf, List.drop_of_length_le (by omega)]
      rfl

def isGrpB (g : Int) : Bool := decide (0 ≤ g ∧ g < 5)
def isMsgB (m : Int) : Bool := decide (0 ≤ m ∧ m < 12)
def isTimeB (t : Int) : Bool := decide (0 ≤ t ∧ t ≤ 999)
def stampOk (t g : Int) : Bool := decide (1 ≤ t ∧ t ≤ 999) && isGrpB g
def lessB (t g t' g' : Int) : Bool := decide (t < t' ∨ (t = t' ∧ g < g'))
set_option maxRecDepth 100000 in
theorem isGroup_any (g : Int) (w : World) : Calls Tw.prog 33 #[.int .i64 g] w fun e w' => e = .returned (.bool (isGrpB g)) ∧ w' = w := by
  go_enter Tw.func33, Try.ntmps33
  go_wp2
  all_goals (go_ret; refine ⟨?_, rfl⟩; simp [isGrpB]; omega)
set_option maxRecDepth 100000 in
theorem isMessage_any (g : Int) (w : World) : Calls Tw.prog 59 #[.int .i64 g] w fun e w' => e = .returned (.bool (isMsgB g)) ∧ w' = w := by
  go_enter Tw.func59, Try.ntmps59
  go_wp2
  all_goals (go_ret; refine ⟨?_, rfl⟩; simp [isMsgB]; omega)
set_option maxRecDepth 100000 in
theorem isTime_any (g : Int) (w : World) : Calls Tw.prog 49 #[.int .i64 g] w fun e w' => e = .returned (.bool (isTimeB g)) ∧ w' = w := by
  go_enter Tw.func49, Try.ntmps49
  go_wp2
  all_goals (go_ret; refine ⟨?_, rfl⟩; simp [isTimeB]; omega)
set_option maxRecDepth 100000 in
theorem stampValid_any (t g : Int) (w : World) : Calls Tw.prog 31 #[.agg #[.int .i64 t, .int .i64 g]] w fun e w' => e = .returned (.bool (stampOk t g)) ∧ Below w.heap.size w w' := by
  go_enter Tw.func31, Try.ntmps31
  go_wp2_with (go_at_call 33; refine (isGroup_any _ _).mono ?_; rintro e w' ⟨rfl, rfl⟩)
  all_goals (go_ret; refine ⟨?_, (Below.refl _ _).alloc (Nat.le_refl _) _⟩; simp [stampOk]; try omega)
set_option maxRecDepth 100000 in
theorem less_any (t g t' g' : Int) (w : World) : Calls Tw.prog 32 #[.agg #[.int .i64 t, .int .i64 g], .agg #[.int .i64 t', .int .i64 g']] w fun e w' => e = .returned (.bool (lessB t g t' g')) ∧ Below w.heap.size w w' := by
  go_enter Tw.func32, Try.ntmps32
  go_wp2
  all_goals (go_ret; refine ⟨?_, ((Below.refl _ _).alloc (Nat.le_refl _) _).alloc (by simp) _⟩; first | (simp [lessB]; done) | (simp [lessB]; omega) | (rename_i h1 h2; subst h2; simp [lessB]) | (simp_all [lessB]; done) | (simp_all [lessB]; omega))
end Go.Proofs.Ytjklkppncmhehaa

namespace Go.Proofs.Ytjklkppncmhehaa
open Go Go.RowKit

def entOk (id clock : Int) (e : EntD) : Bool := isMsgB e.m && (stampOk e.t e.g && (decide (e.t ≤ clock) && (e.f || decide (e.g = id))))
def lessE (a b : EntD) : Bool := lessB a.t a.g b.t b.g
def areFrom (id clock : Int) : Option EntD → List EntD → Bool
  | _, [] => true
  | p, e :: es => entOk id clock e && ((match p with | none => true | some q => lessE q e) && areFrom id clock (some e) es)
def areB (id clock : Int) (es : List EntD) : Bool := areFrom id clock none es
def prevE (es : List EntD) (k : Nat) : Option EntD := if k = 0 then none else es[k - 1]?
theorem areFrom_drop {id clock : Int} {es : List EntD} {k : Nat} {e : EntD} (h : es[k]? = some e) :
    areFrom id clock (prevE es k) (es.drop k) = (entOk id clock e && ((match prevE es k with | none => true | some q => lessE q e) && areFrom id clock (prevE es (k + 1)) (es.drop (k + 1)))) := by
  have hk : k < es.length := (List.getElem?_eq_some_iff.1 h).1
  have he : es[k] = e := (List.getElem?_eq_some_iff.1 h).2
  have hp : prevE es (k + 1) = some e := by unfold prevE; rw [if_neg (by omega), Nat.add_sub_cancel]; exact h
  rw [List.drop_eq_getElem_cons hk, he, hp]
  rfl

/-- A block that is known whole, and what is below it. -/
theorem blk_cell {w w' : World} {g : Nat} {t : TypeId} {cs : Array Value} (h : Blk w g t cs) (hb : Below w.heap.size w w') : Blk w' g t cs := h.below hb h.lt

set_option maxRecDepth 100000 in
set_option maxHeartbeats 1000000 in
theorem areEntries_any (id clock : Int) (v2 v3 : Value) (A : Option Addr) (n c : Nat) (es : List EntD) (B : Nat) (w : World) (hr : RdE w B A n c es) (hB : B ≤ w.heap.size) :
    Calls Tw.prog 50 #[.agg #[.int .i64 id, .int .i64 clock, v2, v3], .slice A n c] w fun e w' => e = .returned (.bool (areB id clock es)) ∧ Below w.heap.size w w' := by
  have HR := Lib.hid hr
  have hl := hr.len
  have hn : n ≤ maxLen := Nat.le_trans hr.2.1 hr.2.2
  simp only [maxLen] at hn
  clear hr
  go_enter Tw.func50, Try.ntmps50
  go_wp2
  go_loopw [9] (fun i wr => ∃ k : Nat, k ≤ n ∧ i = .int .i64 k ∧ areB id clock es = areFrom id clock (prevE es k) (es.drop k) ∧ Below w.heap.size w wr ∧ Blk wr w.heap.size 44 #[.int .i64 id, .int .i64 clock, v2, v3]) (fun i _ => n - (intOf i).toNat)
  case atStart => exact ⟨0, by omega, rfl, rfl, (Below.refl _ _).alloc (Nat.le_refl _) _, Blk.new _ _ _⟩
  case round =>
    obtain ⟨k, hk, rfl, hf0, hb, hk0⟩ := hrel
    have HF := Lib.hid hf0
    clear hf0
    have HB := Lib.hid hb
    have K0 := Lib.hid hk0
    have hsz := hb.size
    have hlt0 := hk0.lt
    have x0 := hk0.cell
    by_cases hlt : k < n
    · obtain ⟨ad, e, rfl, had, he, q0, q1, q2, q3⟩ := (HR.out.below (hb.mono hB)).at_ hlt
      have HFD := Lib.hid (areFrom_drop (id := id) (clock := clock) he)
      have hlB : ad.block < w.heap.size := by omega
      clear hb hk0
      go_wp2_with (first
        | (go_at_call 59; refine (isMessage_any _ _).mono ?_; rintro e' w' ⟨rfl, rfl⟩)
        | (go_at_call 31; refine (stampValid_any _ _ _).mono ?_; rintro e' w1 ⟨rfl, hb1⟩
           have K1 := Lib.hid (blk_cell (Blk.new wr 39 #[.int .i64 e.m, .int .i64 e.t, .int .i64 e.g, .bool e.f]) hb1)
           have K01 := Lib.hid (blk_cell (K0.out.alloc (.cells #[.int .i64 e.m, .int .i64 e.t, .int .i64 e.g, .bool e.f] 39)) hb1)
           have x1 := K1.out.cell
           have x01 := K01.out.cell
           have HB1 := Lib.hid ((HB.out.alloc hsz (.cells #[.int .i64 e.m, .int .i64 e.t, .int .i64 e.g, .bool e.f] 39)).trans (hb1.mono (by simp; omega)))
           have hs1 := HB1.out.size
           clear hb1 x0))
      all_goals try (go_ret; refine ⟨?_, by first | exact HB1.out | exact HB.out.alloc hsz _⟩
                     have hent : entOk id clock e = false := by
                       cases hq : entOk id clock e with
                       | false => rfl
                       | true =>
                         exfalso
                         simp only [entOk, Bool.and_eq_true, Bool.or_eq_true, decide_eq_true_eq] at hq
                         obtain ⟨a1, a2, a3, a4⟩ := hq
                         first | (simp_all; done) | (simp_all; omega) | omega
                     rw [HF.out, HFD.out, hent]; rfl)
      all_goals have hent : entOk id clock e = true := by simp_all [entOk]
      all_goals rcases k with _ | k'
      all_goals first
        | (rw [show (((0 : Nat) : Int)) = 0 from rfl]
           have hz : decide ((0 : Int) < 0) = false := by decide
           go_quiet (fail)
           go_wp2
           refine ⟨⟨1, by omega, rfl, ?_, ⟨HB1.out.1, HB1.out.2, HB1.out.3, HB1.out.4, HB1.out.5⟩, K01.out.drewN _⟩, by simp [intOf]; omega⟩
           rw [HF.out, HFD.out, hent]
           rfl)
        | (obtain ⟨ad', e', had', hbp, he', p0, p1, p2, p3⟩ := (HR.out.below (HB1.out.mono hB)).at_ (show k' < n by omega)
           obtain rfl : ad = ad' := by injection had'
           have hpos : (0 : Int) < (k' : Int) + 1 := by omega
           rw [show (((k' + 1 : Nat) : Int)) = (k' : Int) + 1 from by omega]
           have b0 : (0 : Int) ≤ (k' : Int) := by omega
           have b1 : (k' : Int) < (n : Int) := by omega
           have hwr : IntKind.i64.wrap (k' : Int) = (k' : Int) := by simp [IntKind.wrap, IntKind.min, IntKind.max, IntKind.signed, IntKind.bits]; omega
           have hpv : prevE es (k' + 1) = some e' := by unfold prevE; rw [if_neg (by omega), Nat.add_sub_cancel]; exact he'
           go_region_held3 (fun w' => w'.cell? ⟨wr.heap.size, 1, none⟩ = some (.int .i64 e.t) ∧ w'.cell? ⟨wr.heap.size, 2, none⟩ = some (.int .i64 e.g) ∧ w'.cell? { block := (ad.add (k' * 4)).block, off := (ad.add (k' * 4)).off + 1 } = some (.int .i64 e'.t) ∧ w'.cell? { block := (ad.add (k' * 4)).block, off := (ad.add (k' * 4)).off + 2 } = some (.int .i64 e'.g))
             (first
               | exact ⟨(x1 1).trans rfl, (x1 2).trans rfl, p1, p2⟩
               | exact HT.out)
             ((go_at_call 32
               refine (less_any _ _ _ _ _).mono ?_
               rintro e1 w2 ⟨rfl, hb2⟩
               have hbb : Below w1.heap.size w1 w2 := (Below.refl _ _).drew.trans hb2
               have HB2 := Lib.hid hbb
               have HT := Lib.hid (And.intro (((hbb.cell (p := ⟨wr.heap.size, 1, none⟩) K1.out.lt).trans (x1 1)).trans (show _ = some (Value.int .i64 e.t) from rfl)) (And.intro (((hbb.cell (p := ⟨wr.heap.size, 2, none⟩) K1.out.lt).trans (x1 2)).trans (show _ = some (Value.int .i64 e.g) from rfl))
                 (And.intro ((hbb.cell (by show (ad.add (k' * 4)).block < _; rw [block_of_add]; omega)).trans p1) ((hbb.cell (by show (ad.add (k' * 4)).block < _; rw [block_of_add]; omega)).trans p2))))
               clear hb2 hbb))
           go_wp2
           · go_ret
             refine ⟨?_, HB1.out.trans (HB2.out.mono HB1.out.size)⟩
             rw [HF.out, HFD.out, hent, hpv]
             simp_all [lessE]
           · refine ⟨⟨k' + 1 + 1, by omega, by go_num, ?_, HB1.out.trans (HB2.out.mono HB1.out.size), blk_cell K01.out HB2.out⟩, by simp [intOf]; omega⟩
             rw [HF.out, HFD.out, hent, hpv]
             simp_all [lessE])
    · obtain rfl : k = n := by omega
      clear hb hk0
      go_wp2
      go_ret
      refine ⟨?_, HB.out⟩
      rw [HF.out, List.drop_of_length_le (by omega)]
      cases prevE es es.length <;> first | rfl | (subst hl; rfl)
end Go.Proofs.Ytjklkppncmhehaa

namespace Go.Proofs.Ytjklkppncmhehaa
open Go Go.RowKit

theorem ent_info : (Tw.prog.info? 39).map (fun i => (i.zero, i.size, i.bytes)) = some (some (.agg #[.int .i64 0, .int .i64 0, .int .i64 0, .bool false]), 4, 32) := by kernel_rfl
theorem entsC_one {es : List EntD} : ∀ u ∈ entsC es, u.oneCell' = true := by
  intro u hu
  obtain ⟨e, _, hu⟩ := List.mem_flatMap.1 hu
  simp only [EntD.cells, List.mem_cons, List.not_mem_nil, or_false] at hu
  rcases hu with rfl | rfl | rfl | rfl <;> rfl
theorem rdE_nil (w : World) (B : Nat) (A : Option Addr) : RdE w B A 0 0 [] := ⟨⟨rfl, fun h => absurd h (by omega)⟩, Nat.le_refl _, Nat.zero_le _⟩
/-- A row of entries that the call made. -/
def RetE (base : Nat) (es : List EntD) (e : Ending) (w : World) : Prop := ∃ A n c, e = .returned (.slice A n c) ∧ w.ownsRow base 39 4 (.slice A n c) n (entsC es)

set_option maxRecDepth 100000 in
set_option maxHeartbeats 1000000 in
theorem cloneE_any (A : Option Addr) (n c B : Nat) (es : List EntD) (w : World) (hr : Reads w B 4 A n (entsC es)) (hB : B ≤ w.heap.size) (hn : n ≤ 1048576) :
    Calls Tw.prog 42 #[.slice A n c] w fun e w' => RetE w.heap.size es e w' ∧ Below w.heap.size w w' := by
  obtain ⟨i0, hi0, hz0, hz1, hz2⟩ := info_parts ent_info
  have HR := Lib.hid hr
  clear hr
  go_enter Tw.func42, Try.ntmps42
  go_wp2_with (first
    | (at_make
       refine wpList_make_own _ rfl _ (.tmp 4) _ rfl w.heap.size 39 i0 (.agg #[.int .i64 0, .int .i64 0, .int .i64 0, .bool false]) 4 Tw.underlying42 hi0 hz0 (by assumption) .i64 .i64 n n rfl rfl rfl (by rw [hz2]; omega) (by unfold maxLen; omega) (Nat.le_refl _) ?_
       intro w1 hown1 hg1
       have HO1 := Lib.hid hown1
       have HB1 : Hid (Below w.heap.size w w1) := Lib.hid ((Below.refl _ _).grown hg1 (Nat.le_refl _) (by simp))
       have HR1 := Lib.hid (HR.out.grown hg1 hB (by simp))
       have hs1 := hg1.size
       clear hown1 hg1)
    | (at_builtin
       refine wpList_append_any _ rfl (.tmp 5) (.tmp 6) _ rfl w.heap.size 39 i0 _ 4 32 Tw.underlying42 hi0 hz0 (by assumption) hz2 rfl (by omega) (.slice (some ⟨w.heap.size, 0, none⟩) 0 n) 0 [] rfl
         HO1.out B A n c (entsC es) rfl HR1.out entsC_one (by unfold maxLen; omega) (by omega) (by omega) ?_
       intro v2 w2 hown2 hg2 hat2
       rw [Nat.zero_add, List.nil_append] at hown2
       obtain ⟨A2, c2, rfl⟩ := own_slice hown2
       have HO2 := Lib.hid hown2
       have HB2 : Hid (Below w.heap.size w w2) := Lib.hid (HB1.out.grown hg2 (by omega) (by simp [Value.ownBlock]))
       clear hown2 hg2 hat2))
  go_ret
  exact ⟨⟨A2, n, c2, rfl, HO2.out⟩, HB2.out⟩

set_option maxRecDepth 100000 in
set_option maxHeartbeats 1000000 in
theorem groupValid_nil (id clock : Int) (hid : isGrpB id = true) (hck : isTimeB clock = true) (A A' : Option Addr) (w : World) :
    Calls Tw.prog 25 #[.agg #[.int .i64 id, .int .i64 clock, .slice A 0 0, .slice A' 0 0]] w fun e w' => e = .returned (.bool true) ∧ Below w.heap.size w w' := by
  obtain ⟨i0, hi0, hz0, hz1, hz2⟩ := info_parts ent_info
  go_enter Tw.func25, Try.ntmps25
  go_wp2_with (first
    | (go_at_call 33; refine (isGroup_any _ _).mono ?_; rintro e' w' ⟨rfl, rfl⟩)
    | (go_at_call 49; refine (isTime_any _ _).mono ?_; rintro e' w' ⟨rfl, rfl⟩))
  refine (areEntries_any id clock _ _ A 0 0 [] _ _ (rdE_nil _ _ _) (Nat.le_refl _)).mono ?_
  rintro e' w1 ⟨rfl, hb1⟩
  have K1 := Lib.hid ((Blk.new w 44 #[.int .i64 id, .int .i64 clock, .slice A 0 0, .slice A' 0 0]).below hb1 (by simp))
  have HB1 : Hid (Below w.heap.size w w1) := Lib.hid (((Below.refl _ _).alloc (Nat.le_refl _) _).trans (hb1.mono (by simp)))
  have x1 := K1.out.cell
  have l1 := K1.out.lt
  clear hb1
  rw [show areB id clock [] = true from rfl]
  go_wp2_with (fail)
  refine (areEntries_any id clock _ _ A' 0 0 [] _ _ (rdE_nil _ _ _) (Nat.le_refl _)).mono ?_
  rintro e' w2 ⟨rfl, hb2⟩
  have K2 := Lib.hid (K1.out.below hb2 l1)
  have HB2 : Hid (Below w.heap.size w w2) := Lib.hid (HB1.out.trans (hb2.mono HB1.out.size))
  have x2 := K2.out.cell
  have l2 := K2.out.lt
  clear hb2 x1 l1
  rw [show areB id clock [] = true from rfl]
  go_wp2_with (fail)
  have S2 := Lib.hid (Blk.new w2 86 (Array.replicate 12 (Value.bool false)))
  have K2' := Lib.hid (K2.out.alloc (.cells (Array.replicate 12 (Value.bool false)) 86))
  go_region_law (first
    | (refine step_append_any _ rfl (.tmp 35) (.tmp 37) _ rfl _ 39 i0 _ 4 32 Tw.underlying42 hi0 hz0 (by assumption) hz2 rfl (by omega) (.slice A3 0 c3) 0 [] rfl
         HO3.out 0 A 0 0 [] rfl (rdE_nil _ _ _).1 (by simp) (by unfold maxLen; omega) (by omega) HB3.out.size ?_
       intro v4 w4 hown4 hg4 hat4
       obtain ⟨A4, c4, rfl⟩ := own_slice hown4
       have HB4 : Hid (Below w2.heap.size w2 w4) := Lib.hid (Below.grown HB3.out hg4 HB3.out.size (fun k hk => (World.ownsRow.lt HO3.out k hk).1))
       have K4 := Lib.hid (K2.out.below HB4.out l2)
       have x4 := K4.out.cell
       clear hown4 hg4 hat4 x3)
    | (go_simp
       go_at_call 42
       refine (cloneE_any A' 0 0 0 [] _ (rdE_nil _ _ _).1 (Nat.zero_le _) (by omega)).mono ?_
       rintro e' w3 ⟨⟨A3, n3, c3, rfl, hown3⟩, hb3⟩
       obtain rfl : n3 = 0 := by have := hown3.1; simp [entsC] at this; omega
       have HB3 : Hid (Below w2.heap.size w2 w3) := Lib.hid (by exact (Below.drew (Below.alloc (Below.refl _ _) (Nat.le_refl _) _)).trans (hb3.mono (by simp [World.drew])))
       have HO3 : Hid (w3.ownsRow w2.heap.size 39 4 (.slice A3 0 c3) 0 []) := Lib.hid (by exact own_mono hown3 (by simp [World.drew]))
       have K3 := Lib.hid (K2.out.below HB3.out l2)
       have x3 := K3.out.cell
       clear hown3 hb3 x2))
  all_goals
    go_wp2
    simp only [List.getElem_toArray, List.getElem_cons_succ, List.getElem_cons_zero, Act.put, List.setIfInBounds_toArray, List.set_cons_succ, List.set_cons_zero]
    go_loop [40] (fun i => i = .int .i64 0) (fun _ => 0)
    case atStart => rfl
    case round =>
      subst hrel
      go_wp2
      go_loop [55] (fun i => i = .int .i64 0) (fun _ => 0)
      case atStart => rfl
      case round =>
        subst hrel
        go_wp2
        go_ret
        exact ⟨rfl, HB2.out.trans (HB4.out.mono HB2.out.size)⟩

theorem index_two0 (x y : Value) (w : World) : (Instr.index 66 (.agg #[x, y]) (.int .i64 0)).run Tw.prog w = .ok x w := by
  simp [Instr.index, run_underlying Tw.underlying66, asIntOf, go_sem]
theorem index_two1 (x y : Value) (w : World) : (Instr.index 66 (.agg #[x, y]) (.int .i64 1)).run Tw.prog w = .ok y w := by
  simp [Instr.index, run_underlying Tw.underlying66, asIntOf, go_sem]
set_option maxRecDepth 100000 in
set_option maxHeartbeats 1000000 in
theorem groupStamp_nil (id clock : Int) (hid : isGrpB id = true) (hck : isTimeB clock = true) (A A' : Option Addr) (m : Int) (w : World) :
    Calls Tw.prog 12 #[.agg #[.int .i64 id, .int .i64 clock, .slice A 0 0, .slice A' 0 0], .int .i64 m] w fun e w' => e = .returned (.tuple #[.agg #[.int .i64 0, .int .i64 0, .int .i64 0, .bool false], .bool false]) ∧ Below w.heap.size w w' := by
  go_enter Tw.func12, Try.ntmps12
  go_wp2_with (fail)
  refine (groupValid_nil id clock hid hck A A' _).mono ?_
  rintro e' w1 ⟨rfl, hb1⟩
  have K1 := Lib.hid (((Blk.new w 44 #[.int .i64 id, .int .i64 clock, .slice A 0 0, .slice A' 0 0]).alloc (.cells #[.int .i64 0, .int .i64 0, .int .i64 0, .bool false] 39)).below hb1 (by simp; omega))
  have R1 := Lib.hid ((Blk.new' (g := w.heap.size + 1) (w.alloc (.cells #[.int .i64 id, .int .i64 clock, .slice A 0 0, .slice A' 0 0] 44)) 39 #[.int .i64 0, .int .i64 0, .int .i64 0, .bool false] (by simp)).below hb1 (by simp))
  have HB1 : Hid (Below w.heap.size w w1) := Lib.hid ((((Below.refl _ _).alloc (Nat.le_refl _) _).alloc (by simp) _).trans (hb1.mono (by simp; omega)))
  have x1 := K1.out.cell
  have y1 := R1.out.cell
  have f1 := R1.out.frozen
  clear hb1
  go_wp2_with (fail)
  go_loopw [18] (fun i wr => ∃ k : Nat, k ≤ 2 ∧ i = .int .i64 k ∧ Below w.heap.size w wr ∧ Blk wr (w.heap.size + 1) 39 #[.int .i64 0, .int .i64 0, .int .i64 0, .bool false]) (fun i _ => 2 - (intOf i).toNat)
  case atStart => exact ⟨0, by omega, rfl, HB1.out, R1.out⟩
  case round =>
    obtain ⟨k, hk, rfl, hb, hr⟩ := hrel
    have HB := Lib.hid hb
    have HR := Lib.hid hr
    have y1 := hr.cell
    have f1 := hr.frozen
    clear hb hr
    have q0 := index_two0 (.slice A 0 0) (.slice A' 0 0)
    have q1 := index_two1 (.slice A 0 0) (.slice A' 0 0)
    match k, hk with
    | 0, _ =>
      rw [show ((0 : Nat) : Int) = 0 from rfl]
      go_wp2_with (go_at_call 30; refine (indexOf_any _ _ _ [] _ _ _ (rdE_nil _ _ _) (Nat.le_refl _)).mono ?_; rintro e' w2 ⟨rfl, hb2⟩; have HB2 := Lib.hid hb2; clear hb2; rw [show findE [] m = -1 from rfl])
      exact ⟨⟨1, by omega, rfl, HB.out.trans (HB2.out.mono HB.out.size), blk_cell HR.out HB2.out⟩, by decide⟩
    | 1, _ =>
      rw [show ((1 : Nat) : Int) = 1 from rfl]
      go_wp2_with (go_at_call 30; refine (indexOf_any _ _ _ [] _ _ _ (rdE_nil _ _ _) (Nat.le_refl _)).mono ?_; rintro e' w2 ⟨rfl, hb2⟩; have HB2 := Lib.hid hb2; clear hb2; rw [show findE [] m = -1 from rfl])
      exact ⟨⟨2, by omega, rfl, HB.out.trans (HB2.out.mono HB.out.size), blk_cell HR.out HB2.out⟩, by decide⟩
    | 2, _ =>
      rw [show ((2 : Nat) : Int) = 2 from rfl]
      go_wp2
      have R4 := ((((HR.out.set_ 0 (.int .i64 0)).set_ 1 (.int .i64 0)).set_ 2 (.int .i64 0)).set_ 3 (.bool false)).cell
      refine bodyPost_ret (v := .tuple #[.agg #[.int .i64 0, .int .i64 0, .int .i64 0, .bool false], .bool false]) (by simp [results, Try.results12, go_sem, R4]) rfl ⟨rfl, ?_⟩
      exact (((HB.out.setCell (by simp) _).setCell (by simp) _).setCell (by simp) _).setCell (by simp) _
end Go.Proofs.Ytjklkppncmhehaa
