/-
What is proved: which rewrite rules a walk over trees uses. No condition. plain facts about memory: a slice that reads as a list of values, a block that is known whole, an append onto a row of the call's own. No condition beyond those that each theorem states. how entries and groups read in memory; the contracts of impl.indexOf, impl.StampValid, impl.less, impl.isGroup, impl.isTime, impl.isMessage over the second program. Conditions: those that each theorem states. what the small functions of the reference do to trees. No condition. what the reference's functions of sets, entries and groups do to trees. No condition but the lengths that each states. where a tree says 'nil', one that says 'no rows' serves as well; and how a function ends that leaves rows of its own. No condition. what the reference's functions that copy groups do to trees. No condition but the lengths that each states.
-/
import Derived.Test.YtjklkppncmhehaaSf32
import Derived.Below
import Derived.Laws.OwnMore
import Derived.Deep.AppendLies
import Derived.Deep.Draws
import Derived.Laws.Rows
import Derived.Maps.AppendAt
import Derived.RegionTactic
import Derived.OwnWalk
import Derived.Lib.Hide
import Derived.Test.YtjklkppncmhehaaSf14
import Derived.WalkKit
import Derived.ProofKit
import Derived.OneCell
import Derived.LoopTactic
import Derived.Deep.RegionHeld3
import Derived.Deep.RegionWith
import Derived.Test.YtjklkppncmhehaaSf31
set_option linter.unusedVariables false
set_option linter.unusedSimpArgs false
namespace Go.Proofs.Ytjklkppncmhehaa.T
open Go Go.RowKit
attribute [simp] run isGd isCall vcD callD appendD elemD sliceD storeD buildSliceD makeSliceD TState.step TState.see setL GV.undef? TState.ev lk gt TState.get GV.b? GV.i? GV.agg? GV.tup? GV.cells? GV.fn? TState.view TState.deref TState.toRT TState.toRTs TState.baseOf shiftA fAddr mk rs gI gB gbin gbin2 eqT ptrT cmpI arI isShift
  constG rtOf okConst dstOk gdst stoLt Value.oneCell' TK.agg TK.subs placeOf fillT evParts splice rowsT consumed deadOf frOf bnd tQ bQ argEnv TState.res TState.resL TState.res1 TV.frz GV.frz frzL Blk.frz TV.ren GV.ren renL Blk.ren TV.names GV.names namesL Blk.names
  TV.flat GV.flat flatL rowOf frCall ΔOf φ
theorem Fits.nil {args : List GV} (h : namesL args = []) : Fits args 0 [] :=
  ⟨rfl, fun x hx => (by cases hx), fun g hg b hb => (by have := nLm hg b hb; rw [h] at this; cases this), fun x hx => by cases hx⟩
theorem Rets.nil {P : Program} {xs : List ResultVar} {s : TState} {r : GV} (h : s.res P xs = some r) (hn : r.names = []) : Rets P xs 0 s r [] :=
  ⟨id, [], r, h, by rw [GV.frz_nil, GV.ren_nil _ _ hn], fun b hb => (by rw [hn] at hb; cases hb), fun b hb => (by cases hb), fun x hx => (by cases hx), fun x hx => (by cases hx), fun b hb => by omega⟩
section
variable {P : Program} {E : List PanicEntry → World → Prop} {nt m : Nat} {c : Code} {Q : Exit → TState → Prop} {s : TState}
theorem TW.len (t : Nat) {k : Nat} {xs : List (List RT)} (ht : lk t s.env = .s (.r (.sl k xs))) (h : xs.length ≤ maxLen → TW P E nt m c Q s) : TW P E nt m c Q s := by
  intro C a w hn hm hR; obtain ⟨ρ, D, hr⟩ := hR; have h1 := hr.env t; simp only [envF] at h1; rw [ht] at h1; generalize a.tmps.getD t undef = v at h1
  cases h1 with | s h1 => cases h1 with | r h1 =>
  obtain ⟨A, c', _, h2, h3, _⟩ := h1.slice; exact h (Nat.le_trans h2 h3) C a w hn hm ⟨ρ, D, hr⟩
end
theorem Wk.same {m : Nat} {s s' : TState} (h1 : ∀ x ∈ s'.env, lk x.1 s.env = x.2 ∧ x.2.names.all (fun b => decide (b < s'.nx)) = true) (h2 : ∀ x ∈ s'.sto, s.get x.1 = some x.2 ∧ x.1 < s'.nx ∧ x.2.names.all (fun b => decide (b < s'.nx)) = true) (h3 : m ≤ s'.nx) : Wk m s s' := by
  have hT : ∀ t : TV, t.ren id = t := fun t => by cases t <;> rfl
  have hTL : ∀ ts : List TV, ts.map (TV.ren id) = ts := fun ts => (List.map_congr_left fun t _ => hT t).trans (List.map_id ts)
  have hTF : ∀ (get : Nat → Option Blk) (ts : List TV), ts.map (TV.frz get []) = ts := fun get ts => (List.map_congr_left fun t _ => TV.frz_nil get t).trans (List.map_id ts)
  refine ⟨id, [], ⟨fun b hb => (by cases hb), fun x hx => .inr ⟨?_, ?_⟩, fun x hx => ⟨(h2 x hx).2.1, (by simp), ?_, ?_⟩, fun x _ y _ h => h, h3, fun b _ => rfl⟩⟩
  · rw [GV.frz_nil, (h1 x hx).1, GV.ren_id]
  · have := (h1 x hx).2
    rw [List.all_eq_true] at this; exact fun b hb => by simpa using this b hb
  · simp only [id, (h2 x hx).1, Option.map_some, Option.some.injEq]
    cases x.2 <;> simp [Blk.frz, Blk.ren, hTL, hTF]
  · have := (h2 x hx).2.2
    rw [List.all_eq_true] at this; exact fun b hb => by simpa using this b hb
end Go.Proofs.Ytjklkppncmhehaa.T
namespace Go.Proofs.Ytjklkppncmhehaa
open Go.RowKit
theorem block_of_add (a : Addr) (n : Nat) : (a.add n).block = a.block := by unfold Addr.add; split <;> rfl
theorem add_of_add (a : Addr) (i j : Nat) : (a.add i).add j = a.add (i + j) := by
  unfold Addr.add; by_cases hi : i = 0 <;> by_cases hj : j = 0 <;> simp [hi, hj, Nat.add_assoc]
def Reads (w : World) (B size : Nat) (A : Option Addr) (n : Nat) (xs : List Value) : Prop :=
  xs.length = n * size ∧ (0 < n → ∃ ad, A = some ad ∧ ad.block < B ∧ ∀ j u, xs[j]? = some u → w.cell? (ad.add j) = some u)
section
variable {w w' : World} {B B' size n : Nat} {A : Option Addr} {xs : List Value}
theorem Reads.none_ : Reads w B size A 0 [] := ⟨by simp, fun h => absurd h (by omega)⟩
theorem Reads.at_ {k : Nat} (h : Reads w B 1 A n xs) (hk : k < n) : ∃ ad u, A = some ad ∧ ad.block < B ∧ xs[k]? = some u ∧ w.cell? (ad.add k) = some u := by
  obtain ⟨ad, e, hb, hc⟩ := h.2 (by omega)
  have hl : k < xs.length := by have := h.1; omega
  exact ⟨ad, xs[k], e, hb, List.getElem?_eq_getElem hl, hc k _ (List.getElem?_eq_getElem hl)⟩
theorem Reads.keep (h : Reads w B size A n xs) (hk : ∀ p : Addr, p.block < B → w'.cell? p = w.cell? p) : Reads w' B size A n xs :=
  ⟨h.1, fun hn => by
    obtain ⟨ad, e, hb, hc⟩ := h.2 hn; exact ⟨ad, e, hb, fun j u hu => (hk _ (by rw [block_of_add]; exact hb)).trans (hc j u hu)⟩⟩
theorem Reads.more (h : Reads w B size A n xs) (hB : B ≤ B') : Reads w B' size A n xs :=
  ⟨h.1, fun hn => by
    obtain ⟨ad, e, hb, hc⟩ := h.2 hn; exact ⟨ad, e, by omega, hc⟩⟩
theorem Reads.below (h : Reads w B size A n xs) (hb : Below B w w') : Reads w' B size A n xs := h.keep fun _ hp => hb.cell hp
theorem Reads.drew (h : Reads w B size A n xs) : Reads w.drew B size A n xs := h
theorem Reads.drewN (h : Reads w B size A n xs) (k : Nat) : Reads (w.drewN k) B size A n xs := h
theorem Reads.alloc (h : Reads w B size A n xs) (hB : B ≤ w.heap.size) (o : Obj) : Reads (w.alloc o) B size A n xs := h.keep fun p hp => World.cell?_alloc_lt w o p (by omega)
theorem Reads.setCell (h : Reads w B size A n xs) {p : Addr} (hB : B ≤ p.block) (u : Value) : Reads (w.setCell p u) B size A n xs :=
  h.keep fun q hq => World.cell?_setCell_other w p q u (fun e => by subst e; omega)
theorem Reads.grown (h : Reads w B size A n xs) {row : Option Nat} (hg : w.grownBy w' row) (hB : B ≤ w.heap.size) (hr : ∀ g, row = some g → B ≤ g) : Reads w' B size A n xs :=
  h.keep fun p hp => World.cell?_of_block (hg.block p.block (by omega) (fun e => by have := hr _ e.symm; omega))
theorem Reads.cut (h : Reads w B size A n xs) {k cap : Nat} (hk : k ≤ n) (hc : n ≤ cap) :
    Reads w B size (if cap = k then A else A.map (·.add (k * size))) (n - k) (xs.drop (k * size)) := by
  refine ⟨by rw [List.length_drop, h.1, Nat.sub_mul], fun hn => ?_⟩
  obtain ⟨ad, rfl, hb, hcell⟩ := h.2 (by omega)
  rw [if_neg (by omega)]
  refine ⟨ad.add (k * size), rfl, by rw [block_of_add]; exact hb, fun j u hu => ?_⟩
  rw [add_of_add]; exact hcell _ u (by rw [← hu, List.getElem?_drop])
end
def Blk (w : World) (g : Nat) (t : TypeId) (cs : Array Value) : Prop := w.heap[g]? = some (.cells cs t (0, 0))
section
variable {w w' : World} {g : Nat} {t : TypeId} {cs : Array Value}
theorem Blk.lt (h : Blk w g t cs) : g < w.heap.size := by
  rcases Nat.lt_or_ge g w.heap.size with hlt | hge
  · exact hlt
  · unfold Blk at h; rw [Array.getElem?_eq_none hge] at h; cases h
theorem Blk.cell (h : Blk w g t cs) (i : Nat) : w.cell? ⟨g, i, none⟩ = cs[i]? := cell_of_row w g i cs t (0, 0) h
theorem Blk.frozen (h : Blk w g t cs) (i : Nat) : w.frozen? ⟨g, i, none⟩ = false := by
  unfold Blk at h; simp [World.frozen?, h]
theorem Blk.new (w : World) (t : TypeId) (cs : Array Value) : Blk (w.alloc (.cells cs t)) w.heap.size t cs := heap_alloc_new w _
theorem Blk.drew (h : Blk w g t cs) : Blk w.drew g t cs := h
theorem Blk.drewN (h : Blk w g t cs) (n : Nat) : Blk (w.drewN n) g t cs := h
theorem Blk.alloc (h : Blk w g t cs) (o : Obj) : Blk (w.alloc o) g t cs := (Below.heap_alloc w o g h.lt).trans h
theorem Blk.set_ (h : Blk w g t cs) (i : Nat) (u : Value) : Blk (w.setCell ⟨g, i, none⟩ u) g t (cs.setIfInBounds i u) := by
  unfold Blk at h ⊢; simp [World.setCell, Array.getElem?_modify, h]
theorem Blk.far (h : Blk w g t cs) {p : Addr} (hp : g ≠ p.block) (u : Value) : Blk (w.setCell p u) g t cs := (Below.heap_setCell w p u g hp).trans h
theorem Blk.below {B : Nat} (h : Blk w g t cs) (hb : Below B w w') (hg : g < B) : Blk w' g t cs := (hb.block g hg).trans h
theorem Blk.grown {row : Option Nat} (h : Blk w g t cs) (hb : w.grownBy w' row) (hg : some g ≠ row) : Blk w' g t cs := (hb.block g h.lt hg).trans h
end
section
variable {P : Program} (w : World)
end
theorem Blk.new' (w : World) (t : TypeId) (cs : Array Value) {g : Nat} (hg : g = w.heap.size) : Blk (w.alloc (.cells cs t)) g t cs := by subst hg; exact Blk.new w t cs
end Go.Proofs.Ytjklkppncmhehaa
namespace Go.Proofs.Ytjklkppncmhehaa
open Go Go.RowKit
/-! ### data -/
structure EntD where
  m : Int
  t : Int
  g : Int
  f : Bool
  deriving DecidableEq
def EntD.cells (e : EntD) : List Value := [.int .i64 e.m, .int .i64 e.t, .int .i64 e.g, .bool e.f]
def EntD.zero : EntD := ⟨0, 0, 0, false⟩
def entsC (es : List EntD) : List Value := es.flatMap EntD.cells
structure GrpD where
  id : Int
  clock : Int
  pend : List EntD
  done : List EntD
theorem entsC_length (es : List EntD) : (entsC es).length = es.length * 4 := by
  induction es with
  | nil => rfl
  | cons e es ih => simp only [entsC, List.flatMap_cons, List.length_append] at *; rw [ih]; simp [EntD.cells]; omega
theorem entsC_at {es : List EntD} {k : Nat} {e : EntD} (h : es[k]? = some e) : (entsC es)[k * 4]? = some (.int .i64 e.m) ∧ (entsC es)[k * 4 + 1]? = some (.int .i64 e.t) ∧ (entsC es)[k * 4 + 2]? = some (.int .i64 e.g) ∧ (entsC es)[k * 4 + 3]? = some (.bool e.f) := by
  induction es generalizing k with
  | nil => simp at h
  | cons a es ih =>
    cases k with
    | zero =>
      simp at h; subst h
      refine ⟨rfl, rfl, rfl, rfl⟩
    | succ k =>
      simp only [List.getElem?_cons_succ] at h; have := ih h
      have e0 : ∀ j, (entsC (a :: es))[(k + 1) * 4 + j]? = (entsC es)[k * 4 + j]? := fun j => by
        show (a.cells ++ entsC es)[(k + 1) * 4 + j]? = _
        rw [List.getElem?_append_right (by simp [EntD.cells]; omega)]
        congr 1
        simp [EntD.cells]; omega
      exact ⟨(e0 0).trans this.1, (e0 1).trans this.2.1, (e0 2).trans this.2.2.1, (e0 3).trans this.2.2.2⟩
def RdE (w : World) (B : Nat) (A : Option Addr) (n c : Nat) (es : List EntD) : Prop := Reads w B 4 A n (entsC es) ∧ n ≤ c ∧ c ≤ maxLen
section
variable {w w' : World} {B n c : Nat} {A : Option Addr} {es : List EntD}
theorem RdE.len (h : RdE w B A n c es) : es.length = n := by
  have := h.1.1
  rw [entsC_length] at this; omega
theorem add_at (a : Addr) (j i : Nat) (hi : 0 < i) : a.add (j + i) = { block := (a.add j).block, off := (a.add j).off + i } := by
  rw [← add_of_add]; unfold Addr.add; simp [show i ≠ 0 by omega]
def EntAt (w : World) (a : Addr) (e : EntD) : Prop := w.cell? a = some (.int .i64 e.m) ∧ w.cell? { block := a.block, off := a.off + 1 } = some (.int .i64 e.t) ∧ w.cell? { block := a.block, off := a.off + 2 } = some (.int .i64 e.g) ∧ w.cell? { block := a.block, off := a.off + 3 } = some (.bool e.f)
theorem RdE.at_ {k : Nat} (h : RdE w B A n c es) (hk : k < n) : ∃ ad e, A = some ad ∧ ad.block < B ∧ es[k]? = some e ∧ EntAt w (ad.add (k * 4)) e := by
  obtain ⟨ad, e0, hb, hc⟩ := h.1.2 (by omega)
  have hl := h.len; have he : es[k]? = some es[k] := List.getElem?_eq_getElem (by omega)
  obtain ⟨h1, h2, h3, h4⟩ := entsC_at he; refine ⟨ad, es[k], e0, hb, he, hc _ _ h1, ?_, ?_, ?_⟩
  · rw [← add_at _ _ _ (by omega)]; exact hc _ _ h2
  · rw [← add_at _ _ _ (by omega)]; exact hc _ _ h3
  · rw [← add_at _ _ _ (by omega)]; exact hc _ _ h4
theorem RdE.below (h : RdE w B A n c es) (hb : Below B w w') : RdE w' B A n c es := ⟨h.1.below hb, h.2⟩
end
def findFrom (m : Int) : List EntD → Nat → Int
  | [], _ => -1
  | e :: es, k => if e.m = m then k else findFrom m es (k + 1)
def findE (es : List EntD) (m : Int) : Int := findFrom m es 0
theorem findFrom_drop {es : List EntD} {m : Int} {k : Nat} {e : EntD} (h : es[k]? = some e) : findFrom m (es.drop k) k = if e.m = m then (k : Int) else findFrom m (es.drop (k + 1)) (k + 1) := by
  have hk : k < es.length := (List.getElem?_eq_some_iff.1 h).1
  have he : es[k] = e := (List.getElem?_eq_some_iff.1 h).2
  rw [List.drop_eq_getElem_cons hk, findFrom, he]
def isGrpB (g : Int) : Bool := decide (0 ≤ g ∧ g < 5)
def isMsgB (m : Int) : Bool := decide (0 ≤ m ∧ m < 12)
def isTimeB (t : Int) : Bool := decide (0 ≤ t ∧ t ≤ 999)
def stampOk (t g : Int) : Bool := decide (1 ≤ t ∧ t ≤ 999) && isGrpB g
def lessB (t g t' g' : Int) : Bool := decide (t < t' ∨ (t = t' ∧ g < g'))
end Go.Proofs.Ytjklkppncmhehaa
namespace Go.Proofs.Ytjklkppncmhehaa.T
open Go Go.RowKit
set_option maxRecDepth 100000
variable {E : List PanicEntry → World → Prop}
/-! ### data as trees -/
abbrev rI (n : Int) : RT := .v (.int .i64 n)
abbrev rB (b : Bool) : RT := .v (.bool b)
abbrev gR (t : RT) : GV := .s (.r t)
def entT (e : EntD) : List RT := [rI e.m, rI e.t, rI e.g, rB e.f]
abbrev entsT (es : List EntD) : RT := .sl 4 (es.map entT)
abbrev intsT (xs : List Int) : RT := .sl 1 (xs.map fun n => [rI n])
theorem wrap_add {k n : Nat} (h : k < n) (hn : n ≤ maxLen) : IntKind.i64.wrap ((k : Int) + 1) = (k : Int) + 1 := by
  simp only [maxLen] at hn; simp [IntKind.wrap, IntKind.min, IntKind.max, IntKind.signed, IntKind.bits]; omega
theorem wrap_ok {z : Int} (h1 : -9223372036854775808 ≤ z) (h2 : z ≤ 9223372036854775807) : IntKind.i64.wrap z = z := by
  simp [IntKind.wrap, IntKind.min, IntKind.max, IntKind.signed, IntKind.bits]; omega
@[simp] theorem wrap_one : IntKind.i64.wrap 1 = 1 := by decide
theorem l2Less_T (t g t' g' : Int) : TC Tw.prog E 29 [.a [.r (rI t), .r (rI g)], .a [.r (rI t'), .r (rI g')]] 0 [] (gB (lessB t g t' g')) [] := by
  refine TC.enter Tw.func29 rfl (by kernel_rfl) Tw.ntmps29 (by rw [Try.results29]) (by simp) (Fits.nil rfl) ?_
  (repeat' first | refine TW.seq ?_ | refine TW.block ?_ | ((first | refine TW.skip ?_ | refine TW.exit ?_ | refine TW.ret ?_); (try simp only [tQ, bQ, if_true, Nat.reduceEqDiff, reduceIte])) | (refine TW.reg Td.mixed rfl fun C K hC hK => ?_; simp; (repeat' first | refine And.intro ?_ ?_ | intro _ | refine iteI ?_ ?_ | (show (_ : Bool) = true; kernel_rfl) | (show _ ≤ _; first | omega | (simp; done) | (simp; omega)) | exact Or.inl rfl | (show _ < _; omega)); all_goals (refine hK _ ?_; clear hC hK C K; try simp only [tQ, bQ])) | (refine TW.cond rfl ?_ ?_ <;> intro hc <;> (try (cases hc; done))))
  all_goals refine Rets.nil (r := gB (lessB t g t' g')) ?_ rfl
  all_goals (first | (simp [lessB]; done) | (simp [lessB, *]; done) | (simp [lessB]; intros; omega) | (simp [lessB, *]; intros; omega) | (rw [Bool.eq_iff_iff]; simp [lessB, *]; intros; omega) | (simp [lessB, *]; rw [Bool.eq_iff_iff]; simp; intros; omega) | (intros; omega))
theorem l6In_T (n a b : Int) : TC Tw.prog E 53 [gI .i64 n, gI .i64 a, gI .i64 b] 0 [] (gB (decide (a ≤ n ∧ n ≤ b))) [] := by
  refine TC.enter Tw.func53 rfl (by kernel_rfl) Tw.ntmps53 (by rw [Try.results53]) (by simp) (Fits.nil rfl) ?_
  (repeat' first | refine TW.seq ?_ | refine TW.block ?_ | ((first | refine TW.skip ?_ | refine TW.exit ?_ | refine TW.ret ?_); (try simp only [tQ, bQ, if_true, Nat.reduceEqDiff, reduceIte])) | (refine TW.reg Td.mixed rfl fun C K hC hK => ?_; simp; (repeat' first | refine And.intro ?_ ?_ | intro _ | refine iteI ?_ ?_ | (show (_ : Bool) = true; kernel_rfl) | (show _ ≤ _; first | omega | (simp; done) | (simp; omega)) | exact Or.inl rfl | (show _ < _; omega)); all_goals (refine hK _ ?_; clear hC hK C K; try simp only [tQ, bQ])) | (refine TW.cond rfl ?_ ?_ <;> intro hc <;> (try (cases hc; done))))
  all_goals refine Rets.nil (r := gB (decide (a ≤ n ∧ n ≤ b))) ?_ rfl
  all_goals (first | (simp ; done) | (simp [*]; done) | (simp ; intros; omega) | (simp [*]; intros; omega) | (rw [Bool.eq_iff_iff]; simp [*]; intros; omega) | (simp [*]; rw [Bool.eq_iff_iff]; simp; intros; omega) | (intros; omega))
theorem l1Group_T (n : Int) : TC Tw.prog E 37 [gI .i64 n] 0 [] (gB (isGrpB n)) [] := by
  refine TC.enter Tw.func37 rfl (by kernel_rfl) Tw.ntmps37 (by rw [Try.results37]) (by simp) (Fits.nil rfl) ?_
  (repeat' first | refine TW.seq ?_ | refine TW.block ?_ | ((first | refine TW.skip ?_ | refine TW.exit ?_ | refine TW.ret ?_); (try simp only [tQ, bQ, if_true, Nat.reduceEqDiff, reduceIte])) | (refine TW.reg Td.mixed rfl fun C K hC hK => ?_; simp; (repeat' first | refine And.intro ?_ ?_ | intro _ | refine iteI ?_ ?_ | (show (_ : Bool) = true; kernel_rfl) | (show _ ≤ _; first | omega | (simp; done) | (simp; omega)) | exact Or.inl rfl | (show _ < _; omega) | ((first | refine hC _ _ _ _ _ rfl (aC.plain rfl rfl (by simp; rfl) (by exact l6In_T _ _ _) (by simp) (by simp) ?_)); simp)); all_goals (refine hK _ ?_; clear hC hK C K; try simp only [tQ, bQ])) | (refine TW.cond rfl ?_ ?_ <;> intro hc <;> (try (cases hc; done))))
  all_goals refine Rets.nil (r := gB (isGrpB n)) ?_ rfl
  all_goals (first | (simp [isGrpB]; done) | (simp [isGrpB, *]; done) | (simp [isGrpB]; intros; omega) | (simp [isGrpB, *]; intros; omega) | (rw [Bool.eq_iff_iff]; simp [isGrpB, *]; intros; omega) | (simp [isGrpB, *]; rw [Bool.eq_iff_iff]; simp; intros; omega) | (intros; omega))
theorem l11Message_T (n : Int) : TC Tw.prog E 71 [gI .i64 n] 0 [] (gB (isMsgB n)) [] := by
  refine TC.enter Tw.func71 rfl (by kernel_rfl) Tw.ntmps71 (by rw [Try.results71]) (by simp) (Fits.nil rfl) ?_
  (repeat' first | refine TW.seq ?_ | refine TW.block ?_ | ((first | refine TW.skip ?_ | refine TW.exit ?_ | refine TW.ret ?_); (try simp only [tQ, bQ, if_true, Nat.reduceEqDiff, reduceIte])) | (refine TW.reg Td.mixed rfl fun C K hC hK => ?_; simp; (repeat' first | refine And.intro ?_ ?_ | intro _ | refine iteI ?_ ?_ | (show (_ : Bool) = true; kernel_rfl) | (show _ ≤ _; first | omega | (simp; done) | (simp; omega)) | exact Or.inl rfl | (show _ < _; omega) | ((first | refine hC _ _ _ _ _ rfl (aC.plain rfl rfl (by simp; rfl) (by exact l6In_T _ _ _) (by simp) (by simp) ?_)); simp)); all_goals (refine hK _ ?_; clear hC hK C K; try simp only [tQ, bQ])) | (refine TW.cond rfl ?_ ?_ <;> intro hc <;> (try (cases hc; done))))
  all_goals refine Rets.nil (r := gB (isMsgB n)) ?_ rfl
  all_goals (first | (simp [isMsgB]; done) | (simp [isMsgB, *]; done) | (simp [isMsgB]; intros; omega) | (simp [isMsgB, *]; intros; omega) | (rw [Bool.eq_iff_iff]; simp [isMsgB, *]; intros; omega) | (simp [isMsgB, *]; rw [Bool.eq_iff_iff]; simp; intros; omega) | (intros; omega))
theorem specStampValid_T (t g : Int) : TC Tw.prog E 72 [.a [.r (rI t), .r (rI g)]] 0 [] (gB (stampOk t g)) [] := by
  refine TC.enter Tw.func72 rfl (by kernel_rfl) Tw.ntmps72 (by rw [Try.results72]) (by simp) (Fits.nil rfl) ?_
  (repeat' first | refine TW.seq ?_ | refine TW.block ?_ | ((first | refine TW.skip ?_ | refine TW.exit ?_ | refine TW.ret ?_); (try simp only [tQ, bQ, if_true, Nat.reduceEqDiff, reduceIte])) | (refine TW.reg Td.mixed rfl fun C K hC hK => ?_; simp; (repeat' first | refine And.intro ?_ ?_ | intro _ | refine iteI ?_ ?_ | (show (_ : Bool) = true; kernel_rfl) | (show _ ≤ _; first | omega | (simp; done) | (simp; omega)) | exact Or.inl rfl | (show _ < _; omega) | ((first | refine hC _ _ _ _ _ rfl (aC.plain rfl rfl (by simp; rfl) (by exact l6In_T _ _ _) (by simp) (by simp) ?_) | refine hC _ _ _ _ _ rfl (aC.plain rfl rfl (by simp; rfl) (by exact l1Group_T _) (by simp) (by simp) ?_)); simp)); all_goals (refine hK _ ?_; clear hC hK C K; try simp only [tQ, bQ])) | (refine TW.cond rfl ?_ ?_ <;> intro hc <;> (try (cases hc; done))))
  all_goals refine Rets.nil (r := gB (stampOk t g)) ?_ rfl
  all_goals (first | (simp [stampOk]; done) | (simp [stampOk, *]; done) | (simp [stampOk]; intros; omega) | (simp [stampOk, *]; intros; omega) | (rw [Bool.eq_iff_iff]; simp [stampOk, *]; intros; omega) | (simp [stampOk, *]; rw [Bool.eq_iff_iff]; simp; intros; omega) | (intros; omega))
theorem l11Find_T (es : List EntD) (m : Int) : TC Tw.prog E 55 [gR (entsT es), gI .i64 m] 0 [] (gI .i64 (findE es m)) [] := by
  refine TC.enter Tw.func55 rfl (by kernel_rfl) Tw.ntmps55 (by rw [Try.results55]) (by simp) (Fits.nil rfl) ?_
  refine TW.len 0 rfl fun hlen => ?_; simp only [List.length_map] at hlen; (repeat' first | refine TW.seq ?_ | refine TW.block ?_ | ((first | refine TW.skip ?_ | refine TW.exit ?_ | refine TW.ret ?_); (try simp only [tQ, bQ, if_true, Nat.reduceEqDiff, reduceIte])) | (refine TW.reg Td.mixed rfl fun C K hC hK => ?_; simp; (repeat' first | refine And.intro ?_ ?_ | intro _ | refine iteI ?_ ?_ | (show (_ : Bool) = true; kernel_rfl) | (show _ ≤ _; first | omega | (simp; done) | (simp; omega)) | exact Or.inl rfl | (show _ < _; omega)); all_goals (refine hK _ ?_; clear hC hK C K; try simp only [tQ, bQ])) | (refine TW.cond rfl ?_ ?_ <;> intro hc <;> (try (cases hc; done))))
  refine TW.loop (fun k => ⟨[(0, gR (entsT es)), (1, gI .i64 m), (5, gI .i64 (k : Nat))], [], 0⟩) (fun k => k ≤ es.length ∧ findE es m = findFrom m (es.drop k) k) (fun k => es.length - k) 0 ⟨by omega, rfl⟩ (Wk.same (by simp) (by simp) (by simp)) fun k hk => ?_
  obtain ⟨hk, hf⟩ := hk; by_cases hlt : k < es.length
  · have he : es[k]? = some es[k] := List.getElem?_eq_getElem hlt
    have hfd := findFrom_drop (m := m) he; (repeat' first | refine TW.seq ?_ | refine TW.block ?_ | ((first | refine TW.skip ?_ | refine TW.exit ?_ | refine TW.ret ?_); (try simp only [tQ, bQ, if_true, Nat.reduceEqDiff, reduceIte])) | (refine TW.reg Td.mixed rfl fun C K hC hK => ?_; simp [hlt, he, entT, wrap_add hlt hlen]; (repeat' first | refine And.intro ?_ ?_ | intro _ | refine iteI ?_ ?_ | (show (_ : Bool) = true; kernel_rfl) | (show _ ≤ _; first | omega | (simp; done) | (simp; omega)) | exact Or.inl rfl | (show _ < _; omega)); all_goals (refine hK _ ?_; clear hC hK C K; try simp only [tQ, bQ])) | (refine TW.cond rfl ?_ ?_ <;> intro hc <;> (try (cases hc; done))))
    · refine Rets.nil (r := gI .i64 (findE es m)) ?_ rfl
      simp at hc
      simp [hf, hfd, hc]
    · simp at hc
      refine ⟨k + 1, ⟨by omega, ?_⟩, by omega, Wk.same (by simp) (by simp) (by simp)⟩
      rw [hf, hfd, if_neg hc]
  · obtain rfl : k = es.length := by omega
    (repeat' first | refine TW.seq ?_ | refine TW.block ?_ | ((first | refine TW.skip ?_ | refine TW.exit ?_ | refine TW.ret ?_); (try simp only [tQ, bQ, if_true, Nat.reduceEqDiff, reduceIte])) | (refine TW.reg Td.mixed rfl fun C K hC hK => ?_; simp; (repeat' first | refine And.intro ?_ ?_ | intro _ | refine iteI ?_ ?_ | (show (_ : Bool) = true; kernel_rfl) | (show _ ≤ _; first | omega | (simp; done) | (simp; omega)) | exact Or.inl rfl | (show _ < _; omega)); all_goals (refine hK _ ?_; clear hC hK C K; try simp only [tQ, bQ])) | (refine TW.cond rfl ?_ ?_ <;> intro hc <;> (try (cases hc; done))))
    refine Rets.nil (r := gI .i64 (findE es m)) ?_ rfl; simp [hf, List.drop_of_length_le, findFrom]
end Go.Proofs.Ytjklkppncmhehaa.T
namespace Go.Proofs.Ytjklkppncmhehaa.T
open Go Go.RowKit
set_option maxRecDepth 100000
variable {E : List PanicEntry → World → Prop}
theorem wrap_nat {k : Nat} (hn : k ≤ maxLen) : IntKind.i64.wrap (k : Int) = (k : Int) := by
  simp only [maxLen] at hn; exact wrap_ok (by omega) (by omega)
def allB (n : Nat) (c : Nat → Bool) : Bool := (List.range n).all c
theorem allB_true {n : Nat} {c : Nat → Bool} (h : ∀ i, i < n → c i = true) : allB n c = true := by simpa [allB] using h
theorem allB_false {n k : Nat} {c : Nat → Bool} (hk : k < n) (h : c k = false) : allB n c = false := by
  simp only [allB, List.all_eq_false, List.mem_range]; exact ⟨k, hk, by simp [h]⟩
def hasI (xs : List Int) (n : Int) : Bool := xs.any fun x => decide (x = n)
theorem l1Has_T (xs : List Int) (n : Int) : TC Tw.prog E 119 [gR (intsT xs), gI .i64 n] 0 [] (gB (hasI xs n)) [] := by
  refine TC.enter Tw.func119 rfl (by kernel_rfl) Tw.ntmps119 (by rw [Try.results119]) (by simp) (Fits.nil rfl) ?_
  refine TW.len 0 rfl fun hlen => ?_; simp only [List.length_map] at hlen; (repeat' first | refine TW.seq ?_ | refine TW.block ?_ | ((first | refine TW.skip ?_ | refine TW.exit ?_ | refine TW.ret ?_); (try simp only [tQ, bQ, if_true, Nat.reduceEqDiff, reduceIte])) | (refine TW.reg Td.mixed rfl fun C K hC hK => ?_; simp; (repeat' first | refine And.intro ?_ ?_ | intro _ | refine iteI ?_ ?_ | (show (_ : Bool) = true; kernel_rfl) | (show _ ≤ _; first | omega | (simp; done) | (simp; omega)) | exact Or.inl rfl | (show _ < _; omega)); all_goals (refine hK _ ?_; clear hC hK C K; try simp only [tQ, bQ])) | (refine TW.cond rfl ?_ ?_ <;> intro hc <;> (try (cases hc; done))))
  refine TW.loop (fun k => ⟨[(0, gR (intsT xs)), (1, gI .i64 n), (5, gI .i64 (k : Nat))], [], 0⟩) (fun k => k ≤ xs.length ∧ ∀ (i : Nat) (x : Int), i < k → xs[i]? = some x → x ≠ n) (fun k => xs.length - k) 0 ⟨by omega, fun i x hi => by omega⟩ (Wk.same (by simp) (by simp) (by simp)) fun k hk => ?_
  obtain ⟨hk, hf⟩ := hk; by_cases hlt : k < xs.length
  · have he : xs[k]? = some xs[k] := List.getElem?_eq_getElem hlt
    (repeat' first | refine TW.seq ?_ | refine TW.block ?_ | ((first | refine TW.skip ?_ | refine TW.exit ?_ | refine TW.ret ?_); (try simp only [tQ, bQ, if_true, Nat.reduceEqDiff, reduceIte])) | (refine TW.reg Td.mixed rfl fun C K hC hK => ?_; simp [hlt, he, wrap_add hlt hlen]; (repeat' first | refine And.intro ?_ ?_ | intro _ | refine iteI ?_ ?_ | (show (_ : Bool) = true; kernel_rfl) | (show _ ≤ _; first | omega | (simp; done) | (simp; omega)) | exact Or.inl rfl | (show _ < _; omega)); all_goals (refine hK _ ?_; clear hC hK C K; try simp only [tQ, bQ])) | (refine TW.cond rfl ?_ ?_ <;> intro hc <;> (try (cases hc; done))))
    · refine Rets.nil (r := gB (hasI xs n)) ?_ rfl
      simp at hc
      simp [hasI]; exact hc ▸ List.getElem_mem hlt
    · simp at hc
      refine ⟨k + 1, ⟨by omega, fun i y hi hy => ?_⟩, by omega, Wk.same (by simp) (by simp) (by simp)⟩
      by_cases e : i = k
      · subst e; rw [he] at hy; cases hy; exact hc
      · exact hf i y (by omega) hy
  · obtain rfl : k = xs.length := by omega
    (repeat' first | refine TW.seq ?_ | refine TW.block ?_ | ((first | refine TW.skip ?_ | refine TW.exit ?_ | refine TW.ret ?_); (try simp only [tQ, bQ, if_true, Nat.reduceEqDiff, reduceIte])) | (refine TW.reg Td.mixed rfl fun C K hC hK => ?_; simp; (repeat' first | refine And.intro ?_ ?_ | intro _ | refine iteI ?_ ?_ | (show (_ : Bool) = true; kernel_rfl) | (show _ ≤ _; first | omega | (simp; done) | (simp; omega)) | exact Or.inl rfl | (show _ < _; omega)); all_goals (refine hK _ ?_; clear hC hK C K; try simp only [tQ, bQ])) | (refine TW.cond rfl ?_ ?_ <;> intro hc <;> (try (cases hc; done))))
    refine Rets.nil (r := gB (hasI xs n)) ?_ rfl; simp [hasI]; intro x hx e; obtain ⟨i, hi, rfl⟩ := List.getElem_of_mem hx; exact hf i _ hi (List.getElem?_eq_getElem hi) e
def setC (xs : List Int) (i : Nat) : Bool := isGrpB (xs.getD i 0) && (decide (i = 0) || decide (xs.getD (i - 1) 0 < xs.getD i 0))
def setB (xs : List Int) : Bool := allB xs.length (setC xs) && decide (0 < xs.length)
theorem specGroupsValid_T (xs : List Int) : TC Tw.prog E 86 [gR (intsT xs)] 0 [] (gB (setB xs)) [] := by
  refine TC.enter Tw.func86 rfl (by kernel_rfl) Tw.ntmps86 (by rw [Try.results86]) (by simp) (Fits.nil rfl) ?_
  refine TW.len 0 rfl fun hlen => ?_; simp only [List.length_map] at hlen; (repeat' first | refine TW.seq ?_ | refine TW.block ?_ | ((first | refine TW.skip ?_ | refine TW.exit ?_ | refine TW.ret ?_); (try simp only [tQ, bQ, if_true, Nat.reduceEqDiff, reduceIte])) | (refine TW.reg Td.mixed rfl fun C K hC hK => ?_; simp; (repeat' first | refine And.intro ?_ ?_ | intro _ | refine iteI ?_ ?_ | (show (_ : Bool) = true; kernel_rfl) | (show _ ≤ _; first | omega | (simp; done) | (simp; omega)) | exact Or.inl rfl | (show _ < _; omega)); all_goals (refine hK _ ?_; clear hC hK C K; try simp only [tQ, bQ])) | (refine TW.cond rfl ?_ ?_ <;> intro hc <;> (try (cases hc; done))))
  refine TW.loop (fun k => ⟨[(0, gR (intsT xs)), (3, gI .i64 (k : Nat))], [], 0⟩) (fun k => k ≤ xs.length ∧ ∀ i, i < k → setC xs i = true) (fun k => xs.length - k) 0 ⟨by omega, fun i hi => by omega⟩ (Wk.same (by simp) (by simp) (by simp)) fun k hk => ?_
  obtain ⟨hk, hf⟩ := hk; by_cases hlt : k < xs.length
  · have he : xs[k]? = some xs[k] := List.getElem?_eq_getElem hlt
    have hq : setB xs = false ∨ setC xs k = true := by
      cases h : setC xs k
      · exact .inl (by simp [setB, allB_false hlt h])
      · exact .inr rfl
    rcases k with _ | k
    · have hset : setC xs 0 = isGrpB xs[0] := by simp [setC, hlt]
      (repeat' first | refine TW.seq ?_ | refine TW.block ?_ | ((first | refine TW.skip ?_ | refine TW.exit ?_ | refine TW.ret ?_); (try simp only [tQ, bQ, if_true, Nat.reduceEqDiff, reduceIte])) | (refine TW.reg Td.mixed rfl fun C K hC hK => ?_; simp [hlt, he]; (repeat' first | refine And.intro ?_ ?_ | intro _ | refine iteI ?_ ?_ | (show (_ : Bool) = true; kernel_rfl) | (show _ ≤ _; first | omega | (simp; done) | (simp; omega)) | exact Or.inl rfl | (show _ < _; omega) | ((first | refine hC _ _ _ _ _ rfl (aC.plain rfl rfl (by simp; rfl) (by exact l1Group_T _) (by simp) (by simp) ?_)); simp [hlt, he])); all_goals (refine hK _ ?_; clear hC hK C K; try simp only [tQ, bQ])) | (refine TW.cond rfl ?_ ?_ <;> intro hc <;> (try (cases hc; done))))
      · refine ⟨1, ⟨by omega, fun i hi => ?_⟩, by omega, Wk.same (by simp) (by simp) (by simp)⟩
        obtain rfl : i = 0 := by omega
        simpa [hset]
      · refine Rets.nil (r := gB (setB xs)) ?_ rfl
        have : setB xs = false := by simp_all
        simp [this]
    · have he' : xs[k]? = some xs[k] := List.getElem?_eq_getElem (by omega)
      have hw := wrap_nat (k := k) (by omega)
      have hw1 := wrap_add (k := k + 1) hlt hlen; simp only [Int.natCast_add, Int.natCast_one] at hw1; have hpos : (0 : Int) < (k : Int) + 1 := by omega
      have hltI : (k : Int) + 1 < (xs.length : Int) := by omega
      have hset : setC xs (k + 1) = (isGrpB xs[k + 1] && decide (xs[k] < xs[k + 1])) := by simp [setC, hlt, show k < xs.length by omega]
      (repeat' first | refine TW.seq ?_ | refine TW.block ?_ | ((first | refine TW.skip ?_ | refine TW.exit ?_ | refine TW.ret ?_); (try simp only [tQ, bQ, if_true, Nat.reduceEqDiff, reduceIte])) | (refine TW.reg Td.mixed rfl fun C K hC hK => ?_; simp [hlt, he, he', hw, hw1, hpos, hltI]; (repeat' first | refine And.intro ?_ ?_ | intro _ | refine iteI ?_ ?_ | (show (_ : Bool) = true; kernel_rfl) | (show _ ≤ _; first | omega | (simp; done) | (simp; omega)) | exact Or.inl rfl | (show _ < _; omega) | ((first | refine hC _ _ _ _ _ rfl (aC.plain rfl rfl (by simp; rfl) (by exact l1Group_T _) (by simp) (by simp) ?_)); simp [hlt, he, he', hw, hw1, hpos, hltI])); all_goals (refine hK _ ?_; clear hC hK C K; try simp only [tQ, bQ])) | (refine TW.cond rfl ?_ ?_ <;> intro hc <;> (try (cases hc; done))))
      all_goals first
        | (refine ⟨k + 1 + 1, ⟨by omega, fun i hi => ?_⟩, by omega, Wk.same (by simp) (by simp) (by simp)⟩
           by_cases e : i = k + 1
           · subst e; simp_all
           · exact hf i (by omega))
        | (refine Rets.nil (r := gB (setB xs)) ?_ rfl
           rcases hq with hq | hq
           · simp [hq]
           · exfalso
             first | (simp_all; done) | (simp_all; omega))
  · obtain rfl : k = xs.length := by omega
    (repeat' first | refine TW.seq ?_ | refine TW.block ?_ | ((first | refine TW.skip ?_ | refine TW.exit ?_ | refine TW.ret ?_); (try simp only [tQ, bQ, if_true, Nat.reduceEqDiff, reduceIte])) | (refine TW.reg Td.mixed rfl fun C K hC hK => ?_; simp; (repeat' first | refine And.intro ?_ ?_ | intro _ | refine iteI ?_ ?_ | (show (_ : Bool) = true; kernel_rfl) | (show _ ≤ _; first | omega | (simp; done) | (simp; omega)) | exact Or.inl rfl | (show _ < _; omega)); all_goals (refine hK _ ?_; clear hC hK C K; try simp only [tQ, bQ])) | (refine TW.cond rfl ?_ ?_ <;> intro hc <;> (try (cases hc; done))))
    refine Rets.nil (r := gB (setB xs)) ?_ rfl; simp [setB, allB_true hf]
end Go.Proofs.Ytjklkppncmhehaa.T
namespace Go.Proofs.Ytjklkppncmhehaa.T
open Go Go.RowKit
def TV.le (x y : TV) : Prop := x = y ∨ (x = .r .nil ∧ ∃ k, y = .r (.sl k []))
def leL : List TV → List TV → Prop
  | [], [] => True
  | x :: xs, y :: ys => x.le y ∧ leL xs ys
  | _, _ => False
def GV.le : GV → GV → Prop
  | .s x, .s y => x.le y
  | .a xs, .a ys => leL xs ys
  | g, g' => g = g'
def Blk.le : Blk → Blk → Prop
  | .box xs, .box ys => leL xs ys
  | y, y' => y = y'
def leE : List (Nat × GV) → List (Nat × GV) → Prop
  | [], [] => True
  | x :: xs, y :: ys => x.1 = y.1 ∧ x.2.le y.2 ∧ leE xs ys
  | _, _ => False
def leS : List (Nat × Blk) → List (Nat × Blk) → Prop
  | [], [] => True
  | x :: xs, y :: ys => x.1 = y.1 ∧ x.2.le y.2 ∧ leS xs ys
  | _, _ => False
def leA : List GV → List GV → Prop
  | [], [] => True
  | x :: xs, y :: ys => x.le y ∧ leA xs ys
  | _, _ => False
theorem TV.le_refl (x : TV) : x.le x := .inl rfl
theorem TV.le_nil (k : Nat) : (TV.r .nil).le (.r (.sl k [])) := .inr ⟨rfl, k, rfl⟩
theorem leL_refl : ∀ xs : List TV, leL xs xs
  | [] => trivial
  | x :: xs => ⟨x.le_refl, leL_refl xs⟩
theorem GV.le_refl (g : GV) : g.le g := by
  cases g
  case s x => exact x.le_refl
  case a xs => exact leL_refl xs
  all_goals rfl
theorem Blk.le_refl (y : Blk) : y.le y := by
  cases y
  case box xs => exact leL_refl xs
  all_goals rfl
theorem leL_get : ∀ {xs ys : List TV}, leL xs ys → xs.length = ys.length ∧ ∀ (i : Nat) (y : TV), ys[i]? = some y → ∃ x, xs[i]? = some x ∧ x.le y
  | [], [], _ => ⟨rfl, fun i y h => by simp at h⟩
  | x :: xs, y :: ys, h => by
    obtain ⟨h1, h2⟩ := leL_get h.2; refine ⟨by simp [h1], fun i z hz => ?_⟩
    cases i with
    | zero => cases hz; exact ⟨x, rfl, h.1⟩
    | succ i => exact h2 i z hz
  | [], _ :: _, h => h.elim
  | _ :: _, [], h => h.elim
theorem TRep.le {ρ : Nat → Option Value} {w : World} {D : Nat → Prop} {v : Value} {x y : TV} (h : x.le y) (hr : TRep ρ w D v x) : TRep ρ w D v y := by
  rcases h with rfl | ⟨rfl, k, rfl⟩
  · exact hr
  · cases hr with | r hr => cases hr with | nil => exact .r (.sl0 (Nat.zero_le _))
theorem GRep.le {ρ : Nat → Option Value} {w : World} {D : Nat → Prop} {v : Value} {x y : GV} (h : x.le y) (hr : GRep ρ w D v x) : GRep ρ w D v y := by
  unfold GV.le at h; split at h
  · cases hr with | s hr => exact .s (hr.le h)
  · cases hr with
    | a hn hr =>
      obtain ⟨h1, h2⟩ := leL_get h; refine .a (hn.trans h1) fun i t ht => ?_; obtain ⟨x, hx, hl⟩ := h2 i t ht; exact (hr i x hx).le hl
  · subst h; exact hr
theorem BRep.le {ρ : Nat → Option Value} {w : World} {D : Nat → Prop} {v : Option Value} {x y : Blk} (h : x.le y) (hr : BRep ρ w D v x) : BRep ρ w D v y := by
  unfold Blk.le at h; split at h
  · obtain ⟨g, arr, ty, e1, e2, e3, e4⟩ := hr
    obtain ⟨h1, h2⟩ := leL_get h; refine ⟨g, arr, ty, e1, e2, e3.trans h1, fun i t ht => ?_⟩
    obtain ⟨x, hx, hl⟩ := h2 i t ht; exact (e4 i x hx).le hl
  · subst h; exact hr
theorem Blk.le_live {x y : Blk} (h : x.le y) : x.live = y.live := by
  unfold Blk.le at h; split at h
  · rfl
  · subst h; rfl
theorem leE_lk (t : Nat) : ∀ {e e' : List (Nat × GV)}, leE e e' → (lk t e).le (lk t e')
  | [], [], _ => rfl
  | x :: xs, y :: ys, h => by
    obtain ⟨h1, h2, h3⟩ := h; obtain ⟨u, g⟩ := x; obtain ⟨u', g'⟩ := y
    cases h1; simp only [lk]; split
    · exact h2
    · exact leE_lk t h3
  | [], _ :: _, h => h.elim
  | _ :: _, [], h => h.elim
theorem leS_gt (b : Nat) : ∀ {e e' : List (Nat × Blk)}, leS e e' → (gt b e = none ∧ gt b e' = none) ∨ ∃ y y', gt b e = some y ∧ gt b e' = some y' ∧ y.le y'
  | [], [], _ => .inl ⟨rfl, rfl⟩
  | x :: xs, y :: ys, h => by
    obtain ⟨h1, h2, h3⟩ := h; obtain ⟨u, g⟩ := x; obtain ⟨u', g'⟩ := y
    cases h1; simp only [gt]; split
    · exact .inr ⟨_, _, rfl, rfl, h2⟩
    · exact leS_gt b h3
  | [], _ :: _, h => h.elim
  | _ :: _, [], h => h.elim
theorem leA_get : ∀ {xs ys : List GV}, leA xs ys → xs.length = ys.length ∧ ∀ (i : Nat) (y : GV), ys[i]? = some y → ∃ x, xs[i]? = some x ∧ x.le y
  | [], [], _ => ⟨rfl, fun i y h => by simp at h⟩
  | x :: xs, y :: ys, h => by
    obtain ⟨h1, h2⟩ := leA_get h.2; refine ⟨by simp [h1], fun i z hz => ?_⟩
    cases i with
    | zero => cases hz; exact ⟨x, rfl, h.1⟩
    | succ i => exact h2 i z hz
  | [], _ :: _, h => h.elim
  | _ :: _, [], h => h.elim
section
variable {P : Program} {E : List PanicEntry → World → Prop} {nt m : Nat} {Q : Exit → TState → Prop} {s : TState}
theorem TW.le {c : Code} (env : List (Nat × GV)) (sto : List (Nat × Blk)) (he : leE s.env env) (hs : leS s.sto sto) (hw : TW P E nt m c Q ⟨env, sto, s.nx⟩) : TW P E nt m c Q s := by
  intro C a w hn hm hR; refine hw C a w hn hm ?_; obtain ⟨ρ, D, h⟩ := hR; have hg : ∀ b, (s.get b = none ∧ TState.get ⟨env, sto, s.nx⟩ b = none) ∨ ∃ y y', s.get b = some y ∧ TState.get ⟨env, sto, s.nx⟩ b = some y' ∧ y.le y' := by
    intro b; unfold TState.get; rcases leS_gt b hs with ⟨h1, h2⟩ | ⟨y, y', h1, h2, h3⟩
    · rw [h1, h2]
      simp only
      split
      · exact .inr ⟨_, _, rfl, rfl, rfl⟩
      · exact .inl ⟨rfl, rfl⟩
    · rw [h1, h2]
      exact .inr ⟨_, _, rfl, rfl, h3⟩
  have hb : ∀ b y', TState.get ⟨env, sto, s.nx⟩ b = some y' → ∃ y, s.get b = some y ∧ y.le y' := by
    intro b y' hy; rcases hg b with ⟨h1, h2⟩ | ⟨y, y2, h1, h2, h3⟩
    · rw [h2] at hy; cases hy
    · rw [h2] at hy; cases hy; exact ⟨y, h1, h3⟩
  refine ⟨ρ, D, ⟨h.os, h.tape, h.output, h.size, h.old, h.ro, fun b hb' => ?_, fun b y' hy => ?_, fun b y' g hy hl => ?_, fun b y b' y' g hy hl hy' hl' => ?_, fun t => (h.env t).le (leE_lk t he), h.defers, h.nt, h.ext⟩⟩
  · rcases hg b with ⟨h1, h2⟩ | ⟨y, y2, h1, h2, h3⟩
    · exact h.free b h1
    · rw [h2] at hb'; cases hb'
  · obtain ⟨y, h1, h2⟩ := hb b y' hy
    exact (h.blk b y h1).le h2
  · obtain ⟨y, h1, h2⟩ := hb b y' hy
    exact h.own b y g h1 (by rw [Blk.le_live h2]; exact hl)
  · obtain ⟨z, h1, h2⟩ := hb b y hy
    obtain ⟨z', h1', h2'⟩ := hb b' y' hy'; exact h.sep b z b' z' g h1 (by rw [Blk.le_live h2]; exact hl) h1' (by rw [Blk.le_live h2']; exact hl')
theorem TC.le {f : FuncId} {args args' : List GV} {sto sto' : List (Nat × Blk)} {r : GV} (h : leA args args') (hT : TC P E f args' m sto r sto') : TC P E f args m sto r sto' := by
  obtain ⟨h1, h2⟩ := leA_get h; refine ⟨hT.1, fun w vals ρ D hn hr => hT.2 w vals ρ D (hn.trans h1) fun i g hg => ?_⟩
  obtain ⟨x, hx, hl⟩ := h2 i g hg; exact (hr i x hx).le hl
end
attribute [simp] leE leS leA leL GV.le Blk.le TV.le_refl TV.le_nil leL_refl GV.le_refl Blk.le_refl
def fN (m : Nat) (ns : List Nat) (b : Nat) : Nat := if b < m then b else ns.getD (b - m) 0
attribute [simp] fN TV.frz GV.frz frzL Blk.frz TV.ren GV.ren renL Blk.ren TV.names GV.names namesL Blk.names
theorem Rets.own {P : Program} {xs : List ResultVar} {m : Nat} {s : TState} {r : GV} {sto' : List (Nat × Blk)} (ns cs : List Nat) {r0 : GV} (h : s.res P xs = some r0) (hv : r0.frz s.get cs = r.ren (fN m ns)) (hn : ∀ b ∈ r.names, b < m ∨ (gt b sto').isSome = true)
    (hc : ∀ b ∈ cs, ∃ e k xs, s.get b = some (.rows e k xs)) (hs : ∀ x ∈ sto', fN m ns x.1 ∉ cs ∧ (s.get (fN m ns x.1)).map (Blk.frz s.get cs) = some (x.2.ren (fN m ns)) ∧ ∀ b ∈ x.2.names, b < m ∨ (gt b sto').isSome = true)
    (hi : ∀ x ∈ sto', ∀ y ∈ sto', fN m ns x.1 = fN m ns y.1 → x.1 = y.1) : Rets P xs m s r sto' :=
  ⟨fN m ns, cs, r0, h, hv, hn, hc, hs, hi, fun b hb => by simp [fN, hb]⟩
theorem renL_of_nil (f : Nat → Nat) : ∀ {gs : List GV}, namesL gs = [] → renL f gs = gs
  | [], _ => rfl
  | g :: gs, h => by
    simp only [namesL, List.append_eq_nil_iff] at h; simp only [renL, GV.ren_nil f _ h.1, renL_of_nil f h.2]
attribute [simp] List.range_succ List.range_zero rowOf
theorem aC.fresh {C : CT} {r : Rg} {o : Oper} {os : List Oper} {gd : List (Nat ⊕ Nat)} {s : TState} {acc : List Pl} {K : TState → Prop} {fx : Operand} {args : Array Operand} {ts : Array TypeId} (ho : o.op = .call { callee := .value fx, args := args, argTypes := ts }) {f : FuncId} {fs cs gs : List GV} (hf : (s.ev fx).fn? = some (f, fs, cs))
    (peek : List Nat) (hg : frzL s.get peek (fs ++ args.toList.map s.ev ++ cs) = gs) (hrow : ∀ b ∈ peek, rowOf (s.get b) = true) (cnt : Nat) {res : GV} {sto' : List (Nat × Blk)} (hT : TC r.P r.E f gs 0 [] res sto') (h0 : namesL gs = []) (h1 : ∀ b ∈ res.names, b < cnt) (h2 : ∀ x ∈ sto', x.1 < cnt ∧ ∀ b ∈ x.2.names, b < cnt)
    (h : run C r os (s.step o.dst (res.ren (φ [] s.nx)) (ΔOf s [] peek sto' cnt) (s.nx + cnt)) (if r.draw then plOf o gd (frCall s [] peek cnt) (ΔOf s [] peek sto' cnt) :: acc else []) K) : aC C r o os gd s acc K :=
  aC.any ho hf [] peek cnt hT ⟨by rw [hg, renL_of_nil _ h0], List.nodup_nil, fun b hb => (by cases hb), fun b _ hb => (by cases hb), hrow, fun b hb => (by simp at hb), fun x hx => (by cases hx), fun x hx => by simpa using (h2 x hx).1⟩ (by simpa using h1) (fun x hx b hb => by simpa using (h2 x hx).2 b hb) h
theorem Wk.own {m : Nat} {s s' : TState} (ns cs : List Nat) (hc : ∀ b ∈ cs, ∃ e k xs, s.get b = some (.rows e k xs)) (he : ∀ x ∈ s'.env, (lk x.1 s.env).frz s.get cs = x.2.ren (fN m ns) ∧ ∀ b ∈ x.2.names, b < s'.nx)
    (hs : ∀ x ∈ s'.sto, x.1 < s'.nx ∧ fN m ns x.1 ∉ cs ∧ (s.get (fN m ns x.1)).map (Blk.frz s.get cs) = some (x.2.ren (fN m ns)) ∧ ∀ b ∈ x.2.names, b < s'.nx) (hi : ∀ x ∈ s'.sto, ∀ y ∈ s'.sto, fN m ns x.1 = fN m ns y.1 → x.1 = y.1) (hm : m ≤ s'.nx) : Wk m s s' :=
  ⟨fN m ns, cs, hc, fun x hx => .inr (he x hx), hs, hi, hm, fun b hb => by simp [fN, hb]⟩
theorem take_map_succ {α β : Type} {f : α → β} {xs : List α} {k : Nat} {x : α} (h : xs[k]? = some x) : List.take (k + 1) (List.map f xs) = List.take k (List.map f xs) ++ [f x] := by
  rw [List.take_add_one, List.getElem?_map, h]; rfl
@[simp] theorem take_len_map {α β : Type} (f : α → β) (xs : List α) : List.take xs.length (List.map f xs) = List.map f xs := List.take_of_length_le (by simp)
@[simp] theorem nat_ge0 (n : Nat) : (0 : Int) ≤ (n : Int) + 1 := by omega
@[simp] theorem nat_lt0 (n : Nat) : ¬ ((n : Int) < 0) := by omega
end Go.Proofs.Ytjklkppncmhehaa.T
namespace Go.Proofs.Ytjklkppncmhehaa.T
open Go Go.RowKit
set_option maxRecDepth 100000
variable {E : List PanicEntry → World → Prop}
def grpT (g : GrpD) : List RT := [rI g.id, rI g.clock, entsT g.pend, entsT g.done]
abbrev grpO (g : GrpD) (p d : Nat) : GV := .a [.r (rI g.id), .r (rI g.clock), .own p, .own d]
abbrev entsB (es : List EntD) : Blk := .rows 39 4 (es.map entT)
def grpLe (g : GrpD) (n : Nat) : Prop := g.pend.length ≤ n ∧ g.done.length ≤ n
theorem l11Copy_T (g : GrpD) (h : grpLe g 4294967296) : TC Tw.prog E 65 [.a ((grpT g).map .r)] 0 [] (grpO g 0 1) [(0, entsB g.pend), (1, entsB g.done)] := by
  obtain ⟨hp, hd⟩ := h; refine TC.enter Tw.func65 rfl (by kernel_rfl) Tw.ntmps65 (by rw [Try.results65]) (by simp) (Fits.nil rfl) ?_
  (repeat' first | refine TW.seq ?_ | refine TW.block ?_ | ((first | refine TW.skip ?_ | refine TW.exit ?_ | refine TW.ret ?_); (try simp only [tQ, bQ, if_true, Nat.reduceEqDiff, reduceIte])) | (refine TW.reg Td.mixed rfl fun C K hC hK => ?_; simp [grpT, maxLen]; (repeat' first | refine And.intro ?_ ?_ | intro _ | refine iteI ?_ ?_ | (show (_ : Bool) = true; kernel_rfl) | (show _ ≤ _; first | omega | (simp; done) | (simp; omega)) | exact Or.inl rfl | (show _ < _; omega)); all_goals (refine hK _ ?_; clear hC hK C K; try simp only [tQ, bQ])) | (refine TW.cond rfl ?_ ?_ <;> intro hc <;> (try (cases hc; done))))
  refine Rets.own [3, 5] [] (by simp; rfl) (by simp) (by simp) (by simp) (by simp) (by simp)
abbrev sysT (gs : List GrpD) : RT := .sl 4 (gs.map grpT)
def sysLe (gs : List GrpD) (n : Nat) : Prop := gs.length ≤ n ∧ ∀ g ∈ gs, grpLe g n
theorem l13Copy_T (gs : List GrpD) (h : sysLe gs 4294967296) : TC Tw.prog E 46 [gR (sysT gs)] 0 [] (.s (.own 0)) [(0, .rows 44 4 (gs.map grpT))] := by
  obtain ⟨hl, hg⟩ := h; refine TC.enter Tw.func46 rfl (by kernel_rfl) Tw.ntmps46 (by rw [Try.results46]) (by simp) (Fits.nil rfl) ?_
  have hlen : gs.length ≤ maxLen := by simp only [maxLen]; omega
  (repeat' first | refine TW.seq ?_ | refine TW.block ?_ | ((first | refine TW.skip ?_ | refine TW.exit ?_ | refine TW.ret ?_); (try simp only [tQ, bQ, if_true, Nat.reduceEqDiff, reduceIte])) | (refine TW.reg Td.mixed rfl fun C K hC hK => ?_; simp; (repeat' first | refine And.intro ?_ ?_ | intro _ | refine iteI ?_ ?_ | (show (_ : Bool) = true; kernel_rfl) | (show _ ≤ _; first | omega | (simp; done) | (simp; omega)) | exact Or.inl rfl | (show _ < _; omega)); all_goals (refine hK _ ?_; clear hC hK C K; try simp only [tQ, bQ])) | (refine TW.cond rfl ?_ ?_ <;> intro hc <;> (try (cases hc; done))))
  refine TW.loop (fun k => ⟨[(0, gR (sysT gs)), (3, .s (.own 0)), (4, gI .i64 (k : Nat))], [(0, .rows 44 4 ((gs.take k).map grpT))], 1⟩) (fun k => k ≤ gs.length) (fun k => gs.length - k) 0 (by omega) (Wk.own [0] [] (by simp) (by simp) (by simp) (by simp) (by simp)) fun k hk => ?_
  by_cases hlt : k < gs.length
  · have he : gs[k]? = some gs[k] := List.getElem?_eq_getElem hlt
    have hk2 := hg gs[k] (List.getElem_mem hlt); (repeat' first | refine TW.seq ?_ | refine TW.block ?_ | ((first | refine TW.skip ?_ | refine TW.exit ?_ | refine TW.ret ?_); (try simp only [tQ, bQ, if_true, Nat.reduceEqDiff, reduceIte])) | (refine TW.reg Td.mixed rfl fun C K hC hK => ?_; simp [hlt, he, grpT, wrap_add hlt hlen, maxLen]; (repeat' first | refine And.intro ?_ ?_ | intro _ | refine iteI ?_ ?_ | (show (_ : Bool) = true; kernel_rfl) | (show _ ≤ _; first | omega | (simp; done) | (simp; omega)) | exact Or.inl rfl | (show _ < _; omega) | ((first | refine hC _ _ _ _ _ rfl (aC.fresh rfl rfl [] (by simp; rfl) (by simp) 2 (by exact l11Copy_T _ hk2) (by simp) (by simp) (by simp) ?_)); simp [hlt, he, grpT, wrap_add hlt hlen, maxLen])); all_goals (refine hK _ ?_; clear hC hK C K; try simp only [tQ, bQ])) | (refine TW.cond rfl ?_ ?_ <;> intro hc <;> (try (cases hc; done))))
    refine ⟨k + 1, by omega, by omega, Wk.own [4] [] (by simp) (by simp) (by simp [take_map_succ he, grpT]) (by simp) (by simp)⟩
  · obtain rfl : k = gs.length := by omega
    (repeat' first | refine TW.seq ?_ | refine TW.block ?_ | ((first | refine TW.skip ?_ | refine TW.exit ?_ | refine TW.ret ?_); (try simp only [tQ, bQ, if_true, Nat.reduceEqDiff, reduceIte])) | (refine TW.reg Td.mixed rfl fun C K hC hK => ?_; simp; (repeat' first | refine And.intro ?_ ?_ | intro _ | refine iteI ?_ ?_ | (show (_ : Bool) = true; kernel_rfl) | (show _ ≤ _; first | omega | (simp; done) | (simp; omega)) | exact Or.inl rfl | (show _ < _; omega)); all_goals (refine hK _ ?_; clear hC hK C K; try simp only [tQ, bQ])) | (refine TW.cond rfl ?_ ?_ <;> intro hc <;> (try (cases hc; done))))
    refine Rets.own [0] [] (by simp; rfl) (by simp) (by simp) (by simp) (by simp) (by simp)
end Go.Proofs.Ytjklkppncmhehaa.T
