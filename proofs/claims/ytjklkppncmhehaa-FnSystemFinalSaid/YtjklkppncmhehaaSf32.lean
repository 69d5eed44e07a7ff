/-
What is proved: the walk of a region in a form that rewriting reckons ('run', 'TW.reg'). No condition.
-/
import Derived.Test.YtjklkppncmhehaaSf31
set_option linter.unusedVariables false
set_option linter.unusedSimpArgs false
namespace Go.Proofs.Ytjklkppncmhehaa.T
open Go Go.RowKit
/-- What an operation leaves, and on what condition. -/
structure Out where
  p : Prop
  fr : List (Nat × Option Blk)
  gv : GV
  Δ : List (Nat × Blk)
  nx : Nat
def elemD (P : Program) (s : TState) (t : TypeId) (n : Int) (g : GV) : Option Out :=
  match tdOf P t with
  | some d => match d.k with
    | .slice e => match g with
      | .s (.own b) => match s.get b with
        | some (.rows e' k xs) => some ⟨0 ≤ n ∧ (tdOf P e).map TD.size = some k ∧ n.toNat < xs.length, [(b, some (.rows e' k xs))], .s (.row b k n.toNat 0), [], s.nx⟩
        | _ => none
      | .s (.r (.sl k xs)) => match xs[n.toNat]? with
        | some y => some ⟨0 ≤ n ∧ (tdOf P e).map TD.size = some k, [], .s (.rop y 0), [], s.nx⟩
        | none => none
      | _ => none
    | .array m e => match (tdOf P e).map TD.size with
      | some z => match shiftA (n.toNat * z) g with
        | some g' => some ⟨0 ≤ n ∧ n.toNat < m, [], g', [], s.nx⟩
        | none => none
      | none => none
    | _ => none
  | none => none
def sliceD (P : Program) (s : TState) (t : TypeId) (x : Operand) (lo hi : Option Operand) : Option Out :=
  match tdOf P t with
  | some d => match d.k with
    | .slice e => match tdOf P e with
      | some de => match s.view (s.ev x) with
        | some (k, xs, fr) => match bnd s 0 lo with
          | some l => match bnd s xs.length hi with
            | some h => some ⟨(k = de.size ∨ xs = []) ∧ l ≤ h ∧ h ≤ xs.length, fr, .s (.r (.sl de.size ((xs.take h).drop l))), (consumed (s.ev x)).map fun b => (b, .dead), s.nx⟩
            | none => none
          | none => none
        | none => none
      | none => none
    | _ => none
  | none => none
def storeD (P : Program) (s : TState) (t : TypeId) (ax vx : Operand) : Option Out :=
  match tdOf P t with
  | some d => match (s.ev vx).cells? with
    | some ys => match s.ev ax with
      | .s (.ptr b off) => match s.get b with
        | some (.box cs) => some ⟨ys.length = d.size ∧ off + ys.length ≤ cs.length, [(b, some (.box cs))], .u, [(b, .box (splice cs off ys))], s.nx⟩
        | _ => none
      | .s (.row b k i off) => match s.get b with
        | some (.rows e k' xs) => match xs[i]? with
          | some y => match s.toRTs ys with
            | some (rs, bs) => some ⟨k = k' ∧ ys.length = d.size ∧ off + ys.length ≤ y.length ∧ b ∉ bs, (b, some (.rows e k' xs)) :: bs.map (fun c => (c, s.get c)), .u, (b, .rows e k' (xs.set i (splice y off rs))) :: bs.map (fun c => (c, .dead)), s.nx⟩
            | none => none
          | none => none
        | _ => none
      | _ => none
    | none => none
  | none => none
def buildSliceD (P : Program) (s : TState) (t n : Nat) (ps : List (Nat × Operand)) : Option Out :=
  match tdOf P t with
  | some d => match d.k with
    | .slice e => match tdOf P e with
      | some de => match rowsT s de.size 0 ps with
        | some (xs, bs) => some ⟨0 < de.size ∧ ps.length = n ∧ n * de.size ≤ 16777216, (s.nx, none) :: bs.map (fun c => (c, s.get c)), .s (.own s.nx), (s.nx, .rows e de.size xs) :: bs.map (fun c => (c, .dead)), s.nx + 1⟩
        | none => none
      | none => none
    | _ => none
  | none => none
def makeSliceD (P : Program) (s : TState) (t : Nat) (lx cx : Operand) : Option Out :=
  match tdOf P t with
  | some d => match d.k with
    | .slice e => match tdOf P e with
      | some de => match (s.ev lx).i? with
        | some (_, n) => match (s.ev cx).i? with
          | some (_, m) => some ⟨0 < de.size ∧ 0 ≤ n ∧ n ≤ m ∧ (de.bytes : Int) * m ≤ 281474976710656 ∧ m ≤ 9223372036854775807, [(s.nx, none)], .s (.own s.nx), [(s.nx, .rows e de.size (List.replicate n.toNat (de.zero.map rtOf)))], s.nx + 1⟩
          | none => none
        | none => none
      | none => none
    | _ => none
  | none => none
def appendD (P : Program) (s : TState) (t : Nat) (bx yx : Operand) : Option Out :=
  match tdOf P t with
  | some d => match d.k with
    | .slice e => match tdOf P e with
      | some de => match s.baseOf e de.size (s.ev bx) with
        | some (xs, ob) => match s.view (s.ev yx) with
          | some (k, ys, fr) => some ⟨0 < de.size ∧ (k = de.size ∨ ys = []) ∧ (xs.length + ys.length) * de.bytes ≤ 140737488355328 ∧ xs.length + ys.length ≤ maxLen, (s.nx, none) :: (frOf s ob ++ fr), .s (.own s.nx), (s.nx, .rows e de.size (xs ++ ys)) :: deadOf ob, s.nx + 1⟩
          | none => none
        | none => none
      | none => none
    | _ => none
  | none => none
def callD (P : Program) (s : TState) : Callee → List Operand → List TypeId → Option Out
  | .builtin .len, [x], [t] => match tdOf P t with
    | some d => match d.k with
      | .slice _ => match s.view (s.ev x) with
        | some (_, xs, fr) => some ⟨True, fr, gI .i64 xs.length, [], s.nx⟩
        | none => none
      | _ => none
    | none => none
  | .builtin .max, [x, y], _ => match (s.ev x).i? with
    | some (k, m) => match (s.ev y).i? with
      | some (_, n) => some ⟨True, [], gI k (if n > m then n else m), [], s.nx⟩
      | none => none
    | none => none
  | .builtin .min, [x, y], _ => match (s.ev x).i? with
    | some (k, m) => match (s.ev y).i? with
      | some (_, n) => some ⟨True, [], gI k (if n < m then n else m), [], s.nx⟩
      | none => none
    | none => none
  | .builtin .append, [bx, yx], [t, t'] => if t = t' then appendD P s t bx yx else none
  | _, _, _ => none
def vcD (P : Program) (s : TState) : Op → Option Out
  | .move x => some ⟨True, [], s.ev x, [], s.nx⟩
  | .assign x => some ⟨True, [], s.ev x, [], s.nx⟩
  | .pick c x y => match (s.ev c).b? with
    | some true => some ⟨True, [], s.ev x, [], s.nx⟩
    | some false => some ⟨True, [], s.ev y, [], s.nx⟩
    | none => none
  | .alloc t => match tdOf P t with
    | some d => some ⟨True, [(s.nx, none)], .s (.ptr s.nx 0), [(s.nx, .box (d.zero.map fun x => .r (rtOf x)))], s.nx + 1⟩
    | none => none
  | .box _ x => match (s.ev x).cells? with
    | some cs => some ⟨True, [(s.nx, none)], .s (.ptr s.nx 0), [(s.nx, .box cs)], s.nx + 1⟩
    | none => none
  | .build t ps => match tdOf P t with
    | some d => match fillT (placeOf (tdOf P) d.k) (d.zero.map fun x => .r (rtOf x)) (evParts s ps.toList) with
      | some cs => some ⟨d.k.agg = true ∧ (d.k.subs.all fun t => (tdOf P t).isSome) = true, [], .a cs, [], s.nx⟩
      | none => none
    | none => none
  | .buildSlice t n ps => buildSliceD P s t n ps.toList
  | .load t x => match tdOf P t with
    | some d => match s.deref (s.ev x) with
      | some (fr, cs) => some ⟨d.size ≤ cs.length, fr, mk d.k.agg (cs.take d.size), [], s.nx⟩
      | none => none
    | none => none
  | .store t ax vx => storeD P s t ax vx
  | .fieldAddr t x f => match fAddr (tdOf P) t f with
    | some (k, d') => match shiftA k (s.ev x) with
      | some g => some ⟨d'.size ≠ 0, [], g, [], s.nx⟩
      | none => none
    | none => none
  | .field t x f => match fAddr (tdOf P) t f with
    | some (k, d') => match (s.ev x).agg? with
      | some ts => some ⟨k + d'.size ≤ ts.length, [], mk d'.k.agg ((ts.drop k).take d'.size), [], s.nx⟩
      | none => none
    | none => none
  | .indexAddr t x ix => match (s.ev ix).i? with
    | some (_, n) => elemD P s t n (s.ev x)
    | none => none
  | .binOp op t x y _ => match gbin2 P t op (s.ev x) (s.ev y) with
    | some g => some ⟨True, [], g, [], s.nx⟩
    | none => none
  | .convert src dst x => match intT P src with
    | some _ => match intT P dst with
      | some k => match (s.ev x).i? with
        | some (_, n) => some ⟨True, [], gI k (k.wrap n), [], s.nx⟩
        | none => none
      | none => none
    | none => none
  | .nilCheck x => if ptrT (s.ev x) = true then some ⟨True, [], s.ev x, [], s.nx⟩ else none
  | .unOp .not _ x => match (s.ev x).b? with
    | some b => some ⟨True, [], gB (!b), [], s.nx⟩
    | none => none
  | .unOp .neg _ x => match (s.ev x).i? with
    | some (k, n) => some ⟨True, [], gI k (k.wrap (0 - n)), [], s.nx⟩
    | none => none
  | .extract x i => match (s.ev x).tup? with
    | some gs => match gs[i]? with
      | some g => some ⟨True, [], g, [], s.nx⟩
      | none => none
    | none => none
  | .makeFunc fn f c => some ⟨True, [], .clo fn (f.toList.map s.ev) (c.toList.map s.ev), [], s.nx⟩
  | .makeSlice t lx cx => makeSliceD P s t lx cx
  | .slice t x lo hi none => sliceD P s t x lo hi
  | .call c => callD P s c.callee c.args.toList c.argTypes.toList
  | _ => none
theorem appendD_sound {P : Program} {E : List PanicEntry → World → Prop} {s : TState} {t : Nat} {bx yx : Operand} {out : Out} (h : appendD P s t bx yx = some out) (hp : out.p) {K : KT} (hK : K out.fr out.gv out.Δ out.nx) : vcCallOp P E s (.builtin .append) [bx, yx] [t, t] K := by
  unfold appendD at h; repeat' split at h
  all_goals (try cases h)
  exact ⟨rfl, _, ‹_›, _, ‹_›, _, ‹_›, hp.1, _, _, ‹_›, _, _, _, ‹_›, hp.2.1, hp.2.2.1, hp.2.2.2, hK⟩
theorem callD_sound {P : Program} {E : List PanicEntry → World → Prop} {s : TState} {c : Callee} {xs : List Operand} {ts : List TypeId} {out : Out} (h : callD P s c xs ts = some out) (hp : out.p) {K : KT} (hK : K out.fr out.gv out.Δ out.nx) : vcCallOp P E s c xs ts K := by
  unfold callD at h; split at h
  · repeat' split at h
    all_goals (try cases h)
    exact ⟨_, ‹_›, _, ‹_›, _, _, _, ‹_›, hK⟩
  · split at h
    · split at h
      · cases h
        exact ⟨_, _, ‹_›, _, _, ‹_›, hK⟩
      · cases h
    · cases h
  · split at h
    · split at h
      · cases h
        exact ⟨_, _, ‹_›, _, _, ‹_›, hK⟩
      · cases h
    · cases h
  · split at h
    · rename_i e; subst e; exact appendD_sound h hp hK
    · cases h
  · cases h
theorem vcD_sound {P : Program} {E : List PanicEntry → World → Prop} {s : TState} {op : Op} {out : Out} (h : vcD P s op = some out) (hp : out.p) {K : KT} (hK : K out.fr out.gv out.Δ out.nx) : vcOp P E s op K := by
  unfold vcD at h; split at h
  · cases h; exact hK
  · cases h; exact hK
  · split at h
    · cases h; exact ⟨true, ‹_›, fun _ => hK, fun h => by cases h⟩
    · cases h; exact ⟨false, ‹_›, fun h => (by cases h), fun _ => hK⟩
    · cases h
  · split at h
    · cases h; exact ⟨_, ‹_›, hK⟩
    · cases h
  · split at h
    · cases h; exact ⟨_, ‹_›, hK⟩
    · cases h
  · repeat' split at h
    all_goals (try cases h)
    exact ⟨_, ‹_›, hp.1, hp.2, _, ‹_›, hK⟩
  · unfold buildSliceD at h
    repeat' split at h
    all_goals (try cases h)
    exact ⟨_, ‹_›, _, ‹_›, _, ‹_›, hp.1, hp.2.1, hp.2.2, _, _, ‹_›, hK⟩
  · repeat' split at h
    all_goals (try cases h)
    exact ⟨_, ‹_›, _, _, ‹_›, hp, hK⟩
  · unfold storeD at h
    split at h
    · split at h
      · split at h
        · rename_i ha
          split at h
          · cases h
            refine ⟨_, ‹_›, _, ‹_›, hp.1, ?_⟩; rw [ha]; exact ⟨_, ‹_›, hp.2, hK⟩
          · cases h
        · rename_i ha
          repeat' split at h
          all_goals (try cases h)
          obtain ⟨rfl, h1, h2, h3⟩ := hp; refine ⟨_, ‹_›, _, ‹_›, h1, ?_⟩; rw [ha]; exact ⟨_, _, ‹_›, _, ‹_›, h2, _, _, ‹_›, h3, hK⟩
        · cases h
      · cases h
    · cases h
  · repeat' split at h
    all_goals (try cases h)
    exact ⟨_, _, ‹_›, hp, _, ‹_›, hK⟩
  · repeat' split at h
    all_goals (try cases h)
    exact ⟨_, _, ‹_›, _, ‹_›, hp, hK⟩
  · split at h
    · rename_i hn
      unfold elemD at h; split at h
      · rename_i hd
        split at h
        · rename_i hk
          split at h
          · rename_i eb
            split at h
            · rename_i hg
              cases h; refine ⟨_, _, hn, hp.1, ?_⟩; unfold TState.elem; simp only [hd, hk, eb, hg]; exact ⟨hp.2.1, hp.2.2, hK⟩
            · cases h
          · rename_i eb
            split at h
            · rename_i hy
              cases h; refine ⟨_, _, hn, hp.1, ?_⟩; unfold TState.elem; simp only [hd, hk, eb]; exact ⟨hp.2, _, hy, hK⟩
            · cases h
          · cases h
        · rename_i hk
          split at h
          · rename_i hz
            split at h
            · rename_i hsh
              cases h; refine ⟨_, _, hn, hp.1, ?_⟩; unfold TState.elem; simp only [hd, hk]; exact ⟨hp.2, _, _, hz, hsh, hK⟩
            · cases h
          · cases h
        · cases h
      · cases h
    · cases h
  · split at h
    · cases h; exact ⟨_, ‹_›, hK⟩
    · cases h
  · repeat' split at h
    all_goals (try cases h)
    exact ⟨_, ‹_›, _, ‹_›, _, _, ‹_›, hK⟩
  · split at h
    · cases h; exact ⟨‹_›, hK⟩
    · cases h
  · split at h
    · cases h; exact ⟨_, ‹_›, hK⟩
    · cases h
  · split at h
    · cases h; exact ⟨_, _, ‹_›, hK⟩
    · cases h
  · repeat' split at h
    all_goals (try cases h)
    exact ⟨_, ‹_›, _, ‹_›, hK⟩
  · cases h; exact hK
  · unfold makeSliceD at h
    repeat' split at h
    all_goals (try cases h)
    exact ⟨_, ‹_›, _, ‹_›, _, ‹_›, hp.1, _, _, ‹_›, _, _, ‹_›, hp.2.1, hp.2.2.1, hp.2.2.2.1, hp.2.2.2.2, hK⟩
  · unfold sliceD at h
    repeat' split at h
    all_goals (try cases h)
    exact ⟨_, ‹_›, _, ‹_›, _, ‹_›, _, _, _, ‹_›, hp.1, _, ‹_›, _, ‹_›, hp.2.1, hp.2.2, hK⟩
  · exact callD_sound h hp hK
  · cases h
/-- The place of a region's walk: the program, the count of temporaries, the operations, whether their order is drawn. -/
structure Rg where
  P : Program
  E : List PanicEntry → World → Prop
  nt : Nat
  ops : Array Oper
  draw : Bool
def isCall : Op → Bool
  | .call { callee := .value _, .. } => true
  | _ => false
abbrev CT := Oper → List Oper → List (Nat ⊕ Nat) → TState → List Pl → (TState → Prop) → Prop
def isGd (r : Rg) (o : Oper) : List Oper → Bool
  | o' :: _ => match o'.guard with
    | some (j, _) => decide (gdst r.ops j = o.dst)
    | none => false
  | [] => false
def run (C : CT) (r : Rg) : List Oper → TState → List Pl → (TState → Prop) → Prop
  | [], s, acc, K => (r.draw = true → (edsOk (edsOf r.ops.toList) && okD acc.reverse (masks (edsOf r.ops.toList))) = true) ∧ K s
  | o :: os, s, acc, K => dstOk o r.nt = true ∧ match o.guard with
    | none => if isCall o.op = true then C o os [] s acc K else match vcD r.P s o.op with
      | some out => out.p ∧ if isGd r o os = true then match out.gv.b? with
          | some b => if b = true then run C r os (s.step o.dst (gB true) out.Δ out.nx) (if r.draw then plOf o [] out.fr out.Δ :: acc else []) K else run C r os (s.step o.dst (gB false) out.Δ out.nx) (if r.draw then plOf o [] out.fr out.Δ :: acc else []) K
          | none => False
        else run C r os (s.step o.dst out.gv out.Δ out.nx) (if r.draw then plOf o [] out.fr out.Δ :: acc else []) K
      | none => False
    | some (j, want) => match gdst r.ops j with
      | some d => d < r.nt ∧ match lk d s.env with
        | .p [] => run C r os (s.step o.dst (.p []) [] s.nx) (if r.draw then ([.inl d], match o.dst with | some d => [.inl d] | none => []) :: acc else []) K
        | .s (.r (.v (.bool b))) => if b = want then if isCall o.op = true then C o os [.inl d] s acc K else match vcD r.P s o.op with
            | some out => out.p ∧ if isGd r o os = true then match out.gv.b? with
                | some b => if b = true then run C r os (s.step o.dst (gB true) out.Δ out.nx) (if r.draw then plOf o [.inl d] out.fr out.Δ :: acc else []) K else run C r os (s.step o.dst (gB false) out.Δ out.nx) (if r.draw then plOf o [.inl d] out.fr out.Δ :: acc else []) K
                | none => False
              else run C r os (s.step o.dst out.gv out.Δ out.nx) (if r.draw then plOf o [.inl d] out.fr out.Δ :: acc else []) K
            | none => False
          else run C r os (s.step o.dst (.p []) [] s.nx) (if r.draw then ([.inl d], match o.dst with | some d => [.inl d] | none => []) :: acc else []) K
        | _ => False
      | none => False
theorem GV.b?_eq {g : GV} {b : Bool} (h : g.b? = some b) : g = gB b := by
  unfold GV.b? at h; split at h
  · cases h; rfl
  · cases h
theorem setL_same (d : Nat) (b : Bool) : ∀ {e : List (Nat × GV)}, lk d e = gB b → setL d (gB b) e = e
  | [], h => by cases h
  | (u, x) :: e, h => by
    simp only [lk] at h; simp only [setL]; split at h
    · rename_i hu; rw [if_pos hu, h, hu]
    · rename_i hu; rw [if_neg hu, setL_same d b h]
theorem see_same {s : TState} {d : Nat} {b : Bool} (h : lk d s.env = gB b) : s.see d b = s := by
  unfold TState.see; rw [setL_same d b h]
def aC (C : CT) (r : Rg) (o : Oper) (os : List Oper) (gd : List (Nat ⊕ Nat)) (s : TState) (acc : List Pl) (K : TState → Prop) : Prop :=
  vcOp r.P r.E s o.op fun fr gv Δ nx' => run C r os (s.step o.dst gv Δ nx') (if r.draw then plOf o gd fr Δ :: acc else []) K
theorem call_mono {P : Program} {E : List PanicEntry → World → Prop} {s : TState} {op : Op} (hc : isCall op = true) {K K' : KT} (h : vcOp P E s op K) (hK : ∀ fr gv Δ nx, K fr gv Δ nx → K' fr gv Δ nx) : vcOp P E s op K' := by
  unfold isCall at hc; split at hc
  · obtain ⟨f, fs, cs, h1, h2⟩ := h
    refine ⟨f, fs, cs, h1, ?_⟩; rcases h2 with ⟨h0, r, h2, h3, h4⟩ | ⟨peek, args', r, h2, h3, h4, h5, h6⟩ | ⟨frag, peek, args', sto0, sto', cnt, r, h2, h3, h4, h5, h6⟩
    · exact .inl ⟨h0, r, h2, h3, hK _ _ _ _ h4⟩
    · exact .inr (.inl ⟨peek, args', r, h2, h3, h4, h5, hK _ _ _ _ h6⟩)
    · exact .inr (.inr ⟨frag, peek, args', sto0, sto', cnt, r, h2, h3, h4, h5, hK _ _ _ _ h6⟩)
  · cases hc
def vcAt (r : Rg) : CT := fun o os gd s acc K => vcOp r.P r.E s o.op fun fr gv Δ nx' => vcOps r.P r.E r.nt r.ops r.draw os (s.step o.dst gv Δ nx') (if r.draw = true then acc.reverse ++ [plOf o gd fr Δ] else []) fun s' pl => (r.draw = true → (edsOk (edsOf r.ops.toList) && okD pl (masks (edsOf r.ops.toList))) = true) ∧ K s'
theorem run_sound (r : Rg) : ∀ (os : List Oper) (s : TState) (acc : List Pl) (K : TState → Prop), run (vcAt r) r os s acc K → vcOps r.P r.E r.nt r.ops r.draw os s acc.reverse fun s' pl => (r.draw = true → (edsOk (edsOf r.ops.toList) && okD pl (masks (edsOf r.ops.toList))) = true) ∧ K s'
  | [], s, acc, K, h => h
  | o :: os, s, acc, K, h => by
    have ih : ∀ s acc, run (vcAt r) r os s acc K → vcOps r.P r.E r.nt r.ops r.draw os s acc.reverse fun s' pl => (r.draw = true → (edsOk (edsOf r.ops.toList) && okD pl (masks (edsOf r.ops.toList))) = true) ∧ K s' := fun s acc h => run_sound r os s acc K h
    have hrev : ∀ (x : Pl), (if r.draw = true then x :: acc else []).reverse = if r.draw = true then acc.reverse ++ [x] else [] := fun x => by
      split <;> simp
    have ih' : ∀ s x, run (vcAt r) r os s (if r.draw = true then x :: acc else []) K → vcOps r.P r.E r.nt r.ops r.draw os s (if r.draw = true then acc.reverse ++ [x] else []) fun s' pl => (r.draw = true → (edsOk (edsOf r.ops.toList) && okD pl (masks (edsOf r.ops.toList))) = true) ∧ K s' := fun s x h => by
      rw [← hrev]; exact ih _ _ h
    have hgd : ∀ {out : Out} {x : Pl}, (if isGd r o os = true then match out.gv.b? with
        | some b => if b = true then run (vcAt r) r os (s.step o.dst (gB true) out.Δ out.nx) (if r.draw = true then x :: acc else []) K else run (vcAt r) r os (s.step o.dst (gB false) out.Δ out.nx) (if r.draw = true then x :: acc else []) K
        | none => False
      else run (vcAt r) r os (s.step o.dst out.gv out.Δ out.nx) (if r.draw = true then x :: acc else []) K) → run (vcAt r) r os (s.step o.dst out.gv out.Δ out.nx) (if r.draw = true then x :: acc else []) K := by
      intro out x h; split at h
      · split at h
        · rename_i b hb
          rw [GV.b?_eq hb]
          cases b
          · simpa using h
          · simpa using h
        · exact h.elim
      · exact h
    unfold run at h; obtain ⟨hd, h⟩ := h; refine ⟨hd, ?_⟩; split at h
    · rename_i hg
      rw [hg]; simp only
      split at h
      · exact h
      · split at h
        · exact vcD_sound ‹_› h.1 (ih' _ _ (hgd h.2))
        · exact h.elim
    · rename_i j want hg
      rw [hg]; simp only
      split at h
      · rename_i d hj
        obtain ⟨h1, h⟩ := h; split at h
        · rename_i hl
          exact ⟨d, hj, h1, .inl ⟨by rw [hl]; rfl, ih' _ _ h⟩⟩
        · rename_i b hl
          refine ⟨d, hj, h1, .inr ⟨b, by rw [hl]; rfl, fun hw => ?_, fun hw => ?_⟩⟩
          · rw [if_pos hw] at h
            subst hw; rw [see_same hl]; split at h
            · exact h
            · split at h
              · exact vcD_sound ‹_› h.1 (ih' _ _ (hgd h.2))
              · exact h.elim
          · subst hw
            rw [if_neg (by cases want <;> simp)] at h
            rw [see_same hl]; exact ih' _ _ h
        · exact h.elim
      · exact h.elim
theorem iteI {c p q : Prop} [Decidable c] (h1 : c → p) (h2 : ¬ c → q) : if c then p else q := by
  split
  · exact h1 ‹_›
  · exact h2 ‹_›
theorem TW.reg {P : Program} {E : List PanicEntry → World → Prop} {nt m id : Nat} {ops : Array Oper} {draw : Bool} {Q : Exit → TState → Prop} {s : TState} (hmix : P.follows .mixedOrders = true) (hs : stoLt s = true)
    (h : ∀ (C : CT) (K : TState → Prop), (∀ o os gd s acc, isCall o.op = true → aC C ⟨P, E, nt, ops, draw⟩ o os gd s acc K → C o os gd s acc K) → (∀ s', Q .normal s' → K s') → run C ⟨P, E, nt, ops, draw⟩ ops.toList s [] K) : TW P E nt m (.region id ops draw) Q s := by
  refine .region hmix ⟨hs, run_sound ⟨P, E, nt, ops, draw⟩ _ _ _ _ (h (vcAt _) _ (fun o os gd s acc hc h => ?_) fun _ h => h)⟩
  refine call_mono hc h fun fr gv Δ nx h => ?_; have hrev : ∀ (x : Pl), (if draw = true then x :: acc else []).reverse = if draw = true then acc.reverse ++ [x] else [] := fun x => by
    split <;> simp
  have := run_sound ⟨P, E, nt, ops, draw⟩ _ _ _ _ h
  simp only [hrev] at this; exact this
/-! ### at a call -/
/-- The call is one of a function that needs and leaves no blocks. -/
theorem aC.plain {C : CT} {r : Rg} {o : Oper} {os : List Oper} {gd : List (Nat ⊕ Nat)} {s : TState} {acc : List Pl} {K : TState → Prop} {fx : Operand} {args : Array Operand} {ts : Array TypeId} (ho : o.op = .call { callee := .value fx, args := args, argTypes := ts }) {f : FuncId} {fs cs gs : List GV} (hf : (s.ev fx).fn? = some (f, fs, cs))
    (hg : fs ++ args.toList.map s.ev ++ cs = gs) {res : GV} (hT : TC r.P r.E f gs 0 [] res []) (h0 : namesL gs = []) (h1 : res.names = []) (h : run C r os (s.step o.dst res [] s.nx) (if r.draw then plOf o gd [] [] :: acc else []) K) : aC C r o os gd s acc K := by
  unfold aC; rw [ho]; subst hg; exact ⟨f, fs, cs, hf, .inl ⟨h0, res, hT, h1, h⟩⟩
theorem aC.peek {C : CT} {r : Rg} {o : Oper} {os : List Oper} {gd : List (Nat ⊕ Nat)} {s : TState} {acc : List Pl} {K : TState → Prop} {fx : Operand} {args : Array Operand} {ts : Array TypeId} (ho : o.op = .call { callee := .value fx, args := args, argTypes := ts }) {f : FuncId} {fs cs gs : List GV} (hf : (s.ev fx).fn? = some (f, fs, cs))
    (peek : List Nat) (hg : frzL s.get peek (fs ++ args.toList.map s.ev ++ cs) = gs) (hrow : ∀ b ∈ peek, rowOf (s.get b) = true) {res : GV} (hT : TC r.P r.E f gs 0 [] res []) (h1 : res.flat = true) (h : run C r os (s.step o.dst res [] s.nx) (if r.draw then plOf o gd (peek.map fun b => (b, s.get b)) [] :: acc else []) K) : aC C r o os gd s acc K := by
  unfold aC; rw [ho]; exact ⟨f, fs, cs, hf, .inr (.inl ⟨peek, gs, res, hT, hg, hrow, h1, h⟩)⟩
theorem aC.any {C : CT} {r : Rg} {o : Oper} {os : List Oper} {gd : List (Nat ⊕ Nat)} {s : TState} {acc : List Pl} {K : TState → Prop} {fx : Operand} {args : Array Operand} {ts : Array TypeId} (ho : o.op = .call { callee := .value fx, args := args, argTypes := ts }) {f : FuncId} {fs cs : List GV} (hf : (s.ev fx).fn? = some (f, fs, cs))
    (frag peek : List Nat) {args' : List GV} {sto0 sto' : List (Nat × Blk)} (cnt : Nat) {res : GV} (hT : TC r.P r.E f args' frag.length sto0 res sto') (hk : CallOk s (fs ++ args.toList.map s.ev ++ cs) frag peek args' sto0 sto' cnt) (h1 : ∀ b ∈ res.names, b < frag.length + cnt) (h2 : ∀ x ∈ sto', ∀ b ∈ x.2.names, b < frag.length + cnt)
    (h : run C r os (s.step o.dst (res.ren (φ frag s.nx)) (ΔOf s frag peek sto' cnt) (s.nx + cnt)) (if r.draw then plOf o gd (frCall s frag peek cnt) (ΔOf s frag peek sto' cnt) :: acc else []) K) : aC C r o os gd s acc K := by
  unfold aC; rw [ho]; exact ⟨f, fs, cs, hf, .inr (.inr ⟨frag, peek, args', sto0, sto', cnt, res, hT, hk, h1, h2, h⟩)⟩
end Go.Proofs.Ytjklkppncmhehaa.T
