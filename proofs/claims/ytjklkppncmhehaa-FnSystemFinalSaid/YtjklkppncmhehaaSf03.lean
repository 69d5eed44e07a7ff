/-
What is proved: whatever supported operation keeps the relation of Sr ('sr_execOp'). Conditions: those that the theorem states. whatever supported operation keeps the relation of Sr ('sr_execOp'). Conditions: those that the theorem states. one step of a goroutine keeps the relation of Sr between two goroutines over two programs that differ in some functions' bodies. Conditions: those that each theorem states. one step of a goroutine, in two programs that differ in some functions' bodies, in memories alike up to names, is alike ('sim_step'). Conditions: those that the theorem states.
-/
import Derived.Test.YtjklkppncmhehaaSf02
import Derived.Conc.Own
import Derived.Conc.Listed
set_option linter.unusedVariables false
set_option linter.unusedSimpArgs false
namespace Go.Proofs.Ytjklkppncmhehaa.Sr
open Go
/-- What an operation says is to be done next. -/
inductive NextR (m : Ren) : Next → Next → Prop
  | value {x y : Value} (h : VR m x y) : NextR m (.value x) (.value y)
  | skip : NextR m .skip .skip
  | enter (f : FuncId) {us vs : Array Value} (hf : m.good f = true) (h : AR m us vs) (hn : ∀ n, special f = some n → us.size = n) : NextR m (.enter f us) (.enter f vs)
def okBin (P : Program) (op : BinOp) (t : TypeId) : Bool :=
  match op with
  | .eql | .neq => eqOk P 8 t && !P.eqGuardType P.depth t
  | _ => match P.underlying t with | some .unsafePointer => false | _ => true
def okFn (good : FuncId → Bool) : Fn → Bool
  | .func f => good f && (special f).isNone
  | _ => false
def okCall (P : Program) (good : FuncId → Bool) (c : Call) : Bool :=
  match c.callee with
  | .value (.func f) => good f && (match special f with | none => true | some n => c.args.size == n)
  | .value (.tmp _) => true
  | .builtin .len | .builtin .cap | .builtin .max => true
  | .builtin .append => appendOk P c.argTypes
  | _ => false
def okO : Operand → Bool
  | .func f => valFn f
  | .tmp _ => true
  | .const (.bool _) | .const (.int _ _) | .const (.string _) | .const (.pointer none) | .const (.slice none _ _) | .const (.map none) | .const .nilFunc | .const .nilIface => true
  | .const (.agg xs) => xs.all fun | .bool _ | .int _ _ | .string _ | .pointer none | .slice none _ _ | .map none | .nilFunc | .nilIface => true | _ => false
  | .const (.tuple xs) => xs.isEmpty
  | _ => false
def okOp (P : Program) (good : FuncId → Bool) : Op → Bool
  | .move x | .assign x => okO x
  | .pick c a b => okO c && okO a && okO b
  | .alloc t => zOkT P t
  | .box _ x => okO x
  | .build t ps => zOkT P t && ps.all fun p => okO p.2
  | .buildSlice t _ ps => zOkE P t && ps.all fun p => okO p.2
  | .load _ x => okO x
  | .store _ a x => okO a && okO x
  | .nilCheck x => okO x
  | .binOp op t x y _ => okBin P op t && okO x && okO y
  | .unOp _ _ x => okO x
  | .convert s d x => (match P.underlying s, P.underlying d with | some (.int _), some (.int _) => true | some .string, some .string => true | _, _ => false) && okO x
  | .makeInterface _ x => okO x
  | .makeFunc f us vs => okFn good f && us.all okO && vs.all okO
  | .makeSlice t l c => zOkE P t && okO l && okO c
  | .slice _ x l h mx => okO x && l.all okO && h.all okO && mx.all okO
  | .fieldAddr s x f => fieldOk P s f && okO x
  | .indexAddr _ x i | .index _ x i => okO x && okO i
  | .extract x _ => okO x
  | .call c => okCall P good c && c.args.all okO
  | _ => false
section
variable {τ : TypeId} {P : Program} {F : Array Func} {α β γ δ : Type} {m : Ren}
def OperR (m : Ren) (ρ ρ' : Operand → Value) : Prop := ∀ x, okO x = true → VR m (ρ x) (ρ' x)
theorem OperR.arr {ρ ρ' : Operand → Value} (h : OperR m ρ ρ') {xs : Array Operand} (hx : xs.all okO = true) : AR m (xs.map ρ) (xs.map ρ') :=
  AR.map xs fun x hxs => h x (Array.all_eq_true_iff_forall_mem.1 hx x hxs)
theorem OperR.opt {ρ ρ' : Operand → Value} (h : OperR m ρ ρ') {x : Option Operand} (hx : x.all okO = true) : OptR m (x.map ρ) (x.map ρ') := by
  cases x with
  | none => exact .none
  | some x => exact .some (h x (by simpa using hx))
theorem OperR.parts {ρ ρ' : Operand → Value} (h : OperR m ρ ρ') {ps : Array (Nat × Operand)} (hx : (ps.all fun p => okO p.2) = true) : PartsR m (ps.map fun (i, x) => (i, ρ x)).toList (ps.map fun (i, x) => (i, ρ' x)).toList := by
  have hx' := Array.all_eq_true_iff_forall_mem.1 hx; rw [Array.toList_map, Array.toList_map]; have : ∀ l : List (Nat × Operand), (∀ p ∈ l, okO p.2 = true) → PartsR m (l.map fun (i, x) => (i, ρ x)) (l.map fun (i, x) => (i, ρ' x)) := by
    intro l; induction l with
    | nil => intro _; exact .nil
    | cons a l ih => intro hl; exact .cons (h _ (hl a (by simp))) (ih fun p hp => hl p (by simp [hp]))
  exact this _ fun p hp => hx' p (by simpa using hp)
theorem sr_v {s s' : Sem Value} (h : SRR τ P F VR m s s') : SRR τ P F NextR m (s.bind fun x => Sem.pure (.value x)) (s'.bind fun x => Sem.pure (.value x)) := h.bind fun _ a b _ hab => sP (.value hab)
theorem sr_u {s s' : Sem Unit} (h : SRR τ P F EqR m s s') : SRR τ P F NextR m (s.bind fun _ => Sem.pure .skip) (s'.bind fun _ => Sem.pure .skip) := h.bind fun _ a b _ hab => sP .skip
theorem sr_convert (s d : TypeId) {x y : Value} (h : VR m x y) (ok : (match P.underlying s, P.underlying d with | some (.int _), some (.int _) => true | some .string, some .string => true | _, _ => false) = true) : SRR τ P F VR m (convert s d x) (convert s d y) := by
  unfold convert; refine (sU s).bind fun n1 a a' hn1 e => ?_; obtain ⟨rfl, ha⟩ := e; refine (sU d).bind fun n2 b b' hn2 e => ?_; obtain ⟨rfl, hb⟩ := e; rw [ha, hb] at ok; have h' := (h.mono hn1).mono hn2
  cases a with
  | int k => cases b with
    | int k2 =>
      cases h' with
      | int _ _ => exact sP (.int _ _)
      | _ => first | trivial | exact sUn nofun
    | _ => cases ok
  | string => cases b with
    | string => cases h' <;> first | exact sP (.string _) | trivial | exact sUn nofun
    | _ => cases ok
  | _ => cases ok
theorem sr_unary (op : UnOp) {x y : Value} (h : VR m x y) : SRR τ P F VR m (Op.unary op x) (Op.unary op y) := by
  cases op <;> cases h <;> first | exact sP (.int _ _) | exact sP (.bool _) | trivial | exact sUn nofun
theorem sr_nilCheck (R : RtOk τ P) {x y : Value} (h : VR m x y) (o : Oper) (ρ ρ' : Operand → Value) (z : Operand) (e1 : ρ z = x) (e2 : ρ' z = y) (eo : o.op = .nilCheck z) : SRR τ P F NextR m (execOp ρ o) (execOp ρ' o) := by
  unfold execOp; rw [eo]; dsimp only
  rw [e1, e2]
  cases h with
  | nilPtr => exact sr_nilDeref R
  | nilFunc => exact sr_nilDeref R
  | junk => exact sr_nilDead R
  | nilIface => exact sr_nilDeref R
  | ptr ha => exact sP (.value (.ptr ha))
  | func f hf hs hh ht hk =>
    cases f with
    | func f => exact sP (.value (.func _ hf hs hh ht hk))
    | _ => exact hf.elim
  | _ => exact sP (.value (by constructor <;> assumption))
theorem eqGuardType_eq : ∀ (d : Nat) (t : TypeId), Program.eqGuardType (Program.mk (Program.toTables P) F) d t = P.eqGuardType d t
  | 0, _ => rfl
  | d + 1, t => by
    unfold Program.eqGuardType; have e : Program.underlying (Program.mk (Program.toTables P) F) t = P.underlying t := rfl
    rw [e]
    cases P.underlying t with
    | none => rfl
    | some dd =>
      cases dd with
      | struct fs => simp only [eqGuardType_eq d]
      | array n e => exact eqGuardType_eq d e
      | _ => rfl
theorem sr_guardNil (t : TypeId) : SRR τ P F EqR m (Op.eqGuardIn Op.maxDepth t .nilIface .nilIface) (Op.eqGuardIn Op.maxDepth t .nilIface .nilIface) := by
  show SRR τ P F EqR m (Op.eqGuardIn (9999 + 1) t .nilIface .nilIface) (Op.eqGuardIn (9999 + 1) t .nilIface .nilIface)
  unfold Op.eqGuardIn; refine (sU t).bind fun n1 a a' hn1 e => ?_; obtain ⟨rfl, _⟩ := e
  cases a <;> exact sr_eq
theorem sr_eqGuard (op : BinOp) (t : TypeId) (a b : Operand) {x y u v : Value} (hx : VR m x y) (hu : VR m u v) (ok : okBin P op t = true) : SRR τ P F EqR m (eqGuard op t a b x u) (eqGuard op t a b y v) := by
  have main : ∀ op, (op = .eql ∨ op = .neq) → okBin P op t = true → SRR τ P F EqR m (eqGuard op t a b x u) (eqGuard op t a b y v) := by
    intro op ho ok; have hg : P.eqGuardType P.depth t = false := by rcases ho with rfl | rfl <;> (simp only [okBin, Bool.and_eq_true, Bool.not_eq_true'] at ok; exact ok.2)
    have hg' : Program.eqGuardType (Program.mk (Program.toTables P) F) (Program.mk (Program.toTables P) F).depth t = false := by rw [eqGuardType_eq]; exact hg
    have agg : SRR τ P F EqR m (Sem.bind program fun p => Sem.bind program fun q => if (!p.eqGuardType q.depth t) = true then Sem.pure () else Sem.bind (Op.eqGuardIn Op.maxDepth t x u) fun b => if b = true then unsupported (.noEntry "binop/eql: two nil values of an interface type with methods, in a part of a struct or an array") else Sem.pure ())
        (Sem.bind program fun p => Sem.bind program fun q => if (!p.eqGuardType q.depth t) = true then Sem.pure () else Sem.bind (Op.eqGuardIn Op.maxDepth t y v) fun b => if b = true then unsupported (.noEntry "binop/eql: two nil values of an interface type with methods, in a part of a struct or an array") else Sem.pure ()) := by
      refine sr_prog (sr_prog ?_); rw [hg, hg']; exact sr_eq
    have nil : SRR τ P F EqR m (if (match a with | .const _ => true | _ => false) || (match b with | .const _ => true | _ => false) then (Sem.pure () : Sem Unit) else Sem.bind (Op.eqGuardIn Op.maxDepth t .nilIface .nilIface) fun b => if b = true then unsupported (.noEntry "binop/eql: two nil values of an interface type with methods, neither of them the literal nil") else Sem.pure ())
        (if (match a with | .const _ => true | _ => false) || (match b with | .const _ => true | _ => false) then (Sem.pure () : Sem Unit) else Sem.bind (Op.eqGuardIn Op.maxDepth t .nilIface .nilIface) fun b => if b = true then unsupported (.noEntry "binop/eql: two nil values of an interface type with methods, neither of them the literal nil") else Sem.pure ()) := by
      have g : SRR τ P F EqR m (Sem.bind (Op.eqGuardIn Op.maxDepth t .nilIface .nilIface) fun b => if b = true then unsupported (.noEntry "binop/eql: two nil values of an interface type with methods, neither of them the literal nil") else Sem.pure ())
          (Sem.bind (Op.eqGuardIn Op.maxDepth t .nilIface .nilIface) fun b => if b = true then unsupported (.noEntry "binop/eql: two nil values of an interface type with methods, neither of them the literal nil") else Sem.pure ()) := by
        refine (sr_guardNil t).bind fun n p q _ e => ?_; subst e
        cases p
        · exact sr_eq
        · exact sUn nofun
      cases a <;> cases b <;> first | exact sr_eq | exact g
    have left : ∀ {v : Value}, (∀ cs, v ≠ .agg cs) → v ≠ .nilIface → ∀ (op : BinOp) (z w : Value), SRR τ P F EqR m (eqGuard op t a b z .nilFunc) (eqGuard op t a b w v) := by
      intro v hv1 hv2 op z w; have e1 : eqGuard op t a b z .nilFunc = Sem.pure () := by cases op <;> cases z <;> rfl
      have e2 : eqGuard op t a b w v = Sem.pure () := by cases v <;> first | exact absurd rfl (hv1 _) | exact absurd rfl hv2 | (cases op <;> cases w <;> rfl)
      rw [e1, e2]; exact sr_eq
    have right : ∀ {v : Value}, (∀ cs, v ≠ .agg cs) → v ≠ .nilIface → ∀ (op : BinOp) (z w : Value), SRR τ P F EqR m (eqGuard op t a b .nilFunc z) (eqGuard op t a b v w) := by
      intro v hv1 hv2 op z w; have e1 : eqGuard op t a b .nilFunc z = Sem.pure () := by cases op <;> cases z <;> rfl
      have e2 : eqGuard op t a b v w = Sem.pure () := by cases v <;> first | exact absurd rfl (hv1 _) | exact absurd rfl hv2 | (cases op <;> cases w <;> rfl)
      rw [e1, e2]; exact sr_eq
    by_cases hju : u = .nilFunc
    · subst hju
      cases hu with
      | junk _ h1 h2 => exact left (fun cs => (h1 cs).1) h2.1 op x y
      | nilFunc => exact left (v := .nilFunc) (fun _ e => (by cases e)) (fun e => (by cases e)) op x y
    · by_cases hjx : x = .nilFunc
      · subst hjx
        cases hx with
        | junk _ h1 h2 => exact right (fun cs => (h1 cs).1) h2.1 op u v
        | nilFunc => exact right (v := .nilFunc) (fun _ e => (by cases e)) (fun e => (by cases e)) op u v
      · rcases ho with rfl | rfl <;> cases hx <;> first | exact absurd rfl hjx | (cases hu <;> first | exact absurd rfl hju | exact sr_eq | exact agg | exact nil)
  cases op <;> first | exact main _ (.inl rfl) ok | exact main _ (.inr rfl) ok | exact sr_eq
theorem sr_equal (hG : P.globals.size = 0) (t : TypeId) {x y u v : Value} (hx : VR m x y) (hu : VR m u v) (ok : eqOk P 8 t = true) : SRR τ P F EqR m (Op.equal t x u) (Op.equal t y v) := sr_equalIn hG _ _ t ok hx hu
theorem sr_shape {a b : Addr} (h : AddrR m a b) : SRR τ P F EqR m (shape a.block) (shape b.block) := .inr ⟨b.block, _, rfl, h.1, fun z => ⟨z, rfl, rfl⟩⟩
theorem sr_twoPlaces (hG : P.globals.size = 0) {RA : Ren → Nat × Nat → Nat × Nat → Prop} {a b a' b' : Addr} : SRR τ P F RA m (Op.twoPlaces a b) (Op.twoPlaces a' b') := by
  have e : (a.block != b.block || decide (a.block ≥ (Program.mk (Program.toTables P) F).globals.size)) = true := by
    show (a.block != b.block || decide (a.block ≥ P.globals.size)) = true
    rw [hG]; simp
  unfold Op.twoPlaces; refine sr_prog ?_; dsimp only
  rw [if_pos e]; exact nofun
theorem sr_addrSub (hG : P.globals.size = 0) {x y u v : Addr} (hx : AddrR m x y) (hu : AddrR m u v) :
    SRR τ P F VR m (do Op.addrSub .u64 (← behindNumber x).1 (← behindNumber u).1) (do Op.addrSub .u64 (← behindNumber y).1 (← behindNumber v).1) :=
  (sBn hx).bind fun n p q hn e => (sBn (hu.mono hn)).bind fun n2 p' q' hn2 e2 => (sr_twoPlaces (RA := fun _ _ _ => False) hG).bind fun _ _ _ _ h => h.elim
theorem sr_addrCmp (hG : P.globals.size = 0) (op : BinOp) {x y u v : Addr} (hx : AddrR m x y) (hu : AddrR m u v) :
    SRR τ P F VR m (do Op.addrCmp op (← behindNumber x).1 (← behindNumber u).1) (do Op.addrCmp op (← behindNumber y).1 (← behindNumber v).1) :=
  (sBn hx).bind fun n p q hn e => (sBn (hu.mono hn)).bind fun n2 p' q' hn2 e2 => (sr_twoPlaces (RA := fun _ _ _ => False) hG).bind fun _ _ _ _ h => h.elim
theorem byteOfCell_eq : ∀ (d : Nat) (t : TypeId) (o : Nat), byteOfCell (Program.mk (Program.toTables P) F) d t o = byteOfCell P d t o
  | 0, _, _ => rfl
  | d + 1, t, o => by
    unfold byteOfCell; have e : Program.underlying (Program.mk (Program.toTables P) F) t = P.underlying t := rfl
    rw [e]
    cases P.underlying t with
    | none => rfl
    | some dd =>
      cases dd with
      | struct fs =>
        simp only [byteOfCell_eq d]; rfl
      | array n e =>
        simp only [byteOfCell_eq d]; rfl
      | _ => rfl
theorem sr_viewAt {a b : Addr} (h : AddrR m a b) : SRR τ P F (fun _ x y => x = none ∧ y = none) m (viewAt a.block) (viewAt b.block) := by
  refine .inr ⟨b.block, _, rfl, h.1, fun z => ?_⟩
  cases z with
  | none => exact ⟨b.block, _, rfl, h.1, fun p q l hpq => ⟨_, rfl, rfl, rfl⟩⟩
  | some z => exact ⟨none, rfl, rfl, rfl⟩
theorem sr_noView {a b : Addr} (h : AddrR m a b) : SRR τ P F EqR m (noView a) (noView b) :=
  (sr_viewAt h).bind fun n x y hn e => by obtain ⟨rfl, rfl⟩ := e; exact sr_eq
theorem sr_byteOf {a b : Addr} (h : AddrR m a b) : SRR τ P F EqR m (byteOf a) (byteOf b) := by
  unfold byteOf; obtain ⟨h1, h2, h3, h4⟩ := h; rw [h3, h4]; refine sr_prog ?_; dsimp only
  refine (sr_noView ⟨h1, h2, h3, h4⟩).bind fun n _ _ hn _ => ?_; refine (sr_shape (AddrR.mono hn ⟨h1, h2, h3, h4⟩)).bind fun n2 z z' hn2 e => ?_; subst e
  cases z with
  | none => trivial
  | some z =>
    obtain ⟨e, k⟩ := z; dsimp only
    have ec : Program.cellsOf (Program.mk (Program.toTables P) F) e = P.cellsOf e := rfl
    have eb : Program.bytesOf (Program.mk (Program.toTables P) F) e = P.bytesOf e := rfl
    have ed : Program.depth (Program.mk (Program.toTables P) F) = P.depth := rfl
    simp only [ec, eb, ed, byteOfCell_eq, h2]; split
    · exact sr_eq
    · cases byteOfCell P P.depth e (a.off % P.cellsOf e) with
      | none => trivial
      | some x => exact sr_eq
theorem sr_addrMod (k : IntKind) (c : Int) {x y : Addr} (hx : AddrR m x y) :
    SRR τ P F VR m (do Op.addrMod k (← behindNumber x).1 c) (do Op.addrMod k (← behindNumber y).1 c) := by
  refine (sBn hx).bind fun n p q hn e => ?_; unfold Op.addrMod; refine (sr_shape e.1).bind fun n1 z z' hn1 e1 => ?_; subst e1
  cases z with
  | none => exact nofun
  | some z =>
    obtain ⟨t, k⟩ := z; refine (sr_typeInfo t).bind fun n2 i i' hn2 e2 => ?_; subst e2; dsimp only
    split
    · exact nofun
    · exact (sr_byteOf ((e.1.mono hn1).mono hn2)).bind fun n3 a b hn3 e3 => by subst e3; exact sP (.int _ _)
theorem cellOfByte_eq : ∀ (d : Nat) (t : TypeId) (o : Nat), cellOfByte (Program.mk (Program.toTables P) F) d t o = cellOfByte P d t o
  | 0, _, _ => rfl
  | d + 1, t, o => by
    unfold cellOfByte; have e : Program.underlying (Program.mk (Program.toTables P) F) t = P.underlying t := rfl
    rw [e]
    cases P.underlying t with
    | none => rfl
    | some dd =>
      cases dd with
      | struct fs =>
        simp only [cellOfByte_eq d]; rfl
      | array n e =>
        simp only [cellOfByte_eq d]; rfl
      | _ => rfl
theorem cellAtBytes_eq (e : TypeId) (c o : Nat) (b : Int) : cellAtBytes (Program.mk (Program.toTables P) F) (Program.mk (Program.toTables P) F).depth e c o b = cellAtBytes P P.depth e c o b := by
  unfold cellAtBytes; have ec : Program.cellsOf (Program.mk (Program.toTables P) F) e = P.cellsOf e := rfl
  have eb : Program.bytesOf (Program.mk (Program.toTables P) F) e = P.bytesOf e := rfl
  have ed : Program.depth (Program.mk (Program.toTables P) F) = P.depth := rfl
  simp only [ec, eb, ed, byteOfCell_eq, cellOfByte_eq]
theorem sr_unsafeAddP (t : TypeId) {x y u v : Value} (hx : VR m x y) (hu : VR m u v) : SRR τ P F (fun n a b => VR n a b ∧ a ≠ .nilFunc) m (Builtin.unsafeAdd_ #[] t #[x, u]) (Builtin.unsafeAdd_ #[] t #[y, v]) := by
  unfold Builtin.unsafeAdd_; have tail : ∀ {p q : Option Addr}, ((p = none ∧ q = none) ∨ ∃ a b, p = some a ∧ q = some b ∧ AddrR m a b) → VR m (.pointer p) (.pointer q) := by
    rintro p q (⟨rfl, rfl⟩ | ⟨a, b, rfl, rfl, h⟩)
    · exact .nilPtr
    · exact .ptr h
  cases hx with
  | nilPtr =>
    refine (sr_asInt hu).bind fun n c c' hn e => ?_; subst e; dsimp only
    split
    · exact nofun
    · split
      · exact nofun
      · exact nofun
  | ptr ha =>
    refine (sr_asInt hu).bind fun n c c' hn e => ?_; subst e; dsimp only
    split
    · refine (sr_viewAt (ha.mono hn)).bind fun n1 z z' hn1 e1 => ?_
      obtain ⟨rfl, rfl⟩ := e1; exact sP ⟨.ptr ((ha.mono hn).mono hn1), fun e => (by cases e)⟩
    · split
      · exact nofun
      · refine (sr_shape (ha.mono hn)).bind fun n1 z z' hn1 e1 => ?_
        subst e1
        cases z with
        | none => exact nofun
        | some z =>
          obtain ⟨e, k⟩ := z; refine sr_prog ?_; have ec : Program.cellsOf (Program.mk (Program.toTables P) F) e = P.cellsOf e := rfl
          simp only [cellAtBytes_eq, ec]; rw [show _ = _ from ha.2.1]
          split
          · exact sP ⟨.ptr ⟨hn1.sub _ _ (hn.sub _ _ ha.1), rfl, ha.2.2.1, ha.2.2.2⟩, fun e => (by cases e)⟩
          · exact nofun
  | _ => trivial
theorem sUa (t : TypeId) {x y u v : Value} (hx : VR m x y) (hu : VR m u v) : SRR τ P F VR m (Builtin.unsafeAdd_ #[] t #[x, u]) (Builtin.unsafeAdd_ #[] t #[y, v]) := (sr_unsafeAddP t hx hu).mono fun _ _ _ _ h => h.1
theorem sr_movedNumber (t : TypeId) (ht : ∀ d, P.underlying t = some d → d ≠ .unsafePointer) {x y u v : Value} (hx : VR m x y) (hu : VR m u v) : SRR τ P F VR m (movedNumber t x u) (movedNumber t y v) := by
  unfold movedNumber; refine (sU t).bind fun n1 d d' hn1 e => ?_; obtain ⟨rfl, hd⟩ := e; have hx' := hx.mono hn1; have hu' := hu.mono hn1; have tail : SRR τ P F VR n1 (match (generalizing := false) x with
        | .pointer (some n) => (behindNumber n).bind fun p => (Builtin.unsafeAdd_ #[] t #[.pointer (some p.1), u]).bind fun r => match r with
          | .pointer (some b) => asNumber b p.2
          | v => Sem.pure v
        | _ => Builtin.unsafeAdd_ #[] t #[x, u])
      (match (generalizing := false) y with
        | .pointer (some n) => (behindNumber n).bind fun p => (Builtin.unsafeAdd_ #[] t #[.pointer (some p.1), v]).bind fun r => match r with
          | .pointer (some b) => asNumber b p.2
          | v => Sem.pure v
        | _ => Builtin.unsafeAdd_ #[] t #[y, v]) := by
    cases hx' with
    | ptr ha =>
      refine (sBn ha).bind fun n2 p q hn2 e => ?_; obtain ⟨p, lost⟩ := p; obtain ⟨q, lost'⟩ := q; obtain ⟨e1, e2⟩ := e; dsimp only at e1 e2
      subst e2; refine (sr_unsafeAddP t (.ptr e1) (hu'.mono hn2)).bind fun n3 r r' hn3 hr => ?_; obtain ⟨hr, hrn⟩ := hr
      cases hr with
      | ptr hb =>
        refine ⟨_, _, rfl, .inr ⟨_, _, _, rfl, rfl, hb⟩, fun n4 r r' hn4 hr => ?_⟩
        exact sP (.ptr ⟨hr, rfl, rfl, rfl⟩)
      | func f hf hs hh ht hk => exact sP (.func f hf hs hh ht hk)
      | junk y hy hn => exact absurd rfl hrn
      | _ => exact sP (by constructor <;> assumption)
    | nilPtr => exact sUa t .nilPtr hu'
    | bool b => exact sUa t (.bool b) hu'
    | int k b => exact sUa t (.int k b) hu'
    | string b => exact sUa t (.string b) hu'
    | nilSlice l c => exact sUa t (.nilSlice l c) hu'
    | slice l c h => exact sUa t (.slice l c h) hu'
    | nilMap => exact sUa t .nilMap hu'
    | nilFunc => exact sUa t .nilFunc hu'
    | junk y hy hn => trivial
    | nilIface => exact sUa t .nilIface hu'
    | iface a h => exact sUa t (.iface a h) hu'
    | func f hf hs hh ht hk => exact sUa t (.func f hf hs hh ht hk) hu'
    | agg hs hh => exact sUa t (.agg hs hh) hu'
    | tuple hs hh => exact sUa t (.tuple hs hh) hu'
  have hne := ht d hd
  cases d with
  | unsafePointer => exact absurd rfl hne
  | _ => exact tail
theorem sr_intOp (R : RtOk τ P) (op : BinOp) (t : TypeId) (k k' : IntKind) (a b : Int) : SRR τ P F VR m (binOp op t (.int k a) (.int k' b)) (binOp op t (.int k a) (.int k' b)) := by
  have arith : ∀ op, SRR τ P F VR m (if k ≠ k' then stuck "BinOp: operands of different kinds" else Op.intArith op k a b) (if k ≠ k' then stuck "BinOp: operands of different kinds" else Op.intArith op k a b) := by
    intro op; split
    · trivial
    · cases op <;> first | exact sP (.int _ _) | trivial
  have bitsOp : ∀ op, SRR τ P F VR m (if k ≠ k' then stuck "BinOp: operands of different kinds" else Op.intBits op k a b) (if k ≠ k' then stuck "BinOp: operands of different kinds" else Op.intBits op k a b) := by
    intro op; split
    · trivial
    · cases op <;> first | exact sP (.int _ _) | trivial
  have cmp : ∀ op, SRR τ P F VR m (if k ≠ k' then stuck "BinOp: operands of different kinds" else Op.intCmp op a b) (if k ≠ k' then stuck "BinOp: operands of different kinds" else Op.intCmp op a b) := by
    intro op; split
    · trivial
    · cases op <;> first | exact sP (.bool _) | trivial
  have div : ∀ op, SRR τ P F VR m (if k ≠ k' then stuck "BinOp: operands of different kinds" else Op.intDiv op k a b) (if k ≠ k' then stuck "BinOp: operands of different kinds" else Op.intDiv op k a b) := by
    intro op; split
    · trivial
    · unfold Op.intDiv
      split
      · exact sr_error R
      · cases op <;> first | exact sP (.int _ _) | trivial
  have sh : ∀ op, SRR τ P F VR m (Op.shift op k a k' b) (Op.shift op k a k' b) := by
    intro op; unfold Op.shift; split
    · exact sr_error R
    · cases op <;> first | exact sP (.int _ _) | trivial
  cases op <;> first | exact arith _ | exact bitsOp _ | exact cmp _ | exact div _ | exact sh .shl | exact sh .shr
theorem sr_strOp (op : BinOp) (t : TypeId) (a b : ByteArray) : SRR τ P F VR m (binOp op t (.string a) (.string b)) (binOp op t (.string a) (.string b)) := by
  have e : binOp op t (.string a) (.string b) = Op.stringOp op a b := by cases op <;> rfl
  rw [e]; unfold Op.stringOp; dsimp only
  cases op <;> first | exact sP (.bool _) | trivial | (dsimp only; split <;> first | exact sP (.string _) | exact nofun)
theorem sr_eqlOp (hG : P.globals.size = 0) (t : TypeId) {x y u v : Value} (hx : VR m x y) (hu : VR m u v) (ok : eqOk P 8 t = true) : SRR τ P F VR m (do pure (.bool (← Op.equal t x u))) (do pure (.bool (← Op.equal t y v))) :=
  (sr_equal hG t hx hu ok).bind fun n a b hn e => by subst e; exact sP (.bool _)
theorem sr_neqOp (hG : P.globals.size = 0) (t : TypeId) {x y u v : Value} (hx : VR m x y) (hu : VR m u v) (ok : eqOk P 8 t = true) : SRR τ P F VR m (do pure (.bool (!(← Op.equal t x u)))) (do pure (.bool (!(← Op.equal t y v)))) :=
  (sr_equal hG t hx hu ok).bind fun n a b hn e => by subst e; exact sP (.bool _)
end
end Go.Proofs.Ytjklkppncmhehaa.Sr
namespace Go.Proofs.Ytjklkppncmhehaa.Sr
open Go
section
variable {τ : TypeId} {P : Program} {F : Array Func} {α β γ δ : Type} {m : Ren}
theorem sr_addPtr (t : TypeId) (ht : ∀ d, P.underlying t = some d → d ≠ .unsafePointer) {x y u v : Value} (hx : VR m x y) (hu : VR m u v) :
    SRR τ P F VR m (do if (← underlying t) matches .unsafePointer then movedPointer t x u else movedNumber t x u) (do if (← underlying t) matches .unsafePointer then movedPointer t y v else movedNumber t y v) := by
  refine (sU t).bind fun n1 d d' hn1 e => ?_; obtain ⟨rfl, hd⟩ := e; have hne := ht d hd
  cases d with
  | unsafePointer => exact absurd rfl hne
  | _ => exact sr_movedNumber t ht (hx.mono hn1) (hu.mono hn1)
theorem sr_andPtr (k : IntKind) (c : Int) {x y : Addr} (hx : AddrR m x y) :
    SRR τ P F VR m (do Op.addrMod k (← behindNumber x).1 (c + 1)) (do Op.addrMod k (← behindNumber y).1 (c + 1)) := sr_addrMod k (c + 1) hx
theorem binOp_dead {RA : Ren → Value → β → Prop} (op : BinOp) (t : TypeId) {x u : Value} (ok : okBin P op t = true) (h : x = .nilFunc ∨ u = .nilFunc) {s' : Sem β} : SRR τ P F RA m (binOp op t x u) s' := by
  have eq : (op = .eql ∨ op = .neq) → eqOk P 8 t = true := by rintro (rfl | rfl) <;> (simp only [okBin, Bool.and_eq_true] at ok; exact ok.1)
  rcases h with rfl | rfl
  · cases op <;> cases u <;> first | trivial | exact sUn nofun | (rename_i a; cases a <;> first | trivial | exact sUn nofun) | exact equal_dead t (eq (.inl rfl)) (.inl rfl) | exact equal_dead t (eq (.inr rfl)) (.inl rfl)
  · cases op <;> cases x <;> first | trivial | exact sUn nofun | (rename_i a; cases a <;> first | trivial | exact sUn nofun) | exact equal_dead t (eq (.inl rfl)) (.inr rfl) | exact equal_dead t (eq (.inr rfl)) (.inr rfl)
set_option maxHeartbeats 4000000 in
theorem sr_binOp (R : RtOk τ P) (hG : P.globals.size = 0) (op : BinOp) (t : TypeId) {x y u v : Value} (hx : VR m x y) (hu : VR m u v) (ok : okBin P op t = true) : SRR τ P F VR m (binOp op t x u) (binOp op t y v) := by
  by_cases hjx : x = .nilFunc
  · exact binOp_dead op t ok (.inl hjx)
  by_cases hju : u = .nilFunc
  · exact binOp_dead op t ok (.inr hju)
  by_cases he : op = .eql
  · subst he
    simp only [okBin, Bool.and_eq_true] at ok; have h := sr_eqlOp (τ := τ) (F := F) hG t hx hu ok.1
    cases hx <;> cases hu <;> first | exact absurd rfl hjx | exact absurd rfl hju | exact sr_intOp R _ _ _ _ _ _ | exact sr_strOp _ _ _ _ | exact h
  · by_cases hn : op = .neq
    · subst hn
      simp only [okBin, Bool.and_eq_true] at ok; have h := sr_neqOp (τ := τ) (F := F) hG t hx hu ok.1
      cases hx <;> cases hu <;> first | exact absurd rfl hjx | exact absurd rfl hju | exact sr_intOp R _ _ _ _ _ _ | exact sr_strOp _ _ _ _ | exact h
    · have ht : ∀ d, P.underlying t = some d → d ≠ .unsafePointer := by
        rintro d hd rfl
        cases op <;> simp_all [okBin]
      have h1 := sr_addPtr (τ := τ) (F := F) t ht hx hu; have h2 := sr_movedNumber (τ := τ) (F := F) t ht hu hx; have h3 := fun k n => sr_movedNumber (τ := τ) (F := F) t ht hx (VR.int (m := m) k n)
      cases hx with
      | int k a =>
        cases hu with
        | int k2 b => exact sr_intOp R _ _ _ _ _ _
        | ptr hb => cases op <;> first | exact absurd rfl he | exact absurd rfl hn | exact h2 | exact sr_andPtr _ _ hb | exact nofun
        | nilPtr => cases op <;> first | exact absurd rfl he | exact absurd rfl hn | exact h2 | exact nofun
        | _ => cases op <;> first | exact absurd rfl he | exact absurd rfl hn | trivial
      | ptr ha =>
        cases hu with
        | int k2 b => cases op <;> first | exact absurd rfl he | exact absurd rfl hn | exact h1 | exact h3 _ _ | exact sr_addrMod _ _ ha | exact sr_andPtr _ _ ha | exact nofun
        | ptr hb => cases op <;> first | exact absurd rfl he | exact absurd rfl hn | exact sr_addrSub hG ha hb | exact sr_addrCmp hG _ ha hb | exact nofun
        | _ => cases op <;> first | exact absurd rfl he | exact absurd rfl hn | exact nofun
      | nilPtr =>
        cases hu with
        | int k2 b => cases op <;> first | exact absurd rfl he | exact absurd rfl hn | exact h1 | exact h3 _ _ | exact nofun
        | _ => cases op <;> first | exact absurd rfl he | exact absurd rfl hn | exact nofun
      | string a =>
        cases hu with
        | string b => exact sr_strOp _ _ _ _
        | ptr hb => cases op <;> first | exact absurd rfl he | exact absurd rfl hn | exact nofun
        | nilPtr => cases op <;> first | exact absurd rfl he | exact absurd rfl hn | exact nofun
        | _ => cases op <;> first | exact absurd rfl he | exact absurd rfl hn | trivial
      | _ =>
        cases hu with
        | ptr hb => cases op <;> first | exact absurd rfl he | exact absurd rfl hn | exact nofun
        | nilPtr => cases op <;> first | exact absurd rfl he | exact absurd rfl hn | exact nofun
        | _ => cases op <;> first | exact absurd rfl he | exact absurd rfl hn | trivial
/-- The functions that are borne have bodies, in both programs. -/
structure FnsOk (P : Program) (F : Array Func) (good : FuncId → Bool) : Prop where
  both : ∀ f, good f = true → ∃ fn fn', F[f]? = some fn ∧ P.funcs[f]? = some fn' ∧ fn.body.isSome = true ∧ fn'.body.isSome = true ∧ fn.name ≠ "runtime.NumGoroutine" ∧ fn'.name ≠ "runtime.NumGoroutine"
theorem sr_callFunc (hF : FnsOk P F m.good) (f : FuncId) (hf : m.good f = true) {us vs : Array Value} (h : AR m us vs) (hn : ∀ n, special f = some n → us.size = n) : SRR τ P F NextR m (callFunc f us) (callFunc f vs) := by
  obtain ⟨fn, fn', h1, h2, b1, b2, n1, n2⟩ := hF.both f hf; unfold callFunc; refine sr_prog ?_; dsimp only
  rw [h1, h2]; dsimp only
  rw [if_neg (by simpa using n1), if_neg (by cases hg : fn.body <;> simp_all), if_neg (by simpa using n2), if_neg (by cases hg : fn'.body <;> simp_all)]
  exact sP (.enter f hf h hn)
theorem sr_callValue (R : RtOk τ P) (hF : FnsOk P F m.good) {x y : Value} (h : VR m x y) {us vs : Array Value} (k : AR m us vs) :
    SRR τ P F NextR m ((Deferred.ofValue x us).bind fun d => invoke d.target d.args) ((Deferred.ofValue y vs).bind fun d => invoke d.target d.args) := by
  cases h with
  | func f hf hs hh ht hk =>
    cases f with
    | func f =>
      show SRR τ P F NextR m (invoke (.fn (.func f) _) _) (invoke (.fn (.func f) _) _)
      exact sr_callFunc hF f hf.1 ((AR.append (show AR m _ _ from ⟨hs, hh⟩) k).append ⟨ht, hk⟩) fun n hn => by rw [hf.2] at hn; cases hn
    | _ => exact hf.elim
  | nilFunc => exact sr_nilDeref R
  | junk => exact sr_nilDead R
  | _ => trivial
theorem sr_execOp (R : RtOk τ P) (hG : P.globals.size = 0) (hF : FnsOk P F m.good) {ρ ρ' : Operand → Value} (h : OperR m ρ ρ') (o : Oper) (ok : okOp P m.good o.op = true) (hfn : ∀ f, ρ (.func f) = .func (.func f) #[] #[] ∧ ρ' (.func f) = .func (.func f) #[] #[]) :
    SRR τ P F NextR m (execOp ρ o) (execOp ρ' o) := by
  obtain ⟨dst, op, type, pos, after, guard⟩ := o; dsimp only at ok
  cases op with
  | move x => exact sP (.value (h x ok))
  | assign x => exact sP (.value (h x ok))
  | pick c a b =>
    simp only [okOp, Bool.and_eq_true] at ok; refine (sr_asBool (h c ok.1.1)).bind fun n p q hn e => ?_; subst e
    cases p
    · exact sP (.value ((h b ok.2).mono hn))
    · exact sP (.value ((h a ok.1.2).mono hn))
  | alloc t => exact sr_v (sr_alloc t ok _)
  | box t x => exact sr_v (sr_box t (h x ok))
  | build t ps =>
    simp only [okOp, Bool.and_eq_true] at ok; exact sr_v (sr_build t ok.1 (h.parts ok.2))
  | buildSlice t l ps =>
    simp only [okOp, Bool.and_eq_true] at ok; exact sr_v (sr_buildSlice t ok.1 l (h.parts ok.2))
  | load t x => exact sr_v (sr_loadAt t (h x ok))
  | store t a x =>
    simp only [okOp, Bool.and_eq_true] at ok; exact sr_u (sr_storeAt t (h a ok.1) (h x ok.2))
  | nilCheck x => exact sr_nilCheck R (h x ok) _ ρ ρ' x rfl rfl rfl
  | binOp op t x y t2 =>
    simp only [okOp, Bool.and_eq_true] at ok; exact sr_v ((sr_eqGuard op t x y (h x ok.1.2) (h y ok.2) ok.1.1).bind fun n _ _ hn _ => sr_binOp R hG op t ((h x ok.1.2).mono hn) ((h y ok.2).mono hn) ok.1.1)
  | unOp op t x => exact sr_v (sr_unary op (h x ok))
  | convert s d x =>
    simp only [okOp, Bool.and_eq_true] at ok; exact sr_v (sr_convert s d (h x ok.2) ok.1)
  | makeInterface t x =>
    refine sr_v ?_; refine (sU t).bind fun n a b hn e => ?_; obtain ⟨rfl, _⟩ := e
    cases a <;> first | trivial | exact sP (.iface _ ((h x ok).mono hn))
  | makeFunc f us vs =>
    simp only [okOp, Bool.and_eq_true] at ok; refine sr_v (sr_makeFunc f ?_ (h.arr ok.1.2) (h.arr ok.2))
    cases f <;> first | exact (by simpa [okFn, Ren.fn] using ok.1.1) | exact absurd ok.1.1 (by simp [okFn])
  | makeSlice t l c =>
    simp only [okOp, Bool.and_eq_true] at ok; exact sr_v (sr_makeSlice R t ok.1.1 (h l ok.1.2) (h c ok.2))
  | slice t x lo hi mx =>
    simp only [okOp, Bool.and_eq_true] at ok; exact sr_v (sr_sliceAt R t (h x ok.1.1.1) (h.opt ok.1.1.2) (h.opt ok.1.2) (h.opt ok.2))
  | fieldAddr s x f =>
    simp only [okOp, Bool.and_eq_true] at ok; exact sr_v (sr_fieldAt s f (h x ok.2) ok.1)
  | indexAddr t x i =>
    simp only [okOp, Bool.and_eq_true] at ok; exact sr_v (sr_indexAt R t (h x ok.1) (h i ok.2))
  | index t x i =>
    simp only [okOp, Bool.and_eq_true] at ok; exact sr_v (sr_index R t (h x ok.1) (h i ok.2))
  | extract x i => exact sr_v (sr_extract i (h x ok))
  | call c =>
    obtain ⟨callee, args, ts⟩ := c; simp only [okOp, Bool.and_eq_true] at ok; have ha := h.arr ok.2
    cases callee with
    | value f =>
      cases f with
      | func f =>
        have okc : m.good f = true ∧ (match special f with | none => true | some n => args.size == n) = true := by
          have := ok.1
          simp only [okCall, Bool.and_eq_true] at this; exact this
        have e0 : ∀ us : Array Value, (#[] ++ us ++ #[] : Array Value) = us := fun us => by simp
        show SRR τ P F NextR m ((Deferred.ofValue (ρ (.func f)) (args.map ρ)).bind fun d => invoke d.target d.args) ((Deferred.ofValue (ρ' (.func f)) (args.map ρ')).bind fun d => invoke d.target d.args)
        rw [(hfn f).1, (hfn f).2]; show SRR τ P F NextR m (callFunc f (#[] ++ args.map ρ ++ #[])) (callFunc f (#[] ++ args.map ρ' ++ #[]))
        rw [e0, e0]; refine sr_callFunc hF f okc.1 ha fun n hn => ?_; have := okc.2
        rw [hn] at this; simpa using this
      | tmp t => exact sr_callValue R hF (h (.tmp t) rfl) ha
      | _ => exact absurd ok.1 (by simp [okCall])
    | invoke => exact absurd ok.1 (by simp [okCall])
    | builtin b =>
      cases b with
      | len => exact sr_v (sr_len ts _ ha)
      | cap => exact sr_v (sr_cap ts _ ha)
      | max => exact sr_v (sr_max ts _ ha)
      | append => exact sr_v (sr_append R ts _ ha ok.1)
      | _ => exact absurd ok.1 (by simp [okCall])
  | _ => exact absurd ok (by simp [okOp])
end
end Go.Proofs.Ytjklkppncmhehaa.Sr
namespace Go.Proofs.Ytjklkppncmhehaa.Sr
open Go Go.Conc
section
variable {τ : TypeId} {P' P : Program} {α β : Type} {RA : Ren → α → β → Prop}
theorem SR.writes {s : Sem α} {s' : Sem β} : ∀ {m : Ren} {v w : World} {es : Array Event} {a : α} {v' : World} {es' : Array Event}, SR τ P' P RA m s s' → WR m v w → s.runT P' v es = (.ok a v', es') →
    ∃ us : List Event, es' = es ++ us.toArray ∧ (∀ e ∈ us, e.write = true → ∀ a, e.loc = .cell a → ¬ Froz v a.block) ∧ (∀ r, Froz v r → v'.heap[r]? = v.heap[r]?) := by
  induction s generalizing s' with
  | pure a =>
    intro m v w es a1 v' es' h hw hr; simp only [Sem.runT, Prod.mk.injEq, Result.ok.injEq] at hr; obtain ⟨⟨rfl, rfl⟩, rfl⟩ := hr; exact ⟨[], by simp, by simp, fun _ _ => rfl⟩
  | halt h0 => intro m v w es a1 v' es' h hw hr; simp [Sem.runT] at hr
  | load md a c ih =>
    intro m v w es a1 v' es' h hw hr; obtain ⟨a', k', rfl, ha, hk⟩ := h; obtain ⟨hc1, hc2, _⟩ := hw.cell ha; simp only [Sem.runT] at hr
    cases hv : v.cell? a with
    | none =>
      obtain ⟨o, hb, ⟨us, e, fz, rfl⟩ | ⟨z, l, rfl⟩⟩ := hc2 <;>
      rw [hv] at hr <;>
      simp [World.farLoad, hb] at hr
    | some x =>
      obtain ⟨y, hy, hxy⟩ := hc1 x hv; rw [hv] at hr; obtain ⟨us, h1, h2, h3⟩ := ih x (hk m x y (Ren.le_refl m) hxy) hw hr; refine ⟨⟨.cell a, false, md == .atomic⟩ :: us, by rw [h1]; simp, fun e he hwr => ?_, h3⟩
      rcases List.mem_cons.1 he with rfl | he
      · cases hwr
      · exact h2 e he hwr
  | store md a x c ih =>
    intro m v w es a1 v' es' h hw hr; obtain ⟨a', x', k', rfl, ha, hx, hk⟩ := h; obtain ⟨hc1, hc2, hfz⟩ := hw.cell ha; have hax : (∀ cs, x ≠ .agg cs) ∧ (∀ cs, x ≠ .tuple cs) := by
      constructor <;> (rintro cs rfl; simp [Sem.runT] at hr)
    have e1 : ∀ (q : World) (gs : Array Event), Sem.runT P' (.store md a x c) q gs = match q.cell? a with
        | some _ => if q.frozen? a then (.halt (.unsupported (.unsafePointer "a write to bytes that a string shares")) q, gs) else c.runT P' (q.setCell a x) (gs.push ⟨.cell a, true, md == .atomic⟩)
        | none => match q.farStore P' a x (md == .atomic) with
          | .ok (q, touched) => c.runT P' q (gs ++ touched.toArray.map (⟨.cell ·, true, md == .atomic⟩))
          | .error h => (.halt h q, gs) := by
      intro q gs
      cases x <;> first | rfl | exact absurd rfl (hax.1 _) | exact absurd rfl (hax.2 _)
    rw [e1] at hr
    cases hv : v.cell? a with
    | none =>
      obtain ⟨o, hb, ⟨us, e, fz, rfl⟩ | ⟨z, l, rfl⟩⟩ := hc2 <;>
      rw [hv] at hr <;>
      simp [World.farStore, hb] at hr
    | some u =>
      rw [hv] at hr; simp only at hr
      split at hr
      · simp at hr
      · rename_i hnf
        have hnF : ¬ Froz v a.block := fun h => hnf (froz_not h hv)
        have hkeep : ∀ r, Froz v r → (v.setCell a x).heap[r]? = v.heap[r]? := by
          intro r hr0; rw [sCh]; have : r ≠ a.block := fun e => hnF (e ▸ hr0)
          simp [this]
        have hF : ∀ r, Froz v r → Froz (v.setCell a x) r := fun r h0 => by
          exact h0.same (hkeep r h0)
        obtain ⟨us, h1, h2, h3⟩ := ih (hk m (Ren.le_refl m)) (hw.set ha hx) hr; refine ⟨⟨.cell a, true, md == .atomic⟩ :: us, by rw [h1]; simp, fun e he hwr b hb => ?_, fun r h0 => (h3 r (hF r h0)).trans (hkeep r h0)⟩
        rcases List.mem_cons.1 he with rfl | he
        · injection hb with hb; rw [← hb]; exact hnF
        · exact fun h0 => h2 e he hwr b hb (hF _ h0)
  | new o c ih =>
    intro m v w es a1 v' es' h hw hr; obtain ⟨o', k', rfl, ho, hk⟩ := h; obtain ⟨hle, hwn⟩ := hw.new ho; simp only [Sem.runT] at hr; have hkeep : ∀ r, Froz v r → (v.heap.push o)[r]? = v.heap[r]? := by
      intro r h0; have := h0.lt
      rw [Array.getElem?_push, if_neg (by omega)]
    have hF : ∀ r, Froz v r → Froz { v with heap := v.heap.push o } r := fun r h0 => by
      exact h0.same (hkeep r h0)
    obtain ⟨us, h1, h2, h3⟩ := ih v.heap.size (hk _ v.heap.size w.heap.size hle (by simp [Ren.put])) hwn hr
    exact ⟨us, h1, fun e he hwr b hb h0 => h2 e he hwr b hb (hF _ h0), fun r h0 => (h3 r (hF r h0)).trans (hkeep r h0)⟩
  | choose q c ih =>
    intro m v w es a1 v' es' h hw hr; obtain ⟨k', rfl, hk⟩ := h; simp only [Sem.runT] at hr; split at hr
    · exact ih 0 (hk 0) hw hr
    · exact ih (q.cut (v.tape v.drawn q)) (v := { v with drawn := v.drawn + 1 }) (w := { w with tape := v.tape, drawn := v.drawn + 1 }) (hk _) ⟨hw.inj, hw.dom, hw.os, rfl, rfl⟩ hr
  | program c ih =>
    intro m v w es a1 v' es' h hw hr; rcases h with h | ⟨k', rfl, hk⟩
    · simp only [Sem.runT] at hr
      obtain ⟨_, _, _, e, _⟩ := Dead.run (P := P') (v := v) (es := es) h; rw [e] at hr; simp at hr
    · exact ih P' hk hw hr
  | mark md c ih =>
    intro m v w es a1 v' es' h hw hr
    cases md with
    | noRoom =>
      obtain ⟨k', rfl, hk⟩ := h; simp only [Sem.runT] at hr; obtain ⟨us, h1, h2, h3⟩ := ih hk hw hr; refine ⟨⟨.mark .noRoom, false, true⟩ :: us, by rw [h1]; simp, fun e he hwr => ?_, h3⟩
      rcases List.mem_cons.1 he with rfl | he
      · cases hwr
      · exact h2 e he hwr
    | _ => exact h.elim
  | getObj r c ih =>
    intro m v w es a1 v' es' h hw hr; obtain ⟨r', k', rfl, hr', hk⟩ := h; obtain ⟨o, p, ho, hp, hop⟩ := hw.dom _ _ hr'; simp only [Sem.runT] at hr; rw [ho] at hr; rcases hop with ⟨us, vs, e, fz, gz, rfl, rfl, hf, hs, hx⟩ | ⟨x, y, l, rfl, rfl, hxy⟩
    · simp at hr
    · obtain ⟨us, h1, h2, h3⟩ := ih (.number x l) (hk x y l hxy) hw hr
      refine ⟨⟨.obj r, false, false⟩ :: us, by rw [h1]; simp [Obj.isChan], fun e he hwr => ?_, h3⟩
      rcases List.mem_cons.1 he with rfl | he
      · cases hwr
      · exact h2 e he hwr
  | shape r c ih =>
    intro m v w es a1 v' es' h hw hr; simp only [Sem.runT] at hr; rcases h with h | ⟨r', k', rfl, hr', hk⟩
    · obtain ⟨_, _, _, e, _⟩ := Dead.run (P := P') (v := v) (es := es) (h (v.shape? r)); rw [e] at hr; simp at hr
    · exact ih _ (hk _) hw hr
  | frozen a c ih => intro m v w es a1 v' es' h hw hr; simp only [Sem.runT] at hr; obtain ⟨_, _, _, e, _⟩ := Dead.run (P := P') (v := v) (es := es) (h _); rw [e] at hr; simp at hr
  | freeze a n c ih => intro m v w es a1 v' es' h; exact h.elim
  | setObj r o c ih => intro m v w es a1 v' es' h; exact h.elim
  | sys c k2 ih => intro m v w es a1 v' es' h; exact h.elim
end
end Go.Proofs.Ytjklkppncmhehaa.Sr
namespace Go.Proofs.Ytjklkppncmhehaa.Sr
open Go Go.Conc
def mkF (fn : FuncId) (tm : Array Value) (todo : List Item) (mode : FrameMode) : Frame := { fn, tmps := tm, todo, defers := [], mode, kind := .normal }
def okCode (P : Program) (good : FuncId → Bool) : Code → Bool
  | .skip | .ret | .exit _ | .label _ => true
  | .region _ ops _ => ops.all fun o => okOp P good o.op
  | .seq a b => okCode P good a && okCode P good b
  | .cond c a b => okO c && okCode P good a && okCode P good b
  | .block _ a | .loop a => okCode P good a
  | _ => false
def okItem (P : Program) (good : FuncId → Bool) : Item → Bool
  | .code c => okCode P good c
  | .inBlock _ => true
  | .inLoop b => okCode P good b
  | .inRegion ops _ => ops.all fun o => okOp P good o.op
  | _ => false
def okFunc (P : Program) (good : FuncId → Bool) (fn : Func) : Bool :=
  match fn.body with
  | some c => okCode P good c
  | none => false
/-- Two frames of the same function, at the same place, with like temporaries. -/
inductive FR (P : Program) (spec : FuncId → Bool) (m : Ren) : Frame → Frame → Prop
  | mk (fn : FuncId) {tm' tm : Array Value} (todo : List Item) (mode : FrameMode) (hs : spec fn = false) (hg : m.good fn = true) (h : AR m tm' tm) (ok : ∀ x ∈ todo, okItem P m.good x = true)
      (hm : mode = .run ∨ mode = .returning) : FR P spec m (mkF fn tm' todo mode) (mkF fn tm todo mode)
theorem FR.mono {P : Program} {spec : FuncId → Bool} {m n : Ren} (h : Ren.le m n) {f' f : Frame} (x : FR P spec m f' f) : FR P spec n f' f := by
  cases x with
  | mk fn todo mode hs hg ha ok hm => exact .mk fn todo mode hs (h.good ▸ hg) (ha.mono h) (h.good ▸ ok) hm
inductive FRs (P : Program) (spec : FuncId → Bool) (m : Ren) : List Frame → List Frame → Prop
  | nil : FRs P spec m [] []
  | cons {f' f : Frame} {fs' fs : List Frame} (h : FR P spec m f' f) (hr : f'.mode = .run) (k : FRs P spec m fs' fs) : FRs P spec m (f' :: fs') (f :: fs)
theorem FRs.mono {P : Program} {spec : FuncId → Bool} {m n : Ren} (h : Ren.le m n) {f' f : List Frame} (x : FRs P spec m f' f) : FRs P spec n f' f := by
  induction x with
  | nil => exact .nil
  | cons a b _ ih => exact .cons (a.mono h) b ih
/-- A function that both programs have otherwise is entered. -/
inductive Enters (P : Program) (F : Array Func) (spec : FuncId → Bool) (m : Ren) : Frame → Frame → Prop
  | mk (f : FuncId) {us vs : Array Value} (hs : spec f = true) (h : AR m us vs) (hn : ∀ n, special f = some n → us.size = n) : Enters P F spec m (Frame.enter (Program.mk (Program.toTables P) F) f us .normal) (Frame.enter P f vs .normal)
/-- The two programs. -/
structure Both (τ : TypeId) (P : Program) (F : Array Func) (spec good : FuncId → Bool) : Prop where
  rt : RtOk τ P
  globals : P.globals.size = 0
  vals : ∀ f, valFn f = true → good f = true ∧ special f = none
  fns : FnsOk P F good
  same : ∀ f, good f = true → spec f = false → ∃ fn, F[f]? = some fn ∧ P.funcs[f]? = some fn ∧ okFunc P good fn = true
def Evs (n : Ren) (v : World) (es : Array Event) : Prop := ∀ e ∈ es, ∃ e', EvR n e' e ∧ (e'.write = true → ∀ a, e'.loc = .cell a → ¬ Froz v a.block)
theorem Evs.none {n : Ren} {v : World} : Evs n v #[] := fun e he => by simp at he
section
variable {τ : TypeId} {P : Program} {F : Array Func} {spec : FuncId → Bool} {m : Ren}
theorem vr_const (v : Value) (h : okO (.const v) = true) : VR m v v := by
  have flat : ∀ x : Value, (match x with | .bool _ | .int _ _ | .string _ | .pointer none | .slice none _ _ | .map none | .nilFunc | .nilIface => true | _ => false) = true → VR m x x := by
    intro x hx
    cases x with
    | bool b => exact .bool b
    | int k n => exact .int k n
    | string s => exact .string s
    | pointer a => cases a <;> first | exact .nilPtr | cases hx
    | slice a l c => cases a <;> first | exact .nilSlice _ _ | cases hx
    | map r => cases r <;> first | exact .nilMap | cases hx
    | nilFunc => exact .nilFunc
    | nilIface => exact .nilIface
    | _ => cases hx
  cases v with
  | agg xs => exact .agg rfl fun i h1 h2 => flat _ (Array.all_eq_true_iff_forall_mem.1 h _ (Array.getElem_mem _))
  | tuple xs =>
    have : xs = #[] := by simpa [okO] using h
    subst this; exact .tuple rfl fun i h1 _ => by simp at h1
  | bool b => exact .bool b
  | int k n => exact .int k n
  | string s => exact .string s
  | pointer a => cases a <;> first | exact .nilPtr | cases h
  | slice a l c => cases a <;> first | exact .nilSlice _ _ | cases h
  | map r => cases r <;> first | exact .nilMap | cases h
  | nilFunc => exact .nilFunc
  | nilIface => exact .nilIface
  | _ => cases h
theorem AR.oper {us vs : Array Value} (h : AR m us vs) (hv : ∀ f, valFn f = true → m.good f = true ∧ special f = none) : OperR m (Act.eval ⟨us, []⟩) (Act.eval ⟨vs, []⟩) := by
  intro x hx
  cases x with
  | tmp t => exact h.getD t .undef
  | const v => exact vr_const v hx
  | func f => exact .func (.func f) (hv f hx) rfl (fun i h _ => by simp at h) rfl (fun i h _ => by simp at h)
  | _ => cases hx
theorem exitTo_ok {p : Item → Prop} : ∀ {k k' : List Item} {id : Nat}, exitTo id k = some k' → (∀ x ∈ k, p x) → ∀ x ∈ k', p x
  | [], _, _, h, _ => by simp [exitTo] at h
  | i :: k, k', id, h, hp => by
    cases i with
    | inBlock id' =>
      simp only [exitTo] at h; split at h
      · cases h; exact fun x hx => hp x (by simp [hx])
      · exact exitTo_ok h fun x hx => hp x (by simp [hx])
    | _ => simp only [exitTo] at h; exact exitTo_ok h fun x hx => hp x (by simp [hx])
theorem apply_value {fr : Frame} {cs : List Frame} {s : Sem Next} {w w1 : World} {x : Value} {es : Array Event} (hk : fr.kind = .normal) (h : s.runT P w #[] = (.ok (.value x) w1, es)) :
    stepG.apply P true fr cs none s w = .go (G (fr.finish x) cs) w1 (seen P fr.fn es) := by
  have hk' : (fr.kind == CallKind.early) = false := by rw [hk]; rfl
  simp only [stepG.apply, h, hk', if_true, Bool.false_eq_true, if_false, GStep.after, Array.append_empty, G]
theorem apply_skip {fr : Frame} {cs : List Frame} {s : Sem Next} {w w1 : World} {es : Array Event} (hk : fr.kind = .normal) (h : s.runT P w #[] = (.ok .skip w1, es)) :
    stepG.apply P true fr cs none s w = .go (G (fr.finish undef) cs) w1 (seen P fr.fn es) := by
  have hk' : (fr.kind == CallKind.early) = false := by rw [hk]; rfl
  simp only [stepG.apply, h, hk', if_true, Bool.false_eq_true, if_false, GStep.after, Array.append_empty, G]
theorem apply_enter {fr : Frame} {cs : List Frame} {s : Sem Next} {w w1 : World} {f : FuncId} {args : Array Value} {es : Array Event} (hk : fr.kind = .normal) (ht : ∃ ops l k, fr.todo = .inRegion ops l :: k) (h : s.runT P w #[] = (.ok (.enter f args) w1, es)) :
    stepG.apply P true fr cs none s w = .go (G (Frame.enter P f args .normal) (fr :: cs)) w1 (seen P fr.fn es) := by
  obtain ⟨ops, l, k, ht⟩ := ht; have hk' : (fr.kind == CallKind.early) = false := by rw [hk]; rfl
  simp only [stepG.apply, h, hk', ht, if_true, Bool.false_eq_true, if_false, GStep.after, Array.append_empty, G]
theorem apply_panic {fr : Frame} {cs : List Frame} {s : Sem Next} {w w1 : World} {x : Value} {es : Array Event} (hk : fr.kind = .normal) (h : s.runT P w #[] = (.halt (.panic x) w1, es)) :
    stepG.apply P true fr cs none s w = .go (G (fr.raise [{ v := x, recovered := false }]) cs) w1 (seen P fr.fn es) := by
  have hk' : (fr.kind == CallKind.early) = false := by rw [hk]; rfl
  simp only [stepG.apply, h, hk', if_true, Bool.false_eq_true, if_false, GStep.after, Array.append_empty, G]
theorem apply_halt {fr : Frame} {cs : List Frame} {s : Sem Next} {w w1 : World} {h0 : Halt} {es : Array Event} (hp : Plain τ h0) (h : s.runT P w #[] = (.halt h0 w1, es)) :
    (∃ x, h0 = .panic x) ∨ ∀ g v e, stepG.apply P true fr cs none s w ≠ .go g v e := by
  cases h0 with
  | panic x => exact .inl ⟨x, rfl⟩
  | stuck z => exact .inr fun g v e => by simp only [stepG.apply, h, if_true, GStep.after]; exact nofun
  | unsupported u =>
    refine .inr fun g v e => ?_
    cases u with
    | initOrder g => exact absurd rfl (hp g)
    | _ => simp only [stepG.apply, h, if_true, GStep.after]; exact nofun
  | _ => exact hp.elim
end
end Go.Proofs.Ytjklkppncmhehaa.Sr
