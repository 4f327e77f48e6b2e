/- A symbolic run of a function's code: typed values in memory, what each operation does to them, and why that is so (part b). Each theorem bears its conditions itself. -/
import Derived.Test.YtaachifkgcdeoaaSya
import Derived.IntWalk
namespace Go.Proofs.Ytaachifkgcdeoaa.Sy
open Go.RowKit
set_option linter.unusedSimpArgs false
set_option linter.unusedVariables false

inductive Opd where
  | t (k : Nat)
  | c (v : TV)

def preG (gl' gl : List (Nat × Bool)) : Bool := gl'.all fun g => gl.any fun h => Nat.beq g.1 h.1 && (g.2 == h.2)

theorem preG_holds {gl' gl : List (Nat × Bool)} {vs : Nat → Value} (h : preG gl' gl = true) (hg : holdsG vs gl) : holdsG vs gl' := by
  intro g hm
  have h1 := List.all_eq_true.1 h g hm
  obtain ⟨h', hm', h2⟩ := List.any_eq_true.1 h1
  simp only [Bool.and_eq_true, beq_iff_eq] at h2
  have : h' = g := Prod.ext (Nat.eq_of_beq_eq_true h2.1).symm h2.2.symm
  exact this ▸ hg h' hm'

def opd (look : Nat → Slot) (gl : List (Nat × Bool)) : Opd → Slot
  | .c v => .val v.t v.m v.x
  | .t k => match look k with
    | .cnd gl' s => if preG gl' gl then s else .dead
    | s => s

/-- The operand as the model has it. -/
def OpdOk (x : Opd) (o : Operand) : Prop :=
  match x, o with
  | .t k, .tmp k' => k = k'
  | .c v, .const u => ∀ w F, ∃ cs, Rep w F v.t v.m v.x cs [] ∧ u = wrapV v.t cs
  | _, _ => False

/-- What the look-up of a slot may tell: the slot, or nothing. -/
def Looks (look : Nat → Slot) (σ : List Slot) : Prop := ∀ k, look k = .dead ∨ look k = σ.getD k .dead

abbrev lk (σ : List Slot) : Nat → Slot := fun k => σ.getD k .dead
abbrev vl (a : Act) : Nat → Value := fun k => a.tmps.getD k undef

theorem opd_rep {E : Env} {σ : List Slot} {a : Act} {w : World} {fl : List Nat} (h : RepSt E σ a w fl) {look : Nat → Slot} (hl : Looks look σ) {gl : List (Nat × Bool)} (hg : holdsG (vl a) gl) {x : Opd} {o : Operand} (ho : OpdOk x o) :
    ∃ A, A.Nodup ∧ (∀ b ∈ A, b < w.heap.size) ∧ RepSlot w E.F (lk σ) (vl a) (opd look gl x) (a.eval o) A := by
  obtain ⟨h1, h2, h3, ow, how, hflN, hflo, hsl⟩ := h
  cases x with
  | c v =>
    cases o <;> simp only [OpdOk] at ho
    obtain ⟨cs, h4, h5⟩ := ho w E.F
    exact ⟨[], List.nodup_nil, fun b hb => by simp at hb, cs, h4, h5⟩
  | t k =>
    cases o <;> simp only [OpdOk] at ho
    subst ho
    obtain ⟨A, hA1, hA2, hA3⟩ := hsl k
    have hA4 : ∀ b ∈ A, b < w.heap.size := fun b hb => (how b k (hA2 b hb)).2
    simp only [opd]
    rcases hl k with e | e
    · rw [e]
      exact ⟨[], List.nodup_nil, fun b hb => by simp at hb, rfl⟩
    · rw [e]
      split
      · rename_i gl' s hs
        split
        · rename_i hp
          rw [hs] at hA3
          exact ⟨A, hA1, hA4, hA3.1 (preG_holds hp hg)⟩
        · exact ⟨[], List.nodup_nil, fun b hb => by simp at hb, rfl⟩
      · exact ⟨A, hA1, hA4, hA3⟩

/-- An operation's yield: its value, the world the same or grown, and what is known of the value. -/
def Yld (E : Env) (σ : List Slot) (a : Act) (w : World) (s : Slot) (run : Sem Next) : Prop :=
  ∃ v w' A, run.run E.P w = .ok (.value v) w' ∧ (∀ b, b < w.heap.size → w'.heap[b]? = w.heap[b]?) ∧ Below w.heap.size w w' ∧ A.Nodup ∧ (∀ b ∈ A, w.heap.size ≤ b ∧ b < w'.heap.size) ∧ RepSlot w' E.F (lk σ) (vl a) s v A

theorem Yld.pure {E : Env} {σ : List Slot} {a : Act} {w : World} {s : Slot} {run : Sem Next} {v : Value} (h : run.run E.P w = .ok (.value v) w) (hs : RepSlot w E.F (lk σ) (vl a) s v []) : Yld E σ a w s run :=
  ⟨v, w, [], h, fun _ _ => rfl, Below.refl _ _, List.nodup_nil, fun b hb => by simp at hb, hs⟩

theorem yld_state {E : Env} {σ : List Slot} {a : Act} {w : World} {s : Slot} {run : Sem Next} (h : RepState E σ a w) (hy : Yld E σ a w s run) {d : Nat} (hd : d < σ.length) :
    ∃ v w', run.run E.P w = .ok (.value v) w' ∧ RepState E (setS σ d s) (a.put (some d) v) w' := by
  obtain ⟨v, w', A, h1, h2, h3, h4, h5, h6⟩ := hy
  obtain ⟨Ad, _, _, _, h7⟩ := set_state h h2 (h.below.of_below h3) h3.size hd h4 (fun b hb => .inl (h5 b hb)) h6
  exact ⟨v, w', h1, h7 [] List.nodup_nil (fun b hb => by simp at hb)⟩

/-! ### Numbers -/
theorem rep_int {w : World} {F : Nat → Prop} {look : Nat → Slot} {vs : Nat → Value} {k : IntKind} {x : Int} {u : Value} {A : List Nat} (h : RepSlot w F look vs (.val (.int k) .n x) u A) : u = .int k x ∧ A = [] ∧ k.min ≤ x ∧ x ≤ k.max := by
  obtain ⟨cs, h1, h2⟩ := h
  simp only [Rep] at h1
  obtain ⟨h3, rfl, h4⟩ := h1
  exact ⟨h2, h3, h4⟩
theorem int_rep {w : World} {F : Nat → Prop} {look : Nat → Slot} {vs : Nat → Value} {k : IntKind} {x : Int} (h : k.min ≤ x ∧ x ≤ k.max) : RepSlot w F look vs (.val (.int k) .n x) (.int k x) [] :=
  ⟨[.int k x], by simp only [Rep]; exact ⟨trivial, trivial, h⟩, rfl⟩
theorem rep_bool {w : World} {F : Nat → Prop} {look : Nat → Slot} {vs : Nat → Value} {x : Bool} {u : Value} {A : List Nat} (h : RepSlot w F look vs (.val .bool .n x) u A) : u = .bool x ∧ A = [] := by
  obtain ⟨cs, h1, h2⟩ := h
  simp only [Rep] at h1
  obtain ⟨h3, rfl⟩ := h1
  exact ⟨h2, h3⟩
theorem bool_rep {w : World} {F : Nat → Prop} {look : Nat → Slot} {vs : Nat → Value} {x : Bool} : RepSlot w F look vs (.val .bool .n x) (.bool x) [] :=
  ⟨[.bool x], by simp only [Rep]; exact ⟨trivial, trivial⟩, rfl⟩
theorem rep_str {w : World} {F : Nat → Prop} {look : Nat → Slot} {vs : Nat → Value} {x : ByteArray} {u : Value} {A : List Nat} (h : RepSlot w F look vs (.val .str .n x) u A) : u = .string x ∧ A = [] ∧ x.size ≤ 1099511627776 := by
  obtain ⟨cs, h1, h2⟩ := h
  simp only [Rep] at h1
  obtain ⟨h3, rfl, h4⟩ := h1
  exact ⟨h2, h3, h4⟩
theorem str_rep {w : World} {F : Nat → Prop} {look : Nat → Slot} {vs : Nat → Value} {x : ByteArray} (h : x.size ≤ 1099511627776) : RepSlot w F look vs (.val .str .n x) (.string x) [] :=
  ⟨[.string x], by simp only [Rep]; exact ⟨trivial, trivial, h⟩, rfl⟩

theorem wrap_range (k : IntKind) (n : Int) : k.min ≤ k.wrap n ∧ k.wrap n ≤ k.max := by
  cases k <;> simp only [IntKind.min, IntKind.max, IntKind.wrap, IntKind.signed, IntKind.bits] <;> simp <;> (try split) <;> omega

theorem zero_range (k : IntKind) : k.min ≤ 0 ∧ 0 ≤ k.max := by cases k <;> decide

theorem tmod_range (k : IntKind) (x y : Int) (hx : k.min ≤ x ∧ x ≤ k.max) : k.min ≤ x.tmod y ∧ x.tmod y ≤ k.max := by
  have h0 := zero_range k
  have habs : (x.tmod y).natAbs ≤ x.natAbs := by
    rw [Int.natAbs_tmod]; exact Nat.mod_le _ _
  rcases Int.le_total 0 x with h | h
  · have h1 := Int.tmod_nonneg y h
    omega
  · have h1 : 0 ≤ (-x).tmod y := Int.tmod_nonneg y (by omega)
    rw [Int.neg_tmod] at h1
    omega

theorem shr_range (k : IntKind) (x : Int) (n : Nat) (hx : k.min ≤ x ∧ x ≤ k.max) : k.min ≤ x.fdiv (2 ^ n) ∧ x.fdiv (2 ^ n) ≤ k.max := by
  have h0 := zero_range k
  have hp : (0 : Int) < 2 ^ n := Int.pow_pos (by decide)
  rw [Int.fdiv_eq_ediv_of_nonneg _ (Int.le_of_lt hp)]
  rcases Int.le_total 0 x with h | h
  · have h1 : 0 ≤ x / 2 ^ n := Int.ediv_nonneg h (Int.le_of_lt hp)
    have h2 : x / 2 ^ n ≤ x := Int.ediv_le_self _ h
    omega
  · have h1 : x ≤ x / 2 ^ n := by
      rw [Int.le_ediv_iff_mul_le hp]
      have : x * 2 ^ n ≤ x * 1 := Int.mul_le_mul_of_nonpos_left h (by omega)
      omega
    have h2 : x / 2 ^ n ≤ 0 := by
      have := Int.ediv_le_ediv hp h
      simpa using this
    omega

theorem ar_range (op : BinOp) (k : IntKind) (x y : Int) (hx : k.min ≤ x ∧ x ≤ k.max) : k.min ≤ arR op k x y ∧ arR op k x y ≤ k.max := by
  cases op <;> simp only [arR, bitsR] <;> first | exact wrap_range k _ | exact tmod_range k x y hx | exact shr_range k x _ hx

/-- Which operators of numbers ask for what. -/
def arObs (A : Alg) (op : BinOp) (y : Int) : List Prop :=
  match op with
  | .quo | .rem => [A.nz y]
  | .shl | .shr => [A.nn y]
  | _ => []
def opAr : BinOp → Bool
  | .add | .sub | .mul | .quo | .rem | .and | .or | .xor | .andNot | .shl | .shr => true
  | _ => false
def opSh : BinOp → Bool
  | .shl | .shr => true
  | _ => false
def opCmp : BinOp → Bool
  | .eql | .neq | .lss | .leq | .gtr | .geq => true
  | _ => false
def kEq (k k' : IntKind) : Bool := decide (k = k')

def obsAll (l : List Prop) : Prop := ∀ p ∈ l, p

def aAri (A : Alg) (op : BinOp) (k : IntKind) (x y : Slot) : Option (List Prop × Slot) :=
  match x, y with
  | .val (.int k1) .n a, .val (.int k2) .n b => if kEq k1 k && (opSh op || kEq k2 k) then some (arObs A op b, .val (.int k) .n (A.ar op k a b)) else none
  | _, _ => none

theorem run_eqGuard_int (P : Program) (w : World) (op : BinOp) (T : TypeId) (x y : Operand) (k k' : IntKind) (a b : Int) : (eqGuard op T x y (.int k a) (.int k' b)).run P w = .ok () w := by
  unfold eqGuard
  split <;> rfl

theorem aAri_inv {A : Alg} {op : BinOp} {k : IntKind} {sx sy s : Slot} {obs : List Prop} (h : aAri A op k sx sy = some (obs, s)) :
    ∃ (k2 : IntKind) (m n : Int), sx = .val (.int k) .n m ∧ sy = .val (.int k2) .n n ∧ (opSh op = true ∨ k2 = k) ∧ obs = arObs A op n ∧ s = .val (.int k) .n (A.ar op k m n) := by
  unfold aAri at h
  split at h
  · rename_i k1 n1 k2 n2
    split at h
    · rename_i hk
      simp only [Bool.and_eq_true, Bool.or_eq_true, kEq, decide_eq_true_eq] at hk
      obtain ⟨rfl, hk2⟩ := hk
      simp only [Option.some.injEq, Prod.mk.injEq] at h
      exact ⟨k2, n1, n2, rfl, rfl, hk2, h.1.symm, h.2.symm⟩
    · cases h
  · cases h

theorem aAri_sound {E : Env} {σ : List Slot} {a : Act} {w : World} {o : Oper} {op : BinOp} {k : IntKind} {T yT : TypeId} {x y : Operand} (ho : o.op = .binOp op T x y yT) (hop : opAr op = true) {sx sy s : Slot} {obs : List Prop} {A1 A2 : List Nat}
    (hx : RepSlot w E.F (lk σ) (vl a) sx (a.eval x) A1) (hy : RepSlot w E.F (lk σ) (vl a) sy (a.eval y) A2) (h : aAri real0 op k sx sy = some (obs, s)) (hobs : obsAll obs) : Yld E σ a w s (execOp a.eval o) := by
  obtain ⟨k2, n1, n2, rfl, rfl, hk2, rfl, rfl⟩ := aAri_inv h
  obtain ⟨e1, _, r1⟩ := rep_int hx
  obtain ⟨e2, _, r2⟩ := rep_int hy
  refine Yld.pure (v := .int k (arR op k n1 n2)) ?_ (int_rep (ar_range op k n1 n2 r1))
  simp only [execOp, ho, e1, e2, Sem.run_bind, run_eqGuard_int, Result.andThen_ok]
  cases op <;> simp [opAr] at hop <;> simp only [arObs, obsAll, List.mem_singleton, forall_eq, opSh, Bool.false_eq_true, false_or] at hobs hk2 <;> (try subst hk2) <;>
    simp only [binOp, Op.shift, Op.intArith, Op.intDiv, Op.intBits, arR, bitsR, ne_eq, not_true_eq_false, if_false]
  case quo | rem => rw [if_neg (show ¬ n2 = 0 from hobs)]; rfl
  case shl | shr =>
    rw [if_neg (show ¬ n2 < 0 from Int.not_lt.2 hobs)]; rfl
  all_goals rfl

/-! ### Comparisons -/
def aCmp (A : Alg) (op : BinOp) (x y : Slot) : Option (List Prop × Slot) :=
  match x, y with
  | .val (.int k1) .n a, .val (.int k2) .n b => if kEq k1 k2 then some ([], .val .bool .n (A.cmp op a b)) else none
  | _, _ => none
theorem aCmp_inv {A : Alg} {op : BinOp} {sx sy s : Slot} {obs : List Prop} (h : aCmp A op sx sy = some (obs, s)) :
    ∃ (k : IntKind) (m n : Int), sx = .val (.int k) .n m ∧ sy = .val (.int k) .n n ∧ s = .val .bool .n (A.cmp op m n) := by
  unfold aCmp at h
  split at h
  · rename_i k1 n1 k2 n2
    split at h
    · rename_i hk
      simp only [kEq, decide_eq_true_eq] at hk
      subst hk
      simp only [Option.some.injEq, Prod.mk.injEq] at h
      exact ⟨k1, n1, n2, rfl, rfl, h.2.symm⟩
    · cases h
  · cases h
theorem aCmp_sound {E : Env} {σ : List Slot} {a : Act} {w : World} {o : Oper} {op : BinOp} {T yT : TypeId} {x y : Operand} (ho : o.op = .binOp op T x y yT) (hop : opCmp op = true) {sx sy s : Slot} {obs : List Prop} {A1 A2 : List Nat}
    (hx : RepSlot w E.F (lk σ) (vl a) sx (a.eval x) A1) (hy : RepSlot w E.F (lk σ) (vl a) sy (a.eval y) A2) (h : aCmp real0 op sx sy = some (obs, s)) : Yld E σ a w s (execOp a.eval o) := by
  obtain ⟨k, n1, n2, rfl, rfl, rfl⟩ := aCmp_inv h
  obtain ⟨e1, _, r1⟩ := rep_int hx
  obtain ⟨e2, _, r2⟩ := rep_int hy
  refine Yld.pure (v := .bool (cmpR op n1 n2)) ?_ bool_rep
  simp only [execOp, ho, e1, e2, Sem.run_bind, run_eqGuard_int, Result.andThen_ok]
  cases op <;> simp [opCmp] at hop <;> simp only [binOp, Op.intCmp, cmpR, ne_eq, not_true_eq_false, if_false] <;> rfl

/-! ### Strings -/
def aScmp (A : Alg) (op : BinOp) (x y : Slot) : Option (List Prop × Slot) :=
  match x, y with
  | .val .str .n a, .val .str .n b => some ([], .val .bool .n (A.scmp op a b))
  | _, _ => none
theorem aScmp_inv {A : Alg} {op : BinOp} {sx sy s : Slot} {obs : List Prop} (h : aScmp A op sx sy = some (obs, s)) :
    ∃ (m n : ByteArray), sx = .val .str .n m ∧ sy = .val .str .n n ∧ s = .val .bool .n (A.scmp op m n) := by
  unfold aScmp at h
  split at h
  · rename_i n1 n2
    simp only [Option.some.injEq, Prod.mk.injEq] at h
    exact ⟨n1, n2, rfl, rfl, h.2.symm⟩
  · cases h
theorem run_eqGuard_str (P : Program) (w : World) (op : BinOp) (T : TypeId) (x y : Operand) (a b : ByteArray) : (eqGuard op T x y (.string a) (.string b)).run P w = .ok () w := by
  unfold eqGuard
  split <;> rfl
theorem aScmp_sound {E : Env} {σ : List Slot} {a : Act} {w : World} {o : Oper} {op : BinOp} {T yT : TypeId} {x y : Operand} (ho : o.op = .binOp op T x y yT) (hop : opCmp op = true) {sx sy s : Slot} {obs : List Prop} {A1 A2 : List Nat}
    (hx : RepSlot w E.F (lk σ) (vl a) sx (a.eval x) A1) (hy : RepSlot w E.F (lk σ) (vl a) sy (a.eval y) A2) (h : aScmp real0 op sx sy = some (obs, s)) : Yld E σ a w s (execOp a.eval o) := by
  obtain ⟨n1, n2, rfl, rfl, rfl⟩ := aScmp_inv h
  obtain ⟨e1, _, r1⟩ := rep_str hx
  obtain ⟨e2, _, r2⟩ := rep_str hy
  refine Yld.pure (v := .bool (scmpR op n1 n2)) ?_ bool_rep
  simp only [execOp, ho, e1, e2, Sem.run_bind, run_eqGuard_str, Result.andThen_ok]
  cases op <;> simp [opCmp] at hop <;> simp only [binOp, Op.stringOp, scmpR] <;> rfl

def aScat (A : Alg) (x y : Slot) : Option (List Prop × Slot) :=
  match x, y with
  | .val .str .n a, .val .str .n b => some ([A.sml (A.slen (A.scat a b))], .val .str .n (A.scat a b))
  | _, _ => none
theorem aScat_inv {A : Alg} {sx sy s : Slot} {obs : List Prop} (h : aScat A sx sy = some (obs, s)) :
    ∃ (m n : ByteArray), sx = .val .str .n m ∧ sy = .val .str .n n ∧ obs = [A.sml (A.slen (A.scat m n))] ∧ s = .val .str .n (A.scat m n) := by
  unfold aScat at h
  split at h
  · rename_i n1 n2
    simp only [Option.some.injEq, Prod.mk.injEq] at h
    exact ⟨n1, n2, rfl, rfl, h.1.symm, h.2.symm⟩
  · cases h
theorem aScat_sound {E : Env} {σ : List Slot} {a : Act} {w : World} {o : Oper} {T yT : TypeId} {x y : Operand} (ho : o.op = .binOp .add T x y yT) {sx sy s : Slot} {obs : List Prop} {A1 A2 : List Nat}
    (hx : RepSlot w E.F (lk σ) (vl a) sx (a.eval x) A1) (hy : RepSlot w E.F (lk σ) (vl a) sy (a.eval y) A2) (h : aScat real0 sx sy = some (obs, s)) (hobs : obsAll obs) : Yld E σ a w s (execOp a.eval o) := by
  obtain ⟨n1, n2, rfl, rfl, rfl, rfl⟩ := aScat_inv h
  obtain ⟨e1, _, r1⟩ := rep_str hx
  obtain ⟨e2, _, r2⟩ := rep_str hy
  have hb : (((n1 ++ n2).size : Nat) : Int) ≤ 1099511627776 := hobs _ (List.mem_singleton.2 rfl)
  refine Yld.pure (v := .string (n1 ++ n2)) ?_ (str_rep (by show (n1 ++ n2).size ≤ _; omega))
  simp only [execOp, ho, e1, e2, Sem.run_bind, run_eqGuard_str, Result.andThen_ok, binOp, Op.stringOp]
  rw [if_neg]
  · rfl
  · rw [ByteArray.size_append] at hb
    show ¬ ((n1.size + n2.size : Nat) : Int) > 9223372036854775807
    omega

/-! ### One operand -/
def aUna (A : Alg) (op : UnOp) (x : Slot) : Option (List Prop × Slot) :=
  match op, x with
  | .not, .val .bool .n b => some ([], .val .bool .n (A.bnot b))
  | .neg, .val (.int k) .n n => some ([], .val (.int k) .n (A.una .neg k n))
  | .xor, .val (.int k) .n n => some ([], .val (.int k) .n (A.una .xor k n))
  | _, _ => none
theorem aUna_inv {A : Alg} {op : UnOp} {sx s : Slot} {obs : List Prop} (h : aUna A op sx = some (obs, s)) :
    (op = .not ∧ ∃ b : Bool, sx = .val .bool .n b ∧ s = .val .bool .n (A.bnot b)) ∨ ((op = .neg ∨ op = .xor) ∧ ∃ (k : IntKind) (n : Int), sx = .val (.int k) .n n ∧ s = .val (.int k) .n (A.una op k n)) := by
  unfold aUna at h
  split at h
  · rename_i b
    simp only [Option.some.injEq, Prod.mk.injEq] at h
    exact .inl ⟨rfl, b, rfl, h.2.symm⟩
  · rename_i k n
    simp only [Option.some.injEq, Prod.mk.injEq] at h
    exact .inr ⟨by simp, k, n, rfl, h.2.symm⟩
  · rename_i k n
    simp only [Option.some.injEq, Prod.mk.injEq] at h
    exact .inr ⟨by simp, k, n, rfl, h.2.symm⟩
  · cases h
theorem aUna_sound {E : Env} {σ : List Slot} {a : Act} {w : World} {o : Oper} {op : UnOp} {T : TypeId} {x : Operand} (ho : o.op = .unOp op T x) {sx s : Slot} {obs : List Prop} {A1 : List Nat}
    (hx : RepSlot w E.F (lk σ) (vl a) sx (a.eval x) A1) (h : aUna real0 op sx = some (obs, s)) : Yld E σ a w s (execOp a.eval o) := by
  rcases aUna_inv h with ⟨rfl, b, rfl, rfl⟩ | ⟨hne, k, n, rfl, rfl⟩
  · obtain ⟨e1, _⟩ := rep_bool hx
    refine Yld.pure (v := .bool (!b)) ?_ bool_rep
    simp only [execOp, ho, e1, Op.unary]; rfl
  · obtain ⟨e1, _, r1⟩ := rep_int hx
    have hr : k.min ≤ unaR op k n ∧ unaR op k n ≤ k.max := by rcases hne with rfl | rfl <;> exact wrap_range k _
    refine Yld.pure (v := .int k (unaR op k n)) ?_ (int_rep hr)
    simp only [execOp, ho, e1]
    rcases hne with rfl | rfl
    · simp only [Op.unary, unaR, Op.intArith]; rfl
    · simp only [Op.unary, unaR, bitsR, Op.intBits]; rfl

def aConv (A : Alg) (k : IntKind) (x : Slot) : Option (List Prop × Slot) :=
  match x with
  | .val (.int _) .n n => some ([], .val (.int k) .n (A.conv k n))
  | _ => none
theorem aConv_inv {A : Alg} {k : IntKind} {sx s : Slot} {obs : List Prop} (h : aConv A k sx = some (obs, s)) : ∃ (k' : IntKind) (n : Int), sx = .val (.int k') .n n ∧ s = .val (.int k) .n (A.conv k n) := by
  unfold aConv at h
  split at h
  · rename_i k' n
    simp only [Option.some.injEq, Prod.mk.injEq] at h
    exact ⟨k', n, rfl, h.2.symm⟩
  · cases h
theorem aConv_sound {E : Env} {σ : List Slot} {a : Act} {w : World} {o : Oper} {k : IntKind} {S T : TypeId} {x : Operand} (ho : o.op = .convert S T x) (hT : E.P.underlying T = some (.int k)) (hS : ∃ k', E.P.underlying S = some (.int k')) {sx s : Slot} {obs : List Prop} {A1 : List Nat}
    (hx : RepSlot w E.F (lk σ) (vl a) sx (a.eval x) A1) (h : aConv real0 k sx = some (obs, s)) : Yld E σ a w s (execOp a.eval o) := by
  obtain ⟨k', n, rfl, rfl⟩ := aConv_inv h
  obtain ⟨e1, _, r1⟩ := rep_int hx
  obtain ⟨k0, hS⟩ := hS
  refine Yld.pure (v := .int k (k.wrap n)) ?_ (int_rep (wrap_range k n))
  simp [execOp, ho, e1, convert, underlying, hS, hT, Conv.intToInt]

end Go.Proofs.Ytaachifkgcdeoaa.Sy

namespace Go.Proofs.Ytaachifkgcdeoaa.Sy
open Go.RowKit
set_option linter.unusedSimpArgs false
set_option linter.unusedVariables false

/-! ### The program's types -/
mutual
/-- The zero value's cells. -/
def zeroC : PT → List Value
  | .int k => [.int k 0]
  | .bool => [.bool false]
  | .str => [.string ⟨#[]⟩]
  | .list _ => [.slice none 0 0]
  | .arr n t => (List.replicate n (zeroC t)).flatten
  | .st ts => zeroCL ts
  | .box _ => [.pointer none]
def zeroCL : List PT → List Value
  | [] => []
  | t :: ts => zeroC t ++ zeroCL ts
end

structure TI (P : Program) (T : TypeId) (t : PT) : Prop where
  out : ∃ i, P.info? T = some i ∧ i.size = t.size ∧ i.zero = some (wrapV t (zeroC t)) ∧ i.bytes ≤ 4096
  pos : 0 < t.size

mutual
def TyOk (P : Program) : PT → TypeId → Prop
  | .int k, T => TI P T (.int k) ∧ P.underlying T = some (.int k)
  | .bool, T => TI P T .bool ∧ P.underlying T = some .bool
  | .str, T => TI P T .str ∧ P.underlying T = some .string
  | .list t, T => TI P T (.list t) ∧ ∃ e, P.underlying T = some (.slice e) ∧ TyOk P t e
  | .arr n t, T => TI P T (.arr n t) ∧ ∃ e, P.underlying T = some (.array n e) ∧ TyOk P t e
  | .st ts, T => TI P T (.st ts) ∧ ∃ fs, P.underlying T = some (.struct fs) ∧ TyOkL P ts 0 fs.toList
  | .box t, T => TI P T (.box t) ∧ ∃ e, P.underlying T = some (.pointer e) ∧ TyOk P t e
def TyOkL (P : Program) : List PT → Nat → List Field → Prop
  | [], _, [] => True
  | t :: ts, off, f :: fs => f.offset = off ∧ TyOk P t f.type ∧ TyOkL P ts (off + t.size) fs
  | _, _, _ => False
end

theorem TyOk.ti {P : Program} : ∀ {t : PT} {T : TypeId}, TyOk P t T → TI P T t
  | .int _, _, h => h.1
  | .bool, _, h => h.1
  | .str, _, h => h.1
  | .list _, _, h => h.1
  | .arr _ _, _, h => h.1
  | .st _, _, h => h.1
  | .box _, _, h => h.1

theorem TyOk.sizeOf {P : Program} {t : PT} {T : TypeId} (h : TyOk P t T) (w : World) : (sizeOf T).run P w = .ok t.size w := by
  obtain ⟨i, h1, h2, _⟩ := h.ti.out
  simp [Go.sizeOf, typeInfo, h1, h2]

theorem TyOk.isAgg {P : Program} {t : PT} {T : TypeId} (h : TyOk P t T) (w : World) : (isAgg T).run P w = .ok t.isAgg w := by
  cases t <;> simp only [TyOk] at h
  case list => obtain ⟨_, e, h, _⟩ := h; simp [Go.isAgg, underlying, h, PT.isAgg]
  case arr => obtain ⟨_, e, h, _⟩ := h; simp [Go.isAgg, underlying, h, PT.isAgg]
  case st => obtain ⟨_, e, h, _⟩ := h; simp [Go.isAgg, underlying, h, PT.isAgg]
  case box => obtain ⟨_, e, h, _⟩ := h; simp [Go.isAgg, underlying, h, PT.isAgg]
  all_goals simp [Go.isAgg, underlying, h.2, PT.isAgg]

theorem TyOkL.at {P : Program} : ∀ {ts : List PT} {off : Nat} {fs : List Field} {i : Nat} {t : PT}, TyOkL P ts off fs → ts[i]? = some t → ∃ f, fs[i]? = some f ∧ f.offset = off + PT.sizeL (ts.take i) ∧ TyOk P t f.type
  | [], _, _, _, _, _, h => by simp at h
  | t :: ts, off, [], _, _, h, _ => by simp [TyOkL] at h
  | t :: ts, off, f :: fs, 0, t', h, ht => by
    simp only [TyOkL] at h
    simp only [List.getElem?_cons_zero, Option.some.injEq] at ht
    subst ht
    exact ⟨f, rfl, by simp [h.1, PT.sizeL], h.2.1⟩
  | t :: ts, off, f :: fs, i + 1, t', h, ht => by
    simp only [TyOkL] at h
    obtain ⟨g, h1, h2, h3⟩ := TyOkL.at h.2.2 (by simpa using ht)
    exact ⟨g, by simpa using h1, by rw [h2]; simp only [List.take_succ_cons, PT.sizeL]; omega, h3⟩

/-! ### Longer paths -/
theorem getP_append {A : Alg} : ∀ (p q : List Stp) (t : PT) (m : Md) (x : t.den), getP A t m x (p ++ q) = match getP A t m x p with
    | some v => getP A v.t v.m v.x q
    | none => none
  | [], q, t, m, x => by simp [getP]
  | s :: p, q, t, m, x => by
    cases t <;> cases s <;> cases m <;> simp only [List.cons_append, getP] <;> first
      | exact getP_append p q _ _ _
      | (split <;> first | exact getP_append p q _ _ _ | rfl)
      | rfl

theorem loc_append {w : World} {A : Alg} : ∀ (p q : List Stp) (t : PT) (m : Md) (x : t.den) (v : TV) (cur : Option (Nat × Nat)) (cs : List Value), getP A t m x p = some v → loc w t cur cs (p ++ q) = match loc w t cur cs p with
    | some (c', cs') => loc w v.t c' cs' q
    | none => none
  | [], q, t, m, x, v, cur, cs, h => by
    simp only [getP, Option.some.injEq] at h
    subst h
    simp [loc]
  | s :: p, q, t, m, x, v, cur, cs, h => by
    rcases getP_cases h with ⟨ts, i, rfl, rfl⟩ | ⟨n, t1, k, rfl, rfl⟩ | ⟨t1, m1, k, rfl, rfl, rfl⟩ | ⟨t1, m1, rfl, rfl, rfl⟩
    · have hm : m = .n ∨ ∃ ms, m = .s ms := by cases m <;> simp_all [getP]
      have hgx : ∃ u, fldP ts m 0 x i = some u ∧ getP A u.t u.m u.x p = some v := by
        rcases hm with rfl | ⟨ms, rfl⟩
        all_goals
          simp only [getP] at h
          split at h
          · exact ⟨_, by assumption, h⟩
          · cases h
      obtain ⟨u, hu, hgu⟩ := hgx
      have key : ∀ (ts : List PT) (m : Md) (i0 : Nat) (x : PT.denL ts) (i : Nat) (u : TV), fldP ts m i0 x i = some u → ts[i]? = some u.t := by
        intro ts
        induction ts with
        | nil => intro m i0 x i u h; simp [fldP] at h
        | cons t ts ih =>
          intro m i0 x i u h
          cases i with
          | zero => simp only [fldP, Option.some.injEq] at h; subst h; rfl
          | succ i => simp only [fldP] at h; simpa using ih _ _ _ _ _ h
      have hti := key ts m 0 x i u hu
      simp only [List.cons_append, loc, hti]
      exact loc_append p q u.t u.m u.x v _ _ hgu
    · have hm : ∃ m1, getP A t1 m1 (A.get t1 x k) p = some v := by
        cases m <;> simp [getP] at h
        · exact ⟨_, h⟩
        · exact ⟨_, h⟩
      obtain ⟨m1, h1⟩ := hm
      simp only [List.cons_append, loc]
      split
      · exact loc_append p q t1 m1 _ v _ _ h1
      · rfl
    · simp only [getP] at h
      simp only [List.cons_append, loc]
      split
      · split
        · exact loc_append p q t1 m1 _ v _ _ h
        · rfl
      · rfl
    · simp only [getP] at h
      simp only [List.cons_append, loc]
      split
      · exact loc_append p q t1 m1 _ v _ _ h
      · rfl

/-! ### What stands in a slot -/
def cont (A : Alg) (look : Nat → Slot) : Slot → Option TV
  | .val t m x => some ⟨t, m, x⟩
  | .bor k p => match look k with
    | .val t m x => getP A t m x p
    | _ => none
  | _ => none

theorem root_rep {E : Env} {σ : List Slot} {a : Act} {w : World} {fl : List Nat} (h : RepSt E σ a w fl) {k : Nat} {p : List Stp} {v : TV} {cur : Option (Nat × Nat)} {cs' : List Value} (hr : Rooted w (lk σ) (vl a) k p v cur cs') :
    ∃ A, A.Nodup ∧ (∀ b ∈ A, b < w.heap.size) ∧ Rep w E.F v.t v.m v.x cs' A ∧ Laid w v.t.size cur cs' A := by
  obtain ⟨_, _, _, ow, how, _, _, hsl⟩ := h
  obtain ⟨Ak, hA1, hA2, hA3⟩ := hsl k
  obtain ⟨t, m, x, cs, e1, e2, hrep, hg, hl⟩ := rooted_rep hA3 hr
  obtain ⟨Actx, A', hp, h1, h2, _⟩ := path_law w E.F p t m x cs none Ak v cur cs' hrep hA1 (laid_none _ _ _ _) hg hl
  have hn := hp.nodup_iff.1 hA1
  rw [List.nodup_append] at hn
  exact ⟨A', hn.2.1, fun b hb => (how b k (hA2 b (hp.mem_iff.2 (by simp [hb])))).2, h1, h2⟩

theorem cont_rep {E : Env} {σ : List Slot} {a : Act} {w : World} {fl : List Nat} (h : RepSt E σ a w fl) {look : Nat → Slot} (hl : Looks look σ) {s : Slot} {u : Value} {A : List Nat} (hs : RepSlot w E.F (lk σ) (vl a) s u A) (hA : A.Nodup) {v : TV} (hc : cont real0 look s = some v) :
    ∃ cs A', A'.Nodup ∧ Rep w E.F v.t v.m v.x cs A' ∧ u = wrapV v.t cs := by
  cases s <;> simp only [cont] at hc <;> try (cases hc; done)
  · simp only [Option.some.injEq] at hc
    subst hc
    obtain ⟨cs, h1, h2⟩ := hs
    exact ⟨cs, A, hA, h1, h2⟩
  · rename_i k p
    split at hc
    case h_2 => cases hc
    rename_i t m x hk
    obtain ⟨_, v', cur, cs', hr, hu⟩ := hs
    have hk' : lk σ k = .val t m x := by
      rcases hl k with e | e
      · rw [hk] at e; cases e
      · exact e.symm.trans hk
    have hv : v' = v := by
      obtain ⟨t0, m0, x0, cs0, e1, _, _, _, e5, _⟩ := hr
      rw [hk'] at e1
      simp only [Slot.val.injEq] at e1
      obtain ⟨rfl, rfl, e1⟩ := e1
      obtain rfl := eq_of_heq e1
      rw [hc] at e5
      exact (Option.some.inj e5).symm
    subst hv
    obtain ⟨A', h1, _, h3, _⟩ := root_rep h hr
    exact ⟨cs', A', h1, h3, hu⟩

/-- A pointer's place, where what stands there is known. -/
theorem ref_rooted {E : Env} {σ : List Slot} {a : Act} {w : World} {fl : List Nat} (h : RepSt E σ a w fl) {k : Nat} {p : List Stp} {u : Value} {A : List Nat} (hs : RepSlot w E.F (lk σ) (vl a) (.ref k p) u A) {t : PT} {m : Md} {x : t.den} (hk : lk σ k = .val t m x)
    {v : TV} (hg : getP real0 t m x p = some v) : ∃ b off cs', u = .pointer (some ⟨b, off, none⟩) ∧ Rooted w (lk σ) (vl a) k p v (some (b, off)) cs' := by
  obtain ⟨_, b, off, hu, h1⟩ := hs
  refine ⟨b, off, ?_⟩
  rcases h1 with ⟨t1, m1, x1, p', cs', e1, rfl, e3, e4, e5⟩ | ⟨v', cs', hr⟩
  · rw [hk] at e1
    simp only [Slot.val.injEq] at e1
    obtain ⟨rfl, rfl, e1⟩ := e1
    obtain rfl := eq_of_heq e1
    exact ⟨cs', hu, .box t1, .b m1, x, [.pointer (some ⟨b, 0, none⟩)], hk, rfl, e4, rfl, hg, e5⟩
  · have hv : v' = v := by
      obtain ⟨t0, m0, x0, cs0, e1, _, _, _, e5, _⟩ := hr
      rw [hk] at e1
      simp only [Slot.val.injEq] at e1
      obtain ⟨rfl, rfl, e1⟩ := e1
      obtain rfl := eq_of_heq e1
      rw [hg] at e5
      exact (Option.some.inj e5).symm
    subst hv
    exact ⟨cs', hu, hr⟩

/-- One step further. -/
theorem rooted_step {w : World} {look : Nat → Slot} {vs : Nat → Value} {k : Nat} {p : List Stp} {v v2 : TV} {cur cur2 : Option (Nat × Nat)} {cs' cs2 : List Value} {q : List Stp} (hr : Rooted w look vs k p v cur cs') (hg : getP real0 v.t v.m v.x q = some v2)
    (hl : loc w v.t cur cs' q = some (cur2, cs2)) : Rooted w look vs k (p ++ q) v2 cur2 cs2 := by
  obtain ⟨t, m, x, cs, e1, e2, e3, e4, e5, e6⟩ := hr
  refine ⟨t, m, x, cs, e1, e2, e3, e4, ?_, ?_⟩
  · rw [getP_append, e5]; exact hg
  · rw [loc_append p q t m x v none cs e5, e6]; exact hl

end Go.Proofs.Ytaachifkgcdeoaa.Sy

namespace Go.Proofs.Ytaachifkgcdeoaa.Sy
open Go.RowKit
set_option linter.unusedSimpArgs false
set_option linter.unusedVariables false

mutual
/-- Nothing is owned and nothing unknown: a value that may be copied. -/
def Md.plain : Md → Bool
  | .n => true
  | .a m => m.plain
  | .s ms => Md.plainL ms
  | _ => false
def Md.plainL : List Md → Bool
  | [] => true
  | m :: ms => m.plain && Md.plainL ms
end

mutual
/-- The same, of a type: no field is left out. -/
def plainT : PT → Md → Bool
  | _, .n => true
  | .arr _ t, .a m => plainT t m
  | .st ts, .s ms => plainTL ts ms
  | _, _ => false
def plainTL : List PT → List Md → Bool
  | [], [] => true
  | t :: ts, m :: ms => plainT t m && plainTL ts ms
  | _, _ => false
end

/-- What is read at a place: copied where nothing is owned, else remembered as standing there. -/
def rdSlot (k : Nat) (p : List Stp) (v : TV) : Option Slot :=
  if plainT v.t v.m then some (.val v.t .n v.x) else if v.m.owned then (match v.t with
    | .box _ => some (.ref k (p ++ [.d]))
    | _ => some (.bor k p)) else none

def rootV (look : Nat → Slot) (k : Nat) : Option TV := match look k with
  | .val t m x => some ⟨t, m, x⟩
  | _ => none

theorem rootV_eq {look : Nat → Slot} {σ : List Slot} (hl : Looks look σ) {k : Nat} {v : TV} (h : rootV look k = some v) : lk σ k = .val v.t v.m v.x := by
  unfold rootV at h
  split at h
  · rename_i t m x hk
    simp only [Option.some.injEq] at h
    subst h
    rcases hl k with e | e
    · rw [hk] at e; cases e
    · exact e.symm.trans hk
  · cases h

/-! ### Addresses -/
theorem add_plain0 (b off n : Nat) : (⟨b, off, none⟩ : Addr).add n = ⟨b, off + n, none⟩ := by unfold Addr.add; split <;> simp_all

theorem fldP_at {ts : List PT} {m : Md} {i0 : Nat} {x : PT.denL ts} {i : Nat} {u : TV} (h : fldP ts m i0 x i = some u) : ts[i]? = some u.t := by
  induction ts generalizing i0 i with
  | nil => simp [fldP] at h
  | cons t ts ih =>
    cases i with
    | zero => simp only [fldP, Option.some.injEq] at h; subst h; rfl
    | succ i => simp only [fldP] at h; simpa using ih h

theorem fldP_n {ts : List PT} {i0 : Nat} {x : PT.denL ts} {i : Nat} {u : TV} (h : fldP ts .n i0 x i = some u) : u.m = .n := by
  induction ts generalizing i0 i with
  | nil => simp [fldP] at h
  | cons t ts ih =>
    cases i with
    | zero => simp only [fldP, Option.some.injEq] at h; subst h; rfl
    | succ i => simp only [fldP] at h; exact ih h

theorem run_fieldAt {P : Program} {S : TypeId} {ts : List PT} (hS : TyOk P (.st ts) S) {i : Nat} {t : PT} (ht : ts[i]? = some t) (b off : Nat) (w : World) :
    (Instr.fieldAt S (.pointer (some ⟨b, off, none⟩)) i).run P w = .ok (.pointer (some ⟨b, off + PT.sizeL (ts.take i), none⟩)) w := by
  simp only [TyOk] at hS
  obtain ⟨_, fs, h1, h2⟩ := hS
  obtain ⟨f, h3, h4, h5⟩ := h2.at ht
  have h3' : fs[i]? = some f := by simpa using h3
  have h6 := h5.sizeOf w
  have h7 := h5.ti.pos
  simp only [Nat.zero_add] at h4
  simp [Instr.fieldAt, underlying, h1, h3', Instr.sureAddr, fieldPlace, h6, Nat.pos_iff_ne_zero.1 h7, add_plain0, h4]


def aFadr (A : Alg) (look : Nat → Slot) (tS : List PT) (i : Nat) (x : Slot) : Option (List Prop × Slot) :=
  match x with
  | .ref k p => match rootV look k with
    | some r => match getP A r.t r.m r.x p with
      | some v => if PT.beq v.t (.st tS) then (match getP A v.t v.m v.x [.f i] with
        | some _ => some ([], .ref k (p ++ [.f i]))
        | none => none) else none
      | none => none
    | none => none
  | .pv t y => match castT t (.st tS) y with
    | some y => match fldP tS .n 0 y i with
      | some v => some ([], .pv v.t v.x)
      | none => none
    | none => none
  | _ => none

theorem rep_nil {w : World} {F : Nat → Prop} {b off n : Nat} {c : Array Value} {c1 d c2 : List Value} {A1 A' A2 : List Nat} (hA : ([] : List Nat) = A1 ++ (A' ++ A2)) : A' = [] := by
  have := congrArg List.length hA
  simp at this
  exact List.eq_nil_of_length_eq_zero (by omega)

theorem aFadr_sound {E : Env} {σ : List Slot} {a : Act} {w : World} (hst : RepState E σ a w) {look : Nat → Slot} (hlk : Looks look σ) {o : Oper} {S : TypeId} {x : Operand} {i : Nat} (ho : o.op = .fieldAddr S x i) {ts : List PT} (hS : TyOk E.P (.st ts) S) {sx s : Slot} {obs : List Prop} {A1 : List Nat}
    (hx : RepSlot w E.F (lk σ) (vl a) sx (a.eval x) A1) (h : aFadr real0 look ts i sx = some (obs, s)) : Yld E σ a w s (execOp a.eval o) := by
  unfold aFadr at h
  split at h
  · rename_i k p
    split at h
    case h_2 => cases h
    rename_i r hr
    split at h
    case h_2 => cases h
    rename_i v hg
    split at h
    case isFalse => cases h
    rename_i hb
    split at h
    case h_2 => cases h
    rename_i v2 hg2
    simp only [Option.some.injEq, Prod.mk.injEq] at h
    obtain ⟨_, rfl⟩ := h
    obtain ⟨vt, m, y⟩ := v
    dsimp only at hb hg2
    obtain rfl := PT.eq_of_beq hb
    obtain ⟨b, off, cs', hu, hroot⟩ := ref_rooted hst hx (rootV_eq hlk hr) hg
    have hti : ts[i]? = some v2.t := by
      cases m <;> simp only [getP] at hg2 <;> try (cases hg2; done)
      all_goals
        split at hg2
        · rename_i u hu2
          simp only [Option.some.injEq] at hg2
          subst hg2
          exact fldP_at hu2
        · cases hg2
    refine Yld.pure (v := .pointer (some ⟨b, off + PT.sizeL (ts.take i), none⟩)) ?_ ⟨rfl, b, _, rfl, .inr ⟨v2, _, rooted_step hroot hg2 (by simp only [loc, hti]; rfl)⟩⟩
    simp only [execOp, ho, hu, Sem.run_bind, run_fieldAt hS hti, Result.andThen_ok]
    rfl
  · rename_i t y
    split at h
    case h_2 => cases h
    rename_i y' hc
    obtain ⟨rfl, rfl⟩ := castT_some hc
    split at h
    case h_2 => cases h
    rename_i v hv
    simp only [Option.some.injEq, Prod.mk.injEq] at h
    obtain ⟨_, rfl⟩ := h
    obtain ⟨_, b, off, c, e, fr, hu, hF, hb, hsz, hrep⟩ := hx
    simp only [Rep] at hrep
    obtain ⟨c1, d, c2, B1, B', B2, hcs, hB, hl, hti, hv2, _⟩ := fld_at ts .n 0 y' _ [] i v hrep hv
    obtain rfl := rep_nil (w := w) (F := E.F) (b := 0) (off := 0) (n := 0) (c := #[]) (c1 := []) (d := []) (c2 := []) hB
    have hd := rep_length _ _ _ _ _ hv2
    refine Yld.pure (v := .pointer (some ⟨b, off + PT.sizeL (ts.take i), none⟩)) ?_ ⟨rfl, b, _, c, e, fr, rfl, hF, hb, ?_, ?_⟩
    · simp only [execOp, ho, hu, Sem.run_bind, run_fieldAt hS hti, Result.andThen_ok]
      rfl
    · have h8 := congrArg List.length hcs
      have h9 : (PT.st ts).size = PT.sizeL ts := rfl
      simp [hl, hd] at h8
      omega
    · have h8 := seg_inner (n := (PT.st ts).size) rfl (by simpa using hsz) hcs
      rw [hl, hd] at h8
      rw [← h8, ← fldP_n hv]
      exact hv2
  · cases h

/-! ### An array's element's address -/
def asI (s : Slot) : Option Int := match s with
  | .val (.int _) .n i => some i
  | _ => none

theorem asI_rep {w : World} {F : Nat → Prop} {look : Nat → Slot} {vs : Nat → Value} {s : Slot} {u : Value} {A : List Nat} {i : Int} (h : RepSlot w F look vs s u A) (hi : asI s = some i) : ∃ k, u = .int k i ∧ k.min ≤ i ∧ i ≤ k.max := by
  unfold asI at hi
  split at hi
  · rename_i k n
    obtain rfl := Option.some.inj hi
    obtain ⟨h1, _, h2⟩ := rep_int h
    exact ⟨k, h1, h2⟩
  · cases hi

theorem getD_at {α : Type} (xs : List α) (i : Nat) (d : α) (h : i < xs.length) : xs.getD i d = xs[i] := by
  simp [List.getD_eq_getElem?_getD, List.getElem?_eq_getElem h]

def aIadrA (A : Alg) (look : Nat → Slot) (n : Nat) (te : PT) (x y : Slot) : Option (List Prop × Slot) :=
  match asI y with
  | some i => match x with
    | .ref k p => match rootV look k with
      | some r => match getP A r.t r.m r.x p with
        | some v => if PT.beq v.t (.arr n te) then (match getP A v.t v.m v.x [.i i] with
          | some _ => some ([A.inb i n], .ref k (p ++ [.i i]))
          | none => none) else none
        | none => none
      | none => none
    | .pv t z => match castT t (.arr n te) z with
      | some z => some ([A.inb i n], .pv te (A.get te z i))
      | none => none
    | _ => none
  | none => none

theorem run_indexAt_arr {P : Program} {T : TypeId} {n : Nat} {te : PT} (hT : TyOk P (.arr n te) T) {k : IntKind} {i : Int} (hi : 0 ≤ i ∧ i < n) (b off : Nat) (w : World) :
    (Instr.indexAt T (.pointer (some ⟨b, off, none⟩)) (.int k i)).run P w = .ok (.pointer (some ⟨b, off + i.toNat * te.size, none⟩)) w := by
  simp only [TyOk] at hT
  obtain ⟨_, e, h1, h2⟩ := hT
  simp [Instr.indexAt, asIntOf, underlying, h1, Instr.sureAddr, hi, h2.sizeOf w, add_plain0]

theorem aIadrA_sound {E : Env} {σ : List Slot} {a : Act} {w : World} (hst : RepState E σ a w) {look : Nat → Slot} (hlk : Looks look σ) {o : Oper} {T : TypeId} {x y : Operand} (ho : o.op = .indexAddr T x y) {n : Nat} {te : PT} (hT : TyOk E.P (.arr n te) T) {sx sy s : Slot} {obs : List Prop} {A1 A2 : List Nat}
    (hx : RepSlot w E.F (lk σ) (vl a) sx (a.eval x) A1) (hy : RepSlot w E.F (lk σ) (vl a) sy (a.eval y) A2) (h : aIadrA real0 look n te sx sy = some (obs, s)) (hobs : obsAll obs) : Yld E σ a w s (execOp a.eval o) := by
  unfold aIadrA at h
  split at h
  case h_2 => cases h
  rename_i i hi
  obtain ⟨ki, hyi, _⟩ := asI_rep hy hi
  split at h
  · rename_i k p
    split at h
    case h_2 => cases h
    rename_i r hr
    split at h
    case h_2 => cases h
    rename_i v hg
    split at h
    case isFalse => cases h
    rename_i hb
    split at h
    case h_2 => cases h
    rename_i v2 hg2
    simp only [Option.some.injEq, Prod.mk.injEq] at h
    obtain ⟨rfl, rfl⟩ := h
    have hin : 0 ≤ i ∧ i < n := hobs _ (List.mem_singleton.2 rfl)
    obtain ⟨vt, m, z⟩ := v
    dsimp only at hb hg2
    obtain rfl := PT.eq_of_beq hb
    obtain ⟨b, off, cs', hu, hroot⟩ := ref_rooted hst hx (rootV_eq hlk hr) hg
    refine Yld.pure (v := .pointer (some ⟨b, off + i.toNat * te.size, none⟩)) ?_ ⟨rfl, b, _, rfl, .inr ⟨v2, _, rooted_step hroot hg2 (by simp only [loc, if_pos hin]; rfl)⟩⟩
    simp only [execOp, ho, hu, hyi, Sem.run_bind, run_indexAt_arr hT hin, Result.andThen_ok]
    rfl
  · rename_i t z
    split at h
    case h_2 => cases h
    rename_i z' hc
    obtain ⟨rfl, rfl⟩ := castT_some hc
    simp only [Option.some.injEq, Prod.mk.injEq] at h
    obtain ⟨rfl, rfl⟩ := h
    have hin : 0 ≤ i ∧ i < n := hobs _ (List.mem_singleton.2 rfl)
    obtain ⟨_, b, off, c, e, fr, hu, hF, hb, hsz, hrep⟩ := hx
    simp only [Rep] at hrep
    have hlt : i.toNat < List.length z' := by rw [hrep.1]; omega
    obtain ⟨c1, d, c2, B1, B', B2, hcs, hB, hl, hv2, _⟩ := repL_at (fun x c A h => rep_length te _ x c A h) hrep.2 hlt
    obtain rfl := rep_nil (w := w) (F := E.F) (b := 0) (off := 0) (n := 0) (c := #[]) (c1 := []) (d := []) (c2 := []) hB
    have hd := rep_length _ _ _ _ _ hv2
    refine Yld.pure (v := .pointer (some ⟨b, off + i.toNat * te.size, none⟩)) ?_ ⟨rfl, b, _, c, e, fr, rfl, hF, hb, ?_, ?_⟩
    · simp only [execOp, ho, hu, hyi, Sem.run_bind, run_indexAt_arr hT hin, Result.andThen_ok]
      rfl
    · have h8 := congrArg List.length hcs
      simp [hl, hd] at h8
      omega
    · have h8 := seg_inner (n := (PT.arr n te).size) rfl (by simpa using hsz) hcs
      rw [hl, hd] at h8
      rw [← h8]
      show Rep w E.F te .n (List.getD z' i.toNat te.dflt) d []
      have hgd := getD_at (α := te.den) z' i.toNat te.dflt hlt
      rw [hgd]
      exact hv2
  · cases h

end Go.Proofs.Ytaachifkgcdeoaa.Sy

namespace Go.Proofs.Ytaachifkgcdeoaa.Sy
open Go.RowKit
set_option linter.unusedSimpArgs false
set_option linter.unusedVariables false

/-- A list as it stands in a slot: what it is of, what is owned, its elements, where it is rooted (a list of one's own), where the part begins and ends. -/
structure LV where
  te : PT
  m : Md
  xs : List te.den

/-- A list that is looked at alone, in memory that nobody writes. -/
def viewL (s : Slot) : Option LV := match s with
  | .val (.list te) .n xs => some ⟨te, .n, xs⟩
  | _ => none

/-- A list of one's own: its root, and what stands there. -/
def ownL (A : Alg) (look : Nat → Slot) (x : Opd) (s : Slot) : Option (Nat × List Stp × LV) :=
  match s with
  | .val (.list te) (.l me) xs => match x with
    | .t k => match rootV look k with
      | some ⟨.list te, .l me, xs⟩ => some (k, [], ⟨te, me, xs⟩)
      | _ => none
    | .c _ => none
  | .bor k p => match rootV look k with
    | some r => match getP A r.t r.m r.x p with
      | some ⟨.list te, .l me, xs⟩ => some (k, p, ⟨te, me, xs⟩)
      | _ => none
    | none => none
  | _ => none

/-- The value of an operand that is no constant. -/
theorem ownL_rep {E : Env} {σ : List Slot} {a : Act} {w : World} (hst : RepState E σ a w) {look : Nat → Slot} (hlk : Looks look σ) {gl : List (Nat × Bool)} (hg : holdsG (vl a) gl) {x : Opd} {o : Operand} (ho : OpdOk x o) {k : Nat} {p : List Stp} {L : LV}
    (h : ownL real0 look x (opd look gl x) = some (k, p, L)) : ∃ cur al cap A, Rooted w (lk σ) (vl a) k p ⟨.list L.te, .l L.m, L.xs⟩ cur [.slice al (List.length L.xs) cap] ∧ a.eval o = .slice al (List.length L.xs) cap ∧ A.Nodup ∧
      Rep w E.F (.list L.te) (.l L.m) L.xs [.slice al (List.length L.xs) cap] A := by
  obtain ⟨A0, _, _, hs⟩ := opd_rep hst hlk hg ho
  generalize hsx : opd look gl x = sx at h hs
  have fin : ∀ (te : PT) (me : Md) (xs : List te.den) (k : Nat) (p : List Stp) (cur : Option (Nat × Nat)) (cs' : List Value), Rooted w (lk σ) (vl a) k p ⟨.list te, .l me, xs⟩ cur cs' → a.eval o = wrapV (.list te) cs' →
      ∃ cur al cap A, Rooted w (lk σ) (vl a) k p ⟨.list te, .l me, xs⟩ cur [.slice al (List.length xs) cap] ∧ a.eval o = .slice al (List.length xs) cap ∧ A.Nodup ∧ Rep w E.F (.list te) (.l me) xs [.slice al (List.length xs) cap] A := by
    intro te me xs k p cur cs' hr hu
    obtain ⟨A, h1, _, h3, _⟩ := root_rep hst hr
    have h3' := h3
    simp only [Rep] at h3
    obtain ⟨_, al, cap, rfl, _⟩ := h3
    exact ⟨cur, al, cap, A, hr, hu, h1, h3'⟩
  unfold ownL at h
  split at h
  · rename_i te me xs
    split at h
    · rename_i k0
      split at h
      · rename_i te' me' xs' hr
        simp only [Option.some.injEq, Prod.mk.injEq] at h
        obtain ⟨rfl, rfl, rfl⟩ := h
        have hk := rootV_eq hlk hr
        obtain ⟨_, _, _, ow, _, _, _, hsl⟩ := hst
        obtain ⟨B, hB1, hB2, hB3⟩ := hsl k0
        have hB3' := hB3
        simp only [lk] at hk
        rw [hk] at hB3
        obtain ⟨cs, h4, h5⟩ := hB3
        cases o <;> simp only [OpdOk] at ho
        subst ho
        exact fin te' me' xs' k0 [] none cs ⟨_, _, _, cs, hk, rfl, h5, rep_length _ _ _ _ _ h4, rfl, rfl⟩ h5
      · cases h
    · cases h
  · rename_i k0 p0
    split at h
    case h_2 => cases h
    rename_i r hr
    split at h
    case h_2 => cases h
    rename_i te me xs hgp
    simp only [Option.some.injEq, Prod.mk.injEq] at h
    obtain ⟨rfl, rfl, rfl⟩ := h
    obtain ⟨_, v', cur, cs', hroot, hu⟩ := hs
    have hk := rootV_eq hlk hr
    have hv : v' = ⟨.list te, .l me, xs⟩ := by
      obtain ⟨t0, m0, x0, cs0, e1, _, _, _, e5, _⟩ := hroot
      rw [hk] at e1
      simp only [Slot.val.injEq] at e1
      obtain ⟨rfl, rfl, e1⟩ := e1
      obtain rfl := eq_of_heq e1
      rw [hgp] at e5
      exact (Option.some.inj e5).symm
    subst hv
    exact fin te me xs k0 p0 cur cs' hroot hu
  · cases h

/-! ### A list's element's address -/
def aIadrS (A : Alg) (look : Nat → Slot) (te : PT) (xo : Opd) (x y : Slot) : Option (List Prop × Slot) :=
  match asI y with
  | some i => match viewL x with
    | some L => match castT (.list L.te) (.list te) L.xs with
      | some xs => some ([A.inb i (A.len te xs)], .pv te (A.get te xs i))
      | none => none
    | none => match ownL A look xo x with
      | some (k, p, L) => if PT.beq L.te te then some ([A.inb i (A.len L.te L.xs)], .ref k (p ++ [.e i])) else none
      | none => none
  | none => none

theorem run_indexAt_sl {P : Program} {T : TypeId} {te : PT} (hT : TyOk P (.list te) T) {k : IntKind} {i : Int} {len cap : Nat} (hi : 0 ≤ i ∧ i < len) (b off : Nat) (w : World) :
    (Instr.indexAt T (.slice (some ⟨b, off, none⟩) len cap) (.int k i)).run P w = .ok (.pointer (some ⟨b, off + i.toNat * te.size, none⟩)) w := by
  simp only [TyOk] at hT
  obtain ⟨_, e, h1, h2⟩ := hT
  simp [Instr.indexAt, asIntOf, underlying, h1, Instr.sureAddr, hi, h2.sizeOf w, add_plain0]

theorem viewL_inv {s : Slot} {L : LV} (h : viewL s = some L) : s = .val (.list L.te) .n L.xs ∧ L.m = .n := by
  unfold viewL at h
  split at h
  · obtain rfl := Option.some.inj h
    exact ⟨rfl, rfl⟩
  · cases h

theorem rep_view {w : World} {F : Nat → Prop} {look : Nat → Slot} {vs : Nat → Value} {te : PT} {xs : List te.den} {u : Value} {A : List Nat} (h : RepSlot w F look vs (.val (.list te) .n xs) u A) :
    A = [] ∧ xs.length ≤ 4294967296 ∧ ∃ al cap, u = .slice al xs.length cap ∧ xs.length ≤ cap ∧ (xs = [] ∨ ∃ b off c e fr, al = some ⟨b, off, none⟩ ∧ F b ∧ w.heap[b]? = some (.cells c e fr) ∧
        off + xs.length * te.size ≤ c.size ∧ RepL (Rep w F te .n) xs ((c.toList.drop off).take (xs.length * te.size)) []) := by
  obtain ⟨cs, h1, h2⟩ := h
  simp only [Rep] at h1
  obtain ⟨h3, h4, al, cap, rfl, hcl, h5⟩ := h1
  exact ⟨h3, h4, al, cap, h2, hcl, h5⟩

theorem aIadrS_sound {E : Env} {σ : List Slot} {a : Act} {w : World} (hst : RepState E σ a w) {look : Nat → Slot} (hlk : Looks look σ) {gl : List (Nat × Bool)} (hgl : holdsG (vl a) gl) {o : Oper} {T : TypeId} {xo : Opd} {x y : Operand} (ho : o.op = .indexAddr T x y) (hxo : OpdOk xo x) {te : PT} (hT : TyOk E.P (.list te) T)
    {sy s : Slot} {obs : List Prop} {A1 A2 : List Nat} (hx : RepSlot w E.F (lk σ) (vl a) (opd look gl xo) (a.eval x) A1) (hy : RepSlot w E.F (lk σ) (vl a) sy (a.eval y) A2) (h : aIadrS real0 look te xo (opd look gl xo) sy = some (obs, s)) (hobs : obsAll obs) : Yld E σ a w s (execOp a.eval o) := by
  unfold aIadrS at h
  split at h
  case h_2 => cases h
  rename_i i hi
  obtain ⟨ki, hyi, _⟩ := asI_rep hy hi
  split at h
  · rename_i L hL
    split at h
    case h_2 => cases h
    rename_i xs hc
    obtain ⟨hs, _⟩ := viewL_inv hL
    obtain ⟨te', m, xs0⟩ := L
    obtain ⟨e, hxs⟩ := castT_some hc
    simp only [PT.list.injEq] at e
    subst e
    subst hxs
    simp only [Option.some.injEq, Prod.mk.injEq] at h
    obtain ⟨rfl, rfl⟩ := h
    have hin : 0 ≤ i ∧ i < (List.length xs : Int) := hobs _ (List.mem_singleton.2 rfl)
    rw [hs] at hx
    dsimp only at hx
    obtain ⟨_, _, al, cap, hu, _, h5⟩ := rep_view hx
    have hlt : i.toNat < List.length xs := by omega
    rcases h5 with h5 | ⟨b, off, c, e, fr, rfl, hF, hb, hsz, hrl⟩
    · rw [show List.length xs = 0 from congrArg List.length h5] at hlt; omega
    obtain ⟨c1, d, c2, B1, B', B2, hcs, hB, hl, hv2, _⟩ := repL_at (fun x c A h => rep_length te' _ x c A h) hrl hlt
    obtain rfl := rep_nil (w := w) (F := E.F) (b := 0) (off := 0) (n := 0) (c := #[]) (c1 := []) (d := []) (c2 := []) hB
    have hd := rep_length _ _ _ _ _ hv2
    refine Yld.pure (v := .pointer (some ⟨b, off + i.toNat * te'.size, none⟩)) ?_ ⟨rfl, b, _, c, e, fr, rfl, hF, hb, ?_, ?_⟩
    · simp only [execOp, ho, hu, hyi, Sem.run_bind, run_indexAt_sl hT hin, Result.andThen_ok]
      rfl
    · have h8 : (i.toNat + 1) * te'.size ≤ List.length xs * te'.size := Nat.mul_le_mul_right _ hlt
      rw [Nat.succ_mul] at h8
      omega
    · have h8 := seg_inner (n := List.length xs * te'.size) rfl (by simpa using hsz) hcs
      rw [hl, hd] at h8
      rw [← h8]
      show Rep w E.F te' .n (List.getD xs i.toNat te'.dflt) d []
      have hgd := getD_at (α := te'.den) xs i.toNat te'.dflt hlt
      rw [hgd]
      exact hv2
  · split at h
    case h_2 => cases h
    rename_i k p L hL
    split at h
    case isFalse => cases h
    rename_i hb
    simp only [Option.some.injEq, Prod.mk.injEq] at h
    obtain ⟨rfl, rfl⟩ := h
    obtain ⟨te', m, xs⟩ := L
    dsimp only at hb
    obtain rfl := PT.eq_of_beq hb
    have hin : 0 ≤ i ∧ i < (List.length xs : Int) := hobs _ (List.mem_singleton.2 rfl)
    obtain ⟨cur, al, cap, A, hroot, hu, _, hrep⟩ := ownL_rep hst hlk hgl hxo hL
    dsimp only at hroot hu hrep
    simp only [Rep] at hrep
    obtain ⟨_, al', cap', he, hd⟩ := hrep
    simp only [List.cons.injEq, Value.slice.injEq, and_true, true_and] at he
    obtain ⟨rfl, rfl⟩ := he
    rcases hd with ⟨h5, _⟩ | ⟨b, off, c, e, fr, A', rfl, _⟩
    · rw [show List.length xs = 0 from congrArg List.length h5] at hin; omega
    refine Yld.pure (v := .pointer (some ⟨b, off + i.toNat * te'.size, none⟩)) ?_ ⟨rfl, b, _, rfl, .inr ⟨⟨te', m, real0.get te' xs i⟩, _, rooted_step hroot (by simp only [getP]) (by simp only [loc, if_pos hin]; rfl)⟩⟩
    simp only [execOp, ho, hu, hyi, Sem.run_bind, run_indexAt_sl hT hin, Result.andThen_ok]
    rfl

/-! ### Loads -/
theorem plain_owned : ∀ m : Md, m.plain = true → m.owned = false
  | .n, _ => rfl
  | .j, h => rfl
  | .l _, h => by simp [Md.plain] at h
  | .b _, h => by simp [Md.plain] at h
  | .a m, h => plain_owned m h
  | .s ms, h => go ms h
where go : ∀ ms : List Md, Md.plainL ms = true → Md.ownedL ms = false
  | [], _ => rfl
  | m :: ms, h => by
    simp only [Md.plainL, Bool.and_eq_true] at h
    simp [Md.ownedL, plain_owned m h.1, go ms h.2]

mutual
/-- What is plain owns no block. -/
theorem plain_nil {w : World} {F : Nat → Prop} : ∀ (t : PT) (m : Md) (x : t.den) (cs : List Value) (A : List Nat), m.plain = true → Rep w F t m x cs A → A = []
  | .int k, m, x, cs, A, hp, h => by cases m <;> simp_all [Rep]
  | .bool, m, x, cs, A, hp, h => by cases m <;> simp_all [Rep]
  | .str, m, x, cs, A, hp, h => by cases m <;> simp_all [Rep]
  | .list t, m, x, cs, A, hp, h => by
    cases m <;> simp only [Rep] at h <;> simp [Md.plain] at hp
    exact h.1
  | .arr n t, m, x, cs, A, hp, h => by
    have key : ∀ (m1 : Md) (xs : List t.den) (cs : List Value) (A : List Nat), m1.plain = true → RepL (Rep w F t m1) xs cs A → A = [] := by
      intro m1 xs
      induction xs with
      | nil => intro cs A _ h; exact h.2
      | cons y ys ih =>
        intro cs A hp h
        obtain ⟨c1, c2, A1, A2, _, rfl, h1, h2⟩ := h
        rw [plain_nil t m1 y c1 A1 hp h1, ih c2 A2 hp h2]; rfl
    cases m <;> simp only [Rep] at h <;> simp [Md.plain] at hp
    · exact key _ _ _ _ rfl h.2
    · exact key _ _ _ _ hp h.2
  | .st ts, m, x, cs, A, hp, h => by
    cases m <;> simp only [Rep] at h <;> simp [Md.plain] at hp
    · exact plain_nilS ts _ 0 x cs A (fun j _ => .inl rfl) h
    · rename_i ms
      refine plain_nilS ts _ 0 x cs A (fun j hj => ?_) h
      have hall : ∀ (ms : List Md) (j : Nat), Md.plainL ms = true → j < ms.length → (ms.getD j .j).plain = true := by
        intro ms
        induction ms with
        | nil => intro j _ h; simp at h
        | cons m ms ih =>
          intro j hp hj
          simp only [Md.plainL, Bool.and_eq_true] at hp
          cases j with
          | zero => exact hp.1
          | succ j => simpa using ih j hp.2 (by simpa using hj)
      simp only [Md.fld, Nat.zero_add]
      by_cases hjl : j < ms.length
      · exact .inl (hall ms j hp hjl)
      · exact .inr (by simp [List.getD_eq_getElem?_getD, List.getElem?_eq_none (Nat.le_of_not_lt hjl)])
  | .box t, m, x, cs, A, hp, h => by
    cases m <;> simp only [Rep] at h <;> simp [Md.plain] at hp
    exact h.1
theorem plain_nilS {w : World} {F : Nat → Prop} : ∀ (ts : List PT) (m : Md) (i : Nat) (x : PT.denL ts) (cs : List Value) (A : List Nat), (∀ j, j < ts.length → (m.fld (i + j)).plain = true ∨ m.fld (i + j) = .j) → RepS w F ts m i x cs A → A = []
  | [], _, _, _, cs, A, _, h => by simp [RepS] at h; exact h.2
  | t :: ts, m, i, x, cs, A, hp, h => by
    simp only [RepS] at h
    obtain ⟨c1, c2, A1, A2, _, rfl, h1, h2⟩ := h
    have e1 : A1 = [] := by
      rcases hp 0 (by simp) with h | h
      · exact plain_nil t _ _ c1 A1 (by simpa using h) h1
      · rw [show m.fld i = .j by simpa using h] at h1
        cases t <;> simp only [Rep] at h1 <;> first | exact h1.1 | (exact h1.1)
    rw [e1, plain_nilS ts m (i + 1) _ c2 A2 (fun j hj => by have := hp (j + 1) (by simp; omega); rwa [show i + (j + 1) = i + 1 + j by omega] at this) h2]
    rfl
end

mutual
/-- What is plain may be read as looked at alone. -/
theorem plainT_n {w : World} {F : Nat → Prop} : ∀ (t : PT) (m : Md) (x : t.den) (cs : List Value) (A : List Nat), plainT t m = true → Rep w F t m x cs A → Rep w F t .n x cs A
  | .int k, m, x, cs, A, hp, h => by cases m <;> simp_all [Rep, plainT]
  | .bool, m, x, cs, A, hp, h => by cases m <;> simp_all [Rep, plainT]
  | .str, m, x, cs, A, hp, h => by cases m <;> simp_all [Rep, plainT]
  | .list t, m, x, cs, A, hp, h => by
    cases m <;> simp [plainT] at hp
    exact h
  | .arr n t, m, x, cs, A, hp, h => by
    cases m <;> simp [plainT] at hp
    · exact h
    · simp only [Rep] at h ⊢
      exact ⟨h.1, repL_mono _ _ _ (fun y c B _ hr => plainT_n t _ y c B hp hr) h.2⟩
  | .st ts, m, x, cs, A, hp, h => by
    cases m <;> simp [plainT] at hp
    · exact h
    · simp only [Rep] at h ⊢
      exact plainT_nS ts _ [] x cs A hp h
  | .box t, m, x, cs, A, hp, h => by
    cases m <;> simp [plainT] at hp
    exact h
theorem plainT_nS {w : World} {F : Nat → Prop} : ∀ (ts : List PT) (ms pre : List Md) (x : PT.denL ts) (cs : List Value) (A : List Nat), plainTL ts ms = true → RepS w F ts (.s (pre ++ ms)) pre.length x cs A → RepS w F ts .n pre.length x cs A
  | [], _, _, _, cs, A, _, h => by simpa [RepS] using h
  | t :: ts, [], pre, x, cs, A, hp, h => by simp [plainTL] at hp
  | t :: ts, m :: ms, pre, x, cs, A, hp, h => by
    simp only [plainTL, Bool.and_eq_true] at hp
    simp only [RepS] at h ⊢
    obtain ⟨c1, c2, A1, A2, rfl, rfl, h1, h2⟩ := h
    have hm : (Md.s (pre ++ m :: ms)).fld pre.length = m := by simp [Md.fld]
    rw [hm] at h1
    refine ⟨c1, c2, A1, A2, rfl, rfl, plainT_n t m _ c1 A1 hp.1 h1, ?_⟩
    have := plainT_nS ts ms (pre ++ [m]) x.2 c2 A2 hp.2 (by simpa using h2)
    simpa using this
end

def aLoad (A : Alg) (look : Nat → Slot) (t : PT) (x : Slot) : Option (List Prop × Slot) :=
  match x with
  | .ref k p => match rootV look k with
    | some r => match getP A r.t r.m r.x p with
      | some v => if PT.beq v.t t then (match rdSlot k p v with
        | some s => some ([], s)
        | none => none) else none
      | none => none
    | none => none
  | .pv t' y => if PT.beq t' t then some ([], .val t' .n y) else none
  | _ => none

/-- Cells read. -/
theorem run_loadVar_at {P : Program} {T : TypeId} {t : PT} (hT : TyOk P t T) {w : World} {b off : Nat} {c : Array Value} {e : TypeId} {fr : Nat × Nat} (hb : w.heap[b]? = some (.cells c e fr)) (hsz : off + t.size ≤ c.size) :
    (loadVar T ⟨b, off, none⟩).run P w = .ok (wrapV t ((c.toList.drop off).take t.size)) w := by
  have hcell : ∀ j v, ((c.toList.drop off).take t.size)[j]? = some v → w.cell? ((⟨b, off, none⟩ : Addr).add j) = some v := by
    intro j v h
    rw [List.getElem?_take] at h
    split at h
    · rw [List.getElem?_drop] at h
      rw [add_plain0]
      simp only [World.cell?, hb]
      simpa using h
    · cases h
  have hlen : ((c.toList.drop off).take t.size).length = t.size := by simp; omega
  have hl := run_loadCells_list (P := P) w ⟨b, off, none⟩ ((c.toList.drop off).take t.size) hcell
  rw [hlen] at hl
  unfold loadVar wrapV
  simp only [Sem.run_bind, hT.isAgg, Result.andThen_ok]
  by_cases ha : t.isAgg = true
  · simp only [ha, if_true, Sem.run_bind, hT.sizeOf, Result.andThen_ok, hl]
    rfl
  · simp only [ha, if_false, Bool.false_eq_true]
    have h1 : t.size = 1 := by cases t <;> simp_all [PT.isAgg, PT.size]
    have h2 : ((c.toList.drop off).take t.size)[0]? = some (((c.toList.drop off).take t.size).headD undef) := by
      cases hh : (c.toList.drop off).take t.size with
      | nil => rw [hh, h1] at hlen; simp at hlen
      | cons u r => rfl
    have h3 := hcell 0 _ h2
    rw [add_plain0, Nat.add_zero] at h3
    simp only [run_load, h3]

theorem aLoad_sound {E : Env} {σ : List Slot} {a : Act} {w : World} (hst : RepState E σ a w) {look : Nat → Slot} (hlk : Looks look σ) {o : Oper} {T : TypeId} {x : Operand} (ho : o.op = .load T x) {t : PT} (hT : TyOk E.P t T) {sx s : Slot} {obs : List Prop} {A1 : List Nat}
    (hx : RepSlot w E.F (lk σ) (vl a) sx (a.eval x) A1) (h : aLoad real0 look t sx = some (obs, s)) : Yld E σ a w s (execOp a.eval o) := by
  unfold aLoad at h
  split at h
  · rename_i k p
    split at h
    case h_2 => cases h
    rename_i r hr
    split at h
    case h_2 => cases h
    rename_i v hg
    split at h
    case isFalse => cases h
    rename_i hb
    split at h
    case h_2 => cases h
    rename_i s0 hs0
    simp only [Option.some.injEq, Prod.mk.injEq] at h
    obtain ⟨_, rfl⟩ := h
    obtain ⟨vt, m, y⟩ := v
    dsimp only at hb
    obtain rfl := PT.eq_of_beq hb
    obtain ⟨b, off, cs', hu, hroot⟩ := ref_rooted hst hx (rootV_eq hlk hr) hg
    obtain ⟨A', hn, hA', hrep, hlaid⟩ := root_rep hst hroot
    obtain ⟨_, c, e, fr, hc, _, hsz, hcs⟩ := hlaid b off rfl
    have hrun := run_loadVar_at (P := E.P) hT hc hsz
    rw [← hcs] at hrun
    refine Yld.pure (v := wrapV vt cs') (by simp only [execOp, ho, hu, Instr.loadAt, Instr.sureAddr, Sem.run_bind, Sem.run_pure, Result.andThen_ok, hrun]) ?_
    unfold rdSlot at hs0
    split at hs0
    · rename_i hp
      obtain rfl := Option.some.inj hs0
      have hrep' := plainT_n _ _ _ _ _ hp hrep
      have := plain_nil _ _ _ _ _ rfl hrep'
      subst this
      exact ⟨cs', hrep', rfl⟩
    · split at hs0
      · split at hs0
        · rename_i hown _ tb heq
          obtain rfl := Option.some.inj hs0
          dsimp only at heq
          subst heq
          dsimp only at hrep hroot hown hrun ⊢
          obtain ⟨m1, rfl⟩ : ∃ m1, m = .b m1 := by
            cases m <;> simp [Md.owned] at hown <;> simp only [Rep] at hrep
            exact ⟨_, rfl⟩
          simp only [Rep] at hrep
          obtain ⟨b2, c2, e2, fr2, A2, rfl, rfl, h2, h3, h4⟩ := hrep
          exact ⟨rfl, b2, 0, rfl, .inr ⟨⟨tb, m1, y⟩, _, rooted_step hroot (by simp only [getP]) (by simp only [loc]; rfl)⟩⟩
        · obtain rfl := Option.some.inj hs0
          exact ⟨rfl, _, _, cs', hroot, rfl⟩
      · cases hs0
  · rename_i t' y
    split at h
    case isFalse => cases h
    rename_i hb
    simp only [Option.some.injEq, Prod.mk.injEq] at h
    obtain ⟨_, rfl⟩ := h
    obtain rfl := PT.eq_of_beq hb
    obtain ⟨_, b, off, c, e, fr, hu, hF, hc, hsz, hrep⟩ := hx
    have hrun := run_loadVar_at (P := E.P) hT hc hsz
    refine Yld.pure (v := wrapV t' ((c.toList.drop off).take t'.size)) (by simp only [execOp, ho, hu, Instr.loadAt, Instr.sureAddr, Sem.run_bind, Sem.run_pure, Result.andThen_ok, hrun]) ⟨_, hrep, rfl⟩
  · cases h

end Go.Proofs.Ytaachifkgcdeoaa.Sy

namespace Go.Proofs.Ytaachifkgcdeoaa.Sy
open Go.RowKit
set_option linter.unusedSimpArgs false
set_option linter.unusedVariables false

/-- A value of one's own as it stands in a slot: where it is rooted. -/
def ownA (A : Alg) (look : Nat → Slot) (x : Opd) (s : Slot) : Option (Nat × List Stp × TV) :=
  match s with
  | .val t m _ => match x with
    | .t k => if m.owned then (match rootV look k with
      | some r => if r.m.owned then some (k, [], r) else none
      | none => none) else none
    | .c _ => none
  | .bor k p => match rootV look k with
    | some r => match getP A r.t r.m r.x p with
      | some v => some (k, p, v)
      | none => none
    | none => none
  | _ => none

theorem ownA_rep {E : Env} {σ : List Slot} {a : Act} {w : World} (hst : RepState E σ a w) {look : Nat → Slot} (hlk : Looks look σ) {gl : List (Nat × Bool)} (hg : holdsG (vl a) gl) {x : Opd} {o : Operand} (ho : OpdOk x o) {k : Nat} {p : List Stp} {v : TV}
    (h : ownA real0 look x (opd look gl x) = some (k, p, v)) : ∃ cur cs' A, Rooted w (lk σ) (vl a) k p v cur cs' ∧ a.eval o = wrapV v.t cs' ∧ A.Nodup ∧ Rep w E.F v.t v.m v.x cs' A ∧ Laid w v.t.size cur cs' A := by
  obtain ⟨A0, _, _, hs⟩ := opd_rep hst hlk hg ho
  generalize hsx : opd look gl x = sx at h hs
  unfold ownA at h
  split at h
  · rename_i t m y
    split at h
    case h_2 => cases h
    rename_i k0
    split at h
    case isFalse => cases h
    split at h
    case h_2 => cases h
    rename_i r hr
    split at h
    case isFalse => cases h
    rename_i hown
    simp only [Option.some.injEq, Prod.mk.injEq] at h
    obtain ⟨rfl, rfl, rfl⟩ := h
    have hk := rootV_eq hlk hr
    have hst' := hst
    obtain ⟨_, _, _, ow, _, _, _, hsl⟩ := hst
    obtain ⟨B, hB1, hB2, hB3⟩ := hsl k0
    simp only [lk] at hk
    rw [hk] at hB3
    obtain ⟨cs, h4, h5⟩ := hB3
    cases o <;> simp only [OpdOk] at ho
    subst ho
    exact ⟨none, cs, B, ⟨_, _, _, cs, hk, hown, h5, rep_length _ _ _ _ _ h4, rfl, rfl⟩, h5, hB1, h4, laid_none _ _ _ _⟩
  · rename_i k0 p0
    split at h
    case h_2 => cases h
    rename_i r hr
    split at h
    case h_2 => cases h
    rename_i v0 hgp
    simp only [Option.some.injEq, Prod.mk.injEq] at h
    obtain ⟨rfl, rfl, rfl⟩ := h
    obtain ⟨_, v', cur, cs', hroot, hu⟩ := hs
    have hk := rootV_eq hlk hr
    have hv : v' = v0 := by
      obtain ⟨t0, m0, x0, cs0, e1, _, _, _, e5, _⟩ := hroot
      rw [hk] at e1
      simp only [Slot.val.injEq] at e1
      obtain ⟨rfl, rfl, e1⟩ := e1
      obtain rfl := eq_of_heq e1
      rw [hgp] at e5
      exact (Option.some.inj e5).symm
    subst hv
    obtain ⟨A, h1, _, h3, h4⟩ := root_rep hst hroot
    exact ⟨cur, cs', A, hroot, hu, h1, h3, h4⟩
  · cases h

/-- What is read at a place of one's own, in the cells cs' there. -/
theorem rdSlot_rep {E : Env} {σ : List Slot} {a : Act} {w : World} (hst : RepState E σ a w) {k : Nat} {p : List Stp} {v : TV} {cur : Option (Nat × Nat)} {cs' : List Value} (hroot : Rooted w (lk σ) (vl a) k p v cur cs') {s : Slot} (hs : rdSlot k p v = some s) :
    RepSlot w E.F (lk σ) (vl a) s (wrapV v.t cs') [] := by
  obtain ⟨A', hn, hA', hrep, hlaid⟩ := root_rep hst hroot
  obtain ⟨vt, m, y⟩ := v
  unfold rdSlot at hs
  split at hs
  · rename_i hp
    obtain rfl := Option.some.inj hs
    have hrep' := plainT_n _ _ _ _ _ hp hrep
    have := plain_nil _ _ _ _ _ rfl hrep'
    subst this
    exact ⟨cs', hrep', rfl⟩
  · split at hs
    · split at hs
      · rename_i hown _ tb heq
        obtain rfl := Option.some.inj hs
        dsimp only at heq
        subst heq
        dsimp only at hrep hroot hown ⊢
        obtain ⟨m1, rfl⟩ : ∃ m1, m = .b m1 := by
          cases m <;> simp [Md.owned] at hown <;> simp only [Rep] at hrep
          exact ⟨_, rfl⟩
        simp only [Rep] at hrep
        obtain ⟨b2, c2, e2, fr2, A2, rfl, rfl, h2, h3, h4⟩ := hrep
        exact ⟨rfl, b2, 0, rfl, .inr ⟨⟨tb, m1, y⟩, _, rooted_step hroot (by simp only [getP]) (by simp only [loc]; rfl)⟩⟩
      · obtain rfl := Option.some.inj hs
        exact ⟨rfl, _, _, cs', hroot, rfl⟩
    · cases hs

/-! ### Fields and elements of values -/
theorem run_part {P : Program} {T : TypeId} {t : PT} (hT : TyOk P t T) {cs : List Value} {off : Nat} (hsz : off + t.size ≤ cs.length) (w : World) :
    (part T cs.toArray off).run P w = .ok (wrapV t ((cs.drop off).take t.size)) w := by
  unfold part wrapV
  simp only [Sem.run_bind, hT.isAgg, Result.andThen_ok]
  by_cases ha : t.isAgg = true
  · simp only [ha, if_true, Sem.run_bind, hT.sizeOf, Result.andThen_ok, Sem.run_pure]
    congr 2
    apply Array.ext'
    simp [List.extract_eq_take_drop]
  · simp only [ha, if_false, Bool.false_eq_true]
    have h1 : t.size = 1 := by cases t <;> simp_all [PT.isAgg, PT.size]
    rw [h1] at hsz ⊢
    have hlt : off < cs.length := by omega
    have h2 : (cs.drop off).take 1 = [cs[off]] := by
      rw [List.drop_eq_getElem_cons hlt]; rfl
    rw [h2]
    simp [hlt]

theorem run_field {P : Program} {S : TypeId} {ts : List PT} (hS : TyOk P (.st ts) S) {i : Nat} {t : PT} (ht : ts[i]? = some t) {cs : List Value} (hl : cs.length = PT.sizeL ts) (hsz : PT.sizeL (ts.take i) + t.size ≤ PT.sizeL ts) (w : World) :
    (Instr.field S (wrapV (.st ts) cs) i).run P w = .ok (wrapV t ((cs.drop (PT.sizeL (ts.take i))).take t.size)) w := by
  simp only [TyOk] at hS
  obtain ⟨_, fs, h1, h2⟩ := hS
  obtain ⟨f, h3, h4, h5⟩ := h2.at ht
  have h3' : fs[i]? = some f := by simpa using h3
  have hp := run_part h5 (cs := cs) (off := PT.sizeL (ts.take i)) (by omega) w
  simp only [Nat.zero_add] at h4
  rw [show wrapV (.st ts) cs = .agg cs.toArray from rfl]
  simp [Instr.field, underlying, h1, h3', asAgg, h4]
  exact hp

def aFld (A : Alg) (look : Nat → Slot) (ts : List PT) (i : Nat) (xo : Opd) (x : Slot) : Option (List Prop × Slot) :=
  match x with
  | .val t .n y => match castT t (.st ts) y with
    | some y => match fldP ts .n 0 y i with
      | some v => some ([], .val v.t .n v.x)
      | none => none
    | none => none
  | _ => match ownA A look xo x with
    | some (k, p, v) => if PT.beq v.t (.st ts) then (match getP A v.t v.m v.x [.f i] with
      | some v2 => match rdSlot k (p ++ [.f i]) v2 with
        | some s => some ([], s)
        | none => none
      | none => none) else none
    | none => none

theorem fld_step {w : World} {F : Nat → Prop} {ts : List PT} {m : Md} {y : PT.denL ts} {i : Nat} {v2 : TV} {cs' : List Value} {A : List Nat} (hrep : Rep w F (.st ts) m y cs' A) (hg : getP real0 (.st ts) m y [.f i] = some v2) :
    ts[i]? = some v2.t ∧ PT.sizeL (ts.take i) + v2.t.size ≤ PT.sizeL ts := by
  have hu : ∃ u, fldP ts m 0 y i = some u ∧ u = v2 := by
    cases m <;> simp only [getP] at hg <;> try (cases hg; done)
    all_goals
      split at hg
      · rename_i u hu2
        simp only [Option.some.injEq] at hg
        exact ⟨u, hu2, hg⟩
      · cases hg
  obtain ⟨u, hu, rfl⟩ := hu
  have hrs : RepS w F ts m 0 y cs' A := by
    cases m <;> simp only [Rep, getP] at hrep hg <;> first | exact hrep | (cases hg; done)
  obtain ⟨c1, c, c2, A1, A', A2, rfl, rfl, hc1, hti, hx, _⟩ := fld_at ts m 0 y _ _ i u hrs hu
  have := repS_length ts _ _ _ _ _ hrs
  have := rep_length _ _ _ _ _ hx
  refine ⟨hti, ?_⟩
  simp at *
  omega

theorem aFld_sound {E : Env} {σ : List Slot} {a : Act} {w : World} (hst : RepState E σ a w) {look : Nat → Slot} (hlk : Looks look σ) {gl : List (Nat × Bool)} (hgl : holdsG (vl a) gl) {o : Oper} {S : TypeId} {xo : Opd} {x : Operand} {i : Nat} (ho : o.op = .field S x i) (hxo : OpdOk xo x) {ts : List PT} (hS : TyOk E.P (.st ts) S)
    {s : Slot} {obs : List Prop} {A1 : List Nat} (hx : RepSlot w E.F (lk σ) (vl a) (opd look gl xo) (a.eval x) A1) (h : aFld real0 look ts i xo (opd look gl xo) = some (obs, s)) : Yld E σ a w s (execOp a.eval o) := by
  have hown : (match ownA real0 look xo (opd look gl xo) with
    | some (k, p, v) => if PT.beq v.t (.st ts) then (match getP real0 v.t v.m v.x [.f i] with
      | some v2 => match rdSlot k (p ++ [.f i]) v2 with
        | some s => some (([], s) : List Prop × Slot)
        | none => none
      | none => none) else none
    | none => none) = some (obs, s) → Yld E σ a w s (execOp a.eval o) := by
    intro h
    split at h
    case h_2 => cases h
    rename_i k p v hv
    split at h
    case isFalse => cases h
    rename_i hb
    split at h
    case h_2 => cases h
    rename_i v2 hg2
    split at h
    case h_2 => cases h
    rename_i s0 hs0
    simp only [Option.some.injEq, Prod.mk.injEq] at h
    obtain ⟨_, rfl⟩ := h
    obtain ⟨vt, m, y⟩ := v
    dsimp only at hb hg2
    obtain rfl := PT.eq_of_beq hb
    obtain ⟨cur, cs', A, hroot, hu, hn, hrep, hlaid⟩ := ownA_rep hst hlk hgl hxo hv
    dsimp only at hu hrep
    obtain ⟨hti, hsz⟩ := fld_step hrep hg2
    have hl := rep_length _ _ _ _ _ hrep
    have hr2 := rooted_step (q := [.f i]) (cur2 := cur.map fun (b, o) => (b, o + PT.sizeL (ts.take i))) (cs2 := (cs'.drop (PT.sizeL (ts.take i))).take v2.t.size) hroot hg2 (by simp only [loc, hti])
    refine Yld.pure (v := wrapV v2.t ((cs'.drop (PT.sizeL (ts.take i))).take v2.t.size)) ?_ (rdSlot_rep hst hr2 hs0)
    simp only [execOp, ho, hu, Sem.run_bind, run_field hS hti hl hsz, Result.andThen_ok]
    rfl
  unfold aFld at h
  split at h
  · rename_i t y heq
    split at h
    case h_2 => cases h
    rename_i y' hc
    split at h
    case h_2 => cases h
    rename_i v hv
    simp only [Option.some.injEq, Prod.mk.injEq] at h
    obtain ⟨_, rfl⟩ := h
    obtain ⟨rfl, rfl⟩ := castT_some hc
    rw [heq] at hx
    obtain ⟨cs, hrep, hu⟩ := hx
    have hl := rep_length _ _ _ _ _ hrep
    have hm := fldP_n hv
    have hg : getP real0 (.st ts) .n y' [.f i] = some v := by simp only [getP, hv]
    obtain ⟨hti, hsz⟩ := fld_step hrep hg
    have hrs : RepS w E.F ts .n 0 y' cs A1 := by simpa only [Rep] using hrep
    obtain ⟨c1, c, c2, B1, B', B2, rfl, rfl, hc1, _, hx, _⟩ := fld_at ts .n 0 y' _ _ i v hrs hv
    have hd := rep_length _ _ _ _ _ hx
    have hB : B' = [] := by
      have := plain_nil _ _ _ _ _ (by rw [hm]; rfl) hx
      exact this
    subst hB
    refine Yld.pure (v := wrapV v.t c) ?_ ⟨c, by rw [← hm]; exact hx, rfl⟩
    have := run_field (P := E.P) hS hti hl hsz w
    rw [← hc1, List.drop_left, ← hd, List.take_left] at this
    simp only [execOp, ho, hu, Sem.run_bind, this, Result.andThen_ok]
    rfl
  · exact hown h

def aIdxA (A : Alg) (look : Nat → Slot) (n : Nat) (te : PT) (xo : Opd) (x y : Slot) : Option (List Prop × Slot) :=
  match asI y with
  | some i => match x with
    | .val t .n z => match castT t (.arr n te) z with
      | some z => some ([A.inb i n], .val te .n (A.get te z i))
      | none => none
    | _ => match ownA A look xo x with
      | some (k, p, v) => if PT.beq v.t (.arr n te) then (match getP A v.t v.m v.x [.i i] with
        | some v2 => match rdSlot k (p ++ [.i i]) v2 with
          | some s => some ([A.inb i n], s)
          | none => none
        | none => none) else none
      | none => none
  | none => none

theorem run_index_arr {P : Program} {T : TypeId} {n : Nat} {te : PT} (hT : TyOk P (.arr n te) T) {k : IntKind} {i : Int} (hi : 0 ≤ i ∧ i < n) {cs : List Value} (hl : cs.length = n * te.size) (w : World) :
    (Instr.index T (wrapV (.arr n te) cs) (.int k i)).run P w = .ok (wrapV te ((cs.drop (i.toNat * te.size)).take te.size)) w := by
  simp only [TyOk] at hT
  obtain ⟨_, e, h1, h2⟩ := hT
  have h8 : (i.toNat + 1) * te.size ≤ n * te.size := Nat.mul_le_mul_right _ (by omega)
  rw [Nat.succ_mul] at h8
  have hp := run_part h2 (cs := cs) (off := i.toNat * te.size) (by omega) w
  rw [show wrapV (.arr n te) cs = .agg cs.toArray from rfl]
  simp [Instr.index, asIntOf, underlying, h1, hi, h2.sizeOf w]
  exact hp

theorem aIdxA_sound {E : Env} {σ : List Slot} {a : Act} {w : World} (hst : RepState E σ a w) {look : Nat → Slot} (hlk : Looks look σ) {gl : List (Nat × Bool)} (hgl : holdsG (vl a) gl) {o : Oper} {T : TypeId} {xo : Opd} {x y : Operand} (ho : o.op = .index T x y) (hxo : OpdOk xo x) {n : Nat} {te : PT} (hT : TyOk E.P (.arr n te) T)
    {sy s : Slot} {obs : List Prop} {A1 A2 : List Nat} (hx : RepSlot w E.F (lk σ) (vl a) (opd look gl xo) (a.eval x) A1) (hy : RepSlot w E.F (lk σ) (vl a) sy (a.eval y) A2) (h : aIdxA real0 look n te xo (opd look gl xo) sy = some (obs, s)) (hobs : obsAll obs) : Yld E σ a w s (execOp a.eval o) := by
  unfold aIdxA at h
  split at h
  case h_2 => cases h
  rename_i i hi
  obtain ⟨ki, hyi, _⟩ := asI_rep hy hi
  split at h
  · rename_i t z heq
    split at h
    case h_2 => cases h
    rename_i z' hc
    simp only [Option.some.injEq, Prod.mk.injEq] at h
    obtain ⟨rfl, rfl⟩ := h
    have hin : 0 ≤ i ∧ i < n := hobs _ (List.mem_singleton.2 rfl)
    obtain ⟨rfl, rfl⟩ := castT_some hc
    rw [heq] at hx
    obtain ⟨cs, hrep, hu⟩ := hx
    have hl := rep_length _ _ _ _ _ hrep
    have hrun := run_index_arr (P := E.P) hT (k := ki) hin hl w
    simp only [Rep] at hrep
    have hlt : i.toNat < List.length z' := by rw [hrep.1]; omega
    obtain ⟨c1, d, c2, B1, B', B2, rfl, rfl, hc1, hv2, _⟩ := repL_at (fun x c A h => rep_length te _ x c A h) hrep.2 hlt
    have hd := rep_length _ _ _ _ _ hv2
    have hB : B' = [] := plain_nil _ _ _ _ _ rfl hv2
    subst hB
    rw [← hc1, List.drop_left, ← hd, List.take_left] at hrun
    refine Yld.pure (v := wrapV te d) (by simp only [execOp, ho, hu, hyi, Sem.run_bind, hrun, Result.andThen_ok]; rfl) ⟨d, ?_, rfl⟩
    show Rep w E.F te .n (List.getD z' i.toNat te.dflt) d []
    have hgd := getD_at (α := te.den) z' i.toNat te.dflt hlt
    rw [hgd]
    exact hv2
  · split at h
    case h_2 => cases h
    rename_i k p v hv
    split at h
    case isFalse => cases h
    rename_i hb
    split at h
    case h_2 => cases h
    rename_i v2 hg2
    split at h
    case h_2 => cases h
    rename_i s0 hs0
    simp only [Option.some.injEq, Prod.mk.injEq] at h
    obtain ⟨rfl, rfl⟩ := h
    have hin : 0 ≤ i ∧ i < n := hobs _ (List.mem_singleton.2 rfl)
    obtain ⟨vt, m, z⟩ := v
    dsimp only at hb hg2
    obtain rfl := PT.eq_of_beq hb
    obtain ⟨cur, cs', A, hroot, hu, hn, hrep, hlaid⟩ := ownA_rep hst hlk hgl hxo hv
    dsimp only at hu hrep
    have hl := rep_length _ _ _ _ _ hrep
    have hrun := run_index_arr (P := E.P) hT (k := ki) hin hl w
    have ht2 : v2.t = te := by
      cases m <;> simp only [getP] at hg2 <;> try (cases hg2; done)
      all_goals
        simp only [Option.some.injEq] at hg2
        rw [← hg2]
    have hr2 := rooted_step (q := [.i i]) (cur2 := cur.map fun (b, o) => (b, o + i.toNat * te.size)) (cs2 := (cs'.drop (i.toNat * te.size)).take te.size) hroot hg2 (by simp only [loc, if_pos hin])
    have := rdSlot_rep hst hr2 hs0
    rw [ht2] at this
    exact Yld.pure (v := wrapV te ((cs'.drop (i.toNat * te.size)).take te.size)) (by simp only [execOp, ho, hu, hyi, Sem.run_bind, hrun, Result.andThen_ok]; rfl) this

/-! ### Strings -/
def aIdxS (A : Alg) (x y : Slot) : Option (List Prop × Slot) :=
  match asI y, x with
  | some i, .val .str .n s => some ([A.inb i (A.slen s)], .val (.int .u8) .n (A.sidx s i))
  | _, _ => none
theorem aIdxS_inv {A : Alg} {sx sy s : Slot} {obs : List Prop} (h : aIdxS A sx sy = some (obs, s)) : ∃ (i : Int) (b : ByteArray), asI sy = some i ∧ sx = .val .str .n b ∧ obs = [A.inb i (A.slen b)] ∧ s = .val (.int .u8) .n (A.sidx b i) := by
  unfold aIdxS at h
  split at h
  · rename_i i b hi
    simp only [Option.some.injEq, Prod.mk.injEq] at h
    exact ⟨i, b, hi, rfl, h.1.symm, h.2.symm⟩
  · cases h
theorem aIdxS_sound {E : Env} {σ : List Slot} {a : Act} {w : World} {o : Oper} {T : TypeId} {x y : Operand} (ho : o.op = .index T x y) (hT : E.P.underlying T = some .string) {sx sy s : Slot} {obs : List Prop} {A1 A2 : List Nat}
    (hx : RepSlot w E.F (lk σ) (vl a) sx (a.eval x) A1) (hy : RepSlot w E.F (lk σ) (vl a) sy (a.eval y) A2) (h : aIdxS real0 sx sy = some (obs, s)) (hobs : obsAll obs) : Yld E σ a w s (execOp a.eval o) := by
  obtain ⟨i, b, hi, rfl, rfl, rfl⟩ := aIdxS_inv h
  obtain ⟨ki, hyi, _⟩ := asI_rep hy hi
  obtain ⟨e1, _, _⟩ := rep_str hx
  have hin : 0 ≤ i ∧ i < (b.size : Int) := hobs _ (List.mem_singleton.2 rfl)
  have hlt : i.toNat < b.size := by omega
  have hlt' : i.toNat < b.data.toList.length := by simpa using hlt
  have hb : b[i.toNat]? = some (b.data.toList.getD i.toNat 0) := by
    rw [getD_at _ _ _ hlt']
    rw [getElem?_pos b i.toNat hlt]
    rfl
  have hr : (0 : Int) ≤ ((b.data.toList.getD i.toNat 0).toNat : Int) ∧ ((b.data.toList.getD i.toNat 0).toNat : Int) ≤ 255 := by
    have := (b.data.toList.getD i.toNat 0).toNat_lt
    omega
  refine Yld.pure (v := .int .u8 ((b.data.toList.getD i.toNat 0).toNat : Int)) ?_ (int_rep (k := .u8) hr)
  simp [execOp, ho, e1, hyi, Instr.index, asIntOf, underlying, hT, hin.1, hb]

end Go.Proofs.Ytaachifkgcdeoaa.Sy
