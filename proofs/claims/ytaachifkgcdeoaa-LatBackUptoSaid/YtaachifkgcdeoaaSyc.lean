/- A symbolic run of a function's code: typed values in memory, what each operation does to them, and why that is so (part c). Each theorem bears its conditions itself. -/
import Derived.Test.YtaachifkgcdeoaaSyb
import Derived.ChangeKeysEq
import Derived.Laws.StructEq
import Derived.Laws.AppendOwn
import Derived.Laws.IdiomCopy
import Derived.Laws.MakeOwn
import Derived.Laws.BytesString
import Derived.MapKept
namespace Go.Proofs.Ytaachifkgcdeoaa.Sy
open Go.RowKit
set_option linter.unusedSimpArgs false
set_option linter.unusedVariables false

/-- A part of a list of one's own. -/
def winL (A : Alg) (look : Nat → Slot) (s : Slot) : Option (Nat × List Stp × LV × Int × Int) :=
  match s with
  | .win k p lo hi => match rootV look k with
    | some r => match getP A r.t r.m r.x p with
      | some ⟨.list te, .l me, xs⟩ => some (k, p, ⟨te, me, xs⟩, lo, hi)
      | _ => none
    | none => none
  | _ => none

theorem winL_rep {E : Env} {σ : List Slot} {a : Act} {w : World} (hst : RepState E σ a w) {look : Nat → Slot} (hlk : Looks look σ) {s : Slot} {u : Value} {A : List Nat} (hs : RepSlot w E.F (lk σ) (vl a) s u A) {k : Nat} {p : List Stp} {L : LV} {lo hi : Int} (h : winL real0 look s = some (k, p, L, lo, hi)) :
    s = .win k p lo hi ∧ ∃ cur al cap, Rooted w (lk σ) (vl a) k p ⟨.list L.te, .l L.m, L.xs⟩ cur [.slice al (List.length L.xs) cap] ∧ 0 ≤ lo ∧ lo ≤ hi ∧ hi ≤ List.length L.xs ∧ List.length L.xs ≤ cap ∧
      ∃ a', u = .slice a' (hi.toNat - lo.toNat) (cap - lo.toNat) ∧ (cap = lo.toNat ∨ a' = al.map (·.add (lo.toNat * L.te.size))) := by
  unfold winL at h
  split at h
  · rename_i k0 p0 lo0 hi0
    split at h
    case h_2 => cases h
    rename_i r hr
    split at h
    case h_2 => cases h
    rename_i te me xs hgp
    simp only [Option.some.injEq, Prod.mk.injEq] at h
    obtain ⟨rfl, rfl, rfl, rfl, rfl⟩ := h
    refine ⟨rfl, ?_⟩
    obtain ⟨_, te', me', xs', cur, al, cap, hroot, h1, h2, h3, a', h4, h5⟩ := hs
    have hk := rootV_eq hlk hr
    have hroot0 := hroot
    obtain ⟨t0, m0, x0, cs0, e1, _, _, _, e5, _⟩ := hroot
    rw [hk] at e1
    simp only [Slot.val.injEq] at e1
    obtain ⟨rfl, rfl, e1⟩ := e1
    obtain rfl := eq_of_heq e1
    rw [hgp] at e5
    have e5 := Option.some.inj e5
    simp only [TV.mk.injEq, PT.list.injEq, Md.l.injEq] at e5
    obtain ⟨rfl, rfl, e6⟩ := e5
    obtain rfl := eq_of_heq e6
    obtain ⟨B, _, _, hrep, _⟩ := root_rep hst hroot0
    simp only [Rep] at hrep
    obtain ⟨_, al', cap', he, hd⟩ := hrep
    simp only [List.cons.injEq, Value.slice.injEq, and_true, true_and] at he
    obtain ⟨rfl, rfl⟩ := he
    refine ⟨cur, al, cap, hroot0, h1, h2, h3, ?_, a', h4, h5⟩
    rcases hd with ⟨h7, h8, _⟩ | ⟨_, _, _, _, _, _, _, _, _, _, h7, _⟩
    · rw [h7]; simp
    · exact h7
  · cases h

/-! ### Lengths -/
def aLen (A : Alg) (look : Nat → Slot) (xo : Opd) (x : Slot) : Option (List Prop × Slot) :=
  match x with
  | .val .str .n s => some ([], .val (.int .i64) .n (A.slen s))
  | _ => match viewL x with
    | some L => some ([], .val (.int .i64) .n (A.len L.te L.xs))
    | none => match ownL A look xo x with
      | some (_, _, L) => some ([], .val (.int .i64) .n (A.len L.te L.xs))
      | none => match winL A look x with
        | some (_, _, _, lo, hi) => some ([], .val (.int .i64) .n (A.mns hi lo))
        | none => none

theorem aLen_sound {E : Env} {σ : List Slot} {a : Act} {w : World} (hst : RepState E σ a w) {look : Nat → Slot} (hlk : Looks look σ) {gl : List (Nat × Bool)} (hgl : holdsG (vl a) gl) {o : Oper} {T : TypeId} {xo : Opd} {x : Operand}
    (ho : o.op = .call { callee := .builtin .len, args := #[x], argTypes := #[T] }) (hxo : OpdOk xo x) (hT : E.P.underlying T = some .string ∨ ∃ e, E.P.underlying T = some (.slice e))
    {s : Slot} {obs : List Prop} {A1 : List Nat} (hx : RepSlot w E.F (lk σ) (vl a) (opd look gl xo) (a.eval x) A1) (h : aLen real0 look xo (opd look gl xo) = some (obs, s)) (hTs : ∀ b, opd look gl xo = .val .str .n b → E.P.underlying T = some .string)
    (hTl : (∀ b, opd look gl xo ≠ .val .str .n b) → ∃ e, E.P.underlying T = some (.slice e)) : Yld E σ a w s (execOp a.eval o) := by
  have hsl : ∀ (al : Option Addr) (n c : Nat) (e : TypeId), E.P.underlying T = some (.slice e) → a.eval x = .slice al n c → (n : Int) ≤ 4294967296 → Yld E σ a w (.val (.int .i64) .n (n : Int)) (execOp a.eval o) := by
    intro al n c e hT hu hn
    refine Yld.pure (v := .int .i64 n) ?_ (int_rep (by show (-9223372036854775808 : Int) ≤ n ∧ (n : Int) ≤ 9223372036854775807; omega))
    simp [execOp, ho, resolve, hu, invoke, builtin, Builtin.len_, underlying, hT, goInt]
  unfold aLen at h
  split at h
  · rename_i b heq
    simp only [Option.some.injEq, Prod.mk.injEq] at h
    obtain ⟨_, rfl⟩ := h
    have hT := hTs b heq
    rw [heq] at hx
    obtain ⟨e1, _, hb⟩ := rep_str hx
    refine Yld.pure (v := .int .i64 b.size) ?_ (int_rep (by show (-9223372036854775808 : Int) ≤ (b.size : Int) ∧ (b.size : Int) ≤ 9223372036854775807; omega))
    simp [execOp, ho, resolve, e1, invoke, builtin, Builtin.len_, underlying, hT, goInt]
  · rename_i hne
    obtain ⟨e, hT⟩ := hTl (fun b hb => hne b hb)
    split at h
    · rename_i L hL
      simp only [Option.some.injEq, Prod.mk.injEq] at h
      obtain ⟨_, rfl⟩ := h
      obtain ⟨hs, _⟩ := viewL_inv hL
      rw [hs] at hx
      obtain ⟨_, hn, al, cap, hu, _⟩ := rep_view hx
      exact hsl al _ cap e hT hu (by omega)
    · split at h
      · rename_i k p L hL
        simp only [Option.some.injEq, Prod.mk.injEq] at h
        obtain ⟨_, rfl⟩ := h
        obtain ⟨cur, al, cap, A, hroot, hu, _, hrep⟩ := ownL_rep hst hlk hgl hxo hL
        simp only [Rep] at hrep
        exact hsl al _ cap e hT hu (by have := hrep.1; omega)
      · split at h
        · rename_i k p L lo hi hL
          simp only [Option.some.injEq, Prod.mk.injEq] at h
          obtain ⟨_, rfl⟩ := h
          obtain ⟨_, cur, al, cap, hroot, h1, h2, h3, _, a', hu, _⟩ := winL_rep hst hlk hx hL
          obtain ⟨B, _, _, hrep, _⟩ := root_rep hst hroot
          simp only [Rep] at hrep
          have h5 := hrep.1
          have : ((hi.toNat - lo.toNat : Nat) : Int) = hi - lo := by omega
          have h6 := hsl a' (hi.toNat - lo.toNat) _ e hT hu (by omega)
          rw [this] at h6
          exact h6
        · cases h

/-! ### Parts of strings -/
def oI (A : Alg) (look : Nat → Slot) (gl : List (Nat × Bool)) (o : Option Opd) (d : Int) : Option Int := match o with
  | none => some d
  | some x => asI (opd look gl x)

def OptOk (x : Option Opd) (o : Option Operand) : Prop := match x, o with
  | none, none => True
  | some x, some o => OpdOk x o
  | _, _ => False

def aCutS (A : Alg) (look : Nat → Slot) (gl : List (Nat × Bool)) (x : Slot) (lo hi : Option Opd) : Option (List Prop × Slot) :=
  match x with
  | .val .str .n s => match oI A look gl lo 0, oI A look gl hi (A.slen s) with
    | some l, some h => some ([A.bnd l h (A.slen s)], .val .str .n (A.scut s l h))
    | _, _ => none
  | _ => none

/-- The bounds of a part, as the model reckons them. -/
theorem run_bounds {P : Program} {w : World} (isS : Bool) (len cap : Nat) (lo hi : Option Value) (l h : Nat) (hlen : len ≤ cap) (hh : h ≤ cap) (hl : l ≤ h)
    (h1 : (hi = none ∧ h = len) ∨ ∃ k, hi = some (.int k (h : Int))) (h2 : (lo = none ∧ l = 0) ∨ ∃ k, lo = some (.int k (l : Int))) :
    (Instr.sliceBounds isS len cap lo hi none).run P w = .ok (l, h, cap) w := by
  have e1 : ∀ k (c : BoundsCode), (Instr.sliceBound (.int k (h : Int)) cap c).run P w = .ok h w := by
    intro k c
    simp [Instr.sliceBound, asIntOf, hh]
  have e2 : ∀ k (c : BoundsCode), (Instr.sliceBound (.int k (l : Int)) h c).run P w = .ok l w := by
    intro k c
    simp [Instr.sliceBound, asIntOf, hl]
  rcases h1 with ⟨rfl, rfl⟩ | ⟨k1, rfl⟩ <;> rcases h2 with ⟨rfl, rfl⟩ | ⟨k2, rfl⟩ <;> simp [Instr.sliceBounds, e1, e2]

theorem oI_rep {E : Env} {σ : List Slot} {a : Act} {w : World} (hst : RepState E σ a w) {look : Nat → Slot} (hlk : Looks look σ) {gl : List (Nat × Bool)} (hgl : holdsG (vl a) gl) {x : Option Opd} {o : Option Operand} (ho : OptOk x o) {d i : Int}
    (h : oI real0 look gl x d = some i) : (o = none ∧ i = d) ∨ ∃ y k, o = some y ∧ a.eval y = .int k i := by
  cases x with
  | none =>
    cases o with
    | none => simp only [oI, Option.some.injEq] at h; exact .inl ⟨rfl, h.symm⟩
    | some o => exact ho.elim
  | some x =>
    cases o with
    | none => exact ho.elim
    | some o =>
      obtain ⟨A, _, _, hs⟩ := opd_rep hst hlk hgl ho
      obtain ⟨k, h1, _⟩ := asI_rep hs h
      exact .inr ⟨o, k, rfl, h1⟩

theorem aCutS_sound {E : Env} {σ : List Slot} {a : Act} {w : World} (hst : RepState E σ a w) {look : Nat → Slot} (hlk : Looks look σ) {gl : List (Nat × Bool)} (hgl : holdsG (vl a) gl) {o : Oper} {T : TypeId} {x : Operand} {lo hi : Option Opd} {lo' hi' : Option Operand}
    (ho : o.op = .slice T x lo' hi' none) (hlo : OptOk lo lo') (hhi : OptOk hi hi') (hT : E.P.underlying T = some .string)
    {sx s : Slot} {obs : List Prop} {A1 : List Nat} (hx : RepSlot w E.F (lk σ) (vl a) sx (a.eval x) A1) (h : aCutS real0 look gl sx lo hi = some (obs, s)) (hobs : obsAll obs) : Yld E σ a w s (execOp a.eval o) := by
  unfold aCutS at h
  split at h
  case h_2 => cases h
  rename_i b
  split at h
  case h_2 => cases h
  rename_i l h0 hl hh
  simp only [Option.some.injEq, Prod.mk.injEq] at h
  obtain ⟨rfl, rfl⟩ := h
  have hb : 0 ≤ l ∧ l ≤ h0 ∧ h0 ≤ (b.size : Int) := hobs _ (List.mem_singleton.2 rfl)
  obtain ⟨e1, _, hsz⟩ := rep_str hx
  have r1 := oI_rep hst hlk hgl hlo hl
  have r2 := oI_rep hst hlk hgl hhi hh
  have hrun := run_bounds (P := E.P) (w := w) false b.size b.size (lo'.map a.eval) (hi'.map a.eval) l.toNat h0.toNat (Nat.le_refl _) (by omega) (by omega)
    (by
      rcases r2 with ⟨rfl, e⟩ | ⟨y, k, rfl, e⟩
      · refine .inl ⟨rfl, ?_⟩
        rw [e]; show (b.size : Int).toNat = b.size; simp
      · exact .inr ⟨k, by simp [e]; omega⟩)
    (by
      rcases r1 with ⟨rfl, e⟩ | ⟨y, k, rfl, e⟩
      · exact .inl ⟨rfl, by rw [e]; rfl⟩
      · exact .inr ⟨k, by simp [e]; omega⟩)
  refine Yld.pure (v := .string (b.extract l.toNat h0.toNat)) ?_ (str_rep ?_)
  · simp [execOp, ho, e1, Instr.sliceAt, Instr.slice, underlying, hT, hrun]
  · have hz : ∀ (b : ByteArray) (l h : Nat), b.size ≤ 1099511627776 → (b.extract l h).size ≤ 1099511627776 := by
      intro b l h hb
      rw [ByteArray.size_extract]
      omega
    exact hz _ _ _ hsz

/-! ### Parts of lists -/
def aCutL (A : Alg) (look : Nat → Slot) (gl : List (Nat × Bool)) (xo : Opd) (x : Slot) (lo hi : Option Opd) : Option (List Prop × Slot) :=
  match viewL x with
  | some L => match oI A look gl lo 0, oI A look gl hi (A.len L.te L.xs) with
    | some l, some h => some ([A.bnd l h (A.len L.te L.xs)], .val (.list L.te) .n (A.cut L.te L.xs l h))
    | _, _ => none
  | none => match ownL A look xo x with
    | some (k, p, L) => match oI A look gl lo 0, oI A look gl hi (A.len L.te L.xs) with
      | some l, some h => some ([A.bnd l h (A.len L.te L.xs)], .win k p l h)
      | _, _ => none
    | none => match winL A look x with
      | some (k, p, L, l0, h0) => match oI A look gl lo 0, oI A look gl hi (A.mns h0 l0) with
        | some l, some h => some ([A.bnd l h (A.mns h0 l0)], .win k p (A.pls l0 l) (A.pls l0 h))
        | _, _ => none
      | none => none

theorem add_add0 (x : Addr) (hx : x.spot = none) (m n : Nat) : (x.add m).add n = x.add (m + n) := by
  obtain ⟨b, o, s⟩ := x
  simp only at hx
  subst hx
  rw [add_plain0, add_plain0, add_plain0]
  congr 1
  omega

theorem aCutL_sound {E : Env} {σ : List Slot} {a : Act} {w : World} (hst : RepState E σ a w) {look : Nat → Slot} (hlk : Looks look σ) {gl : List (Nat × Bool)} (hgl : holdsG (vl a) gl) {o : Oper} {T : TypeId} {xo : Opd} {x : Operand} {lo hi : Option Opd} {lo' hi' : Option Operand}
    (ho : o.op = .slice T x lo' hi' none) (hxo : OpdOk xo x) (hlo : OptOk lo lo') (hhi : OptOk hi hi') {te : PT} (hT : TyOk E.P (.list te) T)
    {s : Slot} {obs : List Prop} {A1 : List Nat} (hx : RepSlot w E.F (lk σ) (vl a) (opd look gl xo) (a.eval x) A1) (h : aCutL real0 look gl xo (opd look gl xo) lo hi = some (obs, s)) (hobs : obsAll obs)
    (hte : (∀ L, viewL (opd look gl xo) = some L → L.te = te) ∧ (∀ k p L, ownL real0 look xo (opd look gl xo) = some (k, p, L) → L.te = te) ∧ (∀ k p L l h, winL real0 look (opd look gl xo) = some (k, p, L, l, h) → L.te = te)) : Yld E σ a w s (execOp a.eval o) := by
  simp only [TyOk] at hT
  obtain ⟨_, e, hTu, hTe⟩ := hT
  -- the run, whatever the list
  have hrun : ∀ (al : Option Addr) (len cap : Nat) (l h0 : Int), a.eval x = .slice al len cap → len ≤ cap → 0 ≤ l ∧ l ≤ h0 ∧ h0 ≤ (cap : Int) → oI real0 look gl lo 0 = some l → oI real0 look gl hi (len : Int) = some h0 →
      (execOp a.eval o).run E.P w = .ok (.value (.slice (if cap = l.toNat then al else al.map (·.add (l.toNat * te.size))) (h0.toNat - l.toNat) (cap - l.toNat))) w := by
    intro al len cap l h0 hu hlc hb hl hh
    have r1 := oI_rep hst hlk hgl hlo hl
    have r2 := oI_rep hst hlk hgl hhi hh
    have hrun := run_bounds (P := E.P) (w := w) true len cap (lo'.map a.eval) (hi'.map a.eval) l.toNat h0.toNat hlc (by omega) (by omega)
      (by
        rcases r2 with ⟨rfl, e⟩ | ⟨y, k, rfl, e⟩
        · exact .inl ⟨rfl, by rw [e]; simp⟩
        · exact .inr ⟨k, by simp [e]; omega⟩)
      (by
        rcases r1 with ⟨rfl, e⟩ | ⟨y, k, rfl, e⟩
        · exact .inl ⟨rfl, by rw [e]; rfl⟩
        · exact .inr ⟨k, by simp [e]; omega⟩)
    simp [execOp, ho, hu, Instr.sliceAt, Instr.slice, underlying, hTu, hrun, hTe.sizeOf w]
  unfold aCutL at h
  split at h
  · rename_i L hL
    obtain rfl := hte.1 L hL
    split at h
    case h_2 => cases h
    rename_i l h0 hl hh
    simp only [Option.some.injEq, Prod.mk.injEq] at h
    obtain ⟨rfl, rfl⟩ := h
    obtain ⟨hs, _⟩ := viewL_inv hL
    rw [hs] at hx
    obtain ⟨te, m, xs⟩ := L
    dsimp only at *
    have hb : 0 ≤ l ∧ l ≤ h0 ∧ h0 ≤ (List.length xs : Int) := hobs _ (List.mem_singleton.2 rfl)
    obtain ⟨_, hn, al, cap, hu, hlc, h5⟩ := rep_view hx
    have hr := hrun al _ cap l h0 hu hlc (by omega) hl hh
    refine Yld.pure hr ⟨[_], ?_, rfl⟩
    have hlen : ((List.take h0.toNat xs).drop l.toNat).length = h0.toNat - l.toNat := by simp; omega
    show Rep w E.F (.list te) .n ((List.take h0.toNat xs).drop l.toNat) _ []
    simp only [Rep]
    refine ⟨trivial, by rw [hlen]; omega, _, _, by rw [hlen], by rw [hlen]; omega, ?_⟩
    by_cases hz : h0.toNat = l.toNat
    · exact .inl (List.eq_nil_of_length_eq_zero (by rw [hlen]; omega))
    · rcases h5 with h5 | ⟨b, off, c, e', fr, rfl, hF, hb', hsz, hrl⟩
      · rw [show List.length xs = 0 from congrArg List.length h5] at hb; omega
      · refine .inr ⟨b, off + l.toNat * te.size, c, e', fr, ?_, hF, hb', ?_, ?_⟩
        · rw [if_neg (by omega)]; simp [add_plain0]
        · rw [hlen]
          have h8 : (l.toNat + (h0.toNat - l.toNat)) * te.size ≤ List.length xs * te.size := Nat.mul_le_mul_right _ (by omega)
          rw [Nat.add_mul] at h8
          omega
        · rw [hlen]
          -- the part of the cells
          have hsplit : xs = xs.take l.toNat ++ (((xs.take h0.toNat).drop l.toNat) ++ xs.drop h0.toNat) := by
            rw [← List.append_assoc]
            have : xs.take l.toNat ++ (xs.take h0.toNat).drop l.toNat = xs.take h0.toNat := by
              have h9 : (xs.take h0.toNat).take l.toNat = xs.take l.toNat := by rw [List.take_take, Nat.min_eq_left (by omega)]
              rw [← h9, List.take_append_drop]
            rw [this, List.take_append_drop]
          have hrl2 := hrl
          rw [hsplit] at hrl2
          obtain ⟨c1, c2, B1, B2, hc, hB, g1, g2⟩ := repL_split hrl2
          obtain ⟨d1, d2, C1, C2, rfl, rfl, g3, g4⟩ := repL_split g2
          have hC1 : C1 = [] := by
            have := congrArg List.length hB
            simp at this
            exact List.eq_nil_of_length_eq_zero (by omega)
          subst hC1
          have k1 := repL_length (fun x c A h => rep_length te _ x c A h) _ _ _ g1
          have k2 := repL_length (fun x c A h => rep_length te _ x c A h) _ _ _ g3
          rw [hlen] at k2
          rw [← hsplit] at hc
          have h9 := seg_inner (n := List.length xs * te.size) rfl (by simpa using hsz) hc
          rw [k1, k2, List.length_take, Nat.min_eq_left (by omega)] at h9
          rw [← h9]
          exact g3
  · split at h
    · rename_i k p L hL
      obtain rfl := hte.2.1 k p L hL
      split at h
      case h_2 => cases h
      rename_i l h0 hl hh
      simp only [Option.some.injEq, Prod.mk.injEq] at h
      obtain ⟨rfl, rfl⟩ := h
      obtain ⟨te, m, xs⟩ := L
      dsimp only at *
      have hb : 0 ≤ l ∧ l ≤ h0 ∧ h0 ≤ (List.length xs : Int) := hobs _ (List.mem_singleton.2 rfl)
      obtain ⟨cur, al, cap, A, hroot, hu, _, hrep⟩ := ownL_rep hst hlk hgl hxo hL
      dsimp only at hroot hu hrep
      have hlc : List.length xs ≤ cap := by
        simp only [Rep] at hrep
        obtain ⟨_, al', cap', he, hd⟩ := hrep
        simp only [List.cons.injEq, Value.slice.injEq, and_true, true_and] at he
        obtain ⟨rfl, rfl⟩ := he
        rcases hd with ⟨h7, h8, _⟩ | ⟨_, _, _, _, _, _, _, _, _, _, h7, _⟩
        · rw [show List.length xs = 0 from congrArg List.length h7]; omega
        · exact h7
      have hr := hrun al _ cap l h0 hu hlc (by omega) hl hh
      refine Yld.pure hr ⟨rfl, te, m, xs, cur, al, cap, hroot, hb.1, hb.2.1, hb.2.2, _, rfl, ?_⟩
      by_cases hz : cap = l.toNat
      · exact .inl hz
      · exact .inr (by rw [if_neg hz])
    · split at h
      case h_2 => cases h
      rename_i k p L l0 h00 hL
      obtain rfl := hte.2.2 k p L l0 h00 hL
      split at h
      case h_2 => cases h
      rename_i l h0 hl hh
      simp only [Option.some.injEq, Prod.mk.injEq] at h
      obtain ⟨rfl, rfl⟩ := h
      obtain ⟨hsw, cur, al, cap, hroot, h1, h2, h3, h4, a', hu, h6⟩ := winL_rep hst hlk hx hL
      obtain ⟨te, m, xs⟩ := L
      dsimp only at *
      have hb : 0 ≤ l ∧ l ≤ h0 ∧ h0 ≤ h00 - l0 := hobs _ (List.mem_singleton.2 rfl)
      have hh' : oI real0 look gl hi ((h00.toNat - l0.toNat : Nat) : Int) = some h0 := by
        rw [show ((h00.toNat - l0.toNat : Nat) : Int) = h00 - l0 by omega]; exact hh
      have hr := hrun a' _ (cap - l0.toNat) l h0 hu (by omega) (by omega) hl hh'
      refine Yld.pure hr ⟨rfl, te, m, xs, cur, al, cap, hroot, ?_, ?_, ?_, (if cap - l0.toNat = l.toNat then a' else a'.map (·.add (l.toNat * te.size))), ?_, ?_⟩
      · show 0 ≤ l0 + l; omega
      · show l0 + l ≤ l0 + h0; omega
      · show l0 + h0 ≤ _; omega
      · have e1 : (real0.pls l0 h0).toNat - (real0.pls l0 l).toNat = h0.toNat - l.toNat := by
          show (l0 + h0).toNat - (l0 + l).toNat = _; omega
        have e2 : cap - (real0.pls l0 l).toNat = cap - l0.toNat - l.toNat := by
          show cap - (l0 + l).toNat = _; omega
        rw [e1, e2]
      · have e3 : (real0.pls l0 l).toNat = l0.toNat + l.toNat := by show (l0 + l).toNat = _; omega
        rw [e3]
        by_cases hz : cap = l0.toNat + l.toNat
        · exact .inl hz
        · refine .inr ?_
          rw [if_neg (by omega)]
          rcases h6 with h6 | rfl
          · omega
          · -- the root's address has no spot
            obtain ⟨B, _, _, hrep, _⟩ := root_rep hst hroot
            simp only [Rep] at hrep
            obtain ⟨_, al', cap', he, hd⟩ := hrep
            simp only [List.cons.injEq, Value.slice.injEq, and_true, true_and] at he
            obtain ⟨rfl, rfl⟩ := he
            rcases hd with ⟨_, h8, _⟩ | ⟨b, off, _, _, _, _, rfl, _⟩
            · omega
            · simp [add_plain0, Nat.add_mul, Nat.add_assoc]

end Go.Proofs.Ytaachifkgcdeoaa.Sy

namespace Go.Proofs.Ytaachifkgcdeoaa.Sy
open Go.RowKit
set_option linter.unusedSimpArgs false
set_option linter.unusedVariables false

mutual
/-- Values of this type can be compared part by part. -/
def EqOk (P : Program) : PT → TypeId → Prop
  | .int k, T => P.underlying T = some (.int k)
  | .bool, T => P.underlying T = some .bool
  | .str, T => P.underlying T = some .string
  | .arr n t, T => ∃ e i, P.underlying T = some (.array n e) ∧ P.info? e = some i ∧ i.size = t.size ∧ TyOk P t e ∧ EqOk P t e
  | .st ts, T => ∃ fs, P.underlying T = some (.struct fs) ∧ P.stoodInHeld T = false ∧ EqOkL P ts 0 fs.toList
  | _, _ => False
def EqOkL (P : Program) : List PT → Nat → List Field → Prop
  | [], _, [] => True
  | t :: ts, off, f :: fs => f.name ≠ "_" ∧ f.offset = off ∧ TyOk P t f.type ∧ EqOk P t f.type ∧ EqOkL P ts (off + t.size) fs
  | _, _, _ => False
end

mutual
def PT.depth : PT → Nat
  | .arr _ t => t.depth + 1
  | .st ts => PT.depthL ts + 1
  | _ => 1
def PT.depthL : List PT → Nat
  | [] => 0
  | t :: ts => max t.depth (PT.depthL ts)
end

mutual
theorem run_equalIn {P : Program} {w : World} {F : Nat → Prop} : ∀ (t : PT) (T : TypeId) (d : Nat) (x y : t.den) (cs cs' : List Value) (A B : List Nat), EqOk P t T → t.depth ≤ d → Rep w F t .n x cs A → Rep w F t .n y cs' B →
    (Op.equalIn d T (wrapV t cs) (wrapV t cs')).run P w = .ok (t.eqb x y) w
  | .int k, T, d, x, y, cs, cs', A, B, hT, hd, h1, h2 => by
    obtain ⟨d, rfl⟩ : ∃ e, d = e + 1 := ⟨d - 1, by simp [PT.depth] at hd; omega⟩
    simp only [Rep] at h1 h2
    obtain ⟨_, rfl, _⟩ := h1
    obtain ⟨_, rfl, _⟩ := h2
    simp only [EqOk] at hT
    have := run_equalIn_int (P := P) w d T k k x y hT
    simp only [wrapV, PT.isAgg, PT.eqb, Bool.false_eq_true, if_false, List.headD_cons]
    rw [this]
    congr 1
  | .bool, T, d, x, y, cs, cs', A, B, hT, hd, h1, h2 => by
    obtain ⟨d, rfl⟩ : ∃ e, d = e + 1 := ⟨d - 1, by simp [PT.depth] at hd; omega⟩
    simp only [Rep] at h1 h2
    obtain ⟨_, rfl⟩ := h1
    obtain ⟨_, rfl⟩ := h2
    simp only [EqOk] at hT
    exact run_equalIn_bool' (P := P) w d T x y hT
  | .str, T, d, x, y, cs, cs', A, B, hT, hd, h1, h2 => by
    obtain ⟨d, rfl⟩ : ∃ e, d = e + 1 := ⟨d - 1, by simp [PT.depth] at hd; omega⟩
    simp only [Rep] at h1 h2
    obtain ⟨_, rfl, _⟩ := h1
    obtain ⟨_, rfl, _⟩ := h2
    simp only [EqOk] at hT
    exact run_equalIn_string (P := P) w d T x y hT
  | .list t, T, d, x, y, cs, cs', A, B, hT, hd, h1, h2 => by simp [EqOk] at hT
  | .box t, T, d, x, y, cs, cs', A, B, hT, hd, h1, h2 => by simp [EqOk] at hT
  | .arr n t, T, d, x, y, cs, cs', A, B, hT, hd, h1, h2 => by
    obtain ⟨d, rfl⟩ : ∃ e, d = e + 1 := ⟨d - 1, by simp [PT.depth] at hd; omega⟩
    have hd' : t.depth ≤ d := by simp [PT.depth] at hd; omega
    simp only [EqOk] at hT
    obtain ⟨e, i, g1, g2, g3, g4, g5⟩ := hT
    simp only [Rep] at h1 h2
    have hc : P.cellsOf e = t.size := by simp [Program.cellsOf, g2, g3]
    rw [show wrapV (.arr n t) cs = .agg cs.toArray from rfl, show wrapV (.arr n t) cs' = .agg cs'.toArray from rfl, run_equalIn_array w d _ _ g1 g2, hc]
    have key : ∀ (xs ys : List t.den) (c0 cs c0' cs' : List Value) (A B : List Nat) (k : Nat), xs.length = ys.length → c0.length = k * t.size → c0'.length = k * t.size → RepL (Rep w F t .n) xs cs A → RepL (Rep w F t .n) ys cs' B →
        (Op.eqItems d e t.size (c0 ++ cs).toArray (c0' ++ cs').toArray (List.range' k xs.length)).run P w = .ok (listEqb t.eqb xs ys) w := by
      intro xs
      induction xs with
      | nil =>
        intro ys c0 cs c0' cs' A B k hl _ _ _ _
        cases ys with
        | nil => simp [Op.eqItems, listEqb]
        | cons _ _ => simp at hl
      | cons x xs ih =>
        intro ys c0 cs c0' cs' A B k hl k1 k2 r1 r2
        cases ys with
        | nil => simp at hl
        | cons y ys =>
          obtain ⟨c1, c2, A1, A2, rfl, rfl, q1, q2⟩ := r1
          obtain ⟨d1, d2, B1, B2, rfl, rfl, q3, q4⟩ := r2
          have l1 := rep_length _ _ _ _ _ q1
          have l2 := rep_length _ _ _ _ _ q3
          have p1 := run_part g4 (cs := c0 ++ (c1 ++ c2)) (off := k * t.size) (by simp [k1, l1]) w
          have p2 := run_part g4 (cs := c0' ++ (d1 ++ d2)) (off := k * t.size) (by simp [k2, l2]) w
          rw [← k1, List.drop_left, ← l1, List.take_left] at p1
          rw [← k2, List.drop_left, ← l2, List.take_left] at p2
          have he := run_equalIn t e d x y c1 d1 A1 B1 g5 hd' q1 q3
          have := ih ys (c0 ++ c1) c2 (c0' ++ d1) d2 A2 B2 (k + 1) (by simpa using hl) (by rw [List.length_append, k1, l1, Nat.succ_mul]) (by rw [List.length_append, k2, l2, Nat.succ_mul]) q2 q4
          rw [List.append_assoc, List.append_assoc] at this
          rw [k1] at p1
          rw [k2] at p2
          rw [List.length_cons, List.range'_succ]
          simp only [Op.eqItems, Sem.run_bind, p1, p2, Result.andThen_ok, he, listEqb, Sem.run_ite, this, Sem.run_pure]
          cases t.eqb x y <;> simp
    have := key x y [] cs [] cs' A B 0 (by rw [h1.1, h2.1]) (by simp) (by simp) h1.2 h2.2
    rw [List.nil_append, List.nil_append, h1.1] at this
    rw [List.range_eq_range', this]
    rfl
  | .st ts, T, d, x, y, cs, cs', A, B, hT, hd, h1, h2 => by
    obtain ⟨d, rfl⟩ : ∃ e, d = e + 1 := ⟨d - 1, by simp [PT.depth] at hd; omega⟩
    have hd' : PT.depthL ts ≤ d := by simp [PT.depth] at hd; omega
    simp only [EqOk] at hT
    obtain ⟨fs, g1, g2, g3⟩ := hT
    have hfs : P.fieldsOf T = fs := by simp [Program.fieldsOf, g1]
    simp only [Rep] at h1 h2
    rw [show wrapV (.st ts) cs = .agg cs.toArray from rfl, show wrapV (.st ts) cs' = .agg cs'.toArray from rfl, run_equalIn_struct w d T _ _ (by rw [hfs]; exact g1) g2, hfs]
    have := run_eqFields ts d 0 0 x y [] cs [] cs' A B fs.toList g3 hd' rfl rfl h1 h2
    simpa [PT.eqb] using this
theorem run_eqFields {P : Program} {w : World} {F : Nat → Prop} : ∀ (ts : List PT) (d i off : Nat) (x y : PT.denL ts) (c0 cs c0' cs' : List Value) (A B : List Nat) (fs : List Field), EqOkL P ts off fs → PT.depthL ts ≤ d → c0.length = off → c0'.length = off →
    RepS w F ts .n i x cs A → RepS w F ts .n i y cs' B → (Op.eqFields d (c0 ++ cs).toArray (c0' ++ cs').toArray fs).run P w = .ok (PT.eqbL ts x y) w
  | [], d, i, off, x, y, c0, cs, c0', cs', A, B, fs, hT, hd, k1, k2, h1, h2 => by
    cases fs <;> simp only [EqOkL] at hT
    · simp [Op.eqFields, PT.eqbL]
  | t :: ts, d, i, off, x, y, c0, cs, c0', cs', A, B, fs, hT, hd, k1, k2, h1, h2 => by
    cases fs <;> simp only [EqOkL] at hT
    rename_i f fs
    obtain ⟨g1, g2, g3, g4, g5⟩ := hT
    simp only [RepS] at h1 h2
    obtain ⟨c1, c2, A1, A2, rfl, rfl, q1, q2⟩ := h1
    obtain ⟨d1, d2, B1, B2, rfl, rfl, q3, q4⟩ := h2
    have l1 := rep_length _ _ _ _ _ q1
    have l2 := rep_length _ _ _ _ _ q3
    have p1 := run_part g3 (cs := c0 ++ (c1 ++ c2)) (off := off) (by simp [k1, l1]) w
    have p2 := run_part g3 (cs := c0' ++ (d1 ++ d2)) (off := off) (by simp [k2, l2]) w
    rw [← k1, List.drop_left, ← l1, List.take_left] at p1
    rw [← k2, List.drop_left, ← l2, List.take_left] at p2
    simp only [PT.depthL] at hd
    have he := run_equalIn t f.type d x.1 y.1 c1 d1 A1 B1 g4 (by omega) q1 q3
    have := run_eqFields ts d (i + 1) (off + t.size) x.2 y.2 (c0 ++ c1) c2 (c0' ++ d1) d2 A2 B2 fs g5 (by omega) (by rw [List.length_append, k1, l1]) (by rw [List.length_append, k2, l2]) q2 q4
    rw [List.append_assoc, List.append_assoc] at this
    rw [k1] at p1
    rw [k2] at p2
    simp only [Op.eqFields, g1, ne_eq, not_false_eq_true, if_true, Sem.run_bind, g2, p1, p2, Result.andThen_ok, he, Sem.run_ite, this, Sem.run_pure, PT.eqbL]
    cases t.eqb x.1 y.1 <;> simp
end

def aEqv (A : Alg) (neg : Bool) (t : PT) (x y : Slot) : Option (List Prop × Slot) :=
  match x, y with
  | .val t1 .n a, .val t2 .n b => match castT t1 t a, castT t2 t b with
    | some a, some b => if neg then some ([], .val .bool .n (A.bnot (A.eqb t a b))) else some ([], .val .bool .n (A.eqb t a b))
    | _, _ => none
  | _, _ => none

theorem aEqv_inv {A : Alg} {neg : Bool} {t : PT} {sx sy s : Slot} {obs : List Prop} (h : aEqv A neg t sx sy = some (obs, s)) : ∃ a b : t.den, sx = .val t .n a ∧ sy = .val t .n b ∧ s = .val .bool .n (if neg then A.bnot (A.eqb t a b) else A.eqb t a b) := by
  unfold aEqv at h
  split at h
  · split at h
    · rename_i a0 b0 _ _ a b ha hb
      obtain ⟨rfl, rfl⟩ := castT_some ha
      obtain ⟨rfl, rfl⟩ := castT_some hb
      refine ⟨a, b, rfl, rfl, ?_⟩
      split at h
      · rename_i hn
        simp only [Option.some.injEq, Prod.mk.injEq] at h
        subst hn; exact h.2.symm
      · rename_i hn
        simp only [Option.some.injEq, Prod.mk.injEq] at h
        have hn : neg = false := by simpa using hn
        subst hn; exact h.2.symm
    · cases h
  · cases h

theorem run_eqv {P : Program} {w : World} {T : TypeId} {t : PT} (ht : t = .bool ∨ t.isAgg = true) (neg : Bool) {u v : Value} {cs cs' : List Value} (hu : u = wrapV t cs) (hv : v = wrapV t cs') (hc : cs.length = t.size) (hc' : cs'.length = t.size) (hb : t = .bool → ∃ b b', u = .bool b ∧ v = .bool b') {r : Bool} (h : (Op.equal T u v).run P w = .ok r w) :
    (binOp (if neg then .neq else .eql) T u v).run P w = .ok (.bool (if neg then !r else r)) w := by
  have hform : (∃ xs ys, u = .agg xs ∧ v = .agg ys) ∨ ∃ b b', u = .bool b ∧ v = .bool b' := by
    rcases ht with rfl | ht
    · exact .inr (hb rfl)
    · exact .inl ⟨_, _, by rw [hu]; simp [wrapV, ht]; rfl, by rw [hv]; simp [wrapV, ht]; rfl⟩
  rcases hform with ⟨xs, ys, rfl, rfl⟩ | ⟨b, b', rfl, rfl⟩ <;> cases neg <;> simp [binOp, h]

theorem aEqv_sound {E : Env} {σ : List Slot} {a : Act} {w : World} {o : Oper} {neg : Bool} {t : PT} {T yT : TypeId} {x y : Operand} (ho : o.op = .binOp (if neg then .neq else .eql) T x y yT) (hT : EqOk E.P t T) (hd : t.depth ≤ 10000) (ht : t = .bool ∨ t.isAgg = true) (hgd : E.P.eqGuardType E.P.depth T = false ∨ t = .bool) {sx sy s : Slot} {obs : List Prop} {A1 A2 : List Nat}
    (hx : RepSlot w E.F (lk σ) (vl a) sx (a.eval x) A1) (hy : RepSlot w E.F (lk σ) (vl a) sy (a.eval y) A2) (h : aEqv real0 neg t sx sy = some (obs, s)) : Yld E σ a w s (execOp a.eval o) := by
  obtain ⟨p, q, rfl, rfl, rfl⟩ := aEqv_inv h
  obtain ⟨cs, r1, e1⟩ := hx
  obtain ⟨cs', r2, e2⟩ := hy
  have heq := run_equalIn t T 10000 p q cs cs' A1 A2 hT hd r1 r2
  have heq' : (Op.equal T (a.eval x) (a.eval y)).run E.P w = .ok (t.eqb p q) w := by rw [e1, e2]; exact heq
  have hgrd : (eqGuard (if neg then .neq else .eql) T x y (a.eval x) (a.eval y)).run E.P w = .ok () w := by
    rcases ht with rfl | ht
    · have r1' := rep_bool (look := lk σ) (vs := vl a) ⟨cs, r1, e1⟩
      have r2' := rep_bool (look := lk σ) (vs := vl a) ⟨cs', r2, e2⟩
      rw [r1'.1, r2'.1]
      cases neg <;> simp [eqGuard]
    · rcases hgd with hgd | rfl
      · rw [e1, e2, show wrapV t cs = .agg cs.toArray by simp [wrapV, ht], show wrapV t cs' = .agg cs'.toArray by simp [wrapV, ht]]
        exact run_eqGuard_agg w _ T x y _ _ hgd
      · simp [PT.isAgg] at ht
  have hrun := run_eqv (P := E.P) (w := w) (T := T) ht neg e1 e2 (rep_length _ _ _ _ _ r1) (rep_length _ _ _ _ _ r2) (fun e => by
    subst e
    exact ⟨_, _, (rep_bool (look := lk σ) (vs := vl a) ⟨cs, r1, e1⟩).1, (rep_bool (look := lk σ) (vs := vl a) ⟨cs', r2, e2⟩).1⟩) heq'
  refine Yld.pure (v := .bool (if neg then !(t.eqb p q) else t.eqb p q)) ?_ bool_rep
  simp only [execOp, ho, Sem.run_bind, hgrd, Result.andThen_ok, hrun]
  rfl

/-! ### Choices: the second half of '&&' and '||' -/
def tB (x : Opd) : Option Bool := match x with
  | .c ⟨.bool, .n, b⟩ => some b
  | _ => none

def aPick (A : Alg) (look : Nat → Slot) (gl : List (Nat × Bool)) (c x y : Opd) : Option (List Prop × Slot) :=
  match c with
  | .t k => match opd look gl (.t k) with
    | .val .bool .n b => match tB x, tB y with
      | some true, none => match opd look (gl ++ [(k, false)]) y with
        | .val .bool .n v => some ([], .val .bool .n (A.bor b v))
        | _ => none
      | none, some false => match opd look (gl ++ [(k, true)]) x with
        | .val .bool .n v => some ([], .val .bool .n (A.band b v))
        | _ => none
      | _, _ => none
    | _ => none
  | .c _ => none

theorem aPick_inv {A : Alg} {look : Nat → Slot} {gl : List (Nat × Bool)} {c x y : Opd} {s : Slot} {obs : List Prop} (h : aPick A look gl c x y = some (obs, s)) :
    ∃ (k : Nat) (b v : Bool), c = .t k ∧ opd look gl (.t k) = .val .bool .n b ∧
      ((tB x = some true ∧ opd look (gl ++ [(k, false)]) y = .val .bool .n v ∧ s = .val .bool .n (A.bor b v)) ∨ (tB y = some false ∧ opd look (gl ++ [(k, true)]) x = .val .bool .n v ∧ s = .val .bool .n (A.band b v))) := by
  unfold aPick at h
  split at h
  case h_2 => cases h
  rename_i k
  split at h
  case h_2 => cases h
  rename_i b hb
  split at h
  · rename_i hx hy
    split at h
    case h_2 => cases h
    rename_i v hv
    simp only [Option.some.injEq, Prod.mk.injEq] at h
    exact ⟨k, b, v, rfl, hb, .inl ⟨hx, hv, h.2.symm⟩⟩
  · rename_i hx hy
    split at h
    case h_2 => cases h
    rename_i v hv
    simp only [Option.some.injEq, Prod.mk.injEq] at h
    exact ⟨k, b, v, rfl, hb, .inr ⟨hy, hv, h.2.symm⟩⟩
  · cases h

theorem tB_rep {x : Opd} {o : Operand} {b : Bool} (h : tB x = some b) (ho : OpdOk x o) (a : Act) (w : World) : a.eval o = .bool b := by
  unfold tB at h
  split at h
  · rename_i b'
    obtain rfl := Option.some.inj h
    cases o <;> simp only [OpdOk] at ho
    obtain ⟨cs, h1, h2⟩ := ho w (fun _ => False)
    simp only [Rep] at h1
    obtain ⟨_, rfl⟩ := h1
    exact h2
  · cases h

theorem aPick_sound {E : Env} {σ : List Slot} {a : Act} {w : World} (hst : RepState E σ a w) {look : Nat → Slot} (hlk : Looks look σ) {gl : List (Nat × Bool)} (hgl : holdsG (vl a) gl) {o : Oper} {c x y : Opd} {c' x' y' : Operand} (ho : o.op = .pick c' x' y') (hc : OpdOk c c') (hx : OpdOk x x') (hy : OpdOk y y')
    {s : Slot} {obs : List Prop} (h : aPick real0 look gl c x y = some (obs, s)) : Yld E σ a w s (execOp a.eval o) := by
  obtain ⟨k, b, v, rfl, hb, h⟩ := aPick_inv h
  obtain ⟨A, _, _, r1⟩ := opd_rep hst hlk hgl hc
  rw [hb] at r1
  have e1 := (rep_bool r1).1
  have hk : vl a k = .bool b := by
    cases c' <;> simp only [OpdOk] at hc
    subst hc
    exact e1
  rcases h with ⟨h1, h2, rfl⟩ | ⟨h1, h2, rfl⟩
  · refine Yld.pure (v := .bool (b || v)) ?_ bool_rep
    have ex := tB_rep h1 hx a w
    simp only [execOp, ho, e1, asBool, Sem.run_bind, Sem.run_pure, Result.andThen_ok]
    cases b
    · have hg' : holdsG (vl a) (gl ++ [(k, false)]) := by
        intro g hm
        rcases List.mem_append.1 hm with hm | hm
        · exact hgl g hm
        · obtain rfl := List.mem_singleton.1 hm; exact hk
      obtain ⟨_, _, _, r2⟩ := opd_rep hst hlk hg' hy
      rw [h2] at r2
      simp [(rep_bool r2).1]
    · simp [ex]
  · refine Yld.pure (v := .bool (b && v)) ?_ bool_rep
    have ey := tB_rep h1 hy a w
    simp only [execOp, ho, e1, asBool, Sem.run_bind, Sem.run_pure, Result.andThen_ok]
    cases b
    · simp [ey]
    · have hg' : holdsG (vl a) (gl ++ [(k, true)]) := by
        intro g hm
        rcases List.mem_append.1 hm with hm | hm
        · exact hgl g hm
        · obtain rfl := List.mem_singleton.1 hm; exact hk
      obtain ⟨_, _, _, r2⟩ := opd_rep hst hlk hg' hx
      rw [h2] at r2
      simp [(rep_bool r2).1]

/-! ### Copies -/
def aMov (look : Nat → Slot) (gl : List (Nat × Bool)) (x : Opd) : Option (List Prop × Slot) :=
  match opd look gl x with
  | .val t m v => match x with
    | .c _ => some ([], .val t m v)
    | .t k => if plainT t m then some ([], .val t .n v) else (match look k with
      | .val t m _ => if m.owned then (match t with
        | .box _ => some ([], .ref k [.d])
        | _ => some ([], .bor k [])) else none
      | _ => none)
  | .ref k p => some ([], .ref k p)
  | .bor k p => some ([], .bor k p)
  | .win k p lo hi => some ([], .win k p lo hi)
  | .pv t v => some ([], .pv t v)
  | _ => none

theorem aMov_sound {E : Env} {σ : List Slot} {a : Act} {w : World} (hst : RepState E σ a w) {look : Nat → Slot} (hlk : Looks look σ) {gl : List (Nat × Bool)} (hgl : holdsG (vl a) gl) {o : Oper} {x : Opd} {x' : Operand} (ho : o.op = .move x' ∨ o.op = .assign x') (hx : OpdOk x x')
    {s : Slot} {obs : List Prop} (h : aMov look gl x = some (obs, s)) : Yld E σ a w s (execOp a.eval o) := by
  have hrun : ∀ w, (execOp a.eval o).run E.P w = .ok (.value (a.eval x')) w := by
    intro w
    rcases ho with ho | ho <;> simp [execOp, ho]
  obtain ⟨A, hA, _, r1⟩ := opd_rep hst hlk hgl hx
  unfold aMov at h
  split at h
  · rename_i t m v hv
    split at h
    · rename_i tv
      simp only [Option.some.injEq, Prod.mk.injEq] at h
      obtain ⟨_, rfl⟩ := h
      simp only [opd, Slot.val.injEq] at hv
      obtain ⟨rfl, rfl, hv⟩ := hv
      obtain rfl := eq_of_heq hv
      cases x' <;> simp only [OpdOk] at hx
      obtain ⟨cs, h1, h2⟩ := hx w E.F
      exact Yld.pure (hrun w) ⟨cs, h1, h2⟩
    · rename_i k
      split at h
      · rename_i hp
        simp only [Option.some.injEq, Prod.mk.injEq] at h
        obtain ⟨_, rfl⟩ := h
        rw [hv] at r1
        obtain ⟨cs, h1, h2⟩ := r1
        have h3 := plainT_n _ _ _ _ _ hp h1
        have := plain_nil _ _ _ _ _ rfl h3
        subst this
        exact Yld.pure (hrun w) ⟨cs, h3, h2⟩
      · split at h
        case h_2 => cases h
        rename_i t' m' v' hk
        split at h
        case isFalse => cases h
        rename_i hown
        have hk' : lk σ k = .val t' m' v' := by
          rcases hlk k with e | e
          · rw [hk] at e; cases e
          · exact e.symm.trans hk
        cases x' <;> simp only [OpdOk] at hx
        subst hx
        have hst' := hst
        obtain ⟨_, _, _, ow, _, _, _, hsl⟩ := hst
        obtain ⟨B, hB1, hB2, hB3⟩ := hsl k
        simp only [lk] at hk'
        rw [hk'] at hB3
        obtain ⟨cs, h1, h2⟩ := hB3
        have hroot : Rooted w (lk σ) (vl a) k [] ⟨t', m', v'⟩ none cs := ⟨t', m', v', cs, hk', hown, h2, rep_length _ _ _ _ _ h1, rfl, rfl⟩
        split at h
        · rename_i tb vv
          simp only [Option.some.injEq, Prod.mk.injEq] at h
          obtain ⟨_, rfl⟩ := h
          obtain ⟨m1, rfl⟩ : ∃ m1, m' = .b m1 := by
            cases m' <;> simp [Md.owned] at hown <;> simp only [Rep] at h1
            exact ⟨_, rfl⟩
          simp only [Rep] at h1
          obtain ⟨b2, c2, e2, fr2, A2, rfl, rfl, h4, h5, h6⟩ := h1
          refine Yld.pure (hrun w) ?_
          rw [show a.eval (.tmp k) = .pointer (some ⟨b2, 0, none⟩) from h2]
          exact ⟨rfl, b2, 0, rfl, .inr ⟨⟨tb, m1, vv⟩, _, rooted_step (q := [.d]) hroot (by simp only [getP]) (by simp only [loc]; rfl)⟩⟩
        · simp only [Option.some.injEq, Prod.mk.injEq] at h
          obtain ⟨_, rfl⟩ := h
          exact Yld.pure (hrun w) ⟨rfl, _, _, cs, hroot, h2⟩
  all_goals first
    | (cases h; done)
    | (rename_i hv
       simp only [Option.some.injEq, Prod.mk.injEq] at h
       obtain ⟨_, rfl⟩ := h
       rw [hv] at r1
       obtain ⟨rfl, r1⟩ := r1
       exact Yld.pure (hrun w) ⟨rfl, r1⟩)

end Go.Proofs.Ytaachifkgcdeoaa.Sy

namespace Go.Proofs.Ytaachifkgcdeoaa.Sy
open Go.RowKit
set_option linter.unusedSimpArgs false
set_option linter.unusedVariables false

/-! ### A path again: what stands at its end may come to lie otherwise, its cells the same -/
def SwapLaw (w : World) (F : Nat → Prop) (p : List Stp) : Prop :=
  ∀ (t : PT) (m : Md) (x : t.den) (cs : List Value) (cur : Option (Nat × Nat)) (A : List Nat) (v : TV) (cur' : Option (Nat × Nat)) (cs' : List Value),
    Rep w F t m x cs A → getP real0 t m x p = some v → loc w t cur cs p = some (cur', cs') →
    ∃ Actx A', A.Perm (Actx ++ A') ∧ Rep w F v.t v.m v.x cs' A' ∧
      ∀ (w' : World) (F' : Nat → Prop), (∀ b, F b → F' b) → (∀ b, F b → w'.heap[b]? = w.heap[b]?) → (∀ b ∈ Actx, w'.heap[b]? = w.heap[b]?) → loc w' t cur cs p = some (cur', cs') ∧
        ∀ A'', Rep w' F' v.t v.m v.x cs' A'' → ∃ AN, AN.Perm (Actx ++ A'') ∧ Rep w' F' t m x cs AN

theorem fld_swap {w : World} {F : Nat → Prop} : ∀ (ts : List PT) (m : Md) (i0 : Nat) (x : PT.denL ts) (cs : List Value) (A : List Nat) (i : Nat) (v : TV), RepS w F ts m i0 x cs A → fldP ts m i0 x i = some v →
    ∃ c1 c c2 A1 A' A2, cs = c1 ++ (c ++ c2) ∧ A = A1 ++ (A' ++ A2) ∧ c1.length = PT.sizeL (ts.take i) ∧ ts[i]? = some v.t ∧ Rep w F v.t v.m v.x c A' ∧
      ∀ (w' : World) (F' : Nat → Prop), (∀ b, F b → F' b) → (∀ b, F b → w'.heap[b]? = w.heap[b]?) → (∀ b ∈ A1 ++ A2, w'.heap[b]? = w.heap[b]?) →
        ∀ d B, Rep w' F' v.t v.m v.x d B → RepS w' F' ts m i0 x (c1 ++ (d ++ c2)) (A1 ++ (B ++ A2))
  | [], _, _, _, _, _, _, _, _, hf => by simp [fldP] at hf
  | t :: ts, m, i0, x, cs, A, 0, v, h, hf => by
    simp only [RepS] at h
    obtain ⟨c1, c2, A1, A2, rfl, rfl, h1, h2⟩ := h
    simp only [fldP, Option.some.injEq] at hf
    subst hf
    refine ⟨[], c1, c2, [], A1, A2, rfl, rfl, rfl, rfl, h1, fun w' F' hF hw hA d B hd => ?_⟩
    simp only [RepS]
    exact ⟨d, c2, B, A2, rfl, rfl, hd, repS_frame hF hw ts m (i0 + 1) x.2 c2 A2 (fun b hb => hA b (by simp [hb])) h2⟩
  | t :: ts, m, i0, x, cs, A, i + 1, v, h, hf => by
    simp only [RepS] at h
    obtain ⟨c1, c2, A1, A2, rfl, rfl, h1, h2⟩ := h
    simp only [fldP] at hf
    obtain ⟨d1, d, d2, B1, B', B2, rfl, rfl, hl, ht, hv, hset⟩ := fld_swap ts m (i0 + 1) x.2 c2 A2 i v h2 hf
    refine ⟨c1 ++ d1, d, d2, A1 ++ B1, B', B2, by simp, by simp, ?_, by simpa using ht, hv, fun w' F' hF hw hA e B he => ?_⟩
    · rw [List.length_append, hl, rep_length t _ _ c1 A1 h1]; rfl
    · have hk := hset w' F' hF hw (fun b hb => hA b (by simp only [List.mem_append] at hb ⊢; rcases hb with hb | hb <;> simp [hb])) e B he
      simp only [RepS]
      exact ⟨c1, d1 ++ (e ++ d2), A1, B1 ++ (B ++ B2), by simp, by simp, rep_frame hF hw t _ _ c1 A1 (fun b hb => hA b (by simp [hb])) h1, hk⟩

theorem swap_law (w : World) (F : Nat → Prop) : ∀ p, SwapLaw w F p
  | [] => by
    intro t m x cs cur A v cur' cs' hr hg hl
    simp only [getP, Option.some.injEq] at hg
    simp only [loc, Option.some.injEq, Prod.mk.injEq] at hl
    subst hg
    obtain ⟨rfl, rfl⟩ := hl
    exact ⟨[], A, List.Perm.refl _, hr, fun w' F' _ _ _ => ⟨by simp [loc], fun A'' h => ⟨A'', List.Perm.refl _, h⟩⟩⟩
  | s :: p => by
    have ih := swap_law w F p
    intro t m x cs cur A v cur' cs' hr hg hl
    rcases getP_cases hg with ⟨ts, i, rfl, rfl⟩ | ⟨n, t1, k, rfl, rfl⟩ | ⟨t1, m1, k, rfl, rfl, rfl⟩ | ⟨t1, m1, rfl, rfl, rfl⟩
    · have hm : m = .n ∨ ∃ ms, m = .s ms := by cases m <;> simp_all [getP]
      have hrs : RepS w F ts m 0 x cs A := by
        rcases hm with rfl | ⟨ms, rfl⟩ <;> simpa [Rep] using hr
      have hgx : ∃ u, fldP ts m 0 x i = some u ∧ getP real0 u.t u.m u.x p = some v := by
        rcases hm with rfl | ⟨ms, rfl⟩
        all_goals
          simp only [getP] at hg
          split at hg
          · exact ⟨_, by assumption, hg⟩
          · cases hg
      obtain ⟨u, hu, hgu⟩ := hgx
      obtain ⟨c1, c, c2, A1, A', A2, rfl, rfl, hc1, hti, hx, hset⟩ := fld_swap ts m 0 x cs A i u hrs hu
      have hce : c.length = u.t.size := rep_length _ _ _ _ _ hx
      simp only [loc, hti] at hl
      rw [← hc1, List.drop_left, ← hce, List.take_left] at hl
      obtain ⟨Actx, B, hp, hv, hrest⟩ := ih u.t u.m u.x c _ A' v cur' cs' hx hgu hl
      refine ⟨A1 ++ (A2 ++ Actx), B, perm_ctx hp, hv, fun w' F' hF hFw hA => ?_⟩
      obtain ⟨hl', hswap⟩ := hrest w' F' hF hFw (fun b hb => hA b (by simp [hb]))
      refine ⟨?_, fun A'' hr'' => ?_⟩
      · simp only [loc, hti]
        rw [← hc1, List.drop_left, ← hce, List.take_left]
        exact hl'
      · obtain ⟨AN, hpN, hrN⟩ := hswap A'' hr''
        refine ⟨A1 ++ (AN ++ A2), perm_ctx hpN, ?_⟩
        have := hset w' F' hF hFw (fun b hb => hA b (by rcases List.mem_append.1 hb with h | h <;> simp [h])) c AN hrN
        rcases hm with rfl | ⟨ms, rfl⟩ <;> simpa [Rep] using this
    · have hm : ∃ m1, RepL (Rep w F t1 m1) x cs A ∧ List.length x = n ∧ getP real0 t1 m1 (real0.get t1 x k) p = some v ∧ ∀ w' F' cs A, RepL (Rep w' F' t1 m1) x cs A → Rep w' F' (.arr n t1) m x cs A := by
        cases m <;> simp [getP] at hg <;> simp only [Rep] at hr
        · exact ⟨_, hr.2, hr.1, hg, fun w' F' cs A h => by simp only [Rep]; exact ⟨hr.1, h⟩⟩
        · exact ⟨_, hr.2, hr.1, hg, fun w' F' cs A h => by simp only [Rep]; exact ⟨hr.1, h⟩⟩
      obtain ⟨m1, hrl, hnx, hg', hback⟩ := hm
      simp only [loc] at hl ⊢
      split at hl
      case isFalse => cases hl
      rename_i hk
      have hi : k.toNat < List.length x := by omega
      obtain ⟨c1, c, c2, A1, A', A2, rfl, rfl, hc1, hx, hset⟩ := repL_at (fun x c A h => rep_length t1 _ x c A h) hrl hi
      have hce : c.length = t1.size := rep_length _ _ _ _ _ hx
      rw [← hc1, List.drop_left, ← hce, List.take_left] at hl
      obtain ⟨Actx, B, hp, hv, hrest⟩ := ih t1 m1 (show List t1.den from x)[k.toNat] c _ A' v cur' cs' hx (by simpa [real0, List.getD_eq_getElem?_getD, List.getElem?_eq_getElem hi] using hg') hl
      refine ⟨A1 ++ (A2 ++ Actx), B, perm_ctx hp, hv, fun w' F' hF hFw hA => ?_⟩
      obtain ⟨hl', hswap⟩ := hrest w' F' hF hFw (fun b hb => hA b (by simp [hb]))
      refine ⟨?_, fun A'' hr'' => ?_⟩
      · rw [if_pos hk, ← hc1, List.drop_left, ← hce, List.take_left]
        exact hl'
      · obtain ⟨AN, hpN, hrN⟩ := hswap A'' hr''
        refine ⟨A1 ++ (AN ++ A2), perm_ctx hpN, hback w' F' _ _ ?_⟩
        have := hset (Rep w' F' t1 m1) (show List t1.den from x)[k.toNat] c AN (fun x c A'' hb hR => rep_frame hF hFw t1 _ x c A'' (fun b hb' => hA b (by rcases List.mem_append.1 (hb b hb') with h | h <;> simp [h])) hR) hrN
        have e := List.set_getElem_self (as := (show List t1.den from x)) (i := k.toNat) hi
        rwa [e] at this
    · have hr0 := hr
      simp only [Rep] at hr
      obtain ⟨h0, a, cap, rfl, hd⟩ := hr
      simp only [loc] at hl
      split at hl
      case h_2 => cases hl
      rename_i b0 o0 len cap' heq
      simp only [List.cons.injEq, Value.slice.injEq, and_true] at heq
      obtain ⟨rfl, rfl, rfl⟩ := heq
      split at hl
      case isFalse => cases hl
      rename_i hk
      rcases hd with ⟨rfl, _⟩ | ⟨b, off, c, e, fr, A', hba, rfl, hb, hfree, hcap, hsz, hrl⟩
      · simp at hk; omega
      simp only [Option.some.injEq, Addr.mk.injEq, and_true] at hba
      obtain ⟨rfl, rfl⟩ := hba
      have hi : k.toNat < List.length x := by omega
      obtain ⟨c1, ce, c2, A1, Ae, A2, hcs, rfl, hc1, hx, hset⟩ := repL_at (fun x c A h => rep_length t1 _ x c A h) hrl hi
      have hce : ce.length = t1.size := rep_length _ _ _ _ _ hx
      have hmul : List.length x * t1.size ≤ cap * t1.size := Nat.mul_le_mul_right _ hcap
      have hcell : ∀ w' : World, w'.heap[b0]? = w.heap[b0]? → rdCells w' b0 (o0 + k.toNat * t1.size) t1.size = ce := by
        intro w' h
        rw [rdCells_of (h.trans hb), ← hc1, ← hce]
        exact (seg_inner (n := List.length x * t1.size) rfl (by simp; omega) hcs).symm
      rw [hcell w rfl] at hl
      obtain ⟨Actx, B, hp, hv, hrest⟩ := ih t1 m1 (show List t1.den from x)[k.toNat] ce _ Ae v cur' cs' hx (by simpa [getP, real0, List.getD_eq_getElem?_getD, List.getElem?_eq_getElem hi] using hg) hl
      refine ⟨b0 :: (A1 ++ (A2 ++ Actx)), B, List.Perm.cons _ (perm_ctx hp), hv, fun w' F' hF hFw hA => ?_⟩
      obtain ⟨hl', hswap⟩ := hrest w' F' hF hFw (fun b hb => hA b (by simp [hb]))
      have hb' := (hA b0 (by simp)).trans hb
      refine ⟨?_, fun A'' hr'' => ?_⟩
      · simp only [loc]
        rw [if_pos hk, hcell w' (hA b0 (by simp))]
        exact hl'
      · obtain ⟨AN, hpN, hrN⟩ := hswap A'' hr''
        refine ⟨b0 :: (A1 ++ (AN ++ A2)), List.Perm.cons _ (perm_ctx hpN), ?_⟩
        simp only [Rep]
        refine ⟨h0, _, cap, rfl, .inr ⟨b0, o0, c, e, fr, _, rfl, rfl, hb', hfree, hcap, hsz, ?_⟩⟩
        have := hset (Rep w' F' t1 m1) (show List t1.den from x)[k.toNat] ce AN (fun x c A'' hb hR => rep_frame hF hFw t1 _ x c A'' (fun b hb' => hA b (by rcases List.mem_append.1 (hb b hb') with h | h <;> simp [h])) hR) hrN
        have e := List.set_getElem_self (as := (show List t1.den from x)) (i := k.toNat) hi
        rw [e] at this
        rw [hcs]
        exact this
    · simp only [Rep] at hr
      obtain ⟨b0, c, e, fr, A', rfl, rfl, hb, hfree, hx⟩ := hr
      have hcl : c.toList.length = t1.size := rep_length _ _ _ _ _ hx
      have hcell : ∀ w' : World, w'.heap[b0]? = w.heap[b0]? → rdCells w' b0 0 t1.size = c.toList := by
        intro w' h
        rw [rdCells_of (h.trans hb), List.drop_zero, List.take_of_length_le (by omega)]
      simp only [loc] at hl
      rw [hcell w rfl] at hl
      obtain ⟨Actx, B, hp, hv, hrest⟩ := ih t1 m1 x c.toList _ A' v cur' cs' hx (by simpa [getP] using hg) hl
      refine ⟨b0 :: Actx, B, List.Perm.cons _ hp, hv, fun w' F' hF hFw hA => ?_⟩
      obtain ⟨hl', hswap⟩ := hrest w' F' hF hFw (fun b hb => hA b (by simp [hb]))
      refine ⟨?_, fun A'' hr'' => ?_⟩
      · simp only [loc]
        rw [hcell w' (hA b0 (by simp))]
        exact hl'
      · obtain ⟨AN, hpN, hrN⟩ := hswap A'' hr''
        refine ⟨b0 :: AN, List.Perm.cons _ hpN, ?_⟩
        simp only [Rep]
        exact ⟨b0, c, e, fr, AN, rfl, rfl, (hA b0 (by simp)).trans hb, hfree, hrN⟩

end Go.Proofs.Ytaachifkgcdeoaa.Sy

namespace Go.Proofs.Ytaachifkgcdeoaa.Sy
open Go.RowKit
set_option linter.unusedSimpArgs false
set_option linter.unusedVariables false

theorem list_eq_take_set {l : List Value} {off : Nat} {v : Value} {r : List Value} (h : off + (v :: r).length ≤ l.length) :
    (l.set off v).take (off + 1) ++ (r ++ (l.set off v).drop (off + 1 + r.length)) = l.take off ++ ((v :: r) ++ l.drop (off + (v :: r).length)) := by
  have h1 : off < l.length := by simp at h; omega
  have hs : l.set off v = l.take off ++ v :: l.drop (off + 1) := by rw [List.set_eq_take_append_cons_drop, if_pos h1]
  have hla : (l.take off).length = off := by simp; omega
  have h2 : (l.set off v).take (off + 1) = l.take off ++ [v] := by
    rw [hs, List.take_append, hla, List.take_of_length_le (by omega)]
    congr 1
    rw [show off + 1 - off = 1 by omega]
    rfl
  have h3 : (l.set off v).drop (off + 1 + r.length) = l.drop (off + (v :: r).length) := by
    rw [hs, List.drop_append, hla, List.drop_of_length_le (by omega), List.nil_append, show off + 1 + r.length - off = r.length + 1 by omega, List.drop_succ_cons, List.drop_drop]
    congr 1
    simp; omega
  rw [h2, h3]
  simp

theorem setCells_writeAt (b : Nat) : ∀ (ds : List Value) (off : Nat) (w : World) (c : Array Value) (e : TypeId) (fr : Nat × Nat), w.heap[b]? = some (.cells c e fr) → off + ds.length ≤ c.size →
    WriteAt w (w.setCells b off ds) b off ds ∧ (w.setCells b off ds).heap.size = w.heap.size ∧ (w.setCells b off ds).os = w.os ∧ (w.setCells b off ds).tape = w.tape ∧ (w.setCells b off ds).output = w.output
  | [], off, w, c, e, fr, hb, hsz => by
    refine ⟨⟨⟨c, c, e, fr, hb, hb, hsz, by simp⟩, fun _ _ => rfl⟩, rfl, rfl, rfl, rfl⟩
  | v :: r, off, w, c, e, fr, hb, hsz => by
    have hb1 : (w.setCell ⟨b, off, none⟩ v).heap[b]? = some (.cells (c.setIfInBounds off v) e fr) := by
      simp [World.setCell, Array.getElem?_modify, hb]
    have ih := setCells_writeAt b r (off + 1) (w.setCell ⟨b, off, none⟩ v) (c.setIfInBounds off v) e fr hb1 (by simp at hsz ⊢; omega)
    obtain ⟨⟨⟨c0, c', e0, fr0, g1, g2, g3, g4⟩, g5⟩, g6, g7, g8, g9⟩ := ih
    rw [hb1] at g1
    simp only [Option.some.injEq, Obj.cells.injEq] at g1
    obtain ⟨rfl, rfl, rfl⟩ := g1
    simp only [World.setCells]
    refine ⟨⟨⟨c, c', e, fr, hb, g2, hsz, ?_⟩, fun b' hb' => ?_⟩, ?_, g7, g8, g9⟩
    · rw [g4, Array.toList_setIfInBounds]
      exact list_eq_take_set (by simpa using hsz)
    · rw [g5 b' hb']
      have : ¬ b = b' := fun e => hb' e.symm
      simp [World.setCell, Array.getElem?_modify, this]
    · rw [g6]; simp [World.setCell]

/-- Cells stored. -/
theorem run_storeCells_at2 {P : Program} {w : World} {b off : Nat} {c : Array Value} {e : TypeId} {fr : Nat × Nat} {ds : List Value} (hb : w.heap[b]? = some (.cells c e fr)) (hf : Free c fr) (hsz : off + ds.length ≤ c.size) (h1 : ∀ v ∈ ds, v.oneCell' = true) :
    ∃ w', (storeCells ⟨b, off, none⟩ ds).run P w = .ok () w' ∧ WriteAt w w' b off ds ∧ w'.heap.size = w.heap.size ∧ w'.os = w.os ∧ w'.tape = w.tape ∧ w'.output = w.output := by
  refine ⟨w.setCells b off ds, ?_, setCells_writeAt b ds off w c e fr hb hsz⟩
  have := run_storeCells_cells (P := P) b off ds 0 w (fun j hj => ?_) (fun j hj => ?_) h1
  · simpa using this
  · have : off + 0 + j < c.size := by omega
    simp only [World.cell?, hb]
    simp
    omega
  · have : off + 0 + j < c.size := by omega
    have := hf (off + 0 + j) this
    simp only [World.frozen?, hb]
    simpa using this

theorem wrapV_cells {w : World} {F : Nat → Prop} {t : PT} {m : Md} {x : t.den} {cs : List Value} {A : List Nat} (h : Rep w F t m x cs A) : (wrapV t cs).cells = cs.toArray := by
  unfold wrapV
  have hl := rep_length _ _ _ _ _ h
  have h1 := rep_one _ _ _ _ _ h
  split
  · rfl
  · rename_i ha
    have hs : t.size = 1 := by cases t <;> simp_all [PT.isAgg, PT.size]
    rw [hs] at hl
    obtain ⟨v, rfl⟩ := List.length_eq_one_iff.1 hl
    have := h1 v (by simp)
    cases v <;> simp_all [Value.cells, Value.oneCell']

theorem run_storeVar_at {P : Program} {T : TypeId} {t : PT} (hT : TyOk P t T) {w : World} {b off : Nat} {c : Array Value} {e : TypeId} {fr : Nat × Nat} (hb : w.heap[b]? = some (.cells c e fr)) (hf : Free c fr) (hsz : off + t.size ≤ c.size)
    {w0 : World} {F : Nat → Prop} {m : Md} {x : t.den} {cs : List Value} {A : List Nat} (hr : Rep w0 F t m x cs A) :
    ∃ w', (Instr.storeAt T (.pointer (some ⟨b, off, none⟩)) (wrapV t cs)).run P w = .ok () w' ∧ WriteAt w w' b off cs ∧ w'.heap.size = w.heap.size ∧ w'.os = w.os ∧ w'.tape = w.tape ∧ w'.output = w.output := by
  have hl := rep_length _ _ _ _ _ hr
  obtain ⟨w', h1, h2⟩ := run_storeCells_at2 (P := P) hb hf (by rw [hl]; exact hsz) (rep_one _ _ _ _ _ hr)
  refine ⟨w', ?_, h2⟩
  simp only [Instr.storeAt, Instr.sureAddr, storeVar, Sem.run_bind, Sem.run_pure, Result.andThen_ok, wrapV_cells hr, hT.sizeOf, List.size_toArray, hl, ne_eq, not_true_eq_false, if_false, h1]

/-! ### Zero values -/
mutual
/-- What a zero value owns: its lists are nobody else's. -/
def zmd : PT → Md
  | .list t => .l (zmd t)
  | .arr _ t => match zmd t with
    | .n => .n
    | m => .a m
  | .st ts => if Md.allN (zmdL ts) then .n else .s (zmdL ts)
  | .box _ => .j
  | _ => .n
def zmdL : List PT → List Md
  | [] => []
  | t :: ts => zmd t :: zmdL ts
end

theorem zmdL_length : ∀ ts : List PT, (zmdL ts).length = ts.length
  | [] => rfl
  | t :: ts => by simp [zmdL, zmdL_length ts]

mutual
theorem zero_rep {w : World} {F : Nat → Prop} : ∀ (t : PT), Rep w F t (zmd t) t.dflt (zeroC t) []
  | .int k => by
    unfold zmd Rep
    exact ⟨rfl, rfl, zero_range k⟩
  | .bool => by
    unfold zmd Rep
    exact ⟨rfl, rfl⟩
  | .str => by
    unfold zmd Rep
    exact ⟨rfl, rfl, by decide⟩
  | .list t => by
    simp only [zmd, Rep]
    exact ⟨by simp [PT.dflt], none, 0, rfl, .inl ⟨rfl, by trivial, by trivial⟩⟩
  | .arr n t => by
    have key : ∀ n, RepL (Rep w F t (zmd t)) (List.replicate n t.dflt) (List.replicate n (zeroC t)).flatten [] := by
      intro n
      induction n with
      | zero => exact ⟨rfl, rfl⟩
      | succ n ih =>
        simp only [List.replicate_succ, List.flatten_cons]
        exact ⟨zeroC t, _, [], [], rfl, rfl, zero_rep t, ih⟩
    have hk := key n
    simp only [zmd]
    split
    · rename_i hz
      simp only [Rep]
      rw [hz] at hk
      exact ⟨by simp [PT.dflt], hk⟩
    · simp only [Rep]
      exact ⟨by simp [PT.dflt], hk⟩
  | .st ts => by
    have hk := zero_repS (w := w) (F := F) ts [] (.s (zmdL ts)) (fun j hj => by simp [Md.fld])
    simp only [zmd]
    split
    · rename_i hz
      simp only [Rep]
      refine repS_md ts _ .n 0 0 _ _ _ (fun j hj => ?_) hk
      simp only [Md.fld, Nat.zero_add]
      exact allN_get _ j hz (by rw [zmdL_length]; exact hj)
    · simp only [Rep]
      exact hk
  | .box t => by
    simp only [zmd, Rep]
    exact ⟨trivial, rfl, by simp [zeroC, Value.oneCell']⟩
theorem zero_repS {w : World} {F : Nat → Prop} : ∀ (ts : List PT) (pre : List PT) (m : Md), (∀ j, j < ts.length → m.fld (pre.length + j) = (zmdL ts).getD j .j) → RepS w F ts m pre.length (PT.dfltL ts) (zeroCL ts) []
  | [], _, _, _ => by simp [RepS, zeroCL]
  | t :: ts, pre, m, hm => by
    simp only [RepS]
    refine ⟨zeroC t, zeroCL ts, [], [], rfl, rfl, ?_, ?_⟩
    · have := hm 0 (by simp)
      simp [zmdL] at this
      rw [this]
      exact zero_rep t
    · have := zero_repS (w := w) (F := F) ts (pre ++ [t]) m (fun j hj => by
        have := hm (j + 1) (by simp; omega)
        simp only [zmdL, List.getD_cons_succ] at this
        rw [List.length_append, List.length_singleton, show pre.length + 1 + j = pre.length + (j + 1) by omega]
        exact this)
      rw [List.length_append, List.length_singleton] at this
      exact this
end

/-! ### New variables -/
def aBox (t : PT) (x : Slot) : Option (List Prop × Slot) :=
  match x with
  | .val t' .n v => match castT t' t v with
    | some v => some ([], .val (.box t) (.b .n) v)
    | none => none
  | _ => none

def aAlloc (t : PT) : Option (List Prop × Slot) := some ([], .val (.box t) (.b (zmd t)) t.dflt)

theorem free0 (c : Array Value) : Free c (0, 0) := fun j _ h => by omega

theorem new_state {w : World} (o : Obj) : (∀ b, b < w.heap.size → ({ w with heap := w.heap.push o } : World).heap[b]? = w.heap[b]?) ∧ ({ w with heap := w.heap.push o } : World).heap[w.heap.size]? = some o ∧ Below w.heap.size w { w with heap := w.heap.push o } := by
  refine ⟨fun b hb => ?_, by simp, ⟨rfl, rfl, rfl, by simp, fun b hb => ?_⟩⟩
  · simp [Array.getElem?_push, Nat.ne_of_lt hb]
  · simp [Array.getElem?_push, Nat.ne_of_lt hb]

theorem box_yld {E : Env} {σ : List Slot} {a : Act} {w : World} (hst : RepState E σ a w) {run : Sem Next} {t : PT} {m : Md} {x : t.den} {cs : List Value} {e : TypeId} (hr : Rep w E.F t m x cs [])
    (hrun : run.run E.P w = .ok (.value (.pointer (some ⟨w.heap.size, 0, none⟩))) { w with heap := w.heap.push (.cells cs.toArray e) }) : Yld E σ a w (.val (.box t) (.b m) x) run := by
  obtain ⟨n1, n2, n3⟩ := new_state (w := w) (.cells cs.toArray e)
  refine ⟨_, _, [w.heap.size], hrun, n1, n3, by simp, fun b hb => by simp at hb; subst hb; simp, ?_⟩
  refine ⟨[.pointer (some ⟨w.heap.size, 0, none⟩)], ?_, rfl⟩
  simp only [Rep]
  exact ⟨w.heap.size, cs.toArray, e, (0, 0), [], rfl, rfl, n2, free0 _, rep_frame (fun b hb => hb) (fun b hb => n1 b (Nat.lt_of_lt_of_le (E.hF _ hb) hst.below.size)) t m x cs [] (fun b hb => by simp at hb) hr⟩

theorem aBox_sound {E : Env} {σ : List Slot} {a : Act} {w : World} (hst : RepState E σ a w) {o : Oper} {T : TypeId} {x : Operand} (ho : o.op = .box T x) {t : PT} {sx s : Slot} {obs : List Prop} {A1 : List Nat}
    (hx : RepSlot w E.F (lk σ) (vl a) sx (a.eval x) A1) (h : aBox t sx = some (obs, s)) : Yld E σ a w s (execOp a.eval o) := by
  unfold aBox at h
  split at h
  case h_2 => cases h
  rename_i t' v
  split at h
  case h_2 => cases h
  rename_i v' hc
  simp only [Option.some.injEq, Prod.mk.injEq] at h
  obtain ⟨_, rfl⟩ := h
  obtain ⟨rfl, rfl⟩ := castT_some hc
  obtain ⟨cs, hr, hu⟩ := hx
  have := plain_nil _ _ _ _ _ rfl hr
  subst this
  refine box_yld hst (e := T) hr ?_
  simp [execOp, ho, Instr.box, newVar, newRow, hu, wrapV_cells hr]

theorem aAlloc_sound {E : Env} {σ : List Slot} {a : Act} {w : World} (hst : RepState E σ a w) {o : Oper} {T : TypeId} (ho : o.op = .alloc T) {t : PT} (hT : TyOk E.P t T) {s : Slot} {obs : List Prop} (h : aAlloc t = some (obs, s)) : Yld E σ a w s (execOp a.eval o) := by
  simp only [aAlloc, Option.some.injEq, Prod.mk.injEq] at h
  obtain ⟨_, rfl⟩ := h
  have hr : Rep w E.F t (zmd t) t.dflt (zeroC t) [] := zero_rep t
  refine box_yld hst (e := T) hr ?_
  obtain ⟨i, h1, h2, h3, _⟩ := hT.ti.out
  simp [execOp, ho, Instr.alloc, zeroValue, typeInfo, h1, h3, newVar, newRow, wrapV_cells hr]

end Go.Proofs.Ytaachifkgcdeoaa.Sy

namespace Go.Proofs.Ytaachifkgcdeoaa.Sy
open Go.RowKit
set_option linter.unusedSimpArgs false
set_option linter.unusedVariables false

/-- The program's types, as far as they are of use; 'true': values of it may be compared. -/
inductive TE where
  | ty (t : PT) (eq : Bool)
  | mp (k v : PT)
abbrev Tab := List (Option TE)

def tyT (tab : Tab) (T : TypeId) : Option PT := match tab[T]? with
  | some (some (.ty t _)) => some t
  | _ => none
def eqT (tab : Tab) (T : TypeId) : Option PT := match tab[T]? with
  | some (some (.ty t true)) => some t
  | _ => none
def mapT (tab : Tab) (T : TypeId) : Option (PT × PT) := match tab[T]? with
  | some (some (.mp k v)) => some (k, v)
  | _ => none

structure TabOk (P : Program) (tab : Tab) : Prop where
  ty : ∀ T t, tyT tab T = some t → TyOk P t T
  mixed : P.follows .mixedOrders = true
  eq : ∀ T t, eqT tab T = some t → EqOk P t T ∧ t.depth ≤ 10000 ∧ (P.eqGuardType P.depth T = false ∨ t = .bool)
  map : ∀ T k v, mapT tab T = some (k, v) → ∃ K V, P.underlying T = some (.map K V) ∧ TyOk P k K ∧ TyOk P v V ∧ EqOk P k K ∧ k.depth ≤ 10000

theorem TyOk.str_u {P : Program} {T : TypeId} (h : TyOk P .str T) : P.underlying T = some .string := by unfold TyOk at h; exact h.2
theorem TyOk.int_u {P : Program} {k : IntKind} {T : TypeId} (h : TyOk P (.int k) T) : P.underlying T = some (.int k) := by unfold TyOk at h; exact h.2
theorem TyOk.list_u {P : Program} {t : PT} {T : TypeId} (h : TyOk P (.list t) T) : ∃ e, P.underlying T = some (.slice e) := by
  unfold TyOk at h
  exact ⟨_, h.2.choose_spec.1⟩

/-- An operand, where a value of type T is meant. -/
def opdOf (tab : Tab) (T : TypeId) : Operand → Option Opd
  | .tmp k => some (.t k)
  | .const v => match v with
    | .int k n => if decide (k.min ≤ n) && decide (n ≤ k.max) then some (.c ⟨.int k, .n, n⟩) else none
    | .bool b => some (.c ⟨.bool, .n, b⟩)
    | .string s => if Nat.ble s.size 1099511627776 then some (.c ⟨.str, .n, s⟩) else none
    | .slice none 0 0 => match tyT tab T with
      | some (.list t) => some (.c ⟨.list t, .l (zmd t), []⟩)
      | _ => none
    | .pointer none => match tyT tab T with
      | some (.box t) => some (.c ⟨.box t, .j, t.dflt⟩)
      | _ => none
    | _ => none
  | _ => none

theorem opdOf_ok {tab : Tab} {T : TypeId} {o : Operand} {x : Opd} (h : opdOf tab T o = some x) : OpdOk x o := by
  unfold opdOf at h
  split at h
  · simp only [Option.some.injEq] at h
    subst h
    rfl
  · split at h
    · split at h
      · rename_i k n hr
        simp only [Option.some.injEq] at h
        subst h
        simp only [Bool.and_eq_true, decide_eq_true_eq] at hr
        intro w F
        exact ⟨[.int k n], by unfold Rep; exact ⟨rfl, rfl, hr⟩, rfl⟩
      · cases h
    · simp only [Option.some.injEq] at h
      subst h
      intro w F
      exact ⟨[.bool _], by simp [Rep], rfl⟩
    · split at h
      · rename_i s hr
        simp only [Option.some.injEq] at h
        subst h
        intro w F
        exact ⟨[.string s], by unfold Rep; exact ⟨rfl, rfl, by simpa using hr⟩, rfl⟩
      · cases h
    · split at h
      · rename_i t _
        simp only [Option.some.injEq] at h
        subst h
        intro w F
        refine ⟨[.slice none 0 0], ?_, rfl⟩
        simp only [Rep]
        exact ⟨by simp, none, 0, rfl, .inl ⟨rfl, by trivial, by trivial⟩⟩
      · cases h
    · split at h
      · rename_i t _
        simp only [Option.some.injEq] at h
        subst h
        intro w F
        refine ⟨[.pointer none], ?_, rfl⟩
        simp only [Rep]
        exact ⟨trivial, rfl, fun v hv => by rw [List.mem_singleton.1 hv]; rfl⟩
      · cases h
    · cases h
  · cases h

def optOf (tab : Tab) (T : TypeId) : Option Operand → Option (Option Opd)
  | none => some none
  | some o => match opdOf tab T o with
    | some x => some (some x)
    | none => none
theorem optOf_ok {tab : Tab} {T : TypeId} {o : Option Operand} {x : Option Opd} (h : optOf tab T o = some x) : OptOk x o := by
  cases o with
  | none => simp only [optOf, Option.some.injEq] at h; subst h; trivial
  | some o =>
    simp only [optOf] at h
    split at h
    · rename_i x' hx
      simp only [Option.some.injEq] at h
      subst h
      exact opdOf_ok hx
    · cases h

/-! ### The steps, on operands -/
def s1 (tab : Tab) (look : Nat → Slot) (gl : List (Nat × Bool)) (T : TypeId) (x : Operand) (f : Opd → Slot → Option (List Prop × Slot)) : Option (List Prop × Slot) :=
  match opdOf tab T x with
  | some x => f x (opd look gl x)
  | none => none
def s2 (tab : Tab) (look : Nat → Slot) (gl : List (Nat × Bool)) (T U : TypeId) (x y : Operand) (f : Opd → Slot → Opd → Slot → Option (List Prop × Slot)) : Option (List Prop × Slot) :=
  match opdOf tab T x with
  | some x => match opdOf tab U y with
    | some y => f x (opd look gl x) y (opd look gl y)
    | none => none
  | none => none
theorem s1_inv {tab : Tab} {look : Nat → Slot} {gl : List (Nat × Bool)} {T : TypeId} {x : Operand} {f : Opd → Slot → Option (List Prop × Slot)} {r : List Prop × Slot} (h : s1 tab look gl T x f = some r) : ∃ x', opdOf tab T x = some x' ∧ f x' (opd look gl x') = some r := by
  unfold s1 at h
  split at h
  · exact ⟨_, by assumption, h⟩
  · cases h
theorem s2_inv {tab : Tab} {look : Nat → Slot} {gl : List (Nat × Bool)} {T U : TypeId} {x y : Operand} {f : Opd → Slot → Opd → Slot → Option (List Prop × Slot)} {r : List Prop × Slot} (h : s2 tab look gl T U x y f = some r) :
    ∃ x' y', opdOf tab T x = some x' ∧ opdOf tab U y = some y' ∧ f x' (opd look gl x') y' (opd look gl y') = some r := by
  unfold s2 at h
  split at h
  · split at h
    · exact ⟨_, _, by assumption, by assumption, h⟩
    · cases h
  · cases h

/-- A variable of one's own, taken as an address. -/
def adrS (look : Nat → Slot) (x : Opd) (s : Slot) : Slot := match x with
  | .t k => match look k with
    | .val (.box _) (.b _) _ => .ref k [.d]
    | _ => s
  | .c _ => s

theorem adr_rep {E : Env} {σ : List Slot} {a : Act} {w : World} (hst : RepState E σ a w) {look : Nat → Slot} (hlk : Looks look σ) {gl : List (Nat × Bool)} (hgl : holdsG (vl a) gl) {x : Opd} {o : Operand} (hx : OpdOk x o) :
    ∃ A, RepSlot w E.F (lk σ) (vl a) (adrS look x (opd look gl x)) (a.eval o) A := by
  obtain ⟨A, _, _, r1⟩ := opd_rep hst hlk hgl hx
  unfold adrS
  split
  · rename_i k
    split
    · rename_i tb m1 v hk
      have hk' : lk σ k = .val (.box tb) (.b m1) v := by
        rcases hlk k with e | e
        · rw [hk] at e; cases e
        · exact e.symm.trans hk
      cases o <;> simp only [OpdOk] at hx
      subst hx
      obtain ⟨ow, _, _, _, hsl⟩ := hst.slots
      obtain ⟨B, hB1, hB2, hB3⟩ := hsl k
      rw [show σ.getD k .dead = .val (.box tb) (.b m1) v from hk'] at hB3
      obtain ⟨cs, h1, h2⟩ := hB3
      have hlen : cs.length = (PT.box tb).size := rep_length (w := w) (F := E.F) (.box tb) (.b m1) v cs B h1
      have hroot : Rooted w (lk σ) (vl a) k [] ⟨.box tb, .b m1, v⟩ none cs := ⟨.box tb, .b m1, v, cs, hk', rfl, h2, hlen, rfl, rfl⟩
      simp only [Rep] at h1
      obtain ⟨b2, c2, e2, fr2, A2, rfl, rfl, h4, h5, h6⟩ := h1
      have hroot : Rooted w (lk σ) (vl a) k [] ⟨.box tb, .b m1, v⟩ none [.pointer (some ⟨b2, 0, none⟩)] := hroot
      have h2' : a.eval (.tmp k) = .pointer (some ⟨b2, 0, none⟩) := h2
      exact ⟨[], rfl, b2, 0, h2', .inr ⟨⟨tb, m1, v⟩, rdCells w b2 0 tb.size, rooted_step (q := [.d]) (v2 := ⟨tb, m1, v⟩) (cur2 := some (b2, 0)) (cs2 := rdCells w b2 0 tb.size) hroot (by simp only [getP]) (by simp only [loc])⟩⟩
    · exact ⟨A, r1⟩
  · exact ⟨A, r1⟩

/-- A binary operation. -/
def aBin (A : Alg) (tab : Tab) (op : BinOp) (T : TypeId) (x y : Slot) : Option (List Prop × Slot) :=
  match tyT tab T with
  | some (.int k) => if opAr op then aAri A op k x y else if opCmp op then aCmp A op x y else none
  | some .str => if opCmp op then aScmp A op x y else (match op with
    | .add => aScat A x y
    | _ => none)
  | _ => match eqT tab T with
    | some t => if PT.beq t .bool || t.isAgg then (match op with
      | .eql => aEqv A false t x y
      | .neq => aEqv A true t x y
      | _ => none) else none
    | none => none

theorem aBin_sound {E : Env} {tab : Tab} (htab : TabOk E.P tab) {σ : List Slot} {a : Act} {w : World} {o : Oper} {op : BinOp} {T yT : TypeId} {x y : Operand} (ho : o.op = .binOp op T x y yT) {sx sy s : Slot} {obs : List Prop} {A1 A2 : List Nat}
    (hx : RepSlot w E.F (lk σ) (vl a) sx (a.eval x) A1) (hy : RepSlot w E.F (lk σ) (vl a) sy (a.eval y) A2) (h : aBin real0 tab op T sx sy = some (obs, s)) (hobs : obsAll obs) : Yld E σ a w s (execOp a.eval o) := by
  unfold aBin at h
  split at h
  · split at h
    · exact aAri_sound ho (by assumption) hx hy h hobs
    · split at h
      · exact aCmp_sound ho (by assumption) hx hy h
      · cases h
  · split at h
    · exact aScmp_sound ho (by assumption) hx hy h
    · split at h
      · exact aScat_sound ho hx hy h hobs
      · cases h
  · split at h
    · rename_i t ht
      obtain ⟨h1, h2, h3⟩ := htab.eq T t ht
      split at h
      · rename_i hb
        have hb' : t = .bool ∨ t.isAgg = true := by
          simp only [Bool.or_eq_true] at hb
          exact hb.imp PT.eq_of_beq id
        split at h
        · exact aEqv_sound (neg := false) ho h1 h2 hb' h3 hx hy h
        · exact aEqv_sound (neg := true) ho h1 h2 hb' h3 hx hy h
        · cases h
      · cases h
    · cases h

/-- The operations that write nothing. -/
def stepL (A : Alg) (tab : Tab) (look : Nat → Slot) (gl : List (Nat × Bool)) (o : Oper) : Option (List Prop × Slot) :=
  match o.op with
  | .move x => s1 tab look gl o.type x fun x _ => aMov look gl x
  | .assign x => s1 tab look gl o.type x fun x _ => aMov look gl x
  | .pick c x y => match opdOf tab o.type c with
    | some c => match opdOf tab o.type x with
      | some x => match opdOf tab o.type y with
        | some y => aPick A look gl c x y
        | none => none
      | none => none
    | none => none
  | .alloc T => match tyT tab T with
    | some t => aAlloc t
    | none => none
  | .box T x => match tyT tab T with
    | some t => s1 tab look gl T x fun _ sx => aBox t sx
    | none => none
  | .load T x => match tyT tab T with
    | some t => s1 tab look gl 0 x fun xo sx => aLoad A look t (adrS look xo sx)
    | none => none
  | .binOp op T x y U => s2 tab look gl T U x y fun _ sx _ sy => aBin A tab op T sx sy
  | .unOp op T x => s1 tab look gl T x fun _ sx => aUna A op sx
  | .convert S T x => match tyT tab S, tyT tab T with
    | some (.int _), some (.int k) => s1 tab look gl S x fun _ sx => aConv A k sx
    | _, _ => none
  | .fieldAddr S x i => match tyT tab S with
    | some (.st ts) => s1 tab look gl 0 x fun xo sx => aFadr A look ts i (adrS look xo sx)
    | _ => none
  | .field S x i => match tyT tab S with
    | some (.st ts) => s1 tab look gl S x fun xo sx => aFld A look ts i xo sx
    | _ => none
  | .indexAddr T x y => match tyT tab T with
    | some (.arr n te) => s2 tab look gl 0 0 x y fun xo sx _ sy => aIadrA A look n te (adrS look xo sx) sy
    | some (.list te) => s2 tab look gl T 0 x y fun xo sx _ sy => aIadrS A look te xo sx sy
    | _ => none
  | .index T x y => match tyT tab T with
    | some (.arr n te) => s2 tab look gl T 0 x y fun xo sx _ sy => aIdxA A look n te xo sx sy
    | some .str => s2 tab look gl T 0 x y fun _ sx _ sy => aIdxS A sx sy
    | _ => none
  | .slice T x lo hi m => match m with
    | some _ => none
    | none => match optOf tab 0 lo, optOf tab 0 hi with
      | some lo, some hi => match tyT tab T with
        | some .str => s1 tab look gl T x fun _ sx => aCutS A look gl sx lo hi
        | some (.list te) => s1 tab look gl T x fun xo sx => if cutOk A look xo sx te then aCutL A look gl xo sx lo hi else none
        | _ => none
      | _, _ => none
  | .call ⟨.builtin .len, ⟨[x]⟩, ⟨[T]⟩⟩ => match tyT tab T with
    | some .str => s1 tab look gl T x fun xo sx => if isStr sx then aLen A look xo sx else none
    | some (.list _) => s1 tab look gl T x fun xo sx => if isStr sx then none else aLen A look xo sx
    | _ => none
  | _ => none
where
  isStr : Slot → Bool
    | .val .str .n _ => true
    | _ => false
  cutOk (A : Alg) (look : Nat → Slot) (xo : Opd) (sx : Slot) (te : PT) : Bool := match viewL sx with
    | some L => PT.beq L.te te
    | none => match ownL A look xo sx with
      | some (_, _, L) => PT.beq L.te te
      | none => match winL A look sx with
        | some (_, _, L, _, _) => PT.beq L.te te
        | none => false

theorem isStr_eq {s : Slot} (h : stepL.isStr s = true) : ∃ b, s = .val .str .n b := by
  unfold stepL.isStr at h
  split at h
  · exact ⟨_, rfl⟩
  · cases h

theorem own_noview {A : Alg} {look : Nat → Slot} {x : Opd} {s : Slot} {r : Nat × List Stp × LV} (h : ownL A look x s = some r) : viewL s = none := by
  unfold ownL at h
  split at h
  · rfl
  · rfl
  · cases h
theorem stepL_sound {E : Env} {tab : Tab} (htab : TabOk E.P tab) {σ : List Slot} {a : Act} {w : World} (hst : RepState E σ a w) {look : Nat → Slot} (hlk : Looks look σ) {gl : List (Nat × Bool)} (hgl : holdsG (vl a) gl) {o : Oper} {s : Slot} {obs : List Prop}
    (h : stepL real0 tab look gl o = some (obs, s)) (hobs : obsAll obs) : Yld E σ a w s (execOp a.eval o) := by
  have hop : ∀ {T : TypeId} {x : Operand} {x' : Opd}, opdOf tab T x = some x' → ∃ A, RepSlot w E.F (lk σ) (vl a) (opd look gl x') (a.eval x) A := fun hx => by
    obtain ⟨A, _, _, h⟩ := opd_rep hst hlk hgl (opdOf_ok hx)
    exact ⟨A, h⟩
  unfold stepL at h
  split at h
  · obtain ⟨x', hx, h⟩ := s1_inv h
    exact aMov_sound hst hlk hgl (.inl (by assumption)) (opdOf_ok hx) h
  · obtain ⟨x', hx, h⟩ := s1_inv h
    exact aMov_sound hst hlk hgl (.inr (by assumption)) (opdOf_ok hx) h
  · split at h
    · split at h
      · split at h
        · exact aPick_sound hst hlk hgl (by assumption) (opdOf_ok (by assumption)) (opdOf_ok (by assumption)) (opdOf_ok (by assumption)) h
        · cases h
      · cases h
    · cases h
  · split at h
    · exact aAlloc_sound hst (by assumption) (htab.ty _ _ (by assumption)) h
    · cases h
  · split at h
    · obtain ⟨x', hx, h⟩ := s1_inv h
      obtain ⟨A1, hr⟩ := hop hx
      exact aBox_sound hst (by assumption) hr h
    · cases h
  · split at h
    · obtain ⟨x', hx, h⟩ := s1_inv h
      obtain ⟨A1, hr⟩ := adr_rep hst hlk hgl (opdOf_ok hx)
      exact aLoad_sound hst hlk (by assumption) (htab.ty _ _ (by assumption)) hr h
    · cases h
  · obtain ⟨x', y', hx, hy, h⟩ := s2_inv h
    obtain ⟨A1, hr⟩ := hop hx
    obtain ⟨A2, hr2⟩ := hop hy
    exact aBin_sound htab (by assumption) hr hr2 h hobs
  · obtain ⟨x', hx, h⟩ := s1_inv h
    obtain ⟨A1, hr⟩ := hop hx
    exact aUna_sound (by assumption) hr h
  · split at h
    · rename_i hS hT
      obtain ⟨x', hx, h⟩ := s1_inv h
      obtain ⟨A1, hr⟩ := hop hx
      exact aConv_sound (by assumption) (htab.ty _ _ hT).int_u ⟨_, (htab.ty _ _ hS).int_u⟩ hr h
    · cases h
  · split at h
    · obtain ⟨x', hx, h⟩ := s1_inv h
      obtain ⟨A1, hr⟩ := adr_rep hst hlk hgl (opdOf_ok hx)
      exact aFadr_sound hst hlk (by assumption) (htab.ty _ _ (by assumption)) hr h
    · cases h
  · split at h
    · obtain ⟨x', hx, h⟩ := s1_inv h
      obtain ⟨A1, hr⟩ := hop hx
      exact aFld_sound hst hlk hgl (by assumption) (opdOf_ok hx) (htab.ty _ _ (by assumption)) hr h
    · cases h
  · split at h
    · obtain ⟨x', y', hx, hy, h⟩ := s2_inv h
      obtain ⟨A1, hr⟩ := adr_rep hst hlk hgl (opdOf_ok hx)
      obtain ⟨A2, hr2⟩ := hop hy
      exact aIadrA_sound hst hlk (by assumption) (htab.ty _ _ (by assumption)) hr hr2 h hobs
    · obtain ⟨x', y', hx, hy, h⟩ := s2_inv h
      obtain ⟨A1, hr⟩ := hop hx
      obtain ⟨A2, hr2⟩ := hop hy
      exact aIadrS_sound hst hlk hgl (by assumption) (opdOf_ok hx) (htab.ty _ _ (by assumption)) hr hr2 h hobs
    · cases h
  · split at h
    · obtain ⟨x', y', hx, hy, h⟩ := s2_inv h
      obtain ⟨A1, hr⟩ := hop hx
      obtain ⟨A2, hr2⟩ := hop hy
      exact aIdxA_sound hst hlk hgl (by assumption) (opdOf_ok hx) (htab.ty _ _ (by assumption)) hr hr2 h hobs
    · obtain ⟨x', y', hx, hy, h⟩ := s2_inv h
      obtain ⟨A1, hr⟩ := hop hx
      obtain ⟨A2, hr2⟩ := hop hy
      exact aIdxS_sound (by assumption) (htab.ty _ _ (by assumption)).str_u hr hr2 h hobs
    · cases h
  · split at h
    · cases h
    · split at h
      · rename_i hlo hhi
        split at h
        · obtain ⟨x', hx, h⟩ := s1_inv h
          obtain ⟨A1, hr⟩ := hop hx
          exact aCutS_sound hst hlk hgl (by assumption) (optOf_ok hlo) (optOf_ok hhi) (htab.ty _ _ (by assumption)).str_u hr h hobs
        · obtain ⟨x', hx, h⟩ := s1_inv h
          obtain ⟨A1, hr⟩ := hop hx
          split at h
          · rename_i te _ hc
            refine aCutL_sound hst hlk hgl (by assumption) (opdOf_ok hx) (optOf_ok hlo) (optOf_ok hhi) (htab.ty _ _ (by assumption)) hr h hobs ?_
            unfold stepL.cutOk at hc
            refine ⟨fun L hL => ?_, fun k p L hL => ?_, fun k p L l' h' hL => ?_⟩
            · rw [hL] at hc
              exact PT.eq_of_beq hc
            · have hv : viewL (opd look gl x') = none := own_noview hL
              rw [hv, hL] at hc
              exact PT.eq_of_beq hc
            · have hv : viewL (opd look gl x') = none := by
                cases hs : opd look gl x' <;> simp [hs, winL] at hL <;> simp [viewL]
              have hv2 : ownL real0 look x' (opd look gl x') = none := by
                cases hs : opd look gl x' <;> simp [hs, winL] at hL <;> simp [ownL]
              rw [hv, hv2, hL] at hc
              exact PT.eq_of_beq hc
          · cases h
        · cases h
      · cases h
  · split at h
    · rename_i hT
      obtain ⟨x', hx, h⟩ := s1_inv h
      obtain ⟨A1, hr⟩ := hop hx
      split at h
      · rename_i hi
        obtain ⟨b, hb⟩ := isStr_eq hi
        exact aLen_sound hst hlk hgl (by assumption) (opdOf_ok hx) (.inl (htab.ty _ _ hT).str_u) hr h (fun _ _ => (htab.ty _ _ hT).str_u) (fun hn => absurd hb (hn b))
      · cases h
    · rename_i te hT
      obtain ⟨x', hx, h⟩ := s1_inv h
      obtain ⟨A1, hr⟩ := hop hx
      split at h
      · cases h
      · rename_i hi
        obtain ⟨e, he⟩ := (htab.ty _ _ hT).list_u
        exact aLen_sound hst hlk hgl (by assumption) (opdOf_ok hx) (.inr ⟨e, he⟩) hr h (fun b hb => absurd (by rw [hb]; rfl) hi) (fun _ => ⟨e, he⟩)
    · cases h
  · cases h

end Go.Proofs.Ytaachifkgcdeoaa.Sy

namespace Go.Proofs.Ytaachifkgcdeoaa.Sy
open Go.RowKit
set_option linter.unusedSimpArgs false
set_option linter.unusedVariables false

/-! ### What may be looked at by somebody else -/
mutual
def seeT : PT → Md → Bool
  | _, .n => true
  | .list t, .l m => seeT t m
  | .arr _ t, .a m => seeT t m
  | .st ts, .s ms => seeTL ts ms
  | .box t, .b m => seeT t m
  | _, _ => false
def seeTL : List PT → List Md → Bool
  | [], _ => true
  | t :: ts, m :: ms => seeT t m && seeTL ts ms
  | _, _ => false
end

mutual
theorem see_rep {w : World} {F F' : Nat → Prop} (hF : ∀ b, F b → F' b) : ∀ (t : PT) (m : Md) (x : t.den) (cs : List Value) (A : List Nat), seeT t m = true → (∀ b ∈ A, F' b) → Rep w F t m x cs A → Rep w F' t .n x cs []
  | .int k, m, x, cs, A, hs, _, h => by cases m <;> simp_all [seeT, Rep]
  | .bool, m, x, cs, A, hs, _, h => by cases m <;> simp_all [seeT, Rep]
  | .str, m, x, cs, A, hs, _, h => by cases m <;> simp_all [seeT, Rep]
  | .list t, m, x, cs, A, hs, hA, h => by
    cases m <;> simp only [seeT, Bool.false_eq_true] at hs
    case n =>
      have hn : A = [] := by simp only [Rep] at h; exact h.1
      subst hn
      exact rep_frame hF (fun _ _ => rfl) _ _ _ _ _ (fun _ _ => rfl) h
    case l m =>
      simp only [Rep] at h ⊢
      obtain ⟨h0, a, cap, h2, h3⟩ := h
      refine ⟨trivial, h0, a, cap, h2, ?_, ?_⟩
      · rcases h3 with ⟨rfl, rfl, _⟩ | ⟨b, off, c, e, fr, A', _, _, _, _, h, _⟩
        · simp
        · exact h
      · refine h3.imp (fun h => h.1) ?_
        rintro ⟨b, off, c, e, fr, A', g1, rfl, g3, g4, g5, g6, g7⟩
        refine ⟨b, off, c, e, fr, g1, hA b (by simp), g3, ?_, ?_⟩
        · exact Nat.le_trans (Nat.add_le_add_left (Nat.mul_le_mul_right _ g5) _) g6
        · exact see_repL hF t m x _ A' hs (fun b hb => hA b (by simp [hb])) g7
  | .arr n t, m, x, cs, A, hs, hA, h => by
    cases m <;> simp only [seeT, Bool.false_eq_true] at hs
    case n =>
      simp only [Rep] at h ⊢
      refine ⟨h.1, see_repL hF t .n x cs A (by cases t <;> rfl) hA h.2⟩
    case a m =>
      simp only [Rep] at h ⊢
      exact ⟨h.1, see_repL hF t m x cs A hs hA h.2⟩
  | .st ts, m, x, cs, A, hs, hA, h => by
    cases m <;> simp only [seeT, Bool.false_eq_true] at hs
    case n =>
      simp only [Rep] at h ⊢
      exact see_repS hF ts .n 0 x cs A (fun j hj => by
        simp only [Md.fld]
        cases ts[j] <;> rfl) hA h
    case s ms =>
      simp only [Rep] at h ⊢
      exact see_repS hF ts (.s ms) 0 x cs A (fun j hj => by
        simp only [Md.fld, Nat.zero_add]
        have key : ∀ (ts : List PT) (ms : List Md) (j : Nat) (hj : j < ts.length), seeTL ts ms = true → seeT ts[j] (ms.getD j .j) = true := by
          intro ts
          induction ts with
          | nil => intro ms j hj; simp at hj
          | cons t ts ih =>
            intro ms j hj h
            cases ms with
            | nil => simp [seeTL] at h
            | cons m ms =>
              simp only [seeTL, Bool.and_eq_true] at h
              cases j with
              | zero => simpa using h.1
              | succ j => simpa using ih ms j (by simpa using hj) h.2
        exact key ts ms j hj hs) hA h
  | .box t, m, x, cs, A, hs, hA, h => by
    cases m <;> simp only [seeT, Bool.false_eq_true] at hs
    case n =>
      have hn : A = [] := by simp only [Rep] at h; exact h.1
      subst hn
      exact rep_frame hF (fun _ _ => rfl) _ _ _ _ _ (fun _ _ => rfl) h
    case b m =>
      simp only [Rep] at h ⊢
      obtain ⟨b, c, e, fr, A', h2, rfl, h4, h5, h6⟩ := h
      exact ⟨trivial, b, c, e, fr, h2, hA b (by simp), h4, see_rep hF t m x _ A' hs (fun b hb => hA b (by simp [hb])) h6⟩
theorem see_repL {w : World} {F F' : Nat → Prop} (hF : ∀ b, F b → F' b) (t : PT) (m : Md) : ∀ (xs : List t.den) (cs : List Value) (A : List Nat), seeT t m = true → (∀ b ∈ A, F' b) → RepL (Rep w F t m) xs cs A → RepL (Rep w F' t .n) xs cs []
  | [], cs, A, _, _, h => ⟨h.1, rfl⟩
  | x :: xs, cs, A, hs, hA, h => by
    obtain ⟨c1, c2, A1, A2, rfl, rfl, h1, h2⟩ := h
    exact ⟨c1, c2, [], [], rfl, rfl, see_rep hF t m x c1 A1 hs (fun b hb => hA b (by simp [hb])) h1, see_repL hF t m xs c2 A2 hs (fun b hb => hA b (by simp [hb])) h2⟩
theorem see_repS {w : World} {F F' : Nat → Prop} (hF : ∀ b, F b → F' b) : ∀ (ts : List PT) (m : Md) (i : Nat) (x : PT.denL ts) (cs : List Value) (A : List Nat), (∀ j (hj : j < ts.length), seeT ts[j] (m.fld (i + j)) = true) → (∀ b ∈ A, F' b) → RepS w F ts m i x cs A → RepS w F' ts .n i x cs []
  | [], _, _, _, cs, A, _, _, h => by
    simp only [RepS] at h ⊢
    exact ⟨h.1, trivial⟩
  | t :: ts, m, i, x, cs, A, hs, hA, h => by
    simp only [RepS] at h ⊢
    obtain ⟨c1, c2, A1, A2, rfl, rfl, h1, h2⟩ := h
    refine ⟨c1, c2, [], [], rfl, rfl, ?_, ?_⟩
    · have := see_rep hF t _ _ c1 A1 (hs 0 (by simp)) (fun b hb => hA b (by simp [hb])) h1
      simpa [Md.fld] using this
    · exact see_repS hF ts m (i + 1) x.2 c2 A2 (fun j hj => by
        have := hs (j + 1) (by simp; omega)
        simpa [Nat.add_assoc, Nat.add_comm 1 j] using this) (fun b hb => hA b (by simp [hb])) h2
end

end Go.Proofs.Ytaachifkgcdeoaa.Sy

namespace Go.Proofs.Ytaachifkgcdeoaa.Sy
open Go.RowKit
set_option linter.unusedSimpArgs false
set_option linter.unusedVariables false

/-- How an argument is handed over: looked at, looked at through a pointer, or given away. -/
inductive AM where
  | v | p
  | o (m : Md)
  | c (f : FuncId) (ms : List Md)   -- a function; what it captured is of these types, and looked at so far

/-- What was captured, one after the other. -/
def capsT : (ts : List PT) → List Md → PT.denL ts → List Cap
  | [], _, _ => []
  | t :: ts, m :: ms, x => .v t m x.1 :: capsT ts ms x.2
  | t :: ts, [], x => .v t .n x.1 :: capsT ts [] x.2

def argSlot (m : AM) (t : PT) (x : t.den) : Slot := match m with
  | .v => .val t .n x
  | .p => .pv t x
  | .o m => .val t m x
  | .c f ms => match t, x with
    | .st ts, x => .clo f (capsT ts ms x)
    | _, _ => .dead

def nolook : Nat → Slot := fun _ => .dead
def noval : Nat → Value := fun _ => undef
def noF : Nat → Prop := fun _ => False

def ArgsRep (w : World) (F : Nat → Prop) : (ts : List PT) → List AM → PT.denL ts → List Value → List Nat → Prop
  | [], _, _, us, A => us = [] ∧ A = []
  | t :: ts, ms, x, us, A => ∃ m ms' u us' A1 A2, ms = m :: ms' ∧ us = u :: us' ∧ A = A1 ++ A2 ∧ RepSlot w F nolook noval (argSlot m t x.1) u A1 ∧ ArgsRep w F ts ms' x.2 us' A2

def tupL : (ts : List PT) → List Md → PT.denL ts → List (Option TV)
  | [], _, _ => []
  | t :: ts, m :: ms, x => some ⟨t, m, x.1⟩ :: tupL ts ms x.2
  | t :: ts, [], x => some ⟨t, .j, x.1⟩ :: tupL ts [] x.2

/-- What comes back, as a slot. -/
def resSlot : (ts : List PT) → List Md → PT.denL ts → Slot
  | [t], [m], x => .val t m x.1
  | ts, ms, x => .tup (tupL ts ms x)

structure FSpec where
  ts : List PT
  ms : List AM
  rs : List PT
  rm : List Md
  pre : PT.denL ts → Prop
  fn : PT.denL ts → PT.denL rs

abbrev Specs := List (Nat × FSpec)

/-- What the function promises. -/
def SpecRuns (P : Program) (f : FuncId) (s : FSpec) : Prop :=
  ∀ (w : World) (x : PT.denL s.ts) (us : Array Value) (B : List Nat), B.Nodup → (∀ b ∈ B, b < w.heap.size) → ArgsRep w (fun b => b < w.heap.size ∧ b ∉ B) s.ts s.ms x us.toList B → s.pre x →
    Calls P f us w fun
      | .returned v, w' => Kept (fun b => b < w.heap.size ∧ b ∉ B) w w' ∧ ∃ A, A.Nodup ∧ (∀ b ∈ A, (b ∈ B ∨ w.heap.size ≤ b) ∧ b < w'.heap.size) ∧ RepSlot w' noF nolook noval (resSlot s.rs s.rm (s.fn x)) v A
      | _, _ => False

structure SpecOk (P : Program) (f : FuncId) (s : FSpec) : Prop where
  fn : ∃ fn, P.funcs[f]? = some fn ∧ (fn.name == "runtime.NumGoroutine") = false ∧ fn.body.isNone = false
  runs : SpecRuns P f s

def SpecsOk (P : Program) (specs : Specs) : Prop := ∀ f s, (f, s) ∈ specs → SpecOk P f s

/-! ### The arguments of a call -/
/-- A slot's value, as somebody else may look at it. -/
def seen (A : Alg) (look : Nat → Slot) (x : Opd) (t : PT) (s : Slot) : Option t.den :=
  match cont A look s with
  | some v => if seeT v.t v.m then castT v.t t v.x else none
  | none => match winL A look s with
    | some (_, _, L, lo, hi) => if seeT L.te L.m then castT (.list L.te) t (A.cut L.te L.xs lo hi) else none
    | none => none

/-- What a pointer points to, as somebody else may look at it. -/
def seenP (A : Alg) (look : Nat → Slot) (t : PT) (s : Slot) : Option t.den :=
  match s with
  | .pv t' x => castT t' t x
  | .ref k p => match rootV look k with
    | some r => match getP A r.t r.m r.x p with
      | some v => if seeT v.t v.m then castT v.t t v.x else none
      | none => none
    | none => none
  | _ => none

/-- What was captured, as somebody else may look at it. -/
def capsV (A : Alg) (look : Nat → Slot) : (ts : List PT) → List Md → List Cap → Option (PT.denL ts)
  | [], [], [] => some ()
  | t :: ts, m :: ms, c :: cs => match (match m with
      | .n => (match c with
        | .r k p => seenP A look t (.ref k p)
        | .v t' .n x => castT t' t x
        | _ => none)
      | _ => none) with
    | some y => match capsV A look ts ms cs with
      | some ys => some (y, ys)
      | none => none
    | none => none
  | _, _, _ => none

def argV (A : Alg) (look : Nat → Slot) (gl : List (Nat × Bool)) (m : AM) (t : PT) (x : Opd) : Option t.den :=
  match m with
  | .v => seen A look x t (opd look gl x)
  | .p => seenP A look t (adrS look x (opd look gl x))
  | .o _ => none
  | .c f ms => match opd look gl x with
    | .clo g cs => if Nat.beq g f then (match t with
      | .st ts => capsV A look ts ms cs
      | _ => none) else none
    | _ => none

/-- What is handed over: an operand, or what the function called has captured. -/
inductive Arg where
  | o (o : Operand) (T : TypeId)
  | c (c : Cap)

/-- A function that captured nothing. -/
def argF (m : AM) (t : PT) (o : Operand) : Option t.den := match o with
  | .func g => match m with
    | .c f [] => if Nat.beq g f then (match t with
      | .st [] => some ()
      | _ => none) else none
    | _ => none
  | _ => none

def argsV (A : Alg) (tab : Tab) (look : Nat → Slot) (gl : List (Nat × Bool)) : (ts : List PT) → List AM → List Arg → Option (PT.denL ts)
  | [], [], [] => some ()
  | t :: ts, m :: ms, .o o T :: os => match argF m t o with
    | some y => match argsV A tab look gl ts ms os with
      | some ys => some (y, ys)
      | none => none
    | none => match opdOf tab T o with
      | some x => match argV A look gl m t x with
        | some y => match argsV A tab look gl ts ms os with
          | some ys => some (y, ys)
          | none => none
        | none => none
      | none => none
  | t :: ts, .p :: ms, .c c :: os => match (match c with
      | .r k p => seenP A look t (.ref k p)
      | .v t' .n x => castT t' t x
      | _ => none) with
    | some y => match argsV A tab look gl ts ms os with
      | some ys => some (y, ys)
      | none => none
    | none => none
  | _, _, _ => none
def argsO : List Operand → List TypeId → List Arg
  | [], _ => []
  | o :: os, T :: Ts => .o o T :: argsO os Ts
  | o :: os, [] => .o o 0 :: argsO os []

theorem seen_rep {E : Env} {σ : List Slot} {a : Act} {w : World} (hst : RepState E σ a w) {look : Nat → Slot} (hlk : Looks look σ) {s : Slot} {u : Value} {A : List Nat} (hA : A.Nodup) (hAw : ∀ b ∈ A, b < w.heap.size) (hs : RepSlot w E.F (lk σ) (vl a) s u A) {x : Opd} {t : PT} {y : t.den}
    (h : seen real0 look x t s = some y) : ∃ cs, Rep w (fun b => b < w.heap.size) t .n y cs [] ∧ u = wrapV t cs := by
  have hF : ∀ b, E.F b → b < w.heap.size := fun b hb => Nat.lt_of_lt_of_le (E.hF b hb) hst.below.size
  unfold seen at h
  split at h
  · rename_i v hc
    split at h
    · rename_i hsee
      obtain ⟨e, rfl⟩ := castT_some h
      cases v with
      | mk vt vm vx =>
      dsimp only at e hsee h ⊢
      subst e
      obtain ⟨cs, A', hA'n, hr, hu⟩ := cont_rep2 hst hlk hs hA hAw hc
      exact ⟨cs, see_rep hF _ _ _ _ _ hsee hA'n hr, hu⟩
    · cases h
  · split at h
    · rename_i k p L lo hi hw
      split at h
      · rename_i hsee
        obtain ⟨e, rfl⟩ := castT_some h
        subst e
        exact win_seen hst hlk hs hsee hw
      · cases h
    · cases h
where
  cont_rep2 {E : Env} {σ : List Slot} {a : Act} {w : World} (hst : RepState E σ a w) {look : Nat → Slot} (hlk : Looks look σ) {s : Slot} {u : Value} {A : List Nat} (hs : RepSlot w E.F (lk σ) (vl a) s u A) (hA : A.Nodup) (hAw : ∀ b ∈ A, b < w.heap.size) {v : TV} (hc : cont real0 look s = some v) :
      ∃ cs A', (∀ b ∈ A', b < w.heap.size) ∧ Rep w E.F v.t v.m v.x cs A' ∧ u = wrapV v.t cs := by
    cases s <;> simp only [cont] at hc <;> try (cases hc; done)
    · simp only [Option.some.injEq] at hc
      subst hc
      obtain ⟨cs, h1, h2⟩ := hs
      exact ⟨cs, A, hAw, h1, h2⟩
    · rename_i k p
      split at hc
      case h_2 => cases hc
      rename_i t m x hk
      obtain ⟨_, v', cur, cs', hr, hu⟩ := hs
      have hk' : lk σ k = .val t m x := by
        rcases hlk k with e | e
        · rw [hk] at e; cases e
        · exact e.symm.trans hk
      have hv : v' = v := by
        obtain ⟨t0, m0, x0, cs0, e1, _, _, _, e5, _⟩ := hr
        rw [hk'] at e1
        simp only [Slot.val.injEq] at e1
        obtain ⟨rfl, rfl, e1⟩ := e1
        obtain rfl := eq_of_heq e1
        rw [hc] at e5
        exact (Option.some.inj e5).symm
      subst hv
      obtain ⟨A', _, h2, h3, _⟩ := root_rep hst hr
      exact ⟨cs', A', h2, h3, hu⟩
  win_seen {E : Env} {σ : List Slot} {a : Act} {w : World} (hst : RepState E σ a w) {look : Nat → Slot} (hlk : Looks look σ) {s : Slot} {u : Value} {A : List Nat} (hs : RepSlot w E.F (lk σ) (vl a) s u A) {k : Nat} {p : List Stp} {L : LV} {lo hi : Int} (hsee : seeT L.te L.m = true) (hw : winL real0 look s = some (k, p, L, lo, hi)) :
      ∃ cs, Rep w (fun b => b < w.heap.size) (.list L.te) .n (real0.cut L.te L.xs lo hi) cs [] ∧ u = wrapV (.list L.te) cs := by
    have hF : ∀ b, E.F b → b < w.heap.size := fun b hb => Nat.lt_of_lt_of_le (E.hF b hb) hst.below.size
    unfold winL at hw
    split at hw
    case h_2 => cases hw
    rename_i k' p' lo' hi'
    split at hw
    case h_2 => cases hw
    rename_i r hr
    split at hw
    case h_2 => cases hw
    rename_i te me xs hg
    simp only [Option.some.injEq, Prod.mk.injEq] at hw
    obtain ⟨rfl, rfl, rfl, rfl, rfl⟩ := hw
    obtain ⟨_, te', me', xs', cur, a0, cap, hroot, h0, h1, h2, a1, hu, ha⟩ := hs
    have hk' := rootV_eq hlk hr
    have hv : (⟨.list te', .l me', xs'⟩ : TV) = ⟨.list te, .l me, xs⟩ := by
      obtain ⟨t0, m0, x0, cs0, e1, _, _, _, e5, _⟩ := hroot
      rw [hk'] at e1
      simp only [Slot.val.injEq] at e1
      obtain ⟨rfl, rfl, e1⟩ := e1
      obtain rfl := eq_of_heq e1
      rw [hg] at e5
      exact (Option.some.inj e5).symm
    simp only [TV.mk.injEq, PT.list.injEq, Md.l.injEq] at hv
    obtain ⟨rfl, rfl, hv⟩ := hv
    obtain rfl := eq_of_heq hv
    obtain ⟨A', _, hA', hrep, _⟩ := root_rep hst hroot
    dsimp only at hrep hsee ⊢
    have hv := see_rep hF _ _ _ _ _ (show seeT (.list te') (.l me') = true by simpa [seeT] using hsee) hA' hrep
    simp only [Rep] at hv ⊢
    obtain ⟨_, hlen, a2, cap2, e2, hcap, hrest⟩ := hv
    simp only [List.cons.injEq, Value.slice.injEq, true_and, and_true] at e2
    obtain ⟨rfl, rfl⟩ := e2
    obtain ⟨ys, hys⟩ : ∃ ys : List te'.den, ys = xs' := ⟨_, rfl⟩
    rw [← hys] at hrest hlen hcap h2 ⊢
    clear hroot hg hys
    have hhi : hi'.toNat ≤ ys.length := by omega
    have hcut : real0.cut te' ys lo' hi' = (ys.take hi'.toNat).drop lo'.toNat := rfl
    have hcl : List.length ((ys.take hi'.toNat).drop lo'.toNat) = hi'.toNat - lo'.toNat := by
      rw [List.length_drop, List.length_take, Nat.min_eq_left hhi]
    rw [hcut]
    refine ⟨_, ⟨trivial, by rw [hcl]; omega, a1, cap - lo'.toNat, rfl, by rw [hcl]; omega, ?_⟩, by rw [hu, hcl]; rfl⟩
    by_cases hz : hi'.toNat - lo'.toNat = 0
    · exact .inl (List.length_eq_zero_iff.1 (by rw [hcl, hz]))
    · have hne : lo'.toNat < hi'.toNat := by omega
      rcases hrest with rfl | ⟨b, off, c, e, fr, rfl, hb, hbw, hsz, hL⟩
      · simp at h2; omega
      · rcases ha with ha | ha
        · omega
        · refine .inr ⟨b, off + lo'.toNat * te'.size, c, e, fr, ?_, hb, hbw, ?_, ?_⟩
          · rw [ha]
            simp [add_plain0]
          · rw [hcl]
            have : lo'.toNat * te'.size + (hi'.toNat - lo'.toNat) * te'.size = hi'.toNat * te'.size := by
              rw [← Nat.add_mul]; congr 1; omega
            have h3 : hi'.toNat * te'.size ≤ ys.length * te'.size := Nat.mul_le_mul_right _ hhi
            omega
          · rw [hcl]
            have hxs : ys = (ys.take hi'.toNat).take lo'.toNat ++ ((ys.take hi'.toNat).drop lo'.toNat ++ ys.drop hi'.toNat) := by
              rw [← List.append_assoc, List.take_append_drop, List.take_append_drop]
            have hL0 := hL
            rw [hxs] at hL0
            obtain ⟨c1, c2, B1, B2, hc, hB, g1, g2⟩ := repL_split hL0
            obtain ⟨c3, c4, B3, B4, hc2, hB2, g3, g4⟩ := repL_split g2
            have hn : B3 = [] := by
              have : B1 = [] ∧ B2 = [] := by simpa using hB.symm
              rw [this.2] at hB2
              have : B3 = [] ∧ B4 = [] := by simpa using hB2.symm
              exact this.1
            subst hn
            have hl1 := repL_length (fun x c A h => rep_length te' _ x c A h) _ _ _ g1
            have hl3 := repL_length (fun x c A h => rep_length te' _ x c A h) _ _ _ g3
            have e1 : ((ys.take hi'.toNat).take lo'.toNat).length = lo'.toNat := by rw [List.length_take, List.length_take]; omega
            rw [e1] at hl1
            rw [hcl] at hl3
            have hcc : (c.toList.drop off).take (ys.length * te'.size) = c1 ++ (c3 ++ c4) := by rw [← hxs] at hc; rw [hc, hc2]
            have : (c.toList.drop (off + lo'.toNat * te'.size)).take ((hi'.toNat - lo'.toNat) * te'.size) = c3 := by
              have h5 := seg_inner (l := c.toList) (cs := (c.toList.drop off).take (ys.length * te'.size)) (c1 := c1) (c := c3) (c2 := c4) rfl (by simpa using hsz) hcc
              rw [hl1, hl3] at h5
              exact h5.symm
            rw [this]
            exact g3

end Go.Proofs.Ytaachifkgcdeoaa.Sy

namespace Go.Proofs.Ytaachifkgcdeoaa.Sy
open Go.RowKit
set_option linter.unusedSimpArgs false
set_option linter.unusedVariables false

theorem seenP_rep {E : Env} {σ : List Slot} {a : Act} {w : World} (hst : RepState E σ a w) {look : Nat → Slot} (hlk : Looks look σ) {s : Slot} {u : Value} {A : List Nat} (hs : RepSlot w E.F (lk σ) (vl a) s u A) {t : PT} {y : t.den}
    (h : seenP real0 look t s = some y) : RepSlot w (fun b => b < w.heap.size) nolook noval (.pv t y) u [] := by
  have hF : ∀ b, E.F b → b < w.heap.size := fun b hb => Nat.lt_of_lt_of_le (E.hF b hb) hst.below.size
  unfold seenP at h
  split at h
  · rename_i t' x
    obtain ⟨e, rfl⟩ := castT_some h
    subst e
    obtain ⟨_, b, off, c, e, fr, hu, hFb, hc, hsz, hrep⟩ := hs
    exact ⟨rfl, b, off, c, e, fr, hu, hF b hFb, hc, hsz, rep_frame hF (fun _ _ => rfl) _ _ _ _ _ (fun _ _ => rfl) hrep⟩
  · rename_i k p
    split at h
    case h_2 => cases h
    rename_i r hr
    split at h
    case h_2 => cases h
    rename_i v hg
    split at h
    case isFalse => cases h
    rename_i hsee
    obtain ⟨vt, m, z⟩ := v
    obtain ⟨e, rfl⟩ := castT_some h
    dsimp only at e hsee ⊢
    subst e
    obtain ⟨b, off, cs', hu, hroot⟩ := ref_rooted hst hs (rootV_eq hlk hr) hg
    obtain ⟨A', hn, hA', hrep, hlaid⟩ := root_rep hst hroot
    obtain ⟨_, c, e, fr, hc, _, hsz, hcs⟩ := hlaid b off rfl
    refine ⟨rfl, b, off, c, e, fr, hu, ?_, hc, hsz, ?_⟩
    · by_cases hb : b < w.heap.size
      · exact hb
      · simp [Array.getElem?_eq_none (Nat.le_of_not_lt hb)] at hc
    · dsimp only at hcs hrep
      rw [← hcs]
      exact see_rep hF _ _ _ _ _ hsee hA' hrep
  · cases h

theorem cap_slot {w : World} {F : Nat → Prop} {look : Nat → Slot} {vs : Nat → Value} {k : Nat} {p : List Stp} {cs : List Cap} {us : List Value} (h : RepCaps w F look vs (.r k p :: cs) us) : ∃ u us', us = u :: us' ∧ RepSlot w F look vs (.ref k p) u [] ∧ RepCaps w F look vs cs us' := by
  obtain ⟨b, off, us', rfl, h2, h3⟩ := h
  exact ⟨_, us', rfl, ⟨rfl, b, off, rfl, h2⟩, h3⟩
theorem cap_slotV {w : World} {F : Nat → Prop} {look : Nat → Slot} {vs : Nat → Value} {t : PT} {x : t.den} {cs : List Cap} {us : List Value} (h : RepCaps w F look vs (.v t .n x :: cs) us) : ∃ u us', us = u :: us' ∧ RepSlot w F look vs (.pv t x) u [] ∧ RepCaps w F look vs cs us' := by
  obtain ⟨b, off, c, e, fr, us', rfl, h2, h3, h4, h5, h6⟩ := h
  exact ⟨_, us', rfl, ⟨rfl, b, off, c, e, fr, rfl, h2, h3, h4, h5⟩, h6⟩

theorem capsV_rep {E : Env} {σ : List Slot} {a : Act} {w : World} (hst : RepState E σ a w) {look : Nat → Slot} (hlk : Looks look σ) : ∀ (ts : List PT) (ms : List Md) (cs : List Cap) (us : List Value) (x : PT.denL ts),
    capsV real0 look ts ms cs = some x → RepCaps w E.F (lk σ) (vl a) cs us → RepCaps w (fun b => b < w.heap.size) nolook noval (capsT ts ms x) us
  | [], ms, cs, us, x, h, hr => by
    cases ms <;> cases cs <;> simp only [capsV] at h <;> try (cases h; done)
    exact hr
  | t :: ts, [], cs, us, x, h, hr => by cases cs <;> simp [capsV] at h
  | t :: ts, m :: ms, [], us, x, h, hr => by simp [capsV] at h
  | t :: ts, m :: ms, c :: cs, us, x, h, hr => by
    simp only [capsV] at h
    split at h
    case h_2 => cases h
    rename_i y hy
    split at h
    case h_2 => cases h
    rename_i ys hys
    obtain rfl := Option.some.inj h
    cases m <;> simp only at hy <;> try (cases hy; done)
    have key : ∃ u us', us = u :: us' ∧ RepSlot w (fun b => b < w.heap.size) nolook noval (.pv t y) u [] ∧ RepCaps w E.F (lk σ) (vl a) cs us' := by
      cases c with
      | r k p =>
        obtain ⟨u, us', h1, h2, h3⟩ := cap_slot hr
        exact ⟨u, us', h1, seenP_rep hst hlk h2 hy, h3⟩
      | v t' m' x' =>
        cases m' <;> simp only at hy <;> try (cases hy; done)
        obtain ⟨u, us', h1, h2, h3⟩ := cap_slotV hr
        exact ⟨u, us', h1, seenP_rep hst hlk (s := .pv t' x') h2 hy, h3⟩
    obtain ⟨u, us', rfl, ⟨_, b, off, c', e, fr, h1, h2, h3, h4, h5⟩, h6⟩ := key
    exact ⟨b, off, c', e, fr, us', by rw [h1], h2, h3, h4, h5, capsV_rep hst hlk ts ms cs us' ys hys h6⟩

/-- The values that are handed over. -/
def ArgU (E : Env) (σ : List Slot) (a : Act) (w : World) : List Arg → List Value → Prop
  | [], us => us = []
  | .o o _ :: os, us => ∃ us', us = a.eval o :: us' ∧ ArgU E σ a w os us'
  | .c c :: os, us => ∃ u us', us = u :: us' ∧ RepCaps w E.F (lk σ) (vl a) [c] [u] ∧ ArgU E σ a w os us'

theorem argU_o {E : Env} {σ : List Slot} {a : Act} {w : World} {r : List Arg} {us : List Value} (h : ArgU E σ a w r us) : ∀ (os : List Operand) (Ts : List TypeId), ArgU E σ a w (argsO os Ts ++ r) (os.map a.eval ++ us)
  | [], _ => h
  | o :: os, [] => ⟨_, rfl, argU_o h os []⟩
  | o :: os, T :: Ts => ⟨_, rfl, argU_o h os Ts⟩
theorem argU_c {E : Env} {σ : List Slot} {a : Act} {w : World} : ∀ (cs : List Cap) (us : List Value), RepCaps w E.F (lk σ) (vl a) cs us → ArgU E σ a w (cs.map .c) us
  | [], us, h => h
  | .r k p :: cs, us, h => by
    obtain ⟨b, off, us', rfl, h2, h3⟩ := h
    exact ⟨_, us', rfl, ⟨b, off, [], rfl, h2, rfl⟩, argU_c cs us' h3⟩
  | .v t m x :: cs, us, h => by
    obtain ⟨b, off, c, e, fr, us', rfl, h2, h3, h4, h5, h6⟩ := h
    exact ⟨_, us', rfl, ⟨b, off, c, e, fr, [], rfl, h2, h3, h4, h5, rfl⟩, argU_c cs us' h6⟩

theorem argF_rep {w : World} {F : Nat → Prop} {a : Act} {m : AM} {t : PT} {o : Operand} {y : t.den} (h : argF m t o = some y) : RepSlot w F nolook noval (argSlot m t y) (a.eval o) [] := by
  unfold argF at h
  split at h
  case h_2 => cases h
  rename_i g
  split at h
  case h_2 => cases h
  rename_i f
  split at h
  case isFalse => cases h
  rename_i hgf
  obtain rfl := Nat.eq_of_beq_eq_true hgf
  split at h
  case h_2 => cases h
  exact ⟨rfl, #[], rfl, rfl⟩

theorem argsV_rep {E : Env} {tab : Tab} {σ : List Slot} {a : Act} {w : World} (hst : RepState E σ a w) {look : Nat → Slot} (hlk : Looks look σ) {gl : List (Nat × Bool)} (hgl : holdsG (vl a) gl) : ∀ (ts : List PT) (ms : List AM) (os : List Arg) (us : List Value) (x : PT.denL ts),
    argsV real0 tab look gl ts ms os = some x → ArgU E σ a w os us → ArgsRep w (fun b => b < w.heap.size) ts ms x us []
  | [], ms, os, us, x, h, hu => by
    cases ms <;> cases os <;> simp only [argsV] at h <;> try (cases h; done)
    exact ⟨hu, rfl⟩
  | t :: ts, [], os, us, x, h, hu => by cases os <;> simp [argsV] at h
  | t :: ts, m :: ms, [], us, x, h, hu => by simp [argsV] at h
  | t :: ts, m :: ms, .o o T :: os, us, x, h, hu => by
    obtain ⟨us', rfl, hu⟩ := hu
    simp only [argsV] at h
    split at h
    · rename_i y hy
      split at h
      case h_2 => cases h
      rename_i ys hys
      obtain rfl := Option.some.inj h
      refine ⟨m, ms, a.eval o, us', [], [], rfl, rfl, rfl, ?_, argsV_rep hst hlk hgl ts ms os us' ys hys hu⟩
      exact argF_rep hy
    split at h
    case h_2 => cases h
    rename_i xo hxo
    split at h
    case h_2 => cases h
    rename_i y hy
    split at h
    case h_2 => cases h
    rename_i ys hys
    obtain rfl := Option.some.inj h
    obtain ⟨A, hA, hAw, hrep⟩ := opd_rep hst hlk hgl (opdOf_ok hxo)
    refine ⟨m, ms, a.eval o, us', [], [], rfl, rfl, rfl, ?_, argsV_rep hst hlk hgl ts ms os us' ys hys hu⟩
    unfold argV at hy
    split at hy
    · obtain ⟨cs, h1, h2⟩ := seen_rep hst hlk hA hAw hrep hy
      exact ⟨cs, h1, h2⟩
    · obtain ⟨A', hrep'⟩ := adr_rep hst hlk hgl (opdOf_ok hxo)
      exact seenP_rep hst hlk hrep' hy
    · cases hy
    · rename_i f cms
      split at hy
      case h_2 => cases hy
      rename_i g cs e
      split at hy
      case isFalse => cases hy
      rename_i hgf
      obtain rfl := Nat.eq_of_beq_eq_true hgf
      cases t <;> simp only at hy <;> try (cases hy; done)
      rename_i cts
      rw [e] at hrep
      obtain ⟨_, vs, h1, h2⟩ := hrep
      exact ⟨rfl, vs, h1, capsV_rep hst hlk _ _ _ _ _ hy h2⟩
  | t :: ts, m :: ms, .c c :: os, us, x, h, hu => by
    obtain ⟨u, us', rfl, hc, hu⟩ := hu
    cases m <;> simp only [argsV] at h <;> try (cases h; done)
    split at h
    case h_2 => cases h
    rename_i y hy
    split at h
    case h_2 => cases h
    rename_i ys hys
    obtain rfl := Option.some.inj h
    refine ⟨.p, ms, u, us', [], [], rfl, rfl, rfl, ?_, argsV_rep hst hlk hgl ts ms os us' ys hys hu⟩
    cases c with
    | r k p =>
      obtain ⟨u1, us1, h1, h2, h3⟩ := cap_slot hc
      simp only [List.cons.injEq] at h1
      obtain ⟨rfl, _⟩ := h1
      exact seenP_rep hst hlk h2 hy
    | v t' m' x' =>
      cases m' <;> simp only at hy <;> try (cases hy; done)
      obtain ⟨u1, us1, h1, h2, h3⟩ := cap_slotV hc
      simp only [List.cons.injEq] at h1
      obtain ⟨rfl, _⟩ := h1
      exact seenP_rep hst hlk (s := .pv t' x') h2 hy

/-! ### One operation, whatever it is: what comes behind it -/
/-- Behind the operation, with its value. -/
def Behind (E : Env) (σ : List Slot) (a : Act) (w : World) (s : Slot) (K : Value → World → Prop) : Prop :=
  ∀ v w' A, (∀ b, b < w.heap.size → w'.heap[b]? = w.heap[b]?) → Below w.heap.size w w' → A.Nodup → (∀ b ∈ A, w.heap.size ≤ b ∧ b < w'.heap.size) → RepSlot w' E.F (lk σ) (vl a) s v A → K v w'

theorem yld_wp {E : Env} {σ : List Slot} {a : Act} {w : World} {s : Slot} {o : Oper} {next : Act → World → Prop} {Q : Exit → Act → World → Prop} (h : Yld E σ a w s (execOp a.eval o)) (hK : Behind E σ a w s fun v w' => next (a.put o.dst v) w') : o.wp E.P a w next Q := by
  obtain ⟨v, w', A, h1, h2, h3, h4, h5, h6⟩ := h
  unfold Oper.wp
  rw [h1]
  exact hK v w' A h2 h3 h4 h5 h6

/-- A call of a function that has promised something: the first promise that fits. -/
def aCallL (A : Alg) (tab : Tab) (look : Nat → Slot) (gl : List (Nat × Bool)) (f : Nat) (os : List Arg) : Specs → Option (List Prop × Slot)
  | [] => none
  | (g, s) :: specs => match Nat.beq g f with
    | true => match argsV A tab look gl s.ts s.ms os with
      | some x => some ([s.pre x], resSlot s.rs s.rm (s.fn x))
      | none => aCallL A tab look gl f os specs
    | false => aCallL A tab look gl f os specs

def aCall (A : Alg) (tab : Tab) (specs : Specs) (look : Nat → Slot) (gl : List (Nat × Bool)) (o : Oper) : Option (List Prop × Slot) :=
  match o.op with
  | .call ⟨.value (.func f), ⟨os⟩, ⟨Ts⟩⟩ => aCallL A tab look gl f (argsO os Ts) specs
  | .call ⟨.value (.tmp k), ⟨os⟩, ⟨Ts⟩⟩ => match opd look gl (.t k) with
    | .clo f cs => aCallL A tab look gl f (argsO os Ts ++ cs.map .c) specs
    | _ => none
  | _ => none

theorem aCallL_inv {A : Alg} {tab : Tab} {look : Nat → Slot} {gl : List (Nat × Bool)} {f : Nat} {os : List Arg} {r : List Prop × Slot} : ∀ {specs : Specs}, aCallL A tab look gl f os specs = some r → ∃ s x, (f, s) ∈ specs ∧ argsV A tab look gl s.ts s.ms os = some x ∧ r = ([s.pre x], resSlot s.rs s.rm (s.fn x))
  | [], h => by cases h
  | (g, s) :: specs, h => by
    simp only [aCallL] at h
    split at h
    · rename_i hg
      obtain rfl := Nat.eq_of_beq_eq_true hg
      split at h
      · rename_i x hx
        exact ⟨s, x, by simp, hx, (Option.some.inj h).symm⟩
      · obtain ⟨s', x, h1, h2⟩ := aCallL_inv h
        exact ⟨s', x, by simp [h1], h2⟩
    · obtain ⟨s', x, h1, h2⟩ := aCallL_inv h
      exact ⟨s', x, by simp [h1], h2⟩

theorem res_slot : ∀ (ts : List PT) (ms : List Md) (x : PT.denL ts), (∃ t m, ts = [t] ∧ ms = [m] ∧ ∃ y : t.den, resSlot ts ms x = .val t m y) ∨ resSlot ts ms x = .tup (tupL ts ms x)
  | [], ms, x => .inr (by cases ms <;> rfl)
  | [t], [], x => .inr rfl
  | [t], [m], x => .inl ⟨t, m, rfl, rfl, x.1, rfl⟩
  | [t], m :: m2 :: ms, x => .inr rfl
  | t :: t2 :: ts, ms, x => .inr (by cases ms <;> rfl)

/-- What comes back does not hang on any slot, nor on what the caller looks at. -/
theorem res_any {w : World} {F : Nat → Prop} {look : Nat → Slot} {vs : Nat → Value} {ts : List PT} {ms : List Md} {x : PT.denL ts} {u : Value} {A : List Nat} (h : RepSlot w noF nolook noval (resSlot ts ms x) u A) : RepSlot w F look vs (resSlot ts ms x) u A := by
  have hF : ∀ b, noF b → F b := fun _ h => h.elim
  rcases res_slot ts ms x with ⟨t, m, _, _, y, e⟩ | e
  · rw [e] at h ⊢
    obtain ⟨cs, h1, h2⟩ := h
    exact ⟨cs, rep_frame hF (fun _ _ => rfl) _ _ _ _ _ (fun _ _ => rfl) h1, h2⟩
  · rw [e] at h ⊢
    obtain ⟨us, h1, h2⟩ := h
    refine ⟨us, h1, repL_mono _ _ _ (fun o cs A' _ h => ?_) h2⟩
    cases o with
    | none => exact h
    | some v =>
      obtain ⟨h3, cs', h4, h5⟩ := h
      exact ⟨h3, cs', rep_frame hF (fun _ _ => rfl) _ _ _ _ _ (fun _ _ => rfl) h4, h5⟩

theorem call_core {E : Env} {tab : Tab} {specs : Specs} (hsp : SpecsOk E.P specs) {σ : List Slot} {a : Act} {w : World} (hst : RepState E σ a w) {look : Nat → Slot} (hlk : Looks look σ) {gl : List (Nat × Bool)} (hgl : holdsG (vl a) gl) {o : Oper} {f : Nat} {os : List Arg} {us : List Value} {s : Slot} {obs : List Prop}
    (h : aCallL real0 tab look gl f os specs = some (obs, s)) (hus : ArgU E σ a w os us) (hex : ∀ fn, E.P.funcs[f]? = some fn → (fn.name == "runtime.NumGoroutine") = false → fn.body.isNone = false → (execOp a.eval o).run E.P w = .ok (.enter f us.toArray) w)
    (hobs : obsAll obs) {next : Act → World → Prop} {Q : Exit → Act → World → Prop} (hK : Behind E σ a w s fun v w' => next (a.put o.dst v) w') : o.wp E.P a w next Q := by
  obtain ⟨sp, x, hf, hx, e⟩ := aCallL_inv h
  simp only [Prod.mk.injEq] at e
  obtain ⟨rfl, rfl⟩ := e
  obtain ⟨⟨fn, hfn, hname, hbody⟩, hrun⟩ := hsp f sp hf
  have hargs := argsV_rep hst hlk hgl _ _ _ _ _ hx hus
  have hpre : sp.pre x := hobs _ (List.mem_singleton.2 rfl)
  have hcall := hrun w x us.toArray [] List.nodup_nil (fun b hb => by simp at hb) (by
    have : (fun b => b < w.heap.size ∧ b ∉ ([] : List Nat)) = fun b => b < w.heap.size := by funext b; simp
    rw [this]
    simpa using hargs) hpre
  unfold Oper.wp
  rw [hex fn hfn hname hbody, Oper.upon_enter]
  refine Calls.mono hcall fun e w' he => ?_
  cases e with
  | returned v =>
    obtain ⟨hkept, A, h1, h2, h3⟩ := he
    have hbl : ∀ b, b < w.heap.size → w'.heap[b]? = w.heap[b]? := fun b hb => hkept.block b ⟨hb, by simp⟩
    exact hK v w' A hbl ⟨hkept.os, hkept.tape, hkept.output, hkept.size, hbl⟩ h1 (fun b hb => by have := h2 b hb; simpa using this) (res_any h3)
  | panicked c => exact he.elim
  | outgrown => exact he.elim

theorem aCall_sound {E : Env} {tab : Tab} {specs : Specs} (hsp : SpecsOk E.P specs) {σ : List Slot} {a : Act} {w : World} (hst : RepState E σ a w) {look : Nat → Slot} (hlk : Looks look σ) {gl : List (Nat × Bool)} (hgl : holdsG (vl a) gl) {o : Oper} {s : Slot} {obs : List Prop}
    (h : aCall real0 tab specs look gl o = some (obs, s)) (hobs : obsAll obs) {next : Act → World → Prop} {Q : Exit → Act → World → Prop} (hK : Behind E σ a w s fun v w' => next (a.put o.dst v) w') : o.wp E.P a w next Q := by
  unfold aCall at h
  split at h
  · rename_i f os Ts ho
    refine call_core (us := os.map a.eval) hsp hst hlk hgl h ?_ (fun fn hfn hname hbody => ?_) hobs hK
    · have := argU_o (E := E) (σ := σ) (a := a) (w := w) (r := []) (us := []) rfl os Ts
      simpa using this
    · have hn : ¬ fn.name = "runtime.NumGoroutine" := by simpa using hname
      have hb : ¬ fn.body = none := fun e => by rw [e] at hbody; cases hbody
      simp [execOp, ho, resolve, Deferred.ofValue, Act.eval, invoke, callFunc, hfn, hn, hb]
  · rename_i k os Ts ho
    split at h
    case h_2 => cases h
    rename_i f cs e
    obtain ⟨B, _, _, hr⟩ := opd_rep hst hlk hgl (x := .t k) (o := .tmp k) rfl
    rw [e] at hr
    obtain ⟨_, us, h1, h2⟩ := hr
    refine call_core (us := os.map a.eval ++ us.toList) hsp hst hlk hgl h (argU_o (argU_c cs us.toList h2) os Ts) (fun fn hfn hname hbody => ?_) hobs hK
    have hn : ¬ fn.name = "runtime.NumGoroutine" := by simpa using hname
    have hb : ¬ fn.body = none := fun e => by rw [e] at hbody; cases hbody
    have h1' : a.eval (.tmp k) = .func (.func f) #[] us := h1
    simp [execOp, ho, resolve, Deferred.ofValue, h1', invoke, callFunc, hfn, hn, hb]
  · cases h

/-! ### Guards -/
def glOf (look : Nat → Slot) (ops : List Oper) (g : Option (Nat × Bool)) : Option (List (Nat × Bool)) :=
  match g with
  | none => some []
  | some (j, b) => match (ops[j]?).bind (·.dst) with
    | some d => match look d with
      | .cnd gl _ => some ((d, b) :: gl)
      | .val .bool .n _ => some [(d, b)]
      | _ => none
    | none => none

/-- The bool in a slot. -/
def boolAt (look : Nat → Slot) (k : Nat) : Option Bool :=
  match look k with
  | .val .bool .n x => some x
  | .cnd _ (.val .bool .n x) => some x
  | _ => none

def wrapG (A : Alg) (look : Nat → Slot) : List (Nat × Bool) → Prop → Option Prop
  | [], p => some p
  | (k, b) :: gl, p => match boolAt look k with
    | some x => match wrapG A look gl p with
      | some q => some (A.imp (match b with | true => x | false => A.bnot x) q)
      | none => none
    | none => none
def wrapGs (A : Alg) (look : Nat → Slot) (gl : List (Nat × Bool)) : List Prop → Option (List Prop)
  | [] => some []
  | p :: ps => match wrapG A look gl p with
    | some q => match wrapGs A look gl ps with
      | some qs => some (q :: qs)
      | none => none
    | none => none

theorem wrapG_out {E : Env} {σ : List Slot} {a : Act} {w : World} (hst : RepState E σ a w) {look : Nat → Slot} (hlk : Looks look σ) {g0 : List (Nat × Bool)} (hg0 : holdsG (vl a) g0) : ∀ (gl : List (Nat × Bool)), (∀ g ∈ gl, g ∈ g0) → ∀ (p q : Prop), wrapG real0 look gl p = some q → q → p
  | [], _, p, q, h, hq => by simp only [wrapG, Option.some.injEq] at h; exact h ▸ hq
  | (k, b) :: gl, hin, p, q, h, hq => by
    simp only [wrapG] at h
    split at h
    case h_2 => cases h
    rename_i x hx
    split at h
    case h_2 => cases h
    rename_i q' hq'
    obtain rfl := Option.some.inj h
    have hm : (k, b) ∈ g0 := hin _ (by simp)
    have hv : vl a k = .bool b := hg0 _ hm
    have hxb : x = b := by
      obtain ⟨ow, how, _, _, hsl⟩ := hst.slots
      obtain ⟨B, _, _, hr⟩ := hsl k
      unfold boolAt at hx
      have hl : lk σ k = look k := by
        rcases hlk k with e | e
        · rw [e] at hx; simp at hx
        · exact e.symm
      rw [show (σ.getD k .dead) = look k from hl] at hr
      split at hx
      · rename_i x' e
        obtain rfl := Option.some.inj hx
        rw [e] at hr
        obtain ⟨e1, _⟩ := rep_bool hr
        rw [show a.tmps.getD k undef = vl a k from rfl, hv] at e1
        injection e1 with e1
        exact e1.symm
      · rename_i gl' x' e
        obtain rfl := Option.some.inj hx
        rw [e] at hr
        have hgl' : holdsG (fun k => a.tmps.getD k undef) gl' := by
          refine Classical.byContradiction fun hn => ?_
          have := (hr.2 hn).2
          rw [show a.tmps.getD k undef = vl a k from rfl, hv] at this
          simp [undef] at this
        have hr := hr.1 hgl'
        obtain ⟨e1, _⟩ := rep_bool hr
        rw [show a.tmps.getD k undef = vl a k from rfl, hv] at e1
        injection e1 with e1
        exact e1.symm
      · cases hx
    subst hxb
    refine wrapG_out hst hlk hg0 gl (fun g hg => hin g (by simp [hg])) p q' hq' ?_
    have himp : ∀ (c : Bool) (r : Prop), real0.imp c r → c = true → r := fun c r h => h
    refine himp _ _ hq ?_
    cases x <;> rfl

theorem wrapGs_out {E : Env} {σ : List Slot} {a : Act} {w : World} (hst : RepState E σ a w) {look : Nat → Slot} (hlk : Looks look σ) {g0 : List (Nat × Bool)} (hg0 : holdsG (vl a) g0) : ∀ (ps qs : List Prop), wrapGs real0 look g0 ps = some qs → obsAll qs → obsAll ps
  | [], _, _, _ => fun p hp => by simp at hp
  | p :: ps, qs, h, hq => by
    simp only [wrapGs] at h
    split at h
    case h_2 => cases h
    rename_i q hq1
    split at h
    case h_2 => cases h
    rename_i qs' hqs
    obtain rfl := Option.some.inj h
    intro r hr
    rcases List.mem_cons.1 hr with rfl | hr
    · exact wrapG_out hst hlk hg0 g0 (fun g hg => hg) _ q hq1 (hq q (by simp))
    · exact wrapGs_out hst hlk hg0 ps qs' hqs (fun p hp => hq p (by simp [hp])) r hr

end Go.Proofs.Ytaachifkgcdeoaa.Sy

namespace Go.Proofs.Ytaachifkgcdeoaa.Sy
open Go.RowKit
set_option linter.unusedSimpArgs false
set_option linter.unusedVariables false

/-! ### New lists -/
def aMkS (A : Alg) (t : PT) (x y : Slot) : Option (List Prop × Slot) :=
  match asI x, asI y with
  | some l, some c => some ([A.bnd 0 l c, A.smL c], .val (.list t) (.l (zmd t)) (A.rep t l))
  | _, _ => none

theorem made_list {z : Array Value} (hz : 0 < z.size) : ∀ n, (madeCells z (n * z.size)).toList = (List.replicate n z.toList).flatten := by
  intro n
  apply List.ext_getElem?
  intro i
  have hlen : ∀ n, ((List.replicate n z.toList).flatten).length = n * z.size := by
    intro n
    induction n with
    | zero => simp
    | succ n ih => rw [List.replicate_succ, List.flatten_cons, List.length_append, ih, Array.length_toList, Nat.succ_mul, Nat.add_comm]
  have hget : ∀ n i, i < n * z.size → ((List.replicate n z.toList).flatten)[i]? = z[i % z.size]? := by
    intro n
    induction n with
    | zero => intro i hi; simp at hi
    | succ n ih =>
      intro i hi
      rw [List.replicate_succ, List.flatten_cons]
      by_cases h : i < z.size
      · rw [List.getElem?_append_left (by simpa using h), Nat.mod_eq_of_lt h]
        simp
      · rw [List.getElem?_append_right (by simpa using Nat.le_of_not_lt h), Array.length_toList, ih (i - z.size) (by rw [Nat.succ_mul] at hi; omega)]
        rw [Nat.mod_eq_sub_mod (Nat.le_of_not_lt h)]
  by_cases hi : i < n * z.size
  · rw [hget n i hi]
    have h1 : i % z.size < z.size := Nat.mod_lt _ hz
    simp only [madeCells, Array.toList_map, List.getElem?_map, Array.toList_range, List.getElem?_range hi, Option.map_some]
    rw [Array.getElem?_eq_getElem h1, getElem!_pos z (i % z.size) h1]
  · rw [List.getElem?_eq_none, List.getElem?_eq_none]
    · rw [hlen]; omega
    · simp [madeCells]; omega

theorem zero_repL {w : World} {F : Nat → Prop} (t : PT) : ∀ n, RepL (Rep w F t (zmd t)) (List.replicate n t.dflt) (List.replicate n (zeroC t)).flatten []
  | 0 => ⟨rfl, rfl⟩
  | n + 1 => by
    rw [List.replicate_succ, List.replicate_succ, List.flatten_cons]
    exact ⟨zeroC t, _, [], [], rfl, rfl, zero_rep t, zero_repL t n⟩

theorem aMkS_sound {E : Env} {σ : List Slot} {a : Act} {w : World} (hst : RepState E σ a w) {o : Oper} {T : TypeId} {x y : Operand} (ho : o.op = .makeSlice T x y) {t : PT} (hT : TyOk E.P (.list t) T) {sx sy s : Slot} {obs : List Prop} {A1 A2 : List Nat}
    (hx : RepSlot w E.F (lk σ) (vl a) sx (a.eval x) A1) (hy : RepSlot w E.F (lk σ) (vl a) sy (a.eval y) A2) (h : aMkS real0 t sx sy = some (obs, s)) (hobs : obsAll obs) : Yld E σ a w s (execOp a.eval o) := by
  unfold aMkS at h
  split at h
  case h_2 => cases h
  rename_i l c hl hc
  simp only [Option.some.injEq, Prod.mk.injEq] at h
  obtain ⟨rfl, rfl⟩ := h
  obtain ⟨k1, e1, _⟩ := asI_rep hx hl
  obtain ⟨k2, e2, _⟩ := asI_rep hy hc
  have hb : 0 ≤ (0 : Int) ∧ 0 ≤ l ∧ l ≤ c := hobs (real0.bnd 0 l c) (List.mem_cons_self ..)
  have hs : c ≤ 4294967296 := hobs (real0.smL c) (List.mem_cons_of_mem _ (List.mem_cons_self ..))
  unfold TyOk at hT
  obtain ⟨_, e, hu, hE⟩ := hT
  obtain ⟨i, g1, g2, g3, g4⟩ := hE.ti.out
  have hpos := hE.ti.pos
  have hz : (wrapV t (zeroC t)).cells = (zeroC t).toArray := wrapV_cells (w := w) (F := noF) (zero_rep t)
  have hzl : (zeroC t).length = t.size := rep_length (w := w) (F := noF) _ _ _ _ _ (zero_rep t)
  have hrun := run_make (P := E.P) w T e i _ hu g1 g3 k1 k2 l c hb.2.1 hb.2.2 (by
    have h1 : (i.bytes : Int) ≤ 4096 := by omega
    have h2 : (i.bytes : Int) * c ≤ 4096 * c := Int.mul_le_mul_of_nonneg_right h1 (by omega)
    omega) (by omega)
  rw [hz, g2] at hrun
  have hml : (madeCells (zeroC t).toArray (c.toNat * t.size)).toList = (List.replicate c.toNat (zeroC t)).flatten := by
    have := made_list (z := (zeroC t).toArray) (by simpa [hzl] using hpos) c.toNat
    simpa [hzl] using this
  obtain ⟨n1, n2, n3⟩ := new_state (w := w) (.cells (madeCells (zeroC t).toArray (c.toNat * t.size)) e)
  refine ⟨_, w.alloc (.cells (madeCells (zeroC t).toArray (c.toNat * t.size)) e), [w.heap.size], ?_, n1, n3, by simp, fun b hb => by
    simp only [List.mem_singleton] at hb
    subst hb
    exact ⟨Nat.le_refl _, by show w.heap.size < (w.heap.push _).size; simp⟩, ⟨[.slice (some ⟨w.heap.size, 0, none⟩) l.toNat c.toNat], ?_, rfl⟩⟩
  · simp only [execOp, ho, e1, e2, Sem.run_bind, hrun, Result.andThen_ok, Sem.run_pure]
    rfl
  · have hll : List.length (real0.rep t l) = l.toNat := by simp [real0]
    simp only [Rep]
    refine ⟨by rw [hll]; omega, some ⟨w.heap.size, 0, none⟩, c.toNat, by rw [hll], .inr ⟨w.heap.size, 0, _, e, (0, 0), [], rfl, rfl, n2, free0 _, by rw [hll]; omega, ?_, ?_⟩⟩
    · simp [madeCells]
    · rw [hll, List.drop_zero, hml]
      have hsplit : (List.replicate c.toNat (zeroC t)).flatten = (List.replicate l.toNat (zeroC t)).flatten ++ (List.replicate (c.toNat - l.toNat) (zeroC t)).flatten := by
        rw [← List.flatten_append, List.replicate_append_replicate]
        congr 2
        omega
      have hlen : ((List.replicate l.toNat (zeroC t)).flatten).length = l.toNat * t.size := by
        have := repL_length (n := t.size) (fun x c A h => rep_length t _ x c A h) _ _ _ (zero_repL (w := w) (F := E.F) t l.toNat)
        simpa using this
      rw [hsplit, List.take_append_of_le_length (by rw [hlen]; exact Nat.le_refl _), List.take_of_length_le (by rw [hlen]; exact Nat.le_refl _)]
      exact zero_repL t l.toNat

/-! ### Least and greatest -/
def foldI (f : Int → Int → Int) : Int → List Int → Int
  | x, [] => x
  | x, y :: ys => foldI f (f x y) ys

def intsOf (tab : Tab) (look : Nat → Slot) (gl : List (Nat × Bool)) (k : IntKind) : List Operand → Option (List Int)
  | [] => some []
  | o :: os => match opdOf tab 0 o with
    | some x => match opd look gl x with
      | .val (.int k') .n n => if kEq k' k then (match intsOf tab look gl k os with
        | some ns => some (n :: ns)
        | none => none) else none
      | _ => none
    | none => none

theorem intsOf_ok {E : Env} {tab : Tab} {σ : List Slot} {a : Act} {w : World} (hst : RepState E σ a w) {look : Nat → Slot} (hlk : Looks look σ) {gl : List (Nat × Bool)} (hgl : holdsG (vl a) gl) {k : IntKind} : ∀ {os : List Operand} {ns : List Int}, intsOf tab look gl k os = some ns →
    os.map a.eval = ns.map (Value.int k) ∧ ∀ n ∈ ns, k.min ≤ n ∧ n ≤ k.max
  | [], ns, h => by
    simp only [intsOf, Option.some.injEq] at h
    subst h
    exact ⟨rfl, fun n hn => by simp at hn⟩
  | o :: os, ns, h => by
    simp only [intsOf] at h
    split at h
    case h_2 => cases h
    rename_i x hx
    split at h
    case h_2 => cases h
    rename_i k' n hs
    split at h
    case isFalse => cases h
    rename_i hk
    split at h
    case h_2 => cases h
    rename_i ns' hns
    obtain rfl := Option.some.inj h
    obtain ⟨A, _, _, hr⟩ := opd_rep hst hlk hgl (opdOf_ok hx)
    rw [hs] at hr
    obtain ⟨e1, _, e2⟩ := rep_int hr
    have hkk : k' = k := of_decide_eq_true hk
    subst hkk
    obtain ⟨h1, h2⟩ := intsOf_ok hst hlk hgl hns
    refine ⟨by rw [List.map_cons, h1, e1]; rfl, fun m hm => ?_⟩
    rcases List.mem_cons.1 hm with rfl | hm
    · exact e2
    · exact h2 m hm

theorem foldI_range {f : Int → Int → Int} (hf : ∀ x y, f x y = x ∨ f x y = y) {k : IntKind} : ∀ (ns : List Int) (x : Int), (k.min ≤ x ∧ x ≤ k.max) → (∀ n ∈ ns, k.min ≤ n ∧ n ≤ k.max) → k.min ≤ foldI f x ns ∧ foldI f x ns ≤ k.max
  | [], x, hx, _ => hx
  | y :: ys, x, hx, h => foldI_range hf ys (f x y) (by
    rcases hf x y with e | e
    · rw [e]; exact hx
    · rw [e]; exact h y (by simp)) (fun n hn => h n (by simp [hn]))

def aMM (A : Alg) (tab : Tab) (look : Nat → Slot) (gl : List (Nat × Bool)) (isMin : Bool) (T : TypeId) (os : List Operand) : Option (List Prop × Slot) :=
  match tyT tab T with
  | some (.int k) => match intsOf tab look gl k os with
    | some (n :: ns) => some ([], .val (.int k) .n (match isMin with | true => foldI A.mn n ns | false => foldI A.mx n ns))
    | _ => none
  | _ => none

theorem run_fold {P : Program} {w : World} {k : IntKind} {g : Value → Value → Sem Value} {f : Int → Int → Int} (hg : ∀ x y, g (.int k x) (.int k y) = pure (.int k (f x y))) : ∀ (ns : List Int) (n : Int), ((ns.map (Value.int k)).foldlM g (Value.int k n)).run P w = .ok (.int k (foldI f n ns)) w
  | [], n => by simp [foldI]
  | m :: ns, n => by
    simp only [List.map_cons, List.foldlM_cons, hg, foldI, Sem.run_bind, Sem.run_pure, Result.andThen_ok]
    exact run_fold hg ns (f n m)

theorem aMM_sound {E : Env} {tab : Tab} {σ : List Slot} {a : Act} {w : World} (hst : RepState E σ a w) {look : Nat → Slot} (hlk : Looks look σ) {gl : List (Nat × Bool)} (hgl : holdsG (vl a) gl) {o : Oper} {isMin : Bool} {T : TypeId} {os : List Operand} {Ts : Array TypeId}
    (ho : o.op = .call ⟨.builtin (match isMin with | true => .min | false => .max), ⟨os⟩, Ts⟩) {s : Slot} {obs : List Prop} (h : aMM real0 tab look gl isMin T os = some (obs, s)) : Yld E σ a w s (execOp a.eval o) := by
  unfold aMM at h
  split at h
  case h_2 => cases h
  rename_i k _
  split at h
  case h_2 => cases h
  rename_i n ns hns
  simp only [Option.some.injEq, Prod.mk.injEq] at h
  obtain ⟨_, rfl⟩ := h
  obtain ⟨h1, h2⟩ := intsOf_ok hst hlk hgl hns
  have hmn : ∀ x y, real0.mn x y = x ∨ real0.mn x y = y := fun x y => by
    simp only [real0]
    by_cases h : y < x
    · simp [h]
    · simp [h]
  have hmx : ∀ x y, real0.mx x y = x ∨ real0.mx x y = y := fun x y => by
    simp only [real0]
    by_cases h : y > x
    · simp [h]
    · simp [h]
  cases isMin
  · refine Yld.pure (v := .int k (foldI real0.mx n ns)) ?_ (int_rep (foldI_range hmx ns n (h2 n (by simp)) fun m hm => h2 m (by simp [hm])))
    have hf := run_fold (P := E.P) (w := w) (k := k) (g := Builtin.max2) (f := real0.mx) (fun x y => by simp only [Builtin.max2, real0]) ns n
    simp [execOp, ho, resolve, invoke, builtin, Builtin.max_, h1, hf]
  · refine Yld.pure (v := .int k (foldI real0.mn n ns)) ?_ (int_rep (foldI_range hmn ns n (h2 n (by simp)) fun m hm => h2 m (by simp [hm])))
    have hf := run_fold (P := E.P) (w := w) (k := k) (g := Builtin.min2) (f := real0.mn) (fun x y => by simp only [Builtin.min2, real0]) ns n
    simp [execOp, ho, resolve, invoke, builtin, Builtin.min_, h1, hf]

/-! ### Bytes and texts -/
def aB2s (A : Alg) (look : Nat → Slot) (xo : Opd) (x : Slot) : Option (List Prop × Slot) :=
  match seen A look xo (.list (.int .u8)) x with
  | some l => some ([], .val .str .n (A.b2s l))
  | none => none

theorem u8_cells {w : World} {F : Nat → Prop} : ∀ {ns : List Int} {cs : List Value} {A : List Nat}, RepL (Rep w F (.int .u8) .n) ns cs A → cs = ns.map (Value.int .u8)
  | [], cs, A, h => h.1
  | n :: ns, cs, A, h => by
    obtain ⟨c1, c2, A1, A2, rfl, _, h1, h2⟩ := h
    simp only [Rep] at h1
    rw [h1.2.1, u8_cells h2]
    rfl

theorem push_all : ∀ (ns : List Int) (s : ByteArray), ns.foldl (fun r n => r.push (UInt8.ofNat n.toNat)) s = s ++ ⟨(ns.map fun n => UInt8.ofNat n.toNat).toArray⟩
  | [], s => by
    apply ByteArray.ext
    simp
  | n :: ns, s => by
    rw [List.foldl_cons, push_all ns]
    apply ByteArray.ext
    simp [ByteArray.push]

theorem aB2s_sound {E : Env} {σ : List Slot} {a : Act} {w : World} (hst : RepState E σ a w) {look : Nat → Slot} (hlk : Looks look σ) {gl : List (Nat × Bool)} (hgl : holdsG (vl a) gl) {o : Oper} {S T : TypeId} {xo : Opd} {x : Operand} (ho : o.op = .convert S T x) (hxo : OpdOk xo x) (hS : TyOk E.P (.list (.int .u8)) S) (hT : TyOk E.P .str T)
    {s : Slot} {obs : List Prop} (h : aB2s real0 look xo (opd look gl xo) = some (obs, s)) : Yld E σ a w s (execOp a.eval o) := by
  unfold aB2s at h
  split at h
  case h_2 => cases h
  rename_i l hl
  simp only [Option.some.injEq, Prod.mk.injEq] at h
  obtain ⟨_, rfl⟩ := h
  obtain ⟨A, hA, hAw, hr⟩ := opd_rep hst hlk hgl hxo
  obtain ⟨cs, h1, h2⟩ := seen_rep hst hlk hA hAw hr hl
  simp only [Rep] at h1
  obtain ⟨_, hlen, b, cap, rfl, hcap, hcase⟩ := h1
  have hu : a.eval x = .slice b (List.length l) cap := h2
  unfold TyOk at hS
  obtain ⟨_, e, hS, hE⟩ := hS
  have heu := hE.int_u
  obtain ⟨ns, hns⟩ : ∃ ns : List Int, ns = l := ⟨_, rfl⟩
  subst hns
  have hsz : (real0.b2s ns).size ≤ 1099511627776 := by
    show ((ns.map fun n => UInt8.ofNat n.toNat).toArray).size ≤ _
    rw [List.size_toArray, List.length_map]
    exact Nat.le_trans hlen (by decide)
  refine Yld.pure (v := .string (real0.b2s ns)) ?_ (str_rep hsz)
  have hconv : (convert S T (.slice b ns.length cap)).run E.P w = (Conv.bytesToString (.slice b ns.length cap)).run E.P w := by
    cases b <;> simp [convert, run_underlying hS, run_underlying hT.str_u, run_underlying heu]
  have hb : (Conv.bytesToString (.slice b ns.length cap)).run E.P w = .ok (.string (real0.b2s ns)) w := by
    have hpush := push_all ns ByteArray.empty
    have hbs : ByteArray.empty ++ ⟨(ns.map fun n => UInt8.ofNat n.toNat).toArray⟩ = real0.b2s ns := by
      apply ByteArray.ext
      simp [real0]
    rw [hbs] at hpush
    rcases hcase with hz | ⟨bb, off, c, el, fr, rfl, hF, hblk, hsz2, hL⟩
    · have hz : ns = [] := hz
      subst hz
      cases b with
      | none =>
        rw [← hpush]
        simp [Conv.bytesToString]
      | some ad =>
        have := run_bytesToString (P := E.P) w ad 0 cap [] (by simp [loadCells, loadCellsFrom])
        rw [hpush] at this
        exact this
    · have hcells := u8_cells (w := w) (F := noF) hL
      have h1 : (PT.int .u8).size = 1 := rfl
      rw [h1, Nat.mul_one] at hcells hsz2
      have hload := run_loadCells_list (P := E.P) w ⟨bb, off, none⟩ (ns.map (Value.int .u8)) (fun j v hj => by
        rw [← hcells, List.getElem?_take] at hj
        split at hj
        · rw [List.getElem?_drop] at hj
          rw [add_plain0]
          simp only [World.cell?, hblk]
          simpa using hj
        · cases hj)
      rw [List.length_map] at hload
      have := run_bytesToString (P := E.P) w ⟨bb, off, none⟩ ns.length cap ns hload
      rw [hpush] at this
      exact this
  simp only [execOp, ho, hu, Sem.run_bind, Sem.run_pure]
  exact Eq.trans (congrArg (fun r => Result.andThen r fun a w' => Result.ok (Next.value a) w') (hconv.trans hb)) rfl

/-- More operations that write nothing. -/
def stepM (A : Alg) (tab : Tab) (look : Nat → Slot) (gl : List (Nat × Bool)) (o : Oper) : Option (List Prop × Slot) :=
  match o.op with
  | .makeSlice T x y => match tyT tab T with
    | some (.list t) => s2 tab look gl 0 0 x y fun _ sx _ sy => aMkS A t sx sy
    | _ => none
  | .call ⟨.builtin .min, ⟨os⟩, _⟩ => aMM A tab look gl true o.type os
  | .call ⟨.builtin .max, ⟨os⟩, _⟩ => aMM A tab look gl false o.type os
  | .convert S T x => match tyT tab S, tyT tab T with
    | some (.list (.int .u8)), some .str => s1 tab look gl S x fun xo sx => aB2s A look xo sx
    | _, _ => none
  | _ => none

theorem stepM_sound {E : Env} {tab : Tab} (htab : TabOk E.P tab) {σ : List Slot} {a : Act} {w : World} (hst : RepState E σ a w) {look : Nat → Slot} (hlk : Looks look σ) {gl : List (Nat × Bool)} (hgl : holdsG (vl a) gl) {o : Oper} {s : Slot} {obs : List Prop}
    (h : stepM real0 tab look gl o = some (obs, s)) (hobs : obsAll obs) : Yld E σ a w s (execOp a.eval o) := by
  have hop : ∀ {T : TypeId} {x : Operand} {x' : Opd}, opdOf tab T x = some x' → ∃ A, RepSlot w E.F (lk σ) (vl a) (opd look gl x') (a.eval x) A := fun hx => by
    obtain ⟨A, _, _, h⟩ := opd_rep hst hlk hgl (opdOf_ok hx)
    exact ⟨A, h⟩
  unfold stepM at h
  split at h
  · split at h
    · obtain ⟨x', y', hx, hy, h⟩ := s2_inv h
      obtain ⟨A1, hr⟩ := hop hx
      obtain ⟨A2, hr2⟩ := hop hy
      exact aMkS_sound hst (by assumption) (htab.ty _ _ (by assumption)) hr hr2 h hobs
    · cases h
  · exact aMM_sound (isMin := true) hst hlk hgl (by assumption) h
  · exact aMM_sound (isMin := false) hst hlk hgl (by assumption) h
  · split at h
    · rename_i hS hT
      obtain ⟨x', hx, h⟩ := s1_inv h
      exact aB2s_sound hst hlk hgl (by assumption) (opdOf_ok hx) (htab.ty _ _ hS) (htab.ty _ _ hT) h
    · cases h
  · cases h

end Go.Proofs.Ytaachifkgcdeoaa.Sy

namespace Go.Proofs.Ytaachifkgcdeoaa.Sy
open Go.RowKit
set_option linter.unusedSimpArgs false
set_option linter.unusedVariables false

/-- A part that owns nothing. -/
def aExt (i : Nat) (x : Slot) : Option (List Prop × Slot) :=
  match x with
  | .tup vs => match vs[i]? with
    | some (some v) => if plainT v.t v.m then some ([], .val v.t .n v.x) else none
    | _ => none
  | _ => none

theorem repTup_at {w : World} {F : Nat → Prop} : ∀ {vs : List (Option TV)} {us : List Value} {A : List Nat} {i : Nat} {v : TV}, RepTup w F vs us A → vs[i]? = some (some v) → ∃ cs A', us[i]? = some (wrapV v.t cs) ∧ Rep w F v.t v.m v.x cs A'
  | [], us, A, i, v, _, h => by simp at h
  | o :: vs, us, A, i, v, hr, h => by
    obtain ⟨c1, c2, A1, A2, rfl, rfl, h1, h2⟩ := hr
    cases i with
    | zero =>
      simp only [List.getElem?_cons_zero, Option.some.injEq] at h
      subst h
      obtain ⟨_, cs, h3, rfl⟩ := h1
      exact ⟨cs, A1, rfl, h3⟩
    | succ i =>
      have hl : c1.length = 1 := by cases o <;> exact h1.1
      obtain ⟨u, rfl⟩ := List.length_eq_one_iff.1 hl
      obtain ⟨cs, A', h3, h4⟩ := repTup_at (vs := vs) h2 (by simpa using h)
      exact ⟨cs, A', by simpa using h3, h4⟩

theorem aExt_sound {E : Env} {σ : List Slot} {a : Act} {w : World} {o : Oper} {i : Nat} {x : Operand} (ho : o.op = .extract x i) {sx s : Slot} {obs : List Prop} {A1 : List Nat}
    (hx : RepSlot w E.F (lk σ) (vl a) sx (a.eval x) A1) (h : aExt i sx = some (obs, s)) : Yld E σ a w s (execOp a.eval o) := by
  unfold aExt at h
  split at h
  case h_2 => cases h
  rename_i vs
  split at h
  case h_2 => cases h
  rename_i v hv
  split at h
  case isFalse => cases h
  rename_i hp
  simp only [Option.some.injEq, Prod.mk.injEq] at h
  obtain ⟨_, rfl⟩ := h
  obtain ⟨us, hu, hr⟩ := hx
  obtain ⟨cs, A', h1, h2⟩ := repTup_at hr hv
  have h3 := plainT_n _ _ _ _ _ hp h2
  have := plain_nil _ _ _ _ _ rfl h3
  subst this
  refine Yld.pure (v := wrapV v.t cs) ?_ ⟨cs, h3, rfl⟩
  have hg : us[i]? = some (wrapV v.t cs) := by simpa using h1
  simp only [execOp, ho, hu, Instr.extract, hg, Sem.run_bind, Sem.run_pure, Result.andThen_ok]

/-- Several results that own nothing, moved. -/
def plainV : Option TV → Bool
  | some v => plainT v.t v.m
  | none => true
def aMovT (x : Slot) : Option (List Prop × Slot) :=
  match x with
  | .tup vs => if vs.all plainV then some ([], .tup vs) else none
  | _ => none
theorem repTup_plain {w : World} {F : Nat → Prop} : ∀ {vs : List (Option TV)} {us : List Value} {A : List Nat}, RepTup w F vs us A → vs.all plainV = true → A = []
  | [], us, A, hr, _ => hr.2
  | o :: vs, us, A, hr, h => by
    obtain ⟨c1, c2, A1, A2, rfl, rfl, h1, h2⟩ := hr
    simp only [List.all_cons, Bool.and_eq_true] at h
    have e2 := repTup_plain (vs := vs) h2 h.2
    subst e2
    cases o with
    | none => rw [h1.2]; rfl
    | some v =>
      obtain ⟨_, cs, h3, _⟩ := h1
      have h4 := plainT_n _ _ _ _ _ h.1 h3
      rw [plain_nil _ _ _ _ _ rfl h4]; rfl
theorem aMovT_sound {E : Env} {σ : List Slot} {a : Act} {w : World} {o : Oper} {x : Operand} (ho : o.op = .move x) {sx s : Slot} {obs : List Prop} {A1 : List Nat}
    (hx : RepSlot w E.F (lk σ) (vl a) sx (a.eval x) A1) (h : aMovT sx = some (obs, s)) : Yld E σ a w s (execOp a.eval o) := by
  unfold aMovT at h
  split at h
  case h_2 => cases h
  rename_i vs
  split at h
  case isFalse => cases h
  rename_i hp
  simp only [Option.some.injEq, Prod.mk.injEq] at h
  obtain ⟨_, rfl⟩ := h
  obtain ⟨us, hu, hr⟩ := hx
  have := repTup_plain hr hp
  subst this
  refine Yld.pure (v := a.eval x) ?_ ⟨us, hu, hr⟩
  simp only [execOp, ho, Sem.run_bind, Sem.run_pure, Result.andThen_ok]

/-- The check that a pointer is not nil: a reference is none. -/
def aNil (x : Slot) : Option (List Prop × Slot) :=
  match x with
  | .ref k p => some ([], .ref k p)
  | .pv t v => some ([], .pv t v)
  | _ => none
theorem aNil_sound {E : Env} {σ : List Slot} {a : Act} {w : World} {o : Oper} {x : Operand} (ho : o.op = .nilCheck x) {sx s : Slot} {obs : List Prop} {A1 : List Nat}
    (hx : RepSlot w E.F (lk σ) (vl a) sx (a.eval x) A1) (h : aNil sx = some (obs, s)) : Yld E σ a w s (execOp a.eval o) := by
  unfold aNil at h
  split at h
  · simp only [Option.some.injEq, Prod.mk.injEq] at h
    obtain ⟨_, rfl⟩ := h
    obtain ⟨rfl, b, off, hu, _⟩ := id hx
    exact Yld.pure (v := a.eval x) (by simp only [execOp, ho, hu]; rfl) hx
  · simp only [Option.some.injEq, Prod.mk.injEq] at h
    obtain ⟨_, rfl⟩ := h
    obtain ⟨rfl, b, off, c, e, fr, hu, _⟩ := id hx
    exact Yld.pure (v := a.eval x) (by simp only [execOp, ho, hu]; rfl) hx
  · cases h

/-- More operations that write nothing. -/
def stepN (A : Alg) (tab : Tab) (look : Nat → Slot) (gl : List (Nat × Bool)) (o : Oper) : Option (List Prop × Slot) :=
  match o.op with
  | .extract x i => s1 tab look gl 0 x fun _ sx => aExt i sx
  | .move x => s1 tab look gl 0 x fun _ sx => aMovT sx
  | .nilCheck x => s1 tab look gl 0 x fun _ sx => aNil sx
  | _ => none

theorem stepN_sound {E : Env} {tab : Tab} (htab : TabOk E.P tab) {σ : List Slot} {a : Act} {w : World} (hst : RepState E σ a w) {look : Nat → Slot} (hlk : Looks look σ) {gl : List (Nat × Bool)} (hgl : holdsG (vl a) gl) {o : Oper} {s : Slot} {obs : List Prop}
    (h : stepN real0 tab look gl o = some (obs, s)) (hobs : obsAll obs) : Yld E σ a w s (execOp a.eval o) := by
  have hop : ∀ {T : TypeId} {x : Operand} {x' : Opd}, opdOf tab T x = some x' → ∃ A, RepSlot w E.F (lk σ) (vl a) (opd look gl x') (a.eval x) A := fun hx => by
    obtain ⟨A, _, _, h⟩ := opd_rep hst hlk hgl (opdOf_ok hx)
    exact ⟨A, h⟩
  unfold stepN at h
  split at h
  · obtain ⟨x', hx, h⟩ := s1_inv h
    obtain ⟨A1, hr⟩ := hop hx
    exact aExt_sound (by assumption) hr h
  · obtain ⟨x', hx, h⟩ := s1_inv h
    obtain ⟨A1, hr⟩ := hop hx
    exact aMovT_sound (by assumption) hr h
  · obtain ⟨x', hx, h⟩ := s1_inv h
    obtain ⟨A1, hr⟩ := hop hx
    exact aNil_sound (by assumption) hr h
  · cases h

end Go.Proofs.Ytaachifkgcdeoaa.Sy

namespace Go.Proofs.Ytaachifkgcdeoaa.Sy
open Go.RowKit
set_option linter.unusedSimpArgs false
set_option linter.unusedVariables false

theorem fold_set (off : Nat) : ∀ (d : List Value) (j0 : Nat) (cells : Array Value), off + j0 + d.length ≤ cells.size →
    ((d.zipIdx j0).foldl (fun cs (p : Value × Nat) => cs.setIfInBounds (off + p.2) p.1) cells).toList = cells.toList.take (off + j0) ++ (d ++ cells.toList.drop (off + j0 + d.length))
  | [], j0, cells, _ => by simp
  | v :: d, j0, cells, h => by
    simp only [List.zipIdx_cons, List.foldl_cons]
    rw [fold_set off d (j0 + 1) _ (by simp at h ⊢; omega), Array.toList_setIfInBounds]
    have := list_eq_take_set (l := cells.toList) (off := off + j0) (v := v) (r := d) (by simpa using h)
    rw [show off + (j0 + 1) = off + j0 + 1 by omega]
    exact this

theorem fill_one {place : Nat → Option (Nat × Nat)} {i off size : Nat} {cells : Array Value} {v : Value} {d : List Value} {rest : List (Nat × Value)} (hp : place i = some (off, size)) (hv : v.cells = d.toArray) (hd : d.length = size) (hsz : off + size ≤ cells.size) :
    Instr.fill place cells ((i, v) :: rest) = Instr.fill place (cells.toList.take off ++ (d ++ cells.toList.drop (off + d.length))).toArray rest := by
  conv => lhs; unfold Instr.fill
  rw [hp]
  dsimp only
  rw [if_neg (by rw [hv]; simp; omega)]
  congr 1
  apply Array.toList_inj.1
  have := fold_set off d 0 cells (by omega)
  rw [hv]
  simp only [List.toList_toArray, Nat.add_zero] at this ⊢
  rw [← this]
  rw [← Array.foldl_toList]
  simp

/-- The parts written, one after the other. -/
def setAll (A : Alg) (t : PT) (mk : Nat → Stp) : List (Nat × TV) → Md → t.den → Option (Md × t.den)
  | [], m, x => some (m, x)
  | (i, v) :: ps, m, x => match setP A v [mk i] t m x with
    | some (m', x') => setAll A t mk ps m' x'
    | none => none

/-- What a part's slot holds, where the part owns nothing. -/
def partV (x : Slot) : Option TV := match x with
  | .val t m x => if plainT t m then some ⟨t, .n, x⟩ else none
  | _ => none

def partsV (tab : Tab) (look : Nat → Slot) (gl : List (Nat × Bool)) : List (Nat × Operand) → Option (List (Nat × TV))
  | [] => some []
  | (i, o) :: ps => match opdOf tab 0 o with
    | some x => match partV (opd look gl x) with
      | some v => match partsV tab look gl ps with
        | some vs => some ((i, v) :: vs)
        | none => none
      | none => none
    | none => none

def aBuild (A : Alg) (t : PT) (mk : Nat → Stp) (ps : List (Nat × TV)) : Option (List Prop × Slot) :=
  match setAll A t mk ps (zmd t) t.dflt with
  | some (m, x) => if plainT t m then some ([], .val t .n x) else some ([], .val t m x)
  | none => none

def PartsRep (w : World) (F : Nat → Prop) : List (Nat × TV) → List (Nat × Value) → Prop
  | [], [] => True
  | (i, v) :: ps, (j, u) :: us => i = j ∧ (∃ cs, Rep w F v.t v.m v.x cs [] ∧ u = wrapV v.t cs) ∧ PartsRep w F ps us
  | _, _ => False

theorem setF_fld {g : (t : PT) → Md → t.den → Option (Md × t.den)} : ∀ {ts : List PT} {m : Md} {i0 : Nat} {x : PT.denL ts} {i : Nat} {r : List Md × PT.denL ts}, setF g ts m i0 x i = some r → ∃ v, fldP ts m i0 x i = some v
  | [], m, i0, x, i, r, h => by simp [setF] at h
  | t :: ts, m, i0, x, 0, r, h => ⟨_, rfl⟩
  | t :: ts, m, i0, x, i + 1, r, h => by
    simp only [setF] at h
    split at h
    · rename_i _ hh
      obtain ⟨v, hv⟩ := setF_fld (ts := ts) hh
      exact ⟨v, by simp only [fldP]; exact hv⟩
    · cases h

/-- A struct's fields filled. -/
theorem fill_st {w : World} {F : Nat → Prop} {ts : List PT} {place : Nat → Option (Nat × Nat)} (hpl : ∀ i t, ts[i]? = some t → place i = some (PT.sizeL (ts.take i), t.size)) : ∀ (ps : List (Nat × TV)) (us : List (Nat × Value)) (m m' : Md) (x x' : PT.denL ts) (cs : List Value),
    PartsRep w F ps us → Rep w F (.st ts) m x cs [] → setAll real0 (.st ts) Stp.f ps m x = some (m', x') → ∃ cs', Instr.fill place cs.toArray us = some cs'.toArray ∧ Rep w F (.st ts) m' x' cs' []
  | [], us, m, m', x, x', cs, hp, hr, h => by
    cases us with
    | nil =>
      simp only [setAll, Option.some.injEq, Prod.mk.injEq] at h
      obtain ⟨rfl, rfl⟩ := h
      exact ⟨cs, rfl, hr⟩
    | cons u us => exact hp.elim
  | (i, v) :: ps, us, m, m', x, x', cs, hp, hr, h => by
    cases us with
    | nil => exact hp.elim
    | cons ju us =>
      obtain ⟨j, u⟩ := ju
      obtain ⟨rfl, ⟨d, hd, rfl⟩, hps⟩ := hp
      simp only [setAll] at h
      split at h
      case h_2 => cases h
      rename_i m1 x1 h1
      have hm : m = .n ∨ ∃ ms, m = .s ms := by cases m <;> simp_all [setP]
      have hset : ∃ ms1, m1 = mkS ms1 ∧ setF (setP real0 v []) ts m 0 x i = some (ms1, x1) := by
        rcases hm with rfl | ⟨ms, rfl⟩
        all_goals
          simp only [setP] at h1
          split at h1
          · rename_i ms1 y hh
            simp only [Option.some.injEq, Prod.mk.injEq] at h1
            obtain ⟨rfl, rfl⟩ := h1
            exact ⟨ms1, rfl, hh⟩
          · cases h1
      obtain ⟨ms1, rfl, hset⟩ := hset
      obtain ⟨v0, hv0⟩ := setF_fld hset
      have hrs : RepS w F ts m 0 x cs [] := by
        rcases hm with rfl | ⟨ms, rfl⟩ <;> simpa [Rep] using hr
      obtain ⟨c1, c, c2, A1, A', A2, hcs, hA, hc1, hti, hx, hrest⟩ := fld_at ts m 0 x cs [] i v0 hrs hv0
      have hA1 : A1 = [] ∧ A' = [] ∧ A2 = [] := by
        have := hA.symm
        simp only [List.append_eq_nil_iff] at this
        exact this
      obtain ⟨rfl, rfl, rfl⟩ := hA1
      obtain ⟨m', y, g1, g2⟩ := hrest w F (setP real0 v []) ms1 x1 hset (fun _ h => h) (fun _ _ => rfl) (fun _ _ => rfl)
      obtain ⟨vt, vm, vx⟩ := v
      simp only [setP] at g1
      split at g1
      case h_2 => cases g1
      rename_i y' hcast
      simp only [Option.some.injEq, Prod.mk.injEq] at g1
      obtain ⟨rfl, rfl⟩ := g1
      obtain ⟨e, rfl⟩ := castT_some hcast
      dsimp only at hd e g2 ⊢
      subst e
      have hnew := g2 d [] hd
      simp only [List.append_nil, List.nil_append] at hnew
      have hdl := rep_length _ _ _ _ _ hd
      have hcl := rep_length _ _ _ _ _ hx
      have hfill := fill_one (place := place) (i := i) (off := PT.sizeL (ts.take i)) (size := v0.t.size) (cells := cs.toArray) (v := wrapV v0.t d) (d := d) (rest := us) (hpl i v0.t hti) (wrapV_cells hd) hdl (by
        rw [hcs]
        simp
        omega)
      rw [hfill]
      have hcells : (cs.toArray.toList.take (PT.sizeL (ts.take i)) ++ (d ++ cs.toArray.toList.drop (PT.sizeL (ts.take i) + d.length))) = c1 ++ (d ++ c2) := by
        rw [hcs, ← hc1]
        simp only [List.toList_toArray]
        rw [List.take_left, List.drop_append, List.drop_of_length_le (by omega), show c1.length + d.length - c1.length = c.length by omega, List.drop_left]
        rfl
      rw [hcells]
      exact fill_st hpl ps us (mkS ms1) m' x1 x' (c1 ++ (d ++ c2)) hps (rep_mkS (setF_length hset) hnew) h

theorem tyOkL_all {P : Program} : ∀ {ts : List PT} {off : Nat} {fs : List Field}, TyOkL P ts off fs → ∀ f ∈ fs, ∃ t, TyOk P t f.type
  | [], off, [], _, f, hf => by simp at hf
  | [], off, _ :: _, h, _, _ => by simp [TyOkL] at h
  | _ :: _, off, [], h, _, _ => by simp [TyOkL] at h
  | t :: ts, off, g :: fs, h, f, hf => by
    simp only [TyOkL] at h
    rcases List.mem_cons.1 hf with rfl | hf
    · exact ⟨t, h.2.1⟩
    · exact tyOkL_all h.2.2 f hf

theorem run_places {P : Program} {w : World} : ∀ (fs : List Field), (∀ f ∈ fs, ∃ t, TyOk P t f.type) → (fs.mapM fun f => do pure (f.offset, ← Go.sizeOf f.type) : Sem (List (Nat × Nat))).run P w = .ok (fs.map fun f => (f.offset, (((P.info? f.type).map (·.size)).getD 0))) w
  | [], _ => by simp
  | f :: fs, h => by
    obtain ⟨t, ht⟩ := h f (by simp)
    have ih := run_places (P := P) (w := w) fs (fun g hg => h g (by simp [hg]))
    obtain ⟨i, h1, h2, _⟩ := ht.ti.out
    simp only [List.mapM_cons, Sem.run_bind, Sem.run_pure, ht.sizeOf, Result.andThen_ok, ih, List.map_cons, h1, Option.map_some, Option.getD_some, h2]

theorem partsV_ok {E : Env} {tab : Tab} {σ : List Slot} {a : Act} {w : World} (hst : RepState E σ a w) {look : Nat → Slot} (hlk : Looks look σ) {gl : List (Nat × Bool)} (hgl : holdsG (vl a) gl) : ∀ {ps : List (Nat × Operand)} {vs : List (Nat × TV)}, partsV tab look gl ps = some vs → PartsRep w E.F vs (ps.map fun p => (p.1, a.eval p.2))
  | [], vs, h => by
    simp only [partsV, Option.some.injEq] at h
    subst h
    trivial
  | (i, o) :: ps, vs, h => by
    simp only [partsV] at h
    split at h
    case h_2 => cases h
    rename_i x hx
    split at h
    case h_2 => cases h
    rename_i v hv
    split at h
    case h_2 => cases h
    rename_i vs' hvs
    obtain rfl := Option.some.inj h
    obtain ⟨A, _, _, hr⟩ := opd_rep hst hlk hgl (opdOf_ok hx)
    refine ⟨rfl, ?_, partsV_ok hst hlk hgl hvs⟩
    unfold partV at hv
    split at hv
    · rename_i t m y hs
      split at hv
      · rename_i hp
        obtain rfl := Option.some.inj hv
        rw [hs] at hr
        obtain ⟨cs, h1, h2⟩ := hr
        have h3 := plainT_n _ _ _ _ _ hp h1
        have := plain_nil _ _ _ _ _ rfl h3
        subst this
        exact ⟨cs, h3, h2⟩
      · cases hv
    · cases hv

theorem aBuild_st {E : Env} {tab : Tab} {σ : List Slot} {a : Act} {w : World} (hst : RepState E σ a w) {look : Nat → Slot} (hlk : Looks look σ) {gl : List (Nat × Bool)} (hgl : holdsG (vl a) gl) {o : Oper} {T : TypeId} {ps : List (Nat × Operand)} (ho : o.op = .build T ⟨ps⟩) {ts : List PT} (hT : TyOk E.P (.st ts) T)
    {vs : List (Nat × TV)} (hvs : partsV tab look gl ps = some vs) {s : Slot} {obs : List Prop} (h : aBuild real0 (.st ts) Stp.f vs = some (obs, s)) : Yld E σ a w s (execOp a.eval o) := by
  unfold aBuild at h
  split at h
  case h_2 => cases h
  rename_i m x hset
  have hTi := hT.ti.out
  unfold TyOk at hT
  obtain ⟨_, fs, hu, hfs⟩ := hT
  obtain ⟨i, g1, g2, g3, g4⟩ := hTi
  have hz := zero_rep (w := w) (F := E.F) (.st ts)
  have hpl : ∀ i t, ts[i]? = some t → ((fs.toList.map fun f => (f.offset, (((E.P.info? f.type).map (·.size)).getD 0))).toArray)[i]? = some (PT.sizeL (ts.take i), t.size) := by
    intro i t ht
    obtain ⟨f, f1, f2, f3⟩ := hfs.at ht
    obtain ⟨j, k1, k2, _⟩ := f3.ti.out
    simp [f1, f2, k1, k2]
  obtain ⟨cs', hfill, hrep⟩ := fill_st hpl vs _ (zmd (.st ts)) m _ x (zeroC (.st ts)) (partsV_ok hst hlk hgl hvs) hz hset
  have hrun : (Instr.build T (ps.map fun p => (p.1, a.eval p.2)).toArray).run E.P w = .ok (.agg cs'.toArray) w := by
    have hzc : (wrapV (.st ts) (zeroC (.st ts))).cells = (zeroC (.st ts)).toArray := wrapV_cells hz
    have hpm := run_places (P := E.P) (w := w) fs.toList (tyOkL_all hfs)
    have hzr : (zeroValue T).run E.P w = .ok (wrapV (.st ts) (zeroC (.st ts))) w := by simp [zeroValue, typeInfo, g1, g3]
    have hur : (underlying T).run E.P w = .ok (.struct fs) w := by simp [underlying, hu]
    unfold Instr.build
    simp only [Sem.run_bind, hzr, hur, Result.andThen_ok, Array.mapM_eq_mapM_toList, Sem.run_map, hpm, hzc]
    rw [hfill]
    rfl
  have hv : wrapV (.st ts) cs' = .agg cs'.toArray := rfl
  split at h
  · rename_i hp
    simp only [Option.some.injEq, Prod.mk.injEq] at h
    obtain ⟨_, rfl⟩ := h
    refine Yld.pure (v := .agg cs'.toArray) ?_ ⟨cs', plainT_n _ _ _ _ _ hp hrep, rfl⟩
    have : (ps.toArray.map fun p => (p.1, a.eval p.2)) = (ps.map fun p => (p.1, a.eval p.2)).toArray := by simp
    simp only [execOp, ho, Sem.run_bind, Sem.run_pure]
    exact Eq.trans (congrArg (fun r => Result.andThen r fun a w' => Result.ok (Next.value a) w') (this ▸ hrun)) rfl
  · simp only [Option.some.injEq, Prod.mk.injEq] at h
    obtain ⟨_, rfl⟩ := h
    refine Yld.pure (v := .agg cs'.toArray) ?_ ⟨cs', hrep, rfl⟩
    have : (ps.toArray.map fun p => (p.1, a.eval p.2)) = (ps.map fun p => (p.1, a.eval p.2)).toArray := by simp
    simp only [execOp, ho, Sem.run_bind, Sem.run_pure]
    exact Eq.trans (congrArg (fun r => Result.andThen r fun a w' => Result.ok (Next.value a) w') (this ▸ hrun)) rfl

/-! ### Arrays and lists of parts that own nothing -/
def setLs (A : Alg) (n : Nat) (te : PT) : List (Nat × TV) → List te.den → Option (List te.den)
  | [], xs => some xs
  | (i, v) :: ps, xs => if Nat.blt i n && Md.beq v.m .n then (match castT v.t te v.x with
    | some y => setLs A n te ps (A.set te xs i y)
    | none => none) else none

theorem fill_list {w : World} {F : Nat → Prop} {te : PT} {n : Nat} {place : Nat → Option (Nat × Nat)} (hpl : ∀ i, place i = some (i * te.size, te.size)) : ∀ (ps : List (Nat × TV)) (us : List (Nat × Value)) (xs xs' : List te.den) (cs : List Value),
    PartsRep w F ps us → xs.length = n → RepL (Rep w F te .n) xs cs [] → setLs real0 n te ps xs = some xs' → ∃ cs', Instr.fill place cs.toArray us = some cs'.toArray ∧ xs'.length = n ∧ RepL (Rep w F te .n) xs' cs' []
  | [], us, xs, xs', cs, hp, hn, hr, h => by
    cases us with
    | nil =>
      simp only [setLs, Option.some.injEq] at h
      subst h
      exact ⟨cs, rfl, hn, hr⟩
    | cons u us => exact hp.elim
  | (i, v) :: ps, us, xs, xs', cs, hp, hn, hr, h => by
    cases us with
    | nil => exact hp.elim
    | cons ju us =>
      obtain ⟨j, u⟩ := ju
      obtain ⟨rfl, ⟨d, hd, rfl⟩, hps⟩ := hp
      simp only [setLs] at h
      split at h
      case isFalse => cases h
      rename_i hb
      simp only [Bool.and_eq_true] at hb
      have hi : i < xs.length := by rw [hn]; exact Nat.lt_of_succ_le (Nat.le_of_ble_eq_true hb.1)
      obtain ⟨vt, vm, vx⟩ := v
      split at h
      case h_2 => cases h
      rename_i y hcast
      obtain ⟨e, rfl⟩ := castT_some hcast
      dsimp only at hd hb e h ⊢
      subst e
      obtain rfl := Md.eq_of_beq hb.2
      obtain ⟨c1, c, c2, A1, A', A2, hcs, hA, hc1, hx, hrest⟩ := repL_at (fun x c A h => rep_length vt .n x c A h) hr hi
      have hA1 : A1 = [] ∧ A' = [] ∧ A2 = [] := by
        have := hA.symm
        simp only [List.append_eq_nil_iff] at this
        exact this
      obtain ⟨rfl, rfl, rfl⟩ := hA1
      have hnew := hrest (Rep w F vt .n) vx d [] (fun _ _ _ _ h => h) hd
      simp only [List.append_nil, List.nil_append] at hnew
      have hdl := rep_length _ _ _ _ _ hd
      have hcl := rep_length _ _ _ _ _ hx
      have hfill := fill_one (place := place) (i := i) (off := i * vt.size) (size := vt.size) (cells := cs.toArray) (v := wrapV vt d) (d := d) (rest := us) (hpl i) (wrapV_cells hd) hdl (by
        rw [hcs]
        simp
        omega)
      rw [hfill]
      have hcells : (cs.toArray.toList.take (i * vt.size) ++ (d ++ cs.toArray.toList.drop (i * vt.size + d.length))) = c1 ++ (d ++ c2) := by
        rw [hcs, ← hc1]
        simp only [List.toList_toArray]
        rw [List.take_left, List.drop_append, List.drop_of_length_le (by omega), show c1.length + d.length - c1.length = c.length by omega, List.drop_left]
        rfl
      rw [hcells]
      have hset : real0.set vt xs (i : Int) vx = xs.set i vx := by simp [real0]
      refine fill_list hpl ps us (xs.set i vx) xs' (c1 ++ (d ++ c2)) hps (by simpa using hn) hnew (by rw [← hset]; exact h)

def aBuildA (A : Alg) (n : Nat) (te : PT) (vs : List (Nat × TV)) : Option (List Prop × Slot) :=
  if Md.beq (zmd te) .n then (match setLs A n te vs (List.replicate n te.dflt) with
    | some xs => some ([], .val (.arr n te) .n xs)
    | none => none) else none

theorem repL_zero {w : World} {F : Nat → Prop} {te : PT} (h : zmd te = .n) : ∀ n, RepL (Rep w F te .n) (List.replicate n te.dflt) (List.replicate n (zeroC te)).flatten []
  | 0 => ⟨rfl, rfl⟩
  | n + 1 => by
    rw [List.replicate_succ, List.replicate_succ, List.flatten_cons]
    have := zero_rep (w := w) (F := F) te
    rw [h] at this
    exact ⟨zeroC te, _, [], [], rfl, rfl, this, repL_zero h n⟩

theorem aBuildA_sound {E : Env} {tab : Tab} {σ : List Slot} {a : Act} {w : World} (hst : RepState E σ a w) {look : Nat → Slot} (hlk : Looks look σ) {gl : List (Nat × Bool)} (hgl : holdsG (vl a) gl) {o : Oper} {T : TypeId} {ps : List (Nat × Operand)} (ho : o.op = .build T ⟨ps⟩) {n : Nat} {te : PT} (hT : TyOk E.P (.arr n te) T)
    {vs : List (Nat × TV)} (hvs : partsV tab look gl ps = some vs) {s : Slot} {obs : List Prop} (h : aBuildA real0 n te vs = some (obs, s)) : Yld E σ a w s (execOp a.eval o) := by
  unfold aBuildA at h
  split at h
  case isFalse => cases h
  rename_i hz
  have hz := Md.eq_of_beq hz
  split at h
  case h_2 => cases h
  rename_i xs hset
  simp only [Option.some.injEq, Prod.mk.injEq] at h
  obtain ⟨_, rfl⟩ := h
  have hTi := hT.ti.out
  unfold TyOk at hT
  obtain ⟨_, e, hu, he⟩ := hT
  obtain ⟨i, g1, g2, g3, g4⟩ := hTi
  obtain ⟨cs', hfill, hlen, hrep⟩ := fill_list (w := w) (F := E.F) (te := te) (n := n) (place := fun i => some (i * te.size, te.size)) (fun _ => rfl) vs _ (List.replicate n te.dflt) xs (List.replicate n (zeroC te)).flatten (partsV_ok hst hlk hgl hvs) (by simp) (repL_zero hz n) hset
  have hrun : (Instr.build T (ps.map fun p => (p.1, a.eval p.2)).toArray).run E.P w = .ok (.agg cs'.toArray) w := by
    have hzc : (wrapV (.arr n te) (zeroC (.arr n te))).cells = (zeroC (.arr n te)).toArray := wrapV_cells (zero_rep (w := w) (F := E.F) (.arr n te))
    have hzr : (zeroValue T).run E.P w = .ok (wrapV (.arr n te) (zeroC (.arr n te))) w := by simp [zeroValue, typeInfo, g1, g3]
    have hur : (underlying T).run E.P w = .ok (.array n e) w := by simp [underlying, hu]
    unfold Instr.build
    simp only [Sem.run_bind, hzr, hur, Result.andThen_ok, he.sizeOf, hzc]
    rw [show zeroC (.arr n te) = (List.replicate n (zeroC te)).flatten by simp only [zeroC]]
    rw [hfill]
    rfl
  refine Yld.pure (v := .agg cs'.toArray) ?_ ⟨cs', by simp only [Rep]; exact ⟨hlen, hrep⟩, rfl⟩
  have : (ps.toArray.map fun p => (p.1, a.eval p.2)) = (ps.map fun p => (p.1, a.eval p.2)).toArray := by simp
  simp only [execOp, ho, Sem.run_bind, Sem.run_pure]
  exact Eq.trans (congrArg (fun r => Result.andThen r fun a w' => Result.ok (Next.value a) w') (this ▸ hrun)) rfl

/-- A list put together: new memory. -/
def aBuildS (A : Alg) (n : Nat) (te : PT) (vs : List (Nat × TV)) : Option (List Prop × Slot) :=
  if Md.beq (zmd te) .n && Nat.ble (n * te.size) 16777216 && Nat.ble 1 n then (match setLs A n te vs (List.replicate n te.dflt) with
    | some xs => some ([], .val (.list te) (.l .n) xs)
    | none => none) else none

theorem range_flat (z : Array Value) (hz : 0 < z.size) : ∀ n, ((List.range (n * z.size)).map fun i => z[i % z.size]!) = (List.replicate n z.toList).flatten
  | 0 => by simp
  | n + 1 => by
    rw [Nat.add_mul, Nat.one_mul, List.range_add, List.map_append, range_flat z hz n, List.replicate_succ', List.flatten_append]
    congr 1
    simp only [List.flatten_cons, List.flatten_nil, List.append_nil, List.map_map]
    apply List.ext_getElem
    · simp
    · intro i h1 h2
      simp at h1 h2
      simp [Nat.add_mod, Nat.mul_mod_left, Nat.mod_eq_of_lt h1, h1]

theorem aBuildS_sound {E : Env} {tab : Tab} {σ : List Slot} {a : Act} {w : World} (hst : RepState E σ a w) {look : Nat → Slot} (hlk : Looks look σ) {gl : List (Nat × Bool)} (hgl : holdsG (vl a) gl) {o : Oper} {T : TypeId} {n : Nat} {ps : List (Nat × Operand)} (ho : o.op = .buildSlice T n ⟨ps⟩) {te : PT} (hT : TyOk E.P (.list te) T)
    {vs : List (Nat × TV)} (hvs : partsV tab look gl ps = some vs) {s : Slot} {obs : List Prop} (h : aBuildS real0 n te vs = some (obs, s)) : Yld E σ a w s (execOp a.eval o) := by
  unfold aBuildS at h
  split at h
  case isFalse => cases h
  rename_i hz
  simp only [Bool.and_eq_true, Nat.ble_eq] at hz
  obtain ⟨⟨hz, hlim⟩, hn1⟩ := hz
  have hz := Md.eq_of_beq hz
  split at h
  case h_2 => cases h
  rename_i xs hset
  simp only [Option.some.injEq, Prod.mk.injEq] at h
  obtain ⟨_, rfl⟩ := h
  unfold TyOk at hT
  obtain ⟨_, e, hu, he⟩ := hT
  obtain ⟨i, g1, g2, g3, g4⟩ := he.ti.out
  have hpos := he.ti.pos
  obtain ⟨cs', hfill, hlen, hrep⟩ := fill_list (w := w) (F := E.F) (te := te) (n := n) (place := fun i => some (i * te.size, te.size)) (fun _ => rfl) vs _ (List.replicate n te.dflt) xs (List.replicate n (zeroC te)).flatten (partsV_ok hst hlk hgl hvs) (by simp) (repL_zero hz n) hset
  have hcl := repL_length (fun x c A h => rep_length te .n x c A h) _ _ _ hrep
  have hrun : (Instr.buildSlice T n (ps.map fun p => (p.1, a.eval p.2)).toArray).run E.P w = .ok (.slice (some ⟨w.heap.size, 0, none⟩) n n) { w with heap := w.heap.push (.cells cs'.toArray e) } := by
    have hzl : (zeroC te).length = te.size := rep_length te _ _ _ _ (zero_rep (w := w) (F := E.F) te)
    have hzc : (wrapV te (zeroC te)).cells = (zeroC te).toArray := wrapV_cells (zero_rep (w := w) (F := E.F) te)
    have hzr : (zeroValue e).run E.P w = .ok (wrapV te (zeroC te)) w := by simp [zeroValue, typeInfo, g1, g3]
    have hur : (underlying T).run E.P w = .ok (.slice e) w := by simp [underlying, hu]
    have h0 : ¬ n * te.size = 0 := by
      intro h0
      rcases Nat.mul_eq_zero.1 h0 with h0 | h0 <;> omega
    have hl0 : ¬ n * te.size > 2 ^ 24 := by omega
    have hcells : ((Array.range (n * te.size)).map fun i => (zeroC te).toArray[i % (zeroC te).toArray.size]!) = ((List.replicate n (zeroC te)).flatten).toArray := by
      apply Array.toList_inj.1
      have := range_flat (zeroC te).toArray (by simp; omega) n
      simp only [List.size_toArray, hzl] at this
      simpa [hzl] using this
    unfold Instr.buildSlice
    simp only [Sem.run_bind, hur, Result.andThen_ok, he.sizeOf, hl0, h0, if_false, hzr, hzc, Sem.run_pure]
    rw [hcells, hfill]
    simp [newRow]
  have hst' := new_state (w := w) (.cells cs'.toArray e)
  refine ⟨.slice (some ⟨w.heap.size, 0, none⟩) n n, _, [w.heap.size], ?_, hst'.1, hst'.2.2, by simp, ?_, ?_⟩
  · have : (ps.toArray.map fun p => (p.1, a.eval p.2)) = (ps.map fun p => (p.1, a.eval p.2)).toArray := by simp
    simp only [execOp, ho, Sem.run_bind, Sem.run_pure]
    exact Eq.trans (congrArg (fun r => Result.andThen r fun a w' => Result.ok (Next.value a) w') (this ▸ hrun)) rfl
  · intro b hb
    simp only [List.mem_singleton] at hb
    subst hb
    simp
  · refine ⟨[.slice (some ⟨w.heap.size, 0, none⟩) n n], ?_, rfl⟩
    have hn32 : n ≤ 16777216 := Nat.le_trans (Nat.le_mul_of_pos_right n hpos) hlim
    simp only [Rep]
    refine ⟨by rw [hlen]; omega, some ⟨w.heap.size, 0, none⟩, n, by rw [hlen], .inr ⟨w.heap.size, 0, cs'.toArray, e, (0, 0), [], rfl, rfl, hst'.2.1, free0 _, by omega, ?_, ?_⟩⟩
    · simp [hcl, hlen]
    · rw [List.drop_zero, List.toList_toArray, List.take_of_length_le (by rw [hcl]; exact Nat.le_refl _)]
      exact repL_mono _ _ _ (fun x c A' _ hr => rep_frame (fun _ h => h) (fun b hb => hst'.1 b (Nat.lt_of_lt_of_le (E.hF b hb) hst.below.size)) te .n x c A' (fun b hb => absurd hb (by
        have := plain_nil _ _ _ _ _ rfl hr
        rw [this]; simp)) hr) hrep

/-- More operations that write nothing. -/
def stepO (A : Alg) (tab : Tab) (look : Nat → Slot) (gl : List (Nat × Bool)) (o : Oper) : Option (List Prop × Slot) :=
  match o.op with
  | .build T ⟨ps⟩ => match tyT tab T with
    | some (.st ts) => match partsV tab look gl ps with
      | some vs => aBuild A (.st ts) Stp.f vs
      | none => none
    | some (.arr n te) => match partsV tab look gl ps with
      | some vs => aBuildA A n te vs
      | none => none
    | _ => none
  | .buildSlice T n ⟨ps⟩ => match tyT tab T with
    | some (.list te) => match partsV tab look gl ps with
      | some vs => aBuildS A n te vs
      | none => none
    | _ => none
  | _ => none

theorem stepO_sound {E : Env} {tab : Tab} (htab : TabOk E.P tab) {σ : List Slot} {a : Act} {w : World} (hst : RepState E σ a w) {look : Nat → Slot} (hlk : Looks look σ) {gl : List (Nat × Bool)} (hgl : holdsG (vl a) gl) {o : Oper} {s : Slot} {obs : List Prop}
    (h : stepO real0 tab look gl o = some (obs, s)) (hobs : obsAll obs) : Yld E σ a w s (execOp a.eval o) := by
  unfold stepO at h
  split at h
  · split at h
    · split at h
      case h_2 => cases h
      exact aBuild_st hst hlk hgl (by assumption) (htab.ty _ _ (by assumption)) (by assumption) h
    · split at h
      case h_2 => cases h
      exact aBuildA_sound hst hlk hgl (by assumption) (htab.ty _ _ (by assumption)) (by assumption) h
    · cases h
  · split at h
    · split at h
      case h_2 => cases h
      exact aBuildS_sound hst hlk hgl (by assumption) (htab.ty _ _ (by assumption)) (by assumption) h
    · cases h
  · cases h

end Go.Proofs.Ytaachifkgcdeoaa.Sy

namespace Go.Proofs.Ytaachifkgcdeoaa.Sy
open Go.RowKit
set_option linter.unusedSimpArgs false
set_option linter.unusedVariables false

mutual
def flatT : PT → Bool
  | .int _ | .bool | .str => true
  | .list _ | .box _ => false
  | .arr _ t => flatT t
  | .st ts => flatTL ts
def flatTL : List PT → Bool
  | [] => true
  | t :: ts => flatT t && flatTL ts
end
mutual
/-- All that it stands on is its own. -/
def ownT : PT → Md → Bool
  | t, .n => flatT t
  | .list t, .l m => ownT t m
  | .arr _ t, .a m => ownT t m
  | .st ts, .s ms => ownTL ts ms
  | .box t, .b m => ownT t m
  | _, _ => false
def ownTL : List PT → List Md → Bool
  | [], _ => true
  | t :: ts, m :: ms => ownT t m && ownTL ts ms
  | _, _ => false
end

theorem ownTL_at : ∀ (ts : List PT) (ms : List Md) (j : Nat) (hj : j < ts.length), ownTL ts ms = true → ownT ts[j] (ms.getD j .j) = true
  | [], ms, j, hj, _ => by simp at hj
  | t :: ts, [], j, hj, h => by simp [ownTL] at h
  | t :: ts, m :: ms, 0, hj, h => by
    simp only [ownTL, Bool.and_eq_true] at h
    simpa using h.1
  | t :: ts, m :: ms, j + 1, hj, h => by
    simp only [ownTL, Bool.and_eq_true] at h
    simpa using ownTL_at ts ms j (by simpa using hj) h.2
theorem flatTL_at : ∀ (ts : List PT) (j : Nat) (hj : j < ts.length), flatTL ts = true → flatT ts[j] = true
  | [], j, hj, _ => by simp at hj
  | t :: ts, 0, hj, h => by
    simp only [flatTL, Bool.and_eq_true] at h
    simpa using h.1
  | t :: ts, j + 1, hj, h => by
    simp only [flatTL, Bool.and_eq_true] at h
    simpa using flatTL_at ts j (by simpa using hj) h.2

mutual
theorem own_any {w : World} {F F' : Nat → Prop} : ∀ (t : PT) (m : Md) (x : t.den) (cs : List Value) (A : List Nat), ownT t m = true → Rep w F t m x cs A → Rep w F' t m x cs A
  | .int k, m, x, cs, A, hs, h => by cases m <;> simp_all [Rep]
  | .bool, m, x, cs, A, hs, h => by cases m <;> simp_all [Rep]
  | .str, m, x, cs, A, hs, h => by cases m <;> simp_all [Rep]
  | .list t, m, x, cs, A, hs, h => by
    cases m <;> simp only [ownT, flatT, Bool.false_eq_true] at hs
    simp only [Rep] at h ⊢
    obtain ⟨h0, a, cap, h2, h3⟩ := h
    refine ⟨h0, a, cap, h2, h3.imp id ?_⟩
    rintro ⟨b, off, c, e, fr, A', g1, g2, g3, g4, g5, g6, g7⟩
    exact ⟨b, off, c, e, fr, A', g1, g2, g3, g4, g5, g6, repL_mono _ _ _ (fun x c A'' hb hr => own_any t _ x c A'' hs hr) g7⟩
  | .arr n t, m, x, cs, A, hs, h => by
    cases m <;> simp only [ownT, flatT, Bool.false_eq_true] at hs
    case n =>
      simp only [Rep] at h ⊢
      exact ⟨h.1, repL_mono _ _ _ (fun x c A'' hb hr => own_any t .n x c A'' (by cases t <;> simpa [ownT] using hs) hr) h.2⟩
    case a m =>
      simp only [Rep] at h ⊢
      exact ⟨h.1, repL_mono _ _ _ (fun x c A'' hb hr => own_any t _ x c A'' hs hr) h.2⟩
  | .st ts, m, x, cs, A, hs, h => by
    cases m <;> simp only [ownT, flatT, Bool.false_eq_true] at hs
    case n =>
      simp only [Rep] at h ⊢
      exact own_anyS ts .n 0 x cs A (fun j hj => by
        have := flatTL_at ts j hj hs
        simp only [Md.fld]
        cases hx : ts[j] <;> simp_all [ownT]) h
    case s ms =>
      simp only [Rep] at h ⊢
      exact own_anyS ts (.s ms) 0 x cs A (fun j hj => by
        simp only [Md.fld, Nat.zero_add]
        exact ownTL_at ts ms j hj hs) h
  | .box t, m, x, cs, A, hs, h => by
    cases m <;> simp only [ownT, flatT, Bool.false_eq_true] at hs
    simp only [Rep] at h ⊢
    obtain ⟨b, c, e, fr, A', h2, h3, h4, h5, h6⟩ := h
    exact ⟨b, c, e, fr, A', h2, h3, h4, h5, own_any t _ x _ A' hs h6⟩
theorem own_anyS {w : World} {F F' : Nat → Prop} : ∀ (ts : List PT) (m : Md) (i : Nat) (x : PT.denL ts) (cs : List Value) (A : List Nat), (∀ j (hj : j < ts.length), ownT ts[j] (m.fld (i + j)) = true) → RepS w F ts m i x cs A → RepS w F' ts m i x cs A
  | [], _, _, _, cs, A, _, h => by simpa [RepS] using h
  | t :: ts, m, i, x, cs, A, hs, h => by
    simp only [RepS] at h ⊢
    obtain ⟨c1, c2, A1, A2, h0, h3, h1, h2⟩ := h
    exact ⟨c1, c2, A1, A2, h0, h3, own_any t _ _ c1 A1 (hs 0 (by simp)) h1, own_anyS ts m (i + 1) x.2 c2 A2 (fun j hj => by
      have := hs (j + 1) (by simp; omega)
      simpa [Nat.add_assoc, Nat.add_comm 1 j] using this) h2⟩
end


theorem flat_any {w w' : World} {F F' : Nat → Prop} {t : PT} {x : t.den} {cs : List Value} (h : ownT t .n = true) (hr : Rep w F t .n x cs []) : Rep w' F' t .n x cs [] :=
  own_any (F := fun _ => False) t .n x cs [] h (rep_frame (F := fun _ => False) (fun _ h => h) (fun _ h => h.elim) t .n x cs [] (fun _ hb => absurd hb (by simp)) (own_any t .n x cs [] h hr))
theorem flat_anyL {w w' : World} {F F' : Nat → Prop} {t : PT} (h : ownT t .n = true) : ∀ (xs : List t.den) (cs : List Value) (A : List Nat), RepL (Rep w F t .n) xs cs A → A = [] ∧ RepL (Rep w' F' t .n) xs cs []
  | [], cs, A, hr => ⟨hr.2, hr.1, rfl⟩
  | x :: xs, cs, A, hr => by
    obtain ⟨c1, c2, A1, A2, rfl, rfl, h1, h2⟩ := hr
    obtain ⟨rfl, h3⟩ := flat_anyL h xs c2 A2 h2
    have e := plain_nil _ _ _ _ _ rfl h1
    subst e
    exact ⟨rfl, c1, c2, [], [], rfl, rfl, flat_any h h1, h3⟩

/-- Where a slice's cells lie. -/
def Lies (w : World) (a : Option Addr) (n s : Nat) (cs : List Value) : Prop :=
  (n = 0 ∧ cs = []) ∨ ∃ b off c e fr, a = some ⟨b, off, none⟩ ∧ w.heap[b]? = some (.cells c e fr) ∧ off + n * s ≤ c.size ∧ cs = (c.toList.drop off).take (n * s)

theorem Lies.cell {w : World} {b off n s : Nat} {cs : List Value} {c : Array Value} {e : TypeId} {fr : Nat × Nat} (hb : w.heap[b]? = some (.cells c e fr)) (hc : cs = (c.toList.drop off).take (n * s)) : ∀ j v, cs[j]? = some v → w.cell? ((⟨b, off, none⟩ : Addr).add j) = some v := by
  intro j v hj
  rw [hc, List.getElem?_take] at hj
  split at hj
  · rw [List.getElem?_drop] at hj
    rw [add_plain0]
    simp only [World.cell?, hb]
    simpa using hj
  · cases hj

/-- Append, whatever becomes of the memory: nothing is appended; there is room; new memory is taken. -/
theorem run_append_any {P : Program} {w : World} {T ty e : TypeId} {i : TypeInfo} {z : Value} (ht : P.underlying T = some (.slice e)) (hi : P.info? e = some i) (hz : i.zero = some z) (hzs : z.cells.size = i.size) (hpos : 0 < i.size) (hby : i.bytes ≤ 4096)
    {a1 : Option Addr} {n1 cap1 : Nat} {olds : List Value} (h1 : (n1 = 0 ∧ cap1 = 0 ∧ olds = []) ∨ ∃ b off c e' fr, a1 = some ⟨b, off, none⟩ ∧ w.heap[b]? = some (.cells c e' fr) ∧ Free c fr ∧ n1 ≤ cap1 ∧ off + cap1 * i.size ≤ c.size ∧ olds = (c.toList.drop off).take (n1 * i.size))
    {a2 : Option Addr} {n2 cap2 : Nat} {news : List Value} (h2 : Lies w a2 n2 i.size news) (hone : ∀ v ∈ news, v.oneCell' = true) (hn : n1 + n2 ≤ 4294967296) :
    ∃ v' w', (Builtin.append_ #[T, T] ty #[.slice a1 n1 cap1, .slice a2 n2 cap2]).run P w = .ok v' w' ∧ w'.os = w.os ∧ w'.tape = w.tape ∧ w'.output = w.output ∧
      ((n2 = 0 ∧ v' = .slice a1 n1 cap1 ∧ w' = w) ∨
       (∃ b off, a1 = some ⟨b, off, none⟩ ∧ n1 + n2 ≤ cap1 ∧ v' = .slice a1 (n1 + n2) cap1 ∧ w'.heap.size = w.heap.size ∧ WriteAt w w' b (off + n1 * i.size) news) ∨
       (∃ cap c, v' = .slice (some ⟨w.heap.size, 0, none⟩) (n1 + n2) cap ∧ n1 + n2 ≤ cap ∧ c.size = cap * i.size ∧ c.toList.take ((n1 + n2) * i.size) = olds ++ news ∧ w'.heap = w.heap.push (.cells c e))) := by
  have hnl : news.length = n2 * i.size := by
    rcases h2 with ⟨rfl, rfl⟩ | ⟨b, off, c, e', fr, _, _, g3, rfl⟩
    · simp
    · simp; omega
  have hol : olds.length = n1 * i.size := by
    rcases h1 with ⟨rfl, _, rfl⟩ | ⟨b, off, c, e', fr, _, _, _, g4, g5, rfl⟩
    · simp
    · have := Nat.mul_le_mul_right i.size g4
      simp; omega
  by_cases hn2 : n2 = 0
  · subst hn2
    have hnews : news = [] := List.eq_nil_of_length_eq_zero (by simpa using hnl)
    subst hnews
    have hcap : n1 ≤ cap1 := by
      rcases h1 with ⟨rfl, rfl, _⟩ | ⟨b, off, c, e', fr, _, _, _, g4, _⟩
      · exact Nat.le_refl _
      · exact g4
    have hf : (Builtin.firstCells i.size 0 (.slice a2 0 cap2)).run P w = .ok #[] w := by
      cases a2 with
      | none => exact run_firstCells_none (P := P) w i.size 0 0 cap2
      | some ad => simpa using run_firstCells_some (P := P) w i.size 0 ad 0 cap2 [] (by simp) (by simp)
    refine ⟨_, w, ?_, rfl, rfl, rfl, .inl ⟨rfl, rfl, rfl⟩⟩
    cases a1 with
    | none => simp [Builtin.append_, run_underlying ht, sizeOf, typeInfo, hi, Builtin.lenOf, hcap, hf]
    | some ad => simp [Builtin.append_, run_underlying ht, sizeOf, typeInfo, hi, Builtin.lenOf, hcap, hf, storeCells]
  obtain ⟨b2, off2, c2, e2, fr2, rfl, hb2, hsz2, hnews⟩ : ∃ b off c e fr, a2 = some ⟨b, off, none⟩ ∧ w.heap[b]? = some (.cells c e fr) ∧ off + n2 * i.size ≤ c.size ∧ news = (c.toList.drop off).take (n2 * i.size) := by
    rcases h2 with ⟨h, _⟩ | h
    · exact absurd h hn2
    · exact h
  have hcell2 := Lies.cell hb2 hnews
  by_cases hroom : n1 + n2 ≤ cap1
  · rcases h1 with ⟨rfl, rfl, _⟩ | ⟨b, off, c, e', fr, rfl, hb, hfree, g4, g5, g6⟩
    · omega
    have hfit : off + n1 * i.size + news.length ≤ c.size := by
      have := Nat.mul_le_mul_right i.size hroom
      rw [Nat.add_mul] at this
      omega
    obtain ⟨w', k1, k2, k3, k4, k5, k6⟩ := run_storeCells_at2 (P := P) hb hfree hfit hone
    refine ⟨.slice (some ⟨b, off, none⟩) (n1 + n2) cap1, w', ?_, k4, k5, k6, .inr (.inl ⟨b, off, rfl, hroom, rfl, k3, k2⟩)⟩
    have hf := run_firstCells_some (P := P) w i.size n2 ⟨b2, off2, none⟩ n2 cap2 news hnl hcell2
    have ha : (⟨b, off, none⟩ : Addr).add (n1 * i.size) = ⟨b, off + n1 * i.size, none⟩ := add_plain0 ..
    simp [Builtin.append_, run_underlying ht, sizeOf, typeInfo, hi, Builtin.lenOf, hroom, hf, ha, k1]
  · -- new memory
    have hbb : (n1 + n2) * i.bytes ≤ 140737488355328 := by
      have := Nat.mul_le_mul hn hby
      omega
    have hge := grownCap_ge w (n1 + n2) cap1 e
    have key : ∀ v' w', (Builtin.append_ #[T, T] ty #[.slice a1 n1 cap1, .slice (some ⟨b2, off2, none⟩) n2 cap2]).run P w = .ok v' w' →
        v' = .slice (some ⟨w.heap.size, 0, none⟩) (n1 + n2) (grownCap w (n1 + n2) cap1 e) → w' = w.drew.alloc (.cells (olds.toArray ++ news.toArray ++ Builtin.zeroCells z.cells (grownCap w (n1 + n2) cap1 e - (n1 + n2))) e) →
        ∃ v' w', (Builtin.append_ #[T, T] ty #[.slice a1 n1 cap1, .slice (some ⟨b2, off2, none⟩) n2 cap2]).run P w = .ok v' w' ∧ w'.os = w.os ∧ w'.tape = w.tape ∧ w'.output = w.output ∧
          ((n2 = 0 ∧ v' = .slice a1 n1 cap1 ∧ w' = w) ∨
           (∃ b off, a1 = some ⟨b, off, none⟩ ∧ n1 + n2 ≤ cap1 ∧ v' = .slice a1 (n1 + n2) cap1 ∧ w'.heap.size = w.heap.size ∧ WriteAt w w' b (off + n1 * i.size) news) ∨
           (∃ cap c, v' = .slice (some ⟨w.heap.size, 0, none⟩) (n1 + n2) cap ∧ n1 + n2 ≤ cap ∧ c.size = cap * i.size ∧ c.toList.take ((n1 + n2) * i.size) = olds ++ news ∧ w'.heap = w.heap.push (.cells c e))) := by
      intro v' w' hr hv hw
      subst hv hw
      refine ⟨_, _, hr, rfl, rfl, rfl, .inr (.inr ⟨_, _, rfl, hge, ?_, ?_, rfl⟩)⟩
      · simp only [Array.size_append, List.size_toArray, size_zeroCells, hzs, hol, hnl, ← Nat.add_mul]
        congr 1
        omega
      · have hlen : (olds ++ news).length = (n1 + n2) * i.size := by rw [List.length_append, hol, hnl, Nat.add_mul]
        simp only [Array.toList_append, List.append_assoc]
        rw [← List.append_assoc, ← hlen]
        exact List.take_left
    rcases h1 with ⟨rfl, rfl, rfl⟩ | ⟨b, off, c, e', fr, rfl, hb, hfree, g4, g5, g6⟩
    · cases a1 with
      | none =>
        have hr := run_append_nil (P := P) w T ty e i z ht hi hz ⟨b2, off2, none⟩ n2 cap2 news hnl hcell2 (by omega) (by omega) (by rw [Nat.zero_add] at hbb; omega)
        refine key _ _ hr (by simp) (by simp)
      | some ad =>
        have hr := run_append_grow (P := P) w T ty e i z ht hi hz ad 0 0 [] (by simp) (by simp) ⟨b2, off2, none⟩ n2 cap2 news hnl hcell2 (by omega) (by omega) (growslice_fits (by omega) hbb)
        exact key _ _ hr rfl rfl
    · have hr := run_append_grow (P := P) w T ty e i z ht hi hz ⟨b, off, none⟩ n1 cap1 olds hol (Lies.cell hb g6) ⟨b2, off2, none⟩ n2 cap2 news hnl hcell2 (by omega) (by omega) (growslice_fits (by omega) hbb)
      exact key _ _ hr rfl rfl

end Go.Proofs.Ytaachifkgcdeoaa.Sy

namespace Go.Proofs.Ytaachifkgcdeoaa.Sy
open Go.RowKit
set_option linter.unusedSimpArgs false
set_option linter.unusedVariables false

/-- Keys that are taken. -/
def keyT : PT → Bool
  | .int _ => true
  | .arr _ (.int _) => true
  | _ => false

/-- What a search tells. -/
def Found (kt vt : PT) (m : List (kt.den × vt.den)) (k : kt.den) (i0 : Nat) (r : Option (Nat × Value)) : Prop :=
  match r with
  | none => mgetL kt vt m k = vt.dflt ∧ ∀ v, msetL kt vt m k v = m ++ [(k, v)]
  | some (j, u) => ∃ j' kk v cv, j = i0 + j' ∧ m[j']? = some (kk, v) ∧ kt.eqb k kk = true ∧ mgetL kt vt m k = v ∧ (∀ w F, Rep w F vt .n v cv []) ∧ u = wrapV vt cv ∧ ∀ v, msetL kt vt m k v = m.set j' (k, v)

theorem Found.cons_f {kt vt : PT} {m : List (kt.den × vt.den)} {k k' : kt.den} {v' : vt.den} {i0 : Nat} {r : Option (Nat × Value)} (he : kt.eqb k k' = false) (h : Found kt vt m k (i0 + 1) r) : Found kt vt ((k', v') :: m) k i0 r := by
  cases r with
  | none =>
    obtain ⟨h1, h2⟩ := h
    exact ⟨by simp [mgetL, he, h1], fun v => by simp [msetL, he, h2]⟩
  | some r =>
    obtain ⟨j, u⟩ := r
    obtain ⟨j', kk, v, cv, h1, h2, h3, h4, h5, h6, h7⟩ := h
    exact ⟨j' + 1, kk, v, cv, by omega, by simpa using h2, h3, by simp [mgetL, he, h4], h5, h6, fun v => by simp [msetL, he, h7]⟩
theorem Found.cons_t {kt vt : PT} {m : List (kt.den × vt.den)} {k k' : kt.den} {v : vt.den} {i0 : Nat} {cv : List Value} (he : kt.eqb k k' = true) (h5 : ∀ w F, Rep w F vt .n v cv []) : Found kt vt ((k', v) :: m) k i0 (some (i0, wrapV vt cv)) :=
  ⟨0, k', v, cv, rfl, rfl, he, by simp [mgetL, he], h5, rfl, fun v => by simp [msetL, he]⟩

theorem run_findAskingM {P : Program} {w : World} {kt vt : PT} {K : TypeId} (hE : EqOk P kt K) (hd : kt.depth ≤ 10000) {k : kt.den} {ck : List Value} (hk : ∀ w F, Rep w F kt .n k ck []) : ∀ (m : List (kt.den × vt.den)) (es : List MapEntry) (i0 : Nat), RepMap kt vt m es →
    ∃ r, (Instr.findAsking K (wrapV kt ck) es i0).run P w = .ok r w ∧ Found kt vt m k i0 r
  | [], es, i0, h => by
    obtain rfl : es = [] := h
    exact ⟨none, by simp [Instr.findAsking], by simp [Found, mgetL, msetL]⟩
  | (k', v) :: m, es, i0, h => by
    obtain ⟨e, es', ck', cv, rfl, h1, h2, h3, h4, h5⟩ := h
    have he : (Op.equal K (wrapV kt ck) e.key).run P w = .ok (kt.eqb k k') w := by
      rw [h2]
      exact run_equalIn (F := noFA) kt K 10000 k k' ck ck' [] [] hE hd (hk _ _) (h1 _ _)
    cases hb : kt.eqb k k' with
    | true =>
      exact ⟨some (i0, e.val), by simp [Instr.findAsking, he, hb], by rw [h4]; exact Found.cons_t hb h3⟩
    | false =>
      obtain ⟨r, g1, g2⟩ := run_findAskingM (w := w) hE hd hk m es' (i0 + 1) h5
      exact ⟨r, by simp [Instr.findAsking, he, hb, g1], Found.cons_f hb g2⟩
where noFA : Nat → Prop := fun _ => False

theorem findNowM {kt vt : PT} {kd : IntKind} (hkt : kt = .int kd) {d : TypeDesc} {kd' : IntKind} (hd : d = .int kd') {k : kt.den} {ck : List Value} (hk : ∀ w F, Rep w F kt .n k ck []) : ∀ (m : List (kt.den × vt.den)) (es : List MapEntry) (i0 : Nat), RepMap kt vt m es →
    ∃ r, Instr.findNow d (wrapV kt ck) es i0 = some r ∧ Found kt vt m k i0 r
  | [], es, i0, h => by
    obtain rfl : es = [] := h
    exact ⟨none, by simp [Instr.findNow], by simp [Found, mgetL, msetL]⟩
  | (k', v) :: m, es, i0, h => by
    obtain ⟨e, es', ck', cv, rfl, h1, h2, h3, h4, h5⟩ := h
    have he : Instr.sameNow d (wrapV kt ck) e.key = some (kt.eqb k k') := by
      subst hkt hd
      have a1 := hk default (fun _ => False)
      have a2 := h1 default (fun _ => False)
      simp only [Rep] at a1 a2
      obtain ⟨_, rfl, _⟩ := a1
      obtain ⟨_, rfl, _⟩ := a2
      rw [h2]
      simp [wrapV, PT.isAgg, Instr.sameNow, PT.eqb]
      rfl
    cases hb : kt.eqb k k' with
    | true =>
      exact ⟨some (i0, e.val), by simp [Instr.findNow, he, hb], by rw [h4]; exact Found.cons_t hb h3⟩
    | false =>
      obtain ⟨r, g1, g2⟩ := findNowM hkt hd hk m es' (i0 + 1) h5
      exact ⟨r, by simp [Instr.findNow, he, hb, g1], Found.cons_f hb g2⟩

theorem run_findKeyM {P : Program} {w : World} {kt vt : PT} {K : TypeId} (hkT : keyT kt = true) (hE : EqOk P kt K) (hd : kt.depth ≤ 10000) {k : kt.den} {ck : List Value} (hk : ∀ w F, Rep w F kt .n k ck []) {m : List (kt.den × vt.den)} {es : List MapEntry} (h : RepMap kt vt m es) :
    ∃ r, (Instr.findKey K (wrapV kt ck) es).run P w = .ok r w ∧ Found kt vt m k 0 r := by
  unfold keyT at hkT
  split at hkT
  · rename_i kd
    have hu : P.underlying K = some (.int kd) := hE
    obtain ⟨r, g1, g2⟩ := findNowM (kt := .int kd) rfl (d := .int kd) rfl hk m es 0 h
    exact ⟨r, by simp [Instr.findKey, run_underlying hu, g1], g2⟩
  · rename_i n kd
    have hE' := hE
    unfold EqOk at hE'
    obtain ⟨e, i, hu, _⟩ := hE'
    cases m with
    | nil =>
      obtain rfl : es = [] := h
      exact ⟨none, by simp [Instr.findKey, run_underlying hu, Instr.findNow], by simp [Found, mgetL, msetL]⟩
    | cons km m =>
      obtain ⟨r, g1, g2⟩ := run_findAskingM (w := w) hE hd hk (km :: m) es 0 h
      obtain ⟨k', v'⟩ := km
      obtain ⟨e0, es', ck', cv, rfl, h1, h2, h3, h4, h5⟩ := h
      exact ⟨r, by simp [Instr.findKey, run_underlying hu, Instr.findNow, Instr.sameNow, g1], g2⟩
  · cases hkT

/-- The cells of a number. -/
theorem ints_cells {kd : IntKind} : ∀ (xs : List Int) (cs : List Value) (w : World) (F : Nat → Prop), RepL (Rep w F (.int kd) .n) xs cs [] → cs = xs.map (Value.int kd)
  | [], cs, w, F, h => h.1
  | x :: xs, cs, w, F, h => by
    obtain ⟨c1, c2, A1, A2, rfl, hA, h1, h2⟩ := h
    obtain ⟨rfl, rfl⟩ : A1 = [] ∧ A2 = [] := by simpa using hA.symm
    simp only [Rep] at h1
    rw [h1.2.1, ints_cells xs c2 w F h2]
    rfl

theorem run_checkKeyM {P : Program} {w : World} {kt : PT} {K : TypeId} (hkT : keyT kt = true) (hT : TyOk P kt K) {k : kt.den} {ck : List Value} (hk : ∀ w F, Rep w F kt .n k ck []) (em : Bool) : (Instr.checkKey em 10000 K (wrapV kt ck)).run P w = .ok () w := by
  unfold keyT at hkT
  split at hkT
  · rename_i kd
    have a1 := hk default (fun _ => False)
    simp only [Rep] at a1
    obtain ⟨_, rfl, _⟩ := a1
    have hu := hT.int_u
    rw [show (10000 : Nat) = 9999 + 1 from rfl, Instr.checkKey]
    simp only [Sem.run_bind, run_underlying hu, Result.andThen_ok]
    simp [wrapV, PT.isAgg]
  · rename_i n kd
    unfold TyOk at hT
    obtain ⟨_, e, hu, he⟩ := hT
    have a1 := hk default (fun _ => False)
    unfold Rep at a1
    dsimp only at a1
    obtain ⟨hn, hr⟩ := a1
    obtain ⟨kl, hkl, hcs⟩ : ∃ kl : List Int, kl.length = n ∧ ck = kl.map (Value.int kd) := ⟨k, hn, ints_cells k ck _ _ hr⟩
    clear hr hn hk
    have hu2 := he.int_u
    have hck : ∀ z : Int, (Instr.checkKey em 9999 e (Value.int kd z)).run P w = .ok () w := fun z => by
      rw [show (9999 : Nat) = 9998 + 1 from rfl, Instr.checkKey]
      simp only [Sem.run_bind, run_underlying hu2, Result.andThen_ok, Sem.run_pure]
    rw [show wrapV (.arr n (.int kd)) ck = .agg ck.toArray from rfl, show (10000 : Nat) = 9999 + 1 from rfl, Instr.checkKey]
    simp only [Sem.run_bind, run_underlying hu, Result.andThen_ok]
    simp only [Std.Legacy.Range.forIn_eq_forIn_range', Std.Legacy.Range.size, Nat.sub_zero, Nat.add_one_sub_one, Nat.div_one]
    have hall : ∀ j ∈ List.range' 0 n, j < n := fun j hj => by simpa using (List.mem_range'_1.1 hj).2
    generalize List.range' 0 n = is at hall
    induction is with
    | nil => simp
    | cons j is ih =>
      have hj := hall j (by simp)
      have hjl : j < kl.length := by rw [hkl]; exact hj
      have hp := run_part he (cs := ck) (off := j * (PT.int kd).size) (by
        rw [hcs]
        simp only [List.length_map, PT.size]
        omega) w
      have hcell : wrapV (.int kd) ((ck.drop (j * (PT.int kd).size)).take (PT.size (.int kd))) = Value.int kd kl[j] := by
        rw [hcs, show (PT.int kd).size = 1 from rfl, Nat.mul_one, List.drop_eq_getElem_cons (by simpa using hjl)]
        simp [wrapV, PT.isAgg]
      rw [hcell] at hp
      simp only [List.forIn_cons, Sem.run_bind, he.sizeOf w, Result.andThen_ok, hp, hck, Sem.run_pure]
      exact ih (fun y hy => hall y (by simp [hy]))
  · cases hkT

/-- Two keys that Go holds for equal lie in the same cells. -/
theorem key_cells {kt : PT} (hkT : keyT kt = true) {k k' : kt.den} {ck ck' : List Value} (h1 : ∀ w F, Rep w F kt .n k ck []) (h2 : ∀ w F, Rep w F kt .n k' ck' []) (he : kt.eqb k k' = true) : ck = ck' := by
  unfold keyT at hkT
  have a1 := h1 default (fun _ => False)
  have a2 := h2 default (fun _ => False)
  split at hkT
  · rename_i kd
    simp only [Rep] at a1 a2
    obtain ⟨_, rfl, _⟩ := a1
    obtain ⟨_, rfl, _⟩ := a2
    simp only [PT.eqb] at he
    have : (show Int from k) = (show Int from k') := @of_decide_eq_true _ _ he
    exact congrArg (fun z : Int => [Value.int kd z]) this
  · rename_i n kd
    unfold Rep at a1 a2
    dsimp only at a1 a2
    rw [ints_cells (show List Int from k) ck _ _ a1.2, ints_cells (show List Int from k') ck' _ _ a2.2]
    have key : ∀ (x y : List Int), listEqb (PT.eqb (.int kd)) x y = true → x = y := by
      intro x
      induction x with
      | nil => intro y h; cases y <;> simp_all [listEqb]
      | cons a x ih =>
        intro y h
        cases y with
        | nil => simp [listEqb] at h
        | cons b y =>
          simp only [listEqb, Bool.and_eq_true] at h
          have h1 : a = b := by
            have h3 := h.1
            simp only [PT.eqb] at h3
            exact @of_decide_eq_true _ _ h3
          rw [h1, ih y h.2]
    have : (show List Int from k) = (show List Int from k') := key _ _ (by simpa only [PT.eqb] using he)
    rw [this]
  · cases hkT

theorem run_staysM {P : Program} {w : World} {kt : PT} (hkT : keyT kt = true) {k : kt.den} {ck : List Value} (hk : ∀ w F, Rep w F kt .n k ck []) : (Instr.keyThatStays (wrapV kt ck) (wrapV kt ck)).run P w = .ok (wrapV kt ck) w := by
  have hs : Instr.sameBits 10000 (wrapV kt ck) (wrapV kt ck) = true := by
    unfold keyT at hkT
    have a1 := hk default (fun _ => False)
    split at hkT
    · rename_i kd
      simp only [Rep] at a1
      obtain ⟨_, rfl, _⟩ := a1
      have key : ∀ z : Int, Instr.sameBits 10000 (Value.int kd z) (Value.int kd z) = true := fun z => by
        rw [show (10000 : Nat) = 9999 + 1 from rfl, Instr.sameBits]
        simp
      exact key k
    · rename_i n kd
      unfold Rep at a1
      dsimp only at a1
      rw [ints_cells (show List Int from k) ck _ _ a1.2, show ∀ cs, wrapV (.arr n (.int kd)) cs = .agg cs.toArray from fun _ => rfl, show (10000 : Nat) = 9999 + 1 from rfl, Instr.sameBits]
      rw [show ((((show List Int from k).map (Value.int kd)).toArray).size == (((show List Int from k).map (Value.int kd)).toArray).size) = true from beq_self_eq_true _, Bool.true_and, List.all_eq_true]
      intro p hp
      obtain ⟨x, y⟩ := p
      have : ∀ (l : List Value), (x, y) ∈ l.zip l → x = y ∧ x ∈ l := by
        intro l
        induction l with
        | nil => intro h; simp at h
        | cons a l ih =>
          intro h
          simp only [List.zip_cons_cons, List.mem_cons, Prod.mk.injEq] at h
          rcases h with ⟨rfl, rfl⟩ | h
          · exact ⟨rfl, by simp⟩
          · exact ⟨(ih h).1, by simp [(ih h).2]⟩
      obtain ⟨rfl, hm⟩ := this _ hp
      obtain ⟨z, _, rfl⟩ := List.mem_map.1 hm
      show Instr.sameBits 9999 (Value.int kd z) (Value.int kd z) = true
      simp [Instr.sameBits]
    · cases hkT
  unfold Instr.keyThatStays
  rw [if_pos hs]
  simp

theorem repMap_append {kt vt : PT} : ∀ {m : List (kt.den × vt.den)} {es : List MapEntry} {k : kt.den} {v : vt.den} {e : MapEntry} {ck cv : List Value}, RepMap kt vt m es → (∀ w F, Rep w F kt .n k ck []) → e.key = wrapV kt ck → (∀ w F, Rep w F vt .n v cv []) → e.val = wrapV vt cv → RepMap kt vt (m ++ [(k, v)]) (es ++ [e])
  | [], es, k, v, e, ck, cv, h, h1, h2, h3, h4 => by
    obtain rfl : es = [] := h
    exact ⟨e, [], ck, cv, rfl, h1, h2, h3, h4, rfl⟩
  | (k0, v0) :: m, es, k, v, e, ck, cv, h, h1, h2, h3, h4 => by
    obtain ⟨e0, es', ck0, cv0, rfl, g1, g2, g3, g4, g5⟩ := h
    exact ⟨e0, es' ++ [e], ck0, cv0, rfl, g1, g2, g3, g4, repMap_append g5 h1 h2 h3 h4⟩
theorem repMap_set {kt vt : PT} : ∀ {m : List (kt.den × vt.den)} {es : List MapEntry} {k : kt.den} {v : vt.den} {j : Nat} {f : MapEntry → MapEntry} {ck cv : List Value}, RepMap kt vt m es → (∀ w F, Rep w F kt .n k ck []) → (∀ e, (f e).key = wrapV kt ck) → (∀ w F, Rep w F vt .n v cv []) → (∀ e, (f e).val = wrapV vt cv) → RepMap kt vt (m.set j (k, v)) (es.modify j f)
  | [], es, k, v, j, f, ck, cv, h, h1, h2, h3, h4 => by
    obtain rfl : es = [] := h
    simp [RepMap]
  | (k0, v0) :: m, es, k, v, 0, f, ck, cv, h, h1, h2, h3, h4 => by
    obtain ⟨e0, es', ck0, cv0, rfl, g1, g2, g3, g4, g5⟩ := h
    exact ⟨f e0, es', ck, cv, by simp, h1, h2 e0, h3, h4 e0, g5⟩
  | (k0, v0) :: m, es, k, v, j + 1, f, ck, cv, h, h1, h2, h3, h4 => by
    obtain ⟨e0, es', ck0, cv0, rfl, g1, g2, g3, g4, g5⟩ := h
    exact ⟨e0, es'.modify j f, ck0, cv0, by simp, g1, g2, g3, g4, repMap_set g5 h1 h2 h3 h4⟩
theorem repMap_at {kt vt : PT} : ∀ {m : List (kt.den × vt.den)} {es : List MapEntry} {j : Nat} {k : kt.den} {v : vt.den}, RepMap kt vt m es → m[j]? = some (k, v) → ∃ e ck, es[j]? = some e ∧ (∀ w F, Rep w F kt .n k ck []) ∧ e.key = wrapV kt ck
  | [], es, j, k, v, h, hj => by simp at hj
  | (k0, v0) :: m, es, 0, k, v, h, hj => by
    obtain ⟨e0, es', ck0, cv0, rfl, g1, g2, g3, g4, g5⟩ := h
    simp only [List.getElem?_cons_zero, Option.some.injEq, Prod.mk.injEq] at hj
    obtain ⟨rfl, rfl⟩ := hj
    exact ⟨e0, ck0, rfl, g1, g2⟩
  | (k0, v0) :: m, es, j + 1, k, v, h, hj => by
    obtain ⟨e0, es', ck0, cv0, rfl, g1, g2, g3, g4, g5⟩ := h
    obtain ⟨e, ck, h1, h2, h3⟩ := repMap_at g5 (by simpa using hj)
    exact ⟨e, ck, by simpa using h1, h2, h3⟩

theorem run_zero {P : Program} {w : World} {t : PT} {T : TypeId} (hT : TyOk P t T) : (zeroValue T).run P w = .ok (wrapV t (zeroC t)) w := by
  obtain ⟨i, h1, h2, h3, _⟩ := hT.ti.out
  simp [zeroValue, typeInfo, h1, h3]

/-- A value that needs no memory. -/
def scalT : PT → Bool
  | .int _ | .bool | .str => true
  | _ => false
theorem scal_any {t : PT} (h : scalT t = true) {w : World} {F : Nat → Prop} {x : t.den} {cs : List Value} {A : List Nat} (hr : Rep w F t .n x cs A) : ∀ w' F', Rep w' F' t .n x cs [] := by
  intro w' F'
  cases t <;> simp only [scalT, Bool.false_eq_true] at h <;> simp only [Rep] at hr ⊢ <;> exact ⟨trivial, hr.2⟩
theorem key_any {t : PT} (h : keyT t = true) {w : World} {F : Nat → Prop} {x : t.den} {cs : List Value} {A : List Nat} (hr : Rep w F t .n x cs A) : ∀ w' F', Rep w' F' t .n x cs [] := by
  intro w' F'
  unfold keyT at h
  split at h
  · exact scal_any rfl hr w' F'
  · have hn := plain_nil _ _ _ _ _ rfl hr
    subst hn
    exact rep_flat (by simp [ownT, flatT]) hr
  · cases h
where rep_flat {t : PT} (h : ownT t .n = true) {w w' : World} {F F' : Nat → Prop} {x : t.den} {cs : List Value} (hr : Rep w F t .n x cs []) : Rep w' F' t .n x cs [] := flat_any h hr
theorem zero_scal {t : PT} (h : scalT t = true) : ∀ w F, Rep w F t .n t.dflt (zeroC t) [] := by
  intro w F
  have := zero_rep (w := w) (F := F) t
  cases t <;> simp only [scalT, Bool.false_eq_true] at h <;> exact this

/-- A look-up in a map. -/
theorem run_lookupM {P : Program} {w : World} {kt vt : PT} {T K V : TypeId} (hu : P.underlying T = some (.map K V)) (hK : TyOk P kt K) (hV : TyOk P vt V) (hE : EqOk P kt K) (hd : kt.depth ≤ 10000) (hkT : keyT kt = true) (hvT : scalT vt = true)
    {k : kt.den} {ck : List Value} (hk : ∀ w F, Rep w F kt .n k ck []) {m : List (kt.den × vt.den)} {r : Nat} {es : Array MapEntry} {clk : Nat} (hb : w.heap[r]? = some (.map es clk)) (hm : RepMap kt vt m es.toList) :
    ∃ u, (Instr.lookup T (.map (some r)) (wrapV kt ck) false).run P w = .ok u w ∧ ∃ cv, (∀ w F, Rep w F vt .n (mgetL kt vt m k) cv []) ∧ u = wrapV vt cv := by
  obtain ⟨rr, g1, g2⟩ := run_findKeyM (P := P) (w := w) hkT hE hd hk hm
  cases rr with
  | none =>
    obtain ⟨h1, _⟩ := g2
    refine ⟨wrapV vt (zeroC vt), ?_, zeroC vt, by rw [h1]; exact zero_scal hvT, rfl⟩
    simp [Instr.lookup, run_underlying hu, MapKept.run_getObj_map hb, run_checkKeyM hkT hK hk, g1, run_zero hV]
  | some jr =>
    obtain ⟨j, u⟩ := jr
    obtain ⟨j', kk, v, cv, h1, h2, h3, h4, h5, h6, h7⟩ := g2
    refine ⟨u, ?_, cv, by rw [h4]; exact h5, h6⟩
    simp [Instr.lookup, run_underlying hu, MapKept.run_getObj_map hb, run_checkKeyM hkT hK hk, g1]

/-- An update. -/
theorem run_updateM {P : Program} {w : World} {kt vt : PT} {T K V : TypeId} (hu : P.underlying T = some (.map K V)) (hK : TyOk P kt K) (hE : EqOk P kt K) (hd : kt.depth ≤ 10000) (hkT : keyT kt = true)
    {k : kt.den} {ck : List Value} (hk : ∀ w F, Rep w F kt .n k ck []) {v : vt.den} {cv : List Value} (hv : ∀ w F, Rep w F vt .n v cv []) {m : List (kt.den × vt.den)} {r : Nat} {es : Array MapEntry} {clk : Nat} (hb : w.heap[r]? = some (.map es clk)) (hm : RepMap kt vt m es.toList) :
    ∃ es' clk', (Instr.mapUpdate T (.map (some r)) (wrapV kt ck) (wrapV vt cv)).run P w = .ok () { w with heap := w.heap.setIfInBounds r (.map es' clk') } ∧ RepMap kt vt (msetL kt vt m k v) es'.toList := by
  obtain ⟨rr, g1, g2⟩ := run_findKeyM (P := P) (w := w) hkT hE hd hk hm
  cases rr with
  | none =>
    obtain ⟨_, h1⟩ := g2
    refine ⟨es.push { key := wrapV kt ck, val := wrapV vt cv, born := clk }, clk + 1, ?_, ?_⟩
    · simp [Instr.mapUpdate, run_underlying hu, MapKept.run_getObj_map hb, run_checkKeyM hkT hK hk, g1, MapKept.run_setObj_map _ hb]
    · rw [h1, Array.toList_push]
      exact repMap_append hm hk rfl hv rfl
  | some jr =>
    obtain ⟨j, u⟩ := jr
    obtain ⟨j', kk, v0, cv0, h1, h2, h3, h4, h5, h6, h7⟩ := g2
    obtain rfl : j = j' := by omega
    obtain ⟨e, ck2, e1, e2, e3⟩ := repMap_at hm h2
    have hcc : ck = ck2 := key_cells hkT hk e2 h3
    subst hcc
    have hes : es[j]? = some e := by simpa using e1
    refine ⟨es.modify j fun e => { e with key := wrapV kt ck, val := wrapV vt cv }, clk, ?_, ?_⟩
    · simp [Instr.mapUpdate, run_underlying hu, MapKept.run_getObj_map hb, run_checkKeyM hkT hK hk, g1, hes, e3, run_staysM hkT hk, MapKept.run_setObj_map _ hb]
    · rw [h7, Array.toList_modify]
      exact repMap_set hm hk (fun _ => rfl) hv (fun _ => rfl)

end Go.Proofs.Ytaachifkgcdeoaa.Sy

namespace Go.Proofs.Ytaachifkgcdeoaa.Sy
open Go.RowKit
set_option linter.unusedSimpArgs false
set_option linter.unusedVariables false

/-- A map at another name of its types. -/
def castM (kt' vt' kt vt : PT) (m : List (kt'.den × vt'.den)) : Option (List (kt.den × vt.den)) :=
  if h : PT.beq kt' kt = true then
    if h2 : PT.beq vt' vt = true then some ((PT.eq_of_beq h2) ▸ (PT.eq_of_beq h) ▸ m) else none
  else none
theorem castM_some {kt' vt' kt vt : PT} {m : List (kt'.den × vt'.den)} {m' : List (kt.den × vt.den)} (h : castM kt' vt' kt vt m = some m') : ∃ (e : kt' = kt) (e2 : vt' = vt), m' = e2 ▸ e ▸ m := by
  unfold castM at h
  split at h
  · rename_i h1
    split at h
    · rename_i h2
      exact ⟨PT.eq_of_beq h1, PT.eq_of_beq h2, (Option.some.inj h).symm⟩
    · cases h
  · cases h

/-- The map that a slot names. -/
def mapAt (look : Nat → Slot) (kt vt : PT) (s : Slot) : Option (List (kt.den × vt.den)) :=
  match s with
  | .mal k => match look k with
    | .mp kt' vt' m => castM kt' vt' kt vt m
    | _ => none
  | _ => none

theorem mapAt_rep {E : Env} {σ : List Slot} {a : Act} {w : World} {fl : List Nat} (hst : RepSt E σ a w fl) {look : Nat → Slot} (hlk : Looks look σ) {kt vt : PT} {s : Slot} {u : Value} {A : List Nat} (hs : RepSlot w E.F (lk σ) (vl a) s u A) {m : List (kt.den × vt.den)} (h : mapAt look kt vt s = some m) :
    ∃ k r es clk, s = .mal k ∧ lk σ k = .mp kt vt m ∧ u = .map (some r) ∧ vl a k = .map (some r) ∧ w.heap[r]? = some (.map es clk) ∧ RepMap kt vt m es.toList := by
  unfold mapAt at h
  split at h
  case h_2 => cases h
  rename_i k
  split at h
  case h_2 => cases h
  rename_i kt' vt' m' hk
  obtain ⟨e, e2, rfl⟩ := castM_some h
  subst e e2
  have hk' : lk σ k = .mp kt' vt' m' := by
    rcases hlk k with e | e
    · rw [hk] at e; cases e
    · exact e.symm.trans hk
  obtain ⟨ow, how, _, _, hsl⟩ := hst.slots
  obtain ⟨B, hB1, hB2, hB3⟩ := hsl k
  rw [show σ.getD k .dead = .mp kt' vt' m' from hk'] at hB3
  obtain ⟨r, es, clk, h1, _, h3, h4⟩ := hB3
  exact ⟨k, r, es, clk, rfl, hk', hs.2.trans h1, h1, h3, h4⟩

def aLook (A : Alg) (tab : Tab) (look : Nat → Slot) (T : TypeId) (sx sk : Slot) : Option (List Prop × Slot) :=
  match mapT tab T with
  | some (kt, vt) => if keyT kt && scalT vt then (match mapAt look kt vt sx with
    | some m => match sk with
      | .val t .n k => match castT t kt k with
        | some k => some ([], .val vt .n (A.mget kt vt m k))
        | none => none
      | _ => none
    | none => none) else none
  | none => none

def capOf (tab : Tab) (look : Nat → Slot) (gl : List (Nat × Bool)) (o : Operand) : Option Cap :=
  match opdOf tab 0 o with
  | some x => match adrS look x (opd look gl x) with
    | .ref k p => some (.r k p)
    | .pv t v => some (.v t .n v)
    | .pm t m v => some (.v t m v)
    | _ => none
  | none => none
def capsOf (tab : Tab) (look : Nat → Slot) (gl : List (Nat × Bool)) : List Operand → Option (List Cap)
  | [] => some []
  | o :: os => match capOf tab look gl o with
    | some c => match capsOf tab look gl os with
      | some cs => some (c :: cs)
      | none => none
    | none => none

def aMovE (look : Nat → Slot) (gl : List (Nat × Bool)) (x : Opd) : Option (List Prop × Slot) :=
  match opd look gl x with
  | .clo f cs => some ([], .clo f cs)
  | .mal k => some ([], .mal k)
  | .pm t m v => some ([], .pm t m v)
  | .mp _ _ _ => match x with
    | .t k => some ([], .mal k)
    | .c _ => none
  | _ => none

def stepP (A : Alg) (tab : Tab) (look : Nat → Slot) (gl : List (Nat × Bool)) (o : Oper) : Option (List Prop × Slot) :=
  match o.op with
  | .move x => s1 tab look gl o.type x fun x _ => aMovE look gl x
  | .assign x => s1 tab look gl o.type x fun x _ => aMovE look gl x
  | .makeMap T none => match mapT tab T with
    | some (kt, vt) => some ([], .mp kt vt [])
    | none => none
  | .makeFunc (.func f) ⟨[]⟩ ⟨os⟩ => match capsOf tab look gl os with
    | some cs => some ([], .clo f cs)
    | none => none
  | .lookup T x k false => s2 tab look gl T 0 x k fun _ sx _ sk => aLook A tab look T sx sk
  | .buildSlice T 0 ⟨[]⟩ => match tyT tab T with
    | some (.list te) => some ([], .val (.list te) (.l (zmd te)) [])
    | _ => none
  | _ => none

theorem capsOf_rep {E : Env} {tab : Tab} {σ : List Slot} {a : Act} {w : World} (hst : RepState E σ a w) {look : Nat → Slot} (hlk : Looks look σ) {gl : List (Nat × Bool)} (hgl : holdsG (vl a) gl) : ∀ {os : List Operand} {cs : List Cap}, capsOf tab look gl os = some cs → RepCaps w E.F (lk σ) (vl a) cs (os.map a.eval)
  | [], cs, h => by
    obtain rfl := Option.some.inj h
    rfl
  | o :: os, cs, h => by
    simp only [capsOf] at h
    split at h
    case h_2 => cases h
    rename_i c hc
    split at h
    case h_2 => cases h
    rename_i cs' hcs
    obtain rfl := Option.some.inj h
    have ih := capsOf_rep hst hlk hgl hcs
    unfold capOf at hc
    split at hc
    case h_2 => cases hc
    rename_i x hx
    obtain ⟨B, hr⟩ := adr_rep hst hlk hgl (opdOf_ok hx)
    split at hc
    · rename_i k p e
      obtain rfl := Option.some.inj hc
      rw [e] at hr
      obtain ⟨_, b, off, h1, h2⟩ := hr
      exact ⟨b, off, os.map a.eval, by rw [List.map_cons, h1], h2, ih⟩
    · rename_i t v e
      obtain rfl := Option.some.inj hc
      rw [e] at hr
      obtain ⟨_, b, off, c, e, fr, h1, h2, h3, h4, h5⟩ := hr
      exact ⟨b, off, c, e, fr, os.map a.eval, by rw [List.map_cons, h1], h2, h3, h4, h5, ih⟩
    · rename_i t m v e
      obtain rfl := Option.some.inj hc
      rw [e] at hr
      obtain ⟨_, b, off, c, e, fr, h1, h2, h3, h4, h5⟩ := hr
      exact ⟨b, off, c, e, fr, os.map a.eval, by rw [List.map_cons, h1], h2, h3, h4, h5, ih⟩
    · cases hc

theorem stepP_sound {E : Env} {tab : Tab} (htab : TabOk E.P tab) {σ : List Slot} {a : Act} {w : World} (hst : RepState E σ a w) {look : Nat → Slot} (hlk : Looks look σ) {gl : List (Nat × Bool)} (hgl : holdsG (vl a) gl) {o : Oper} {s : Slot} {obs : List Prop}
    (h : stepP real0 tab look gl o = some (obs, s)) (hobs : obsAll obs) : Yld E σ a w s (execOp a.eval o) := by
  have hmov : ∀ {x' : Operand} {x : Opd}, (o.op = .move x' ∨ o.op = .assign x') → OpdOk x x' → aMovE look gl x = some (obs, s) → Yld E σ a w s (execOp a.eval o) := by
    intro x' x ho hx h
    have hrun : (execOp a.eval o).run E.P w = .ok (.value (a.eval x')) w := by
      rcases ho with ho | ho <;> simp [execOp, ho]
    obtain ⟨B, hB, _, hr⟩ := opd_rep hst hlk hgl hx
    unfold aMovE at h
    split at h
    · rename_i f cs e
      simp only [Option.some.injEq, Prod.mk.injEq] at h
      obtain ⟨_, rfl⟩ := h
      rw [e] at hr
      obtain rfl := hr.1
      exact Yld.pure hrun hr
    · rename_i k e
      simp only [Option.some.injEq, Prod.mk.injEq] at h
      obtain ⟨_, rfl⟩ := h
      rw [e] at hr
      obtain rfl := hr.1
      exact Yld.pure hrun hr
    · rename_i t m v e
      simp only [Option.some.injEq, Prod.mk.injEq] at h
      obtain ⟨_, rfl⟩ := h
      rw [e] at hr
      obtain rfl := hr.1
      exact Yld.pure hrun hr
    · split at h
      · rename_i k
        simp only [Option.some.injEq, Prod.mk.injEq] at h
        obtain ⟨_, rfl⟩ := h
        cases x' <;> simp only [OpdOk] at hx
        subst hx
        exact Yld.pure hrun ⟨rfl, rfl⟩
      · cases h
    · cases h
  unfold stepP at h
  split at h
  · obtain ⟨x', hx, h⟩ := s1_inv h
    exact hmov (.inl (by assumption)) (opdOf_ok hx) h
  · obtain ⟨x', hx, h⟩ := s1_inv h
    exact hmov (.inr (by assumption)) (opdOf_ok hx) h
  · rename_i T ho
    split at h
    case h_2 => cases h
    rename_i kt vt hT
    simp only [Option.some.injEq, Prod.mk.injEq] at h
    obtain ⟨_, rfl⟩ := h
    obtain ⟨n1, n2, n3⟩ := new_state (w := w) (.map #[] 0)
    refine ⟨.map (some w.heap.size), { w with heap := w.heap.push (.map #[] 0) }, [w.heap.size], ?_, n1, n3, by simp, fun b hb => by simp at hb; subst hb; simp, w.heap.size, #[], 0, rfl, rfl, n2, rfl⟩
    simp [execOp, ho, Instr.makeMap, newObj, Sem.run]
  · rename_i f os ho
    split at h
    case h_2 => cases h
    rename_i cs hcs
    simp only [Option.some.injEq, Prod.mk.injEq] at h
    obtain ⟨_, rfl⟩ := h
    have hr := capsOf_rep hst hlk hgl hcs
    refine Yld.pure (v := .func (.func f) #[] (os.map a.eval).toArray) ?_ ⟨rfl, _, rfl, by simpa using hr⟩
    simp [execOp, ho, Instr.makeFunc]
  · rename_i T x k ho
    obtain ⟨x', k', hx, hk, h⟩ := s2_inv h
    obtain ⟨B1, _, _, r1⟩ := opd_rep hst hlk hgl (opdOf_ok hx)
    obtain ⟨B2, _, _, r2⟩ := opd_rep hst hlk hgl (opdOf_ok hk)
    unfold aLook at h
    split at h
    case h_2 => cases h
    rename_i kt vt hT
    split at h
    case isFalse => cases h
    rename_i hkv
    simp only [Bool.and_eq_true] at hkv
    split at h
    case h_2 => cases h
    rename_i m hm
    split at h
    case h_2 => cases h
    rename_i t v e
    split at h
    case h_2 => cases h
    rename_i v' hc
    simp only [Option.some.injEq, Prod.mk.injEq] at h
    obtain ⟨_, rfl⟩ := h
    obtain ⟨e1, rfl⟩ := castT_some hc
    subst e1
    rw [e] at r2
    obtain ⟨ck, hck, hu2⟩ := r2
    obtain ⟨km, r, es, clk, _, _, hu1, _, hb, hrep⟩ := mapAt_rep hst hlk r1 hm
    obtain ⟨K, V, hTu, hK, hV, hE, hd⟩ := htab.map _ _ _ hT
    obtain ⟨u, g1, cv, g2, g3⟩ := run_lookupM (P := E.P) (w := w) hTu hK hV hE hd hkv.1 hkv.2 (key_any hkv.1 hck) hb hrep
    refine Yld.pure (v := u) ?_ ⟨cv, g2 _ _, g3⟩
    simp [execOp, ho, hu1, hu2, g1]
  · rename_i T ho
    split at h
    case h_2 => cases h
    rename_i te hT
    simp only [Option.some.injEq, Prod.mk.injEq] at h
    obtain ⟨_, rfl⟩ := h
    have hTT := htab.ty _ _ hT
    unfold TyOk at hTT
    obtain ⟨_, e, hu, he⟩ := hTT
    obtain ⟨n1, n2, n3⟩ := new_state (w := w) (.cells #[] e)
    refine ⟨.slice (some ⟨w.heap.size, 0, none⟩) 0 0, { w with heap := w.heap.push (.cells #[] e) }, [], ?_, n1, n3, by simp, fun b hb => by simp at hb, [.slice (some ⟨w.heap.size, 0, none⟩) 0 0], ?_, rfl⟩
    · have hur : (underlying T).run E.P w = .ok (.slice e) w := by simp [underlying, hu]
      have hrun : (Instr.buildSlice T 0 #[]).run E.P w = .ok (.slice (some ⟨w.heap.size, 0, none⟩) 0 0) { w with heap := w.heap.push (.cells #[] e) } := by
        unfold Instr.buildSlice
        simp only [Sem.run_bind, hur, Result.andThen_ok, he.sizeOf]
        simp [Instr.fill, newRow]
        have h0 : Array.map (fun _ : Nat => (default : Value)) (Array.range 0) = #[] := by simp
        rw [h0]
      have hrun : (Instr.buildSlice T 0 (Array.map (fun x : Nat × Operand => (x.1, a.eval x.2)) ⟨[]⟩)).run E.P w = .ok (.slice (some ⟨w.heap.size, 0, none⟩) 0 0) { w with heap := w.heap.push (.cells #[] e) } := by simpa using hrun
      simp only [execOp, ho, Sem.run_bind, Sem.run_pure]
      exact Eq.trans (congrArg (fun r => Result.andThen r fun a w' => Result.ok (Next.value a) w') hrun) rfl
    · simp only [Rep]
      exact ⟨by simp, some ⟨w.heap.size, 0, none⟩, 0, rfl, .inl ⟨rfl, by trivial, by trivial⟩⟩
  · cases h

end Go.Proofs.Ytaachifkgcdeoaa.Sy
