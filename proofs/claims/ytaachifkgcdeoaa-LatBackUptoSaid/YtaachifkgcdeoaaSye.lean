/- A symbolic run of a function's code: typed values in memory, what each operation does to them, and why that is so (part e). Each theorem bears its conditions itself. -/
import Derived.Test.YtaachifkgcdeoaaSyd
import Derived.Orders
import Derived.Deep.LoopGhost
namespace Go.Proofs.Ytaachifkgcdeoaa.Sy
open Go.RowKit
set_option linter.unusedSimpArgs false
set_option linter.unusedVariables false

/-! ### Who waits for whom -/
def maskOf (i : Nat) (acc : List Nat) : List Edge → Option Nat
  | [] => some 0
  | e :: es => match Region.binds .any e with
    | true => match Nat.blt e.on i with
      | true => match maskOf i acc es with
        | some m => some (m ||| (2 ^ e.on ||| acc.getD e.on 0))
        | none => none
      | false => none
    | false => maskOf i acc es

def masksGo : List Oper → Nat → List Nat → Option (List Nat)
  | [], _, acc => some acc
  | o :: os, i, acc => match maskOf i acc o.after.toList with
    | some m => masksGo os (i + 1) (acc ++ [m])
    | none => none

def bitAt (ms : List Nat) (i j : Nat) : Bool := (ms.getD i 0).testBit j

structure AncOk (ops : List Oper) (ms : List Nat) : Prop where
  down : ∀ i o, ops[i]? = some o → ∀ e ∈ o.after, Region.binds .any e = true → e.on < i ∧ bitAt ms i e.on = true ∧ ∀ j, bitAt ms e.on j = true → bitAt ms i j = true
  up : ∀ i j, bitAt ms i j = true → ∃ o, ops[i]? = some o ∧ ∃ e ∈ o.after, Region.binds .any e = true ∧ (e.on = j ∨ bitAt ms e.on j = true)

theorem maskOf_ok {i : Nat} {acc : List Nat} : ∀ {es : List Edge} {m : Nat}, maskOf i acc es = some m →
    (∀ e ∈ es, Region.binds .any e = true → e.on < i ∧ m.testBit e.on = true ∧ ∀ j, (acc.getD e.on 0).testBit j = true → m.testBit j = true) ∧
    ∀ j, m.testBit j = true → ∃ e ∈ es, Region.binds .any e = true ∧ (e.on = j ∨ (acc.getD e.on 0).testBit j = true)
  | [], m, h => by
    simp only [maskOf, Option.some.injEq] at h
    subst h
    exact ⟨fun e he => by simp at he, fun j hj => by simp at hj⟩
  | e :: es, m, h => by
    simp only [maskOf] at h
    split at h
    · rename_i hb
      split at h
      case h_2 => cases h
      rename_i hlt
      split at h
      case h_2 => cases h
      rename_i m' hm'
      obtain rfl := Option.some.inj h
      obtain ⟨h1, h2⟩ := maskOf_ok hm'
      have hlt' : e.on < i := Nat.lt_of_succ_le (Nat.le_of_ble_eq_true hlt)
      refine ⟨fun e' he' hb' => ?_, fun j hj => ?_⟩
      · rcases List.mem_cons.1 he' with rfl | he'
        · refine ⟨hlt', by simp [Nat.testBit_or, Nat.testBit_two_pow_self], fun j hj => by rw [Nat.testBit_or, Nat.testBit_or, hj]; simp⟩
        · obtain ⟨g1, g2, g3⟩ := h1 e' he' hb'
          exact ⟨g1, by simp [Nat.testBit_or, g2], fun j hj => by simp [Nat.testBit_or, g3 j hj]⟩
      · simp only [Nat.testBit_or, Bool.or_eq_true] at hj
        rcases hj with hj | hj | hj
        · obtain ⟨e', g1, g2, g3⟩ := h2 j hj
          exact ⟨e', by simp [g1], g2, g3⟩
        · refine ⟨e, by simp, hb, .inl ?_⟩
          rw [Nat.testBit_two_pow] at hj
          simpa using hj
        · exact ⟨e, by simp, hb, .inr hj⟩
    · rename_i hb
      obtain ⟨h1, h2⟩ := maskOf_ok h
      refine ⟨fun e' he' hb' => ?_, fun j hj => ?_⟩
      · rcases List.mem_cons.1 he' with rfl | he'
        · rw [hb] at hb'; cases hb'
        · exact h1 e' he' hb'
      · obtain ⟨e', g1, g2, g3⟩ := h2 j hj
        exact ⟨e', by simp [g1], g2, g3⟩

theorem masksGo_ok (ops : List Oper) : ∀ (os : List Oper) (i : Nat) (acc ms : List Nat), os = ops.drop i → acc.length = i → i ≤ ops.length →
    (∀ k o, k < i → ops[k]? = some o → (∀ e ∈ o.after, Region.binds .any e = true → e.on < k ∧ bitAt acc k e.on = true ∧ ∀ j, bitAt acc e.on j = true → bitAt acc k j = true)) →
    (∀ k j, k < i → bitAt acc k j = true → ∃ o, ops[k]? = some o ∧ ∃ e ∈ o.after, Region.binds .any e = true ∧ (e.on = j ∨ bitAt acc e.on j = true)) → (∀ k j, i ≤ k → bitAt acc k j = false) →
    masksGo os i acc = some ms → AncOk ops ms
  | [], i, acc, ms, hos, hl, hi, h1, h2, h3, h => by
    simp only [masksGo, Option.some.injEq] at h
    subst h
    have hlen : ops.length ≤ i := by
      have := congrArg List.length hos
      simp at this
      omega
    refine ⟨fun k o ho => h1 k o (by have := (List.getElem?_eq_some_iff.1 ho).1; omega) ho, fun k j hb => ?_⟩
    by_cases hk : k < i
    · exact h2 k j hk hb
    · rw [h3 k j (by omega)] at hb; cases hb
  | o :: os, i, acc, ms, hos, hl, hi, h1, h2, h3, h => by
    simp only [masksGo] at h
    split at h
    case h_2 => cases h
    rename_i m hm
    obtain ⟨g1, g2⟩ := maskOf_ok hm
    have hoi : ops[i]? = some o := by
      have : (ops.drop i)[0]? = some o := by rw [← hos]; rfl
      simpa using this
    have hlt := (List.getElem?_eq_some_iff.1 hoi).1
    have hos' : os = ops.drop (i + 1) := by rw [← List.drop_drop, ← hos]; rfl
    have hold : ∀ k j, k < i → bitAt (acc ++ [m]) k j = bitAt acc k j := fun k j hk => by
      simp only [bitAt, List.getD_eq_getElem?_getD]
      rw [List.getElem?_append_left (by omega)]
    have hnew : ∀ j, bitAt (acc ++ [m]) i j = m.testBit j := fun j => by
      simp only [bitAt, List.getD_eq_getElem?_getD]
      rw [List.getElem?_append_right (by omega), hl]
      simp
    refine masksGo_ok ops os (i + 1) (acc ++ [m]) ms hos' (by simp [hl]) (by omega) ?_ ?_ ?_ h
    · intro k o' hk ho' e he hb
      by_cases hki : k < i
      · obtain ⟨f1, f2, f3⟩ := h1 k o' hki ho' e he hb
        refine ⟨f1, by rw [hold k _ hki]; exact f2, fun j hj => ?_⟩
        rw [hold _ _ (by omega)] at hj
        rw [hold _ _ hki]
        exact f3 j hj
      · have : k = i := by omega
        subst this
        rw [hoi] at ho'
        obtain rfl := Option.some.inj ho'
        obtain ⟨f1, f2, f3⟩ := g1 e (by simpa using he) hb
        refine ⟨f1, by rw [hnew]; exact f2, fun j hj => ?_⟩
        rw [hold _ _ f1] at hj
        rw [hnew]
        exact f3 j hj
    · intro k j hk hb
      by_cases hki : k < i
      · rw [hold k j hki] at hb
        obtain ⟨o', f1, e, f2, f3, f4⟩ := h2 k j hki hb
        obtain ⟨f5, _⟩ := h1 k o' hki f1 e f2 f3
        refine ⟨o', f1, e, f2, f3, f4.imp id fun h => ?_⟩
        rw [hold _ _ (by omega)]
        exact h
      · have : k = i := by omega
        subst this
        rw [hnew] at hb
        obtain ⟨e, f1, f2, f3⟩ := g2 j hb
        refine ⟨o, hoi, e, by simpa using f1, f2, f3.imp id fun h => ?_⟩
        have := (g1 e f1 f2).1
        rw [hold _ _ this]
        exact h
    · intro k j hk
      simp only [bitAt, List.getD_eq_getElem?_getD]
      rw [List.getElem?_eq_none (by simp; omega)]
      simp

theorem masks_ok {ops : List Oper} {ms : List Nat} (h : masksGo ops 0 [] = some ms) : AncOk ops ms :=
  masksGo_ok ops ops 0 [] ms rfl rfl (Nat.zero_le _) (fun k o hk => absurd hk (Nat.not_lt_zero _)) (fun k j hk => absurd hk (Nat.not_lt_zero _)) (fun k j _ => by simp [bitAt]) h

theorem AncOk.lt {ops : List Oper} {ms : List Nat} (h : AncOk ops ms) : ∀ (i j : Nat), bitAt ms i j = true → j < i := by
  intro i
  induction i using Nat.strongRecOn with
  | _ i ih =>
    intro j hb
    obtain ⟨o, h1, e, h2, h3, h4⟩ := h.up i j hb
    have h5 := (h.down i o h1 e h2 h3).1
    rcases h4 with rfl | h4
    · exact h5
    · exact Nat.lt_trans (ih e.on h5 j h4) h5
theorem AncOk.trans {ops : List Oper} {ms : List Nat} (h : AncOk ops ms) : ∀ (i j k : Nat), bitAt ms i j = true → bitAt ms j k = true → bitAt ms i k = true := by
  intro i
  induction i using Nat.strongRecOn with
  | _ i ih =>
    intro j k hb hk
    obtain ⟨o, h1, e, h2, h3, h4⟩ := h.up i j hb
    obtain ⟨h5, h6, h7⟩ := h.down i o h1 e h2 h3
    rcases h4 with rfl | h4
    · exact h7 k hk
    · exact h7 k (ih e.on h5 j k h4 hk)
/-- What is before i has come up when i may come up. -/
theorem AncOk.listed {ops : List Oper} {ms : List Nat} (h : AncOk ops ms) {L : Nat → Bool} (hL : ∀ i o, L i = true → ops[i]? = some o → ∀ e ∈ o.after, Region.binds .any e = true → L e.on = true) : ∀ (i : Nat) (o : Oper), ops[i]? = some o → (∀ e ∈ o.after, Region.binds .any e = true → L e.on = true) → ∀ j, bitAt ms i j = true → L j = true := by
  intro i
  induction i using Nat.strongRecOn with
  | _ i ih =>
    intro o ho hp j hb
    obtain ⟨o', h1, e, h2, h3, h4⟩ := h.up i j hb
    rw [ho] at h1
    obtain rfl := Option.some.inj h1
    have h5 := (h.down i o ho e h2 h3).1
    have h6 := hp e h2 h3
    rcases h4 with rfl | h4
    · exact h6
    · obtain ⟨o2, h7⟩ : ∃ o2, ops[e.on]? = some o2 := ⟨ops[e.on]'(by have := (List.getElem?_eq_some_iff.1 ho).1; omega), List.getElem?_eq_getElem _⟩
      exact ih e.on h5 o2 h7 (fun e' he' hb' => hL e.on o2 h6 h7 e' he' hb') j h4

/-! ### Slots written in either order -/
theorem killS_comm (d e : Nat) (s : Slot) : killS d (killS e s) = killS e (killS d s) := by
  unfold killS
  simp only [List.contains_eq_mem, decide_eq_true_eq]
  by_cases h1 : e ∈ s.deps <;> by_cases h2 : d ∈ s.deps <;> simp [h1, h2, Slot.deps]

theorem killS_id {d : Nat} {s : Slot} (h : d ∉ s.deps) : killS d s = s := by
  unfold killS
  rw [if_neg (by simpa using h)]

theorem setS_comm {d e : Nat} {s t : Slot} (hde : d ≠ e) (h1 : e ∉ s.deps) (h2 : d ∉ t.deps) (σ : List Slot) : setS (setS σ d s) e t = setS (setS σ e t) d s := by
  unfold setS
  rw [List.map_set, List.map_set, List.set_comm _ _ hde]
  have hmap : (σ.map (killS d)).map (killS e) = (σ.map (killS e)).map (killS d) := by
    rw [List.map_map, List.map_map]
    congr 1
    funext x
    exact (killS_comm e d x)
  rw [hmap]
  have e1 : killS e (killS d s) = killS d s := by rw [killS_comm, killS_id h1]
  have e2 : killS d (killS e t) = killS e t := by rw [killS_comm, killS_id h2]
  rw [e1, e2]

end Go.Proofs.Ytaachifkgcdeoaa.Sy

namespace Go.Proofs.Ytaachifkgcdeoaa.Sy
open Go.RowKit
set_option linter.unusedSimpArgs false
set_option linter.unusedVariables false

def conjL : List Prop → Prop → Prop
  | [], p => p
  | q :: qs, p => q ∧ conjL qs p
theorem conjL_out : ∀ {qs : List Prop} {p : Prop}, conjL qs p → obsAll qs ∧ p
  | [], p, h => ⟨fun r hr => by simp at hr, h⟩
  | q :: qs, p, h => by
    have := conjL_out h.2
    refine ⟨fun r hr => ?_, this.2⟩
    rcases List.mem_cons.1 hr with rfl | hr
    · exact h.1
    · exact this.1 r hr

def cmpB (ms : List Nat) (i j : Nat) : Bool := bitAt ms i j || bitAt ms j i

/-- The slot that an operation writes: its temporary, or the variable of one's own that it stores into. -/
def dstS (o : Oper) : Option Nat := match o.dst with
  | some d => some d
  | none => match o.op with
    | .store _ (.tmp k) _ => some k
    | _ => none

/-- What is stored, if it owns nothing. -/
def valD (tab : Tab) (T : TypeId) (t : PT) (look : Nat → Slot) (y : Operand) : Option t.den :=
  match opdOf tab T y with
  | some (.c v) => if Md.beq v.m .n then castT v.t t v.x else none
  | some (.t j) => match look j with
    | .val t2 m2 x2 => if m2.owned then none else if plainT t2 m2 then castT t2 t x2 else none
    | _ => none
  | none => none

/-- A store into a variable of one's own, as a whole. -/
def stoD (A : Alg) (tab : Tab) (look : Nat → Slot) (o : Oper) : Option (Nat × Slot) :=
  match o.guard with
  | some _ => none
  | none => match o.dst with
    | some _ => none
    | none => match o.op with
      | .store T (.tmp k) y => match tyT tab T with
        | some t => match look k with
          | .val (.box t') (.b m') x' => if PT.beq t' t then (match valD tab T t' look y with
            | some x => some (k, .val (.box t') (.b .n) x)
            | none => none) else none
          | _ => none
        | none => none
      | _ => none

/-- The variables that are loaded whole into j. -/
def loadL (j : Nat) : List Oper → List Nat
  | [] => []
  | o :: os => match o.op with
    | .load _ (.tmp r) => (match o.dst with
      | some d => if Nat.beq d j then r :: loadL j os else loadL j os
      | none => loadL j os)
    | _ => loadL j os
/-- The slots that an operation may write: its temporary; the variable that it stores into, and where what it stores was. -/
def dstL (all : List Oper) (o : Oper) : List Nat := match o.dst with
  | some d => d :: (match o.op with
    | .call ⟨.builtin .append, ⟨[.tmp j, _]⟩, _⟩ => [j]
    | _ => [])
  | none => match o.op with
    | .store _ (.tmp k) (.tmp j) => k :: j :: loadL j all
    | .store _ (.tmp k) _ => [k]
    | _ => []
theorem dstS_mem {all : List Oper} {o : Oper} {d : Nat} (h : dstS o = some d) : d ∈ dstL all o := by
  unfold dstS at h
  unfold dstL
  split at h
  · rename_i d' hd
    rw [Option.some.inj h]
    exact List.mem_cons_self ..
  · rename_i hd
    split at h
    case h_2 => cases h
    rename_i T k y ho
    obtain rfl := Option.some.inj h
    rw [ho]
    cases y <;> simp

/-- The slots of the operations that may come up ahead of i or behind it. -/
def hidL (ms : List Nat) (i : Nat) (all : List Oper) : Nat → List Oper → List Nat
  | _, [] => []
  | j, o :: os => if Nat.beq j i || cmpB ms i j then hidL ms i all (j + 1) os else dstL all o ++ hidL ms i all (j + 1) os
/-- Each other operation has its place ahead of i or behind it. -/
def allCmp (ms : List Nat) (i : Nat) : Nat → List Oper → Bool
  | _, [] => true
  | j, o :: os => (Nat.beq j i || cmpB ms i j) && allCmp ms i (j + 1) os

def inL (H : List Nat) (k : Nat) : Bool := H.any fun j => Nat.beq j k

/-- A store into a variable of one's own, of what another slot owned. -/
def mvD (A : Alg) (tab : Tab) (look : Nat → Slot) (o : Oper) : Option (Nat × Nat × Slot) :=
  match o.guard with
  | some _ => none
  | none => match o.dst with
    | some _ => none
    | none => match o.op with
      | .store T (.tmp k) (.tmp j) => match tyT tab T with
        | some t => match look k with
          | .val (.box t') (.b _) _ => if PT.beq t' t then (match (match look j with
              | .val t2 m2 x2 => if m2.owned then some (j, (⟨t2, m2, x2⟩ : TV)) else none
              | .bor r [] => (match look r with
                | .val t2 m2 x2 => if m2.owned then some (r, (⟨t2, m2, x2⟩ : TV)) else none
                | _ => none)
              | .bor r [.d] => (match look r with
                | .val (.box t2) (.b m2) x2 => some (r, (⟨t2, m2, x2⟩ : TV))
                | _ => none)
              | _ => none) with
            | some (r, nv) => if Nat.beq k r then none else (match castT nv.t t' nv.x with
              | some x => some (r, k, .val (.box t') (.b nv.m) x)
              | none => none)
            | none => none) else none
          | _ => none
        | none => none
      | _ => none

def maskS (H : List Nat) (σ : List Slot) : Nat → Slot := fun k => if inL H k || (lk σ k).deps.any (inL H) then .dead else lk σ k

def noApps (σ : List Slot) : Bool := σ.all fun s => !s.isApp

/-- A variable of one's own stored into as a whole. -/
abbrev setV1 (σ : List Slot) (k : Nat) (s : Slot) : List Slot := setV σ k [.d] s
abbrev killV1 (k : Nat) (s : Slot) : Slot := killV k [.d] s

def evD (A : Alg) (tab : Tab) (specs : Specs) (ops : List Oper) (ms : List Nat) : Bool → Nat → List Oper → List Slot → (List Slot → Prop) → Prop
  | _, _, [], σ, K => K σ
  | na, i, o :: os, σ, K => match (if allCmp ms i 0 ops then stepX A tab σ o else none) with
    | some (obs, σ') => conjL obs (evD A tab specs ops ms false (i + 1) os σ' K)
    | none => match stoD A tab (maskS (hidL ms i ops 0 ops) σ) o with
      | some (k, s) => match σ[k]? with
        | some _ => if inL (hidL ms i ops 0 ops) k then False else evD A tab specs ops ms na (i + 1) os (setV1 σ k s) K
        | none => False
      | none => match mvD A tab (maskS (hidL ms i ops 0 ops) σ) o with
      | some (r, k, s) => match σ[k]? with
        | some _ => match σ[r]? with
          | some _ => if inL (hidL ms i ops 0 ops) k || inL (hidL ms i ops 0 ops) r || !inL (dstL ops o) r then False else evD A tab specs ops ms na (i + 1) os (setV1 (setS σ r .dead) k s) K
          | none => False
        | none => False
      | none => match gvD A tab (maskS (hidL ms i ops 0 ops) σ) o with
      | some (obs, r, s) => match o.dst with
        | some d => match σ[d]? with
          | some _ => match σ[r]? with
            | some _ => if inL (hidL ms i ops 0 ops) d || inL (hidL ms i ops 0 ops) r || !inL (dstL ops o) r then False else conjL obs (evD A tab specs ops ms na (i + 1) os (setS (setS σ r .dead) d s) K)
            | none => False
          | none => False
        | none => False
      | none => match aAppP A tab (maskS (hidL ms i ops 0 ops) σ) o with
      | some (obs, _, s) => match o.dst with
        | some d => match σ[d]? with
          | some _ => if inL (hidL ms i ops 0 ops) d || s.deps.any (inL (hidL ms i ops 0 ops)) then False else (match na with
            | true => conjL obs (evD A tab specs ops ms false (i + 1) os (setS σ d s) K)
            | false => False)
          | none => False
        | none => False
      | none => match evL A tab specs ops (maskS (hidL ms i ops 0 ops) σ) o with
      | some (obs, s) => if s.isApp then False else (match o.dst with
        | some d => match σ[d]? with
          | some _ => if inL (hidL ms i ops 0 ops) d || s.deps.any (inL (hidL ms i ops 0 ops)) then False else conjL obs (evD A tab specs ops ms na (i + 1) os (setS σ d s) K)
          | none => False
        | none => conjL obs (evD A tab specs ops ms na (i + 1) os σ K))
      | none => False

theorem inL_iff {H : List Nat} {k : Nat} : inL H k = true ↔ k ∈ H := by
  simp only [inL, List.any_eq_true]
  constructor
  · rintro ⟨j, h1, h2⟩
    exact (Nat.eq_of_beq_eq_true h2) ▸ h1
  · intro h
    exact ⟨k, h, by simp⟩

theorem hidL_mem {ms : List Nat} {i : Nat} {all : List Oper} : ∀ {os : List Oper} {j0 j : Nat} {o : Oper} {d : Nat}, os[j]? = some o → d ∈ dstL all o → j0 + j ≠ i → cmpB ms i (j0 + j) = false → d ∈ hidL ms i all j0 os
  | [], j0, j, o, d, h, _, _, _ => by simp at h
  | o0 :: os, j0, 0, o, d, h, hd, hne, hc => by
    simp only [List.getElem?_cons_zero, Option.some.injEq] at h
    subst h
    simp only [hidL, Nat.add_zero] at hne hc ⊢
    have : Nat.beq j0 i = false := by
      cases hb : Nat.beq j0 i
      · rfl
      · exact absurd (Nat.eq_of_beq_eq_true hb) hne
    rw [if_neg (by rw [this, hc]; simp)]
    exact List.mem_append_left _ hd
  | o0 :: os, j0, j + 1, o, d, h, hd, hne, hc => by
    have ih := hidL_mem (ms := ms) (i := i) (os := os) (j0 := j0 + 1) (j := j) (by simpa using h) hd (by omega) (by rw [show j0 + 1 + j = j0 + (j + 1) by omega]; exact hc)
    simp only [hidL]
    split
    · exact ih
    · exact List.mem_append_right _ ih

theorem allCmp_out {ms : List Nat} {i : Nat} : ∀ {os : List Oper} {j0 j : Nat} {o : Oper}, allCmp ms i j0 os = true → os[j]? = some o → j0 + j ≠ i → cmpB ms i (j0 + j) = true
  | [], j0, j, o, _, h, _ => by simp at h
  | o0 :: os, j0, 0, o, ha, h, hne => by
    simp only [allCmp, Bool.and_eq_true, Bool.or_eq_true, Nat.add_zero] at ha hne ⊢
    rcases ha.1 with h | h
    · exact absurd (Nat.eq_of_beq_eq_true h) hne
    · exact h
  | o0 :: os, j0, j + 1, o, ha, h, hne => by
    simp only [allCmp, Bool.and_eq_true] at ha
    have := allCmp_out (j0 := j0 + 1) (j := j) ha.2 (by simpa using h) (by omega)
    rw [show j0 + 1 + j = j0 + (j + 1) by omega] at this
    exact this

/-- What an operation does to the slots. -/
inductive Upd where
  | all (σ' : List Slot)
  | one (d : Nat) (s : Slot)
  | sto (k : Nat) (s : Slot)
  | mv (r k : Nat) (s : Slot)
  | gv (r d : Nat) (s : Slot)
  | no
def Upd.go : Upd → List Slot → List Slot
  | .all σ', _ => σ'
  | .one d s, σ => setS σ d s
  | .sto k s, σ => setV1 σ k s
  | .mv r k s, σ => setV1 (setS σ r .dead) k s
  | .gv r d s, σ => setS (setS σ r .dead) d s
  | .no, σ => σ
/-- The parts of what it does. -/
def Upd.bas : Upd → List Upd
  | .mv r k s => [.one r .dead, .sto k s]
  | .gv r d s => [.one r .dead, .one d s]
  | .no => []
  | u => [u]
theorem Upd.bas_go (u : Upd) (τ : List Slot) : u.go τ = u.bas.foldl (fun τ b => b.go τ) τ := by cases u <;> rfl
theorem bas_comm1 : ∀ (bs : List Upd) (a : Upd), (∀ b ∈ bs, ∀ τ, a.go (b.go τ) = b.go (a.go τ)) → ∀ τ, a.go (bs.foldl (fun τ b => b.go τ) τ) = bs.foldl (fun τ b => b.go τ) (a.go τ)
  | [], _, _, _ => rfl
  | b :: bs, a, h, τ => by
    simp only [List.foldl_cons]
    rw [bas_comm1 bs a (fun c hc => h c (List.mem_cons_of_mem _ hc)), h b (List.mem_cons_self ..)]
theorem bas_comm2 : ∀ (as bs : List Upd), (∀ a ∈ as, ∀ b ∈ bs, ∀ τ, a.go (b.go τ) = b.go (a.go τ)) → ∀ τ, as.foldl (fun τ b => b.go τ) (bs.foldl (fun τ b => b.go τ) τ) = bs.foldl (fun τ b => b.go τ) (as.foldl (fun τ b => b.go τ) τ)
  | [], _, _, _ => rfl
  | a :: as, bs, h, τ => by
    simp only [List.foldl_cons]
    rw [bas_comm1 bs a (h a (List.mem_cons_self ..)), bas_comm2 as bs (fun c hc => h c (List.mem_cons_of_mem _ hc))]
theorem Upd.comm {u v : Upd} (h : ∀ a ∈ u.bas, ∀ b ∈ v.bas, ∀ τ, a.go (b.go τ) = b.go (a.go τ)) (τ : List Slot) : u.go (v.go τ) = v.go (u.go τ) := by
  rw [u.bas_go, v.bas_go, v.bas_go, u.bas_go]
  exact bas_comm2 _ _ h τ

/-- It leaves no list that is not laid down. -/
def Upd.plain : Upd → Bool
  | .all _ => false
  | .one _ s => !s.isApp
  | .sto _ s => !s.isApp
  | .mv _ _ s => !s.isApp
  | .gv _ _ s => !s.isApp
  | .no => true

/-- The operations of L done, in the text's order. -/
def fo : List Upd → (Nat → Bool) → Nat → List Slot → List Slot
  | [], _, _, σ => σ
  | u :: us, L, i, σ => fo us L (i + 1) (if L i then u.go σ else σ)

theorem fo_congr : ∀ (us : List Upd) {L L' : Nat → Bool} (i : Nat) (σ : List Slot), (∀ j, i ≤ j → j < i + us.length → L j = L' j) → fo us L i σ = fo us L' i σ
  | [], _, _, _, _, _ => rfl
  | u :: us, L, L', i, σ, h => by
    simp only [fo]
    rw [h i (Nat.le_refl _) (by simp)]
    exact fo_congr us (i + 1) _ fun j h1 h2 => h j (by omega) (by simp at h2 ⊢; omega)

/-- An update that commutes with those behind it may come last. -/
theorem fo_last : ∀ (us : List Upd) {L : Nat → Bool} (i : Nat) (u : Upd) (σ : List Slot), (∀ j (hj : j < us.length), L (i + j) = true → ∀ τ, us[j].go (u.go τ) = u.go (us[j].go τ)) → fo us L i (u.go σ) = u.go (fo us L i σ)
  | [], _, _, _, _, _ => rfl
  | v :: us, L, i, u, σ, h => by
    simp only [fo]
    have ih := fo_last us (L := L) (i + 1) u
    have h' : ∀ j (hj : j < us.length), L (i + 1 + j) = true → ∀ τ, us[j].go (u.go τ) = u.go (us[j].go τ) := fun j hj hL τ => by
      have := h (j + 1) (by simpa using hj) (by rw [show i + (j + 1) = i + 1 + j by omega]; exact hL) τ
      simpa using this
    by_cases hL : L i = true
    · rw [if_pos hL, if_pos hL]
      have h0 := h 0 (by simp) (by simpa using hL) σ
      simp only [List.getElem_cons_zero] at h0
      rw [h0]
      exact ih _ h'
    · rw [if_neg hL, if_neg hL]
      exact ih _ h'

/-- One more operation done. -/
theorem fo_add : ∀ (us : List Upd) {L : Nat → Bool} (i j : Nat) (hj : j < us.length) (σ : List Slot), L (i + j) = false → (∀ k (hk : k < us.length), j < k → L (i + k) = true → ∀ τ, us[k].go (us[j].go τ) = us[j].go (us[k].go τ)) →
    fo us (fun k => L k || Nat.beq k (i + j)) i σ = us[j].go (fo us L i σ)
  | [], _, _, _, hj, _, _, _ => by simp at hj
  | u :: us, L, i, 0, hj, σ, hL, h => by
    simp only [fo, Nat.add_zero, List.getElem_cons_zero] at hL ⊢
    rw [if_pos (show (L i || Nat.beq i i) = true by simp), if_neg (show ¬ L i = true by rw [hL]; simp)]
    rw [fo_congr us (L' := L) (i + 1) _ fun k h1 h2 => by
      have : Nat.beq k i = false := by
        cases hb : Nat.beq k i
        · rfl
        · have := Nat.eq_of_beq_eq_true hb; omega
      rw [this, Bool.or_false]]
    refine fo_last us (i + 1) u σ fun k hk hLk τ => ?_
    have := h (k + 1) (by simpa using hk) (by omega) (by rw [show i + (k + 1) = i + 1 + k by omega]; exact hLk) τ
    simpa using this
  | u :: us, L, i, j + 1, hj, σ, hL, h => by
    simp only [fo, List.getElem_cons_succ]
    have hij : Nat.beq i (i + (j + 1)) = false := by
      cases hb : Nat.beq i (i + (j + 1))
      · rfl
      · have := Nat.eq_of_beq_eq_true hb; omega
    have e0 : (if (L i || Nat.beq i (i + (j + 1))) = true then u.go σ else σ) = if L i = true then u.go σ else σ := by
      rw [hij]
      simp
    rw [e0]
    have := fo_add us (L := L) (i + 1) j (by simpa using hj) (if L i = true then u.go σ else σ) (by rw [show i + 1 + j = i + (j + 1) by omega]; exact hL) fun k hk hjk hLk τ => by
      have := h (k + 1) (by simpa using hk) (by omega) (by rw [show i + (k + 1) = i + 1 + k by omega]; exact hLk) τ
      simpa using this
    rw [show i + 1 + j = i + (j + 1) by omega] at this
    exact this

/-- What is done of B first, and then the rest. -/
theorem fo_split : ∀ (us : List Upd) {M B : Nat → Bool} (i : Nat) (σ : List Slot), (∀ j, B j = true → M j = true) → (∀ c (hc : c < us.length) b (hb : b < us.length), c < b → M (i + c) = true → B (i + c) = false → B (i + b) = true → ∀ τ, us[b].go (us[c].go τ) = us[c].go (us[b].go τ)) →
    fo us M i σ = fo us (fun k => M k && !B k) i (fo us B i σ)
  | [], _, _, _, _, _, _ => rfl
  | u :: us, M, B, i, σ, hBM, h => by
    simp only [fo]
    have h' : ∀ c (hc : c < us.length) b (hb : b < us.length), c < b → M (i + 1 + c) = true → B (i + 1 + c) = false → B (i + 1 + b) = true → ∀ τ, us[b].go (us[c].go τ) = us[c].go (us[b].go τ) := fun c hc b hb hcb h1 h2 h3 τ => by
      have := h (c + 1) (by simpa using hc) (b + 1) (by simpa using hb) (by omega) (by rw [show i + (c + 1) = i + 1 + c by omega]; exact h1) (by rw [show i + (c + 1) = i + 1 + c by omega]; exact h2) (by rw [show i + (b + 1) = i + 1 + b by omega]; exact h3) τ
      simpa using this
    by_cases hB : B i = true
    · have hM := hBM i hB
      rw [if_pos hM, if_pos hB, fo_split us (B := B) (i + 1) _ hBM h']
      simp [hM, hB]
    · have hB' : B i = false := by simpa using hB
      rw [if_neg hB]
      by_cases hM : M i = true
      · rw [if_pos hM, fo_split us (B := B) (i + 1) _ hBM h']
        simp only [hM, hB', Bool.not_false, Bool.and_self, if_true]
        congr 1
        refine fo_last us (i + 1) u σ fun b hb hBb τ => ?_
        have := h 0 (by simp) (b + 1) (by simpa using hb) (by omega) (by simpa using hM) (by simpa using hB') (by rw [show i + (b + 1) = i + 1 + b by omega]; exact hBb) τ
        simpa using this
      · rw [if_neg hM, fo_split us (B := B) (i + 1) _ hBM h']
        have : M i = false := by simpa using hM
        simp [this]

/-- Slots written elsewhere. -/
theorem lk_setS {σ : List Slot} {d k : Nat} {s : Slot} (hk : k ≠ d) : lk (setS σ d s) k = killS d (lk σ k) := by
  have hmap : lk (σ.map (killS d)) k = killS d (lk σ k) := by
    simp only [lk, List.getD_eq_getElem?_getD, List.getElem?_map]
    cases σ[k]? <;> rfl
  rw [← hmap]
  have : ¬ d = k := fun e => hk e.symm
  simp [lk, setS, List.getD_eq_getElem?_getD, List.getElem?_set, this]

theorem lk_setV {σ : List Slot} {d k : Nat} {s : Slot} (hk : k ≠ d) : lk (setV1 σ d s) k = killV1 d (lk σ k) := by
  have hmap : lk (σ.map (killV1 d)) k = killV1 d (lk σ k) := by
    simp only [lk, List.getD_eq_getElem?_getD, List.getElem?_map]
    cases σ[k]? <;> rfl
  rw [← hmap]
  have : ¬ d = k := fun e => hk e.symm
  simp [lk, setV1, setV, List.getD_eq_getElem?_getD, List.getElem?_set, this]
theorem killV_id {d : Nat} {s : Slot} (h : d ∉ s.deps) : killV1 d s = s := by
  have h1 := killS_id h
  unfold killV1 killV
  split
  · split
    · rfl
    · split
      · rfl
      · exact h1
  · split
    · rfl
    · exact h1
  · split
    · rfl
    · exact h1
  · exact h1

theorem kill2_comm {f g : Slot → Slot} {s : Slot} (hf : f s = .dead ∨ f s = s) (hg : g s = .dead ∨ g s = s) (f0 : f .dead = .dead) (g0 : g .dead = .dead) : f (g s) = g (f s) := by
  rcases hf with hf | hf <;> rcases hg with hg | hg <;> rw [hf, hg] <;> simp [f0, g0, hf, hg]
theorem killS_or (d : Nat) (s : Slot) : killS d s = .dead ∨ killS d s = s := by
  rcases killS_cases d s with ⟨e, _⟩ | ⟨e, _⟩
  · exact .inr e
  · exact .inl e
theorem killV_or (d : Nat) (s : Slot) : killV1 d s = .dead ∨ killV1 d s = s := by
  rcases killV_cases d [.d] s with e | ⟨e, _⟩
  · exact .inl e
  · exact .inr e
theorem killS_dead (d : Nat) : killS d .dead = .dead := killS_id (by simp [Slot.deps])
theorem killV_dead (d : Nat) : killV1 d .dead = .dead := killV_id (by simp [Slot.deps])
theorem setSV_comm {d k : Nat} {t s : Slot} (hdk : d ≠ k) (h1 : k ∉ t.deps) (h2 : s.deps = []) (σ : List Slot) : setS (setV1 σ k s) d t = setV1 (setS σ d t) k s := by
  show _ = ((σ.map (killS d)).set d (killS d t) |>.map (killV1 k)).set k s
  show (((σ.map (killV1 k)).set k s).map (killS d)).set d (killS d t) = _
  rw [List.map_set, List.map_set, List.set_comm _ _ (fun e => hdk e.symm)]
  have hmap : (σ.map (killV1 k)).map (killS d) = (σ.map (killS d)).map (killV1 k) := by
    rw [List.map_map, List.map_map]
    congr 1
    funext x
    exact kill2_comm (killS_or d x) (killV_or k x) (killS_dead d) (killV_dead k)
  rw [hmap]
  have e1 : killS d s = s := killS_id (by simp [h2])
  have e2 : killV1 k (killS d t) = killS d t := by
    rcases killS_or d t with e | e
    · rw [e, killV_dead]
    · rw [e, killV_id h1]
  rw [e1, e2]
theorem setVV_comm {d k : Nat} {t s : Slot} (hdk : d ≠ k) (h1 : t.deps = []) (h2 : s.deps = []) (σ : List Slot) : setV1 (setV1 σ k s) d t = setV1 (setV1 σ d t) k s := by
  show (((σ.map (killV1 k)).set k s).map (killV1 d)).set d t = (((σ.map (killV1 d)).set d t).map (killV1 k)).set k s
  rw [List.map_set, List.map_set, List.set_comm _ _ (fun e => hdk e.symm)]
  have hmap : (σ.map (killV1 k)).map (killV1 d) = (σ.map (killV1 d)).map (killV1 k) := by
    rw [List.map_map, List.map_map]
    congr 1
    funext x
    exact kill2_comm (killV_or d x) (killV_or k x) (killV_dead d) (killV_dead k)
  rw [hmap]
  rw [killV_id (show d ∉ s.deps by simp [h2]), killV_id (show k ∉ t.deps by simp [h1])]

def NoApps (σ : List Slot) : Prop := ∀ j, (lk σ j).isApp = false
theorem noApps_out {σ : List Slot} (h : noApps σ = true) : NoApps σ := fun j => by
  have := lk_all h (by rfl) j
  simpa using this
theorem noApps_setS {σ : List Slot} (h : NoApps σ) {d : Nat} {s : Slot} (hs : s.isApp = false) : NoApps (setS σ d s) := by
  intro k
  by_cases hk : k = d
  · subst hk
    by_cases hl : k < σ.length
    · have : lk (setS σ k s) k = killS k s := by
        show (setS σ k s).getD k .dead = _
        rw [setS_get _ _ _ _ hl, if_pos rfl]
      rw [this]
      rcases killS_or k s with e | e <;> rw [e]
      · rfl
      · exact hs
    · have : lk (setS σ k s) k = .dead := by
        simp [lk, List.getD_eq_getElem?_getD, List.getElem?_eq_none (show (setS σ k s).length ≤ k by rw [setS_length]; omega)]
      rw [this]
      rfl
  · rw [lk_setS hk]
    rcases killS_or d (lk σ k) with e | e <;> rw [e]
    · rfl
    · exact h k
theorem noApps_setV {σ : List Slot} (h : NoApps σ) {d : Nat} {s : Slot} (hs : s.isApp = false) : NoApps (setV1 σ d s) := by
  intro k
  by_cases hk : k = d
  · subst hk
    by_cases hl : k < σ.length
    · have : lk (setV1 σ k s) k = s := by
        show (setV1 σ k s).getD k .dead = _
        rw [setV_get _ _ _ _ _ hl, if_pos rfl]
      rw [this]
      exact hs
    · have : lk (setV1 σ k s) k = .dead := by
        simp [lk, List.getD_eq_getElem?_getD, List.getElem?_eq_none (show (setV1 σ k s).length ≤ k by simp [setV1, setV]; omega)]
      rw [this]
      rfl
  · rw [lk_setV hk]
    rcases killV_or d (lk σ k) with e | e <;> rw [e]
    · rfl
    · exact h k
theorem fo_plain : ∀ (us : List Upd) {M : Nat → Bool} (i : Nat) (σ : List Slot), (∀ j (hj : j < us.length), M (i + j) = true → us[j].plain = true) → NoApps σ → NoApps (fo us M i σ)
  | [], _, _, _, _, h => h
  | u :: us, M, i, σ, hp, h => by
    simp only [fo]
    refine fo_plain us (i + 1) _ (fun j hj hM => by
      have := hp (j + 1) (by simpa using hj) (by rw [show i + (j + 1) = i + 1 + j by omega]; exact hM)
      simpa using this) ?_
    split
    · rename_i hM
      have h0 := hp 0 (by simp) (by simpa using hM)
      simp only [List.getElem_cons_zero] at h0
      cases u with
      | all σ' => simp [Upd.plain] at h0
      | one d s => exact noApps_setS h (by simpa [Upd.plain] using h0)
      | sto d s => exact noApps_setV h (by simpa [Upd.plain] using h0)
      | mv r k s => exact noApps_setV (noApps_setS h rfl) (by simpa [Upd.plain] using h0)
      | gv r d s => exact noApps_setS (noApps_setS h rfl) (by simpa [Upd.plain] using h0)
      | no => exact h
    · exact h

def InH (H : List Nat) (b : Upd) : Prop := ∃ d s, (b = .one d s ∨ b = .sto d s) ∧ d ∈ H
/-- One write into H. -/
theorem bas1_hid {H : List Nat} {b : Upd} (h : InH H b) (σ : List Slot) {k : Nat} (hk : k ∉ H) : ((∀ d ∈ (lk σ k).deps, d ∉ H) → lk (b.go σ) k = lk σ k) ∧ (lk (b.go σ) k = .dead ∨ lk (b.go σ) k = lk σ k) := by
  obtain ⟨d, s, e | e, hd⟩ := h
  · subst e
    have hkd : k ≠ d := fun e => hk (e ▸ hd)
    have hl := lk_setS (σ := σ) (s := s) hkd
    simp only [Upd.go]
    rw [hl]
    exact ⟨fun hdeps => killS_id fun hm => hdeps d hm hd, killS_or d _⟩
  · subst e
    have hkd : k ≠ d := fun e => hk (e ▸ hd)
    have hl := lk_setV (σ := σ) (s := s) hkd
    simp only [Upd.go]
    rw [hl]
    exact ⟨fun hdeps => killV_id fun hm => hdeps d hm hd, killV_or d _⟩
theorem hid_trans {H : List Nat} {a b c : Slot} (h1 : ((∀ d ∈ a.deps, d ∉ H) → b = a) ∧ (b = .dead ∨ b = a)) (h2 : ((∀ d ∈ b.deps, d ∉ H) → c = b) ∧ (c = .dead ∨ c = b)) : ((∀ d ∈ a.deps, d ∉ H) → c = a) ∧ (c = .dead ∨ c = a) := by
  refine ⟨fun h => ?_, ?_⟩
  · have e := h1.1 h
    subst e
    exact h2.1 h
  · rcases h2.2 with e | e
    · exact .inl e
    · rw [e]; exact h1.2
theorem bas_hid {H : List Nat} : ∀ (bs : List Upd) (σ : List Slot), (∀ b ∈ bs, InH H b) → ∀ {k : Nat}, k ∉ H → ((∀ d ∈ (lk σ k).deps, d ∉ H) → lk (bs.foldl (fun τ b => b.go τ) σ) k = lk σ k) ∧ (lk (bs.foldl (fun τ b => b.go τ) σ) k = .dead ∨ lk (bs.foldl (fun τ b => b.go τ) σ) k = lk σ k)
  | [], _, _, _, _ => ⟨fun _ => rfl, .inr rfl⟩
  | b :: bs, σ, h, k, hk => by
    simp only [List.foldl_cons]
    exact hid_trans (bas1_hid (h b (List.mem_cons_self ..)) σ hk) (bas_hid bs (b.go σ) (fun c hc => h c (List.mem_cons_of_mem _ hc)) hk)
/-- Behind writes into H alone: what does not hang on H is as it was; what is there was there. -/
theorem fo_hid {H : List Nat} : ∀ (us : List Upd) {M : Nat → Bool} (i : Nat) (σ : List Slot), (∀ j (hj : j < us.length), M (i + j) = true → ∀ b ∈ us[j].bas, InH H b) →
    ∀ k, k ∉ H → ((∀ d ∈ (lk σ k).deps, d ∉ H) → lk (fo us M i σ) k = lk σ k) ∧ (lk (fo us M i σ) k = .dead ∨ lk (fo us M i σ) k = lk σ k)
  | [], _, _, _, _, k, _ => ⟨fun _ => rfl, .inr rfl⟩
  | u :: us, M, i, σ, h, k, hk => by
    have h' : ∀ j (hj : j < us.length), M (i + 1 + j) = true → ∀ b ∈ us[j].bas, InH H b := fun j hj hM => by
      have := h (j + 1) (by simpa using hj) (by rw [show i + (j + 1) = i + 1 + j by omega]; exact hM)
      simpa using this
    simp only [fo]
    by_cases hM : M i = true
    · rw [if_pos hM]
      have h0 := h 0 (by simp) (by simpa using hM)
      simp only [List.getElem_cons_zero] at h0
      rw [u.bas_go]
      exact hid_trans (bas_hid u.bas σ h0 hk) (fo_hid us (i + 1) _ h' k hk)
    · rw [if_neg hM]
      exact fo_hid us (i + 1) σ h' k hk

end Go.Proofs.Ytaachifkgcdeoaa.Sy

namespace Go.Proofs.Ytaachifkgcdeoaa.Sy
open Go.RowKit
set_option linter.unusedSimpArgs false
set_option linter.unusedVariables false

theorem setV_len (σ : List Slot) (k : Nat) (s : Slot) : (setV1 σ k s).length = σ.length := by simp [setV1, setV]
theorem setVq_len (σ : List Slot) (k : Nat) (q : List Stp) (s : Slot) : (setV σ k q s).length = σ.length := by simp [setV]
theorem setS_len (σ : List Slot) (k : Nat) (s : Slot) : (setS σ k s).length = σ.length := by simp [setS]

theorem give_len {σ σ' : List Slot} {k d : Nat} {s : Slot} (h : giveS σ k d s = some σ') : σ'.length = σ.length := by
  unfold giveS at h
  split at h
  · cases h
  · split at h
    · obtain rfl := Option.some.inj h
      rw [setS_len, setS_len]
    · cases h

theorem stVal_len {tab : Tab} {T : TypeId} {σ σ1 : List Slot} {o : Operand} {v : TV} (h : stVal tab T σ o = some (v, σ1)) : σ1.length = σ.length := by
  unfold stVal at h
  split at h
  · simp only [Option.some.injEq, Prod.mk.injEq] at h
    rw [h.2]
  · split at h
    · split at h
      · simp only [Option.some.injEq, Prod.mk.injEq] at h
        rw [← h.2, setS_len]
      · split at h
        · simp only [Option.some.injEq, Prod.mk.injEq] at h
          rw [h.2]
        · cases h
    · cases h
  · cases h

theorem aStore_len {A : Alg} {tab : Tab} {T : TypeId} {σ σ' : List Slot} {x y : Operand} {obs : List Prop} (h : aStore A tab T σ x y = some (obs, σ')) : σ'.length = σ.length := by
  unfold aStore at h
  split at h
  case h_2 => cases h
  split at h
  case h_2 => cases h
  rename_i nv σ1 hv
  split at h
  case h_2 => cases h
  split at h
  case h_2 => cases h
  split at h
  case h_2 => cases h
  split at h
  case h_2 => cases h
  split at h
  case isFalse => cases h
  split at h
  case h_2 => cases h
  simp only [Option.some.injEq, Prod.mk.injEq] at h
  rw [← h.2, setVq_len, stVal_len hv]

theorem aApp_len {A : Alg} {tab : Tab} {σ σ' : List Slot} {T T' : TypeId} {x y : Operand} {d : Nat} {obs : List Prop} (h : aApp A tab σ T T' x y d = some (obs, σ')) : σ'.length = σ.length := by
  unfold aApp at h
  split at h
  case isFalse => cases h
  split at h
  case h_2 => cases h
  split at h
  case h_2 => cases h
  split at h
  case h_2 => cases h
  split at h
  case h_2 => cases h
  split at h
  case h_2 => cases h
  split at h
  case isFalse => cases h
  split at h
  case h_2 => cases h
  split at h
  case h_2 => cases h
  simp only [Option.some.injEq, Prod.mk.injEq] at h
  rw [← h.2]
  simp only [setS_len]

theorem take_len {σ σ' : List Slot} {k i d : Nat} (h : takeS σ k i d = some σ') : σ'.length = σ.length := by
  unfold takeS at h
  split at h
  case h_2 => cases h
  split at h
  case h_2 => cases h
  split at h
  · cases h
  split at h
  case h_2 => cases h
  obtain rfl := Option.some.inj h
  simp only [setS_len]

theorem stepX0_len {A : Alg} {tab : Tab} {σ σ' : List Slot} {o : Oper} {obs : List Prop} (h : stepX0 A tab σ o = some (obs, σ')) : σ'.length = σ.length := by
  unfold stepX0 at h
  split at h
  · cases h
  split at h
  · split at h
    case h_2 => cases h
    exact aApp_len h
  · split at h
    case h_2 => cases h
    split at h
    case h_2 => cases h
    split at h
    case h_2 => cases h
    split at h
    case isFalse => cases h
    split at h
    case h_2 => cases h
    rename_i ht
    simp only [Option.some.injEq, Prod.mk.injEq] at h
    rw [← h.2]
    exact take_len ht
  · split at h
    case h_2 => cases h
    split at h
    case h_2 => cases h
    split at h
    case isFalse => cases h
    split at h
    case h_2 => cases h
    rename_i hg
    simp only [Option.some.injEq, Prod.mk.injEq] at h
    rw [← h.2]
    exact give_len hg
  · split at h
    case h_2 => cases h
    split at h
    case h_2 => cases h
    split at h
    case h_2 => cases h
    rename_i hg
    simp only [Option.some.injEq, Prod.mk.injEq] at h
    rw [← h.2]
    exact give_len hg
  · split at h
    case h_2 => cases h
    exact aStore_len h
  · cases h

theorem stepX_len {A : Alg} {tab : Tab} {σ σ' : List Slot} {o : Oper} {obs : List Prop} (h : stepX A tab σ o = some (obs, σ')) : σ'.length = σ.length := stepX_len' (fun h => stepX0_len h) h

theorem aAppP_app {A : Alg} {tab : Tab} {look : Nat → Slot} {o : Oper} {obs : List Prop} {k : Nat} {s : Slot} (h : aAppP A tab look o = some (obs, k, s)) : s.isApp = true := by
  unfold aAppP at h
  split at h
  case h_1 => cases h
  split at h
  case h_2 => cases h
  split at h
  case isFalse => cases h
  split at h
  case h_2 => cases h
  split at h
  case h_2 => cases h
  split at h
  case h_2 => cases h
  split at h
  case h_2 => cases h
  split at h
  case h_2 => cases h
  split at h
  case isFalse => cases h
  split at h
  case h_2 => cases h
  split at h
  case isFalse => cases h
  split at h
  case h_2 => cases h
  split at h
  case h_2 => cases h
  simp only [Option.some.injEq, Prod.mk.injEq] at h
  rw [← h.2.2]
  rfl

def Good (tab : Tab) (specs : Specs) (ops : List Oper) (ms : List Nat) (i : Nat) (o : Oper) (τ : List Slot) (u : Upd) (pl : Prop) : Prop :=
  (∃ obs σ', allCmp ms i 0 ops = true ∧ stepX real0 tab τ o = some (obs, σ') ∧ obsAll obs ∧ u = .all σ') ∨
  (∃ obs s, evL real0 tab specs ops (maskS (hidL ms i ops 0 ops) τ) o = some (obs, s) ∧ obsAll obs ∧ s.isApp = false ∧
    ((∃ d, o.dst = some d ∧ d < τ.length ∧ d ∉ hidL ms i ops 0 ops ∧ (∀ e ∈ s.deps, e ∉ hidL ms i ops 0 ops) ∧ u = .one d s) ∨ (o.dst = none ∧ u = .no))) ∨
  (∃ k s, stoD real0 tab (maskS (hidL ms i ops 0 ops) τ) o = some (k, s) ∧ k < τ.length ∧ k ∉ hidL ms i ops 0 ops ∧ u = .sto k s) ∨
  (∃ r k s, mvD real0 tab (maskS (hidL ms i ops 0 ops) τ) o = some (r, k, s) ∧ r < τ.length ∧ k < τ.length ∧ k ∉ hidL ms i ops 0 ops ∧ r ∉ hidL ms i ops 0 ops ∧ r ∈ dstL ops o ∧ u = .mv r k s) ∨
  (∃ obs r s d, gvD real0 tab (maskS (hidL ms i ops 0 ops) τ) o = some (obs, r, s) ∧ obsAll obs ∧ o.dst = some d ∧ d < τ.length ∧ d ∉ hidL ms i ops 0 ops ∧ r ∉ hidL ms i ops 0 ops ∧ r ∈ dstL ops o ∧ u = .gv r d s) ∨
  (∃ obs k s d, pl ∧ aAppP real0 tab (maskS (hidL ms i ops 0 ops) τ) o = some (obs, k, s) ∧ obsAll obs ∧ o.dst = some d ∧ d < τ.length ∧ d ∉ hidL ms i ops 0 ops ∧ (∀ e ∈ s.deps, e ∉ hidL ms i ops 0 ops) ∧ u = .one d s)
theorem Good.mono {tab : Tab} {specs : Specs} {ops : List Oper} {ms : List Nat} {i : Nat} {o : Oper} {τ : List Slot} {u : Upd} {pl pl' : Prop} (hp : pl → pl') (h : Good tab specs ops ms i o τ u pl) : Good tab specs ops ms i o τ u pl' := by
  rcases h with h | h | h | h | h | ⟨obs, k, s, d, h0, h⟩
  · exact .inl h
  · exact .inr (.inl h)
  · exact .inr (.inr (.inl h))
  · exact .inr (.inr (.inr (.inl h)))
  · exact .inr (.inr (.inr (.inr (.inl h))))
  · exact .inr (.inr (.inr (.inr (.inr ⟨obs, k, s, d, hp h0, h⟩))))

theorem stoD_inv {A : Alg} {tab : Tab} {look : Nat → Slot} {o : Oper} {k : Nat} {s : Slot} (h : stoD A tab look o = some (k, s)) : o.guard = none ∧ o.dst = none ∧ dstS o = some k ∧ s.deps = [] ∧
    ∃ T y t m' x' x, o.op = .store T (.tmp k) y ∧ tyT tab T = some t ∧ look k = .val (.box t) (.b m') x' ∧ valD tab T t look y = some x ∧ s = .val (.box t) (.b .n) x := by
  unfold stoD at h
  split at h
  case h_1 => cases h
  rename_i hg
  split at h
  case h_1 => cases h
  rename_i hd
  split at h
  case h_2 => cases h
  rename_i T k' y ho
  split at h
  case h_2 => cases h
  rename_i t ht
  split at h
  case h_2 => cases h
  rename_i t' m' x' hk
  split at h
  case isFalse => cases h
  rename_i hb
  split at h
  case h_2 => cases h
  rename_i x hx
  simp only [Option.some.injEq, Prod.mk.injEq] at h
  obtain ⟨rfl, rfl⟩ := h
  obtain rfl := PT.eq_of_beq hb
  exact ⟨hg, hd, by simp [dstS, hd, ho], rfl, T, y, t', m', x', x, ho, ht, hk, hx, rfl⟩

theorem stoD_store {tab : Tab} {look : Nat → Slot} {σ : List Slot} (hlk : Looks look σ) {o : Oper} {k : Nat} {s : Slot} (h : stoD real0 tab look o = some (k, s)) : stepX real0 tab σ o = some ([], setV1 σ k s) := by
  obtain ⟨hg, hd, _, _, T, y, t, m', x', x, ho, ht, hk, hx, rfl⟩ := stoD_inv h
  have hsee : ∀ j u, look j = u → u ≠ .dead → lk σ j = u := fun j u e hne => by
    rcases hlk j with e' | e'
    · rw [e] at e'; exact absurd e' hne
    · exact e'.symm.trans e
  have hk' := hsee k _ hk (by simp)
  have hxo : opdOf tab 0 (.tmp k) = some (.t k) := rfl
  have hv : ∃ v : TV, stVal tab T σ y = some (v, σ) ∧ v.m = .n ∧ PT.beq v.t t = true ∧ castT v.t t v.x = some x := by
    unfold valD at hx
    split at hx
    · rename_i v hy
      split at hx
      case isFalse => cases hx
      rename_i hm
      obtain ⟨e, he⟩ := castT_some hx
      refine ⟨v, by simp only [stVal, hy], Md.eq_of_beq hm, ?_, hx⟩
      unfold castT at hx
      split at hx
      · assumption
      · cases hx
    · rename_i j hy
      split at hx
      case h_2 => cases hx
      rename_i t2 m2 x2 hj
      split at hx
      case isTrue => cases hx
      rename_i hno
      split at hx
      case isFalse => cases hx
      rename_i hp
      refine ⟨⟨t2, .n, x2⟩, ?_, rfl, ?_, hx⟩
      · simp only [stVal, hy, hsee j _ hj (by simp)]
        rw [if_neg hno, if_pos hp]
      · unfold castT at hx
        split at hx
        · assumption
        · cases hx
    · cases hx
  obtain ⟨v, h1, h2, h3, h4⟩ := hv
  refine stepX_of0 ?_
  simp only [stepX0, hg, hd, ho, aStore, ht, h1, hxo]
  have ha : adrS (lk σ) (.t k) (opd (lk σ) [] (.t k)) = .ref k [.d] := by
    simp only [adrS, hk']
  have hb : PT.beq t t = true := by
    obtain ⟨e, _⟩ := castT_some h4
    obtain ⟨vt, vm, vx⟩ := v
    dsimp only at e h3
    subst e
    exact h3
  simp only [ha, hk', getP, hb, h3, Bool.and_self, if_true, setP, h4, h2]

theorem mvD_inv {A : Alg} {tab : Tab} {look : Nat → Slot} {o : Oper} {r k : Nat} {s : Slot} (h : mvD A tab look o = some (r, k, s)) : o.guard = none ∧ o.dst = none ∧ dstS o = some k ∧ s.deps = [] ∧ s.isApp = false ∧ k ≠ r ∧
    ∃ (T : TypeId) (j : Nat) (t : PT) (m' : Md) (x' : t.den) (nv : TV) (x : t.den), o.op = .store T (.tmp k) (.tmp j) ∧ tyT tab T = some t ∧ look k = .val (.box t) (.b m') x' ∧ castT nv.t t nv.x = some x ∧ s = .val (.box t) (.b nv.m) x ∧
      ((r = j ∧ look j = .val nv.t nv.m nv.x ∧ nv.m.owned = true) ∨ (look j = .bor r [] ∧ look r = .val nv.t nv.m nv.x ∧ nv.m.owned = true) ∨ (look j = .bor r [.d] ∧ look r = .val (.box nv.t) (.b nv.m) nv.x)) := by
  unfold mvD at h
  split at h
  case h_1 => cases h
  rename_i hg
  split at h
  case h_1 => cases h
  rename_i hd
  split at h
  case h_2 => cases h
  rename_i T k' j ho
  split at h
  case h_2 => cases h
  rename_i t ht
  split at h
  case h_2 => cases h
  rename_i t' m' x' hk
  split at h
  case isFalse => cases h
  rename_i hb
  split at h
  case h_2 => cases h
  rename_i r' nv hsrc
  split at h
  case isTrue => cases h
  rename_i hne
  split at h
  case h_2 => cases h
  rename_i x hx
  simp only [Option.some.injEq, Prod.mk.injEq] at h
  obtain ⟨rfl, rfl, rfl⟩ := h
  obtain rfl := PT.eq_of_beq hb
  refine ⟨hg, hd, by simp [dstS, hd, ho], rfl, rfl, fun e => hne (by rw [e]; simp), T, j, t', m', x', nv, x, ho, ht, hk, hx, rfl, ?_⟩
  split at hsrc
  · rename_i t2 m2 x2 hj
    split at hsrc
    case isFalse => cases hsrc
    rename_i hown
    simp only [Option.some.injEq, Prod.mk.injEq] at hsrc
    obtain ⟨rfl, rfl⟩ := hsrc
    exact .inl ⟨rfl, hj, hown⟩
  · rename_i r2 hj
    split at hsrc
    case h_2 => cases hsrc
    rename_i t2 m2 x2 hr
    split at hsrc
    case isFalse => cases hsrc
    rename_i hown
    simp only [Option.some.injEq, Prod.mk.injEq] at hsrc
    obtain ⟨rfl, rfl⟩ := hsrc
    exact .inr (.inl ⟨hj, hr, hown⟩)
  · rename_i r2 hj
    split at hsrc
    case h_2 => cases hsrc
    rename_i t2 m2 x2 hr
    simp only [Option.some.injEq, Prod.mk.injEq] at hsrc
    obtain ⟨rfl, rfl⟩ := hsrc
    exact .inr (.inr ⟨hj, hr⟩)
  · cases hsrc

theorem mvD_store {tab : Tab} {look : Nat → Slot} {σ : List Slot} (hlk : Looks look σ) {o : Oper} {r k : Nat} {s : Slot} (h : mvD real0 tab look o = some (r, k, s)) (hr : r < σ.length) (hk0 : k < σ.length) : ∃ T x y, o.guard = none ∧ o.dst = none ∧ o.op = .store T x y ∧ aStoreX real0 tab T σ x y = some ([], setV1 (setS σ r .dead) k s) := by
  obtain ⟨hg, hd, _, _, _, hne, T, j, t, m', x', nv, x, ho, ht, hk, hx, rfl, hsrc⟩ := mvD_inv h
  have hsee : ∀ j u, look j = u → u ≠ .dead → lk σ j = u := fun j u e hn => by
    rcases hlk j with e' | e'
    · rw [e] at e'; exact absurd e' hn
    · exact e'.symm.trans e
  have hk' := hsee k _ hk (by simp)
  refine ⟨T, .tmp k, .tmp j, hg, hd, ho, ?_⟩
  have hty : PT.beq nv.t t = true := by
    unfold castT at hx
    split at hx
    · assumption
    · cases hx
  have htk : takeO tab T σ (.tmp j) = some (nv, setS σ r .dead) := by
    have hjo : opdOf tab T (.tmp j) = some (.t j) := rfl
    rcases hsrc with ⟨rfl, hj, hown⟩ | ⟨hj, hr', hown⟩ | ⟨hj, hr'⟩
    · simp only [takeO, hjo, hsee _ _ hj (by simp), hown, if_true]
    · simp only [takeO, hjo, hsee _ _ hj (by simp), hsee _ _ hr' (by simp), hown, if_true]
    · simp only [takeO, hjo, hsee _ _ hj (by simp), hsee _ _ hr' (by simp)]
  have hk1 : lk (setS σ r .dead) k = .val (.box t) (.b m') x' := by
    rw [lk_setS hne, hk', killS_id (by simp [Slot.deps])]
  have hxo : opdOf tab 0 (.tmp k) = some (.t k) := rfl
  have ha : adrS (lk (setS σ r .dead)) (.t k) (opd (lk (setS σ r .dead)) [] (.t k)) = .ref k [.d] := by
    simp only [adrS, hk1]
  have hb : PT.beq t t = true := by
    obtain ⟨e, _⟩ := castT_some hx
    obtain ⟨vt, vm, vx⟩ := nv
    dsimp only at e hty
    subst e
    exact hty
  simp only [aStoreX, ht, htk, hxo, ha, hk1, getP, hb, hty, Bool.and_self, if_true, setP, hx]

theorem fo_none : ∀ (us : List Upd) {L : Nat → Bool} (i : Nat) (σ : List Slot), (∀ j, i ≤ j → L j = false) → fo us L i σ = σ
  | [], _, _, _, _ => rfl
  | u :: us, L, i, σ, h => by
    simp only [fo]
    rw [if_neg (by rw [h i (Nat.le_refl _)]; simp)]
    exact fo_none us (i + 1) σ fun j hj => h j (by omega)

theorem blt_iff {a b : Nat} : Nat.blt a b = true ↔ a < b := ⟨fun h => Nat.lt_of_succ_le (Nat.le_of_ble_eq_true h), fun h => Nat.ble_eq_true_of_le h⟩

theorem evD_out {tab : Tab} {specs : Specs} {ops : List Oper} {ms : List Nat} {K : List Slot → Prop} : ∀ (os : List Oper) (na : Bool) (i : Nat) (σ : List Slot), evD real0 tab specs ops ms na i os σ K →
    ∃ us : List Upd, us.length = os.length ∧ (∀ j (hj : j < os.length) (hu : j < us.length), Good tab specs ops ms (i + j) os[j] (fo us (fun k => Nat.blt k (i + j)) i σ) us[j] (na = true ∧ ∀ k (hk : k < us.length), k < j → us[k].plain = true)) ∧ K (fo us (fun _ => true) i σ)
  | [], na, i, σ, h => ⟨[], rfl, fun j hj => by simp at hj, h⟩
  | o :: os, na, i, σ, h => by
    have key : ∀ (u : Upd) (na' : Bool), (na' = true → na = true ∧ u.plain = true) → Good tab specs ops ms i o σ u (na = true) → evD real0 tab specs ops ms na' (i + 1) os (u.go σ) K → ∃ us : List Upd, us.length = (o :: os).length ∧
        (∀ j (hj : j < (o :: os).length) (hu : j < us.length), Good tab specs ops ms (i + j) (o :: os)[j] (fo us (fun k => Nat.blt k (i + j)) i σ) us[j] (na = true ∧ ∀ k (hk : k < us.length), k < j → us[k].plain = true)) ∧ K (fo us (fun _ => true) i σ) := by
      intro u na' hna hu hr
      obtain ⟨us, h1, h2, h3⟩ := evD_out os na' (i + 1) (u.go σ) hr
      refine ⟨u :: us, by simp [h1], fun j hj hju => ?_, ?_⟩
      · cases j with
        | zero =>
          rw [fo_none (u :: us) i σ fun j hj => by
            cases hb : Nat.blt j (i + 0)
            · rfl
            · have := blt_iff.1 hb; omega]
          exact hu.mono fun h => ⟨h, fun k hk hk0 => absurd hk0 (Nat.not_lt_zero k)⟩
        | succ j =>
          have := h2 j (by simpa using hj) (by simpa using hju)
          simp only [fo, List.getElem_cons_succ]
          rw [if_pos (blt_iff.2 (by omega))]
          rw [show i + (j + 1) = i + 1 + j by omega]
          refine this.mono fun ⟨h4, h5⟩ => ⟨(hna h4).1, fun k hk hkj => ?_⟩
          cases k with
          | zero => exact (hna h4).2
          | succ k => exact h5 k (by simpa using hk) (by omega)
      · simp only [fo, if_true]
        exact h3
    simp only [evD] at h
    split at h
    · rename_i obs σ' hs
      split at hs
      case isFalse => cases hs
      rename_i ha
      obtain ⟨hobs, h⟩ := conjL_out h
      exact key (.all σ') false (fun h => by cases h) (.inl ⟨obs, σ', ha, hs, hobs, rfl⟩) h
    · split at h
      · rename_i k s hs
        split at h
        case h_2 => cases h
        rename_i _ hkl
        split at h
        case isTrue => cases h
        rename_i hH
        obtain ⟨_, _, _, _, _, _, _, _, _, _, _, _, _, _, hsv⟩ := stoD_inv hs
        exact key (.sto k s) na (fun h => ⟨h, by rw [hsv]; rfl⟩) (.inr (.inr (.inl ⟨k, s, hs, (List.getElem?_eq_some_iff.1 hkl).1, fun hm => by rw [inL_iff.2 hm] at hH; exact hH rfl, rfl⟩))) h
      split at h
      · rename_i r k s hs
        split at h
        case h_2 => cases h
        rename_i _ hkl
        split at h
        case h_2 => cases h
        rename_i _ hrl
        split at h
        case isTrue => cases h
        rename_i hH
        simp only [Bool.or_eq_true, not_or, Bool.not_eq_true, Bool.not_eq_false'] at hH
        obtain ⟨_, _, _, _, hap, _⟩ := mvD_inv hs
        refine key (.mv r k s) na (fun h => ⟨h, by simp [Upd.plain, hap]⟩) (.inr (.inr (.inr (.inl ⟨r, k, s, hs, (List.getElem?_eq_some_iff.1 hrl).1, (List.getElem?_eq_some_iff.1 hkl).1, fun hm => ?_, fun hm => ?_, inL_iff.1 hH.2, rfl⟩)))) h
        · rw [inL_iff.2 hm] at hH; cases hH.1.1
        · rw [inL_iff.2 hm] at hH; cases hH.1.2
      split at h
      · rename_i obs r s hs
        split at h
        case h_2 => cases h
        rename_i d hd
        split at h
        case h_2 => cases h
        rename_i _ hdl
        split at h
        case h_2 => cases h
        rename_i _ hrl
        split at h
        case isTrue => cases h
        rename_i hH
        simp only [Bool.or_eq_true, not_or, Bool.not_eq_true, Bool.not_eq_false'] at hH
        obtain ⟨hobs, h⟩ := conjL_out h
        obtain ⟨_, hap, _⟩ := gvD_inv hs
        refine key (.gv r d s) na (fun h => ⟨h, by simp [Upd.plain, hap]⟩) (.inr (.inr (.inr (.inr (.inl ⟨obs, r, s, d, hs, hobs, hd, (List.getElem?_eq_some_iff.1 hdl).1, fun hm => ?_, fun hm => ?_, inL_iff.1 hH.2, rfl⟩))))) h
        · rw [inL_iff.2 hm] at hH; cases hH.1.1
        · rw [inL_iff.2 hm] at hH; cases hH.1.2
      split at h
      · rename_i obs k s hs
        split at h
        case h_2 => cases h
        rename_i d hd
        split at h
        case h_2 => cases h
        rename_i _ hdl
        split at h
        case isTrue => cases h
        rename_i hH
        simp only [Bool.or_eq_true, not_or, Bool.not_eq_true] at hH
        cases na with
        | false => exact h.elim
        | true =>
          dsimp only at h
          obtain ⟨hobs, h⟩ := conjL_out h
          refine key (.one d s) false (fun h => by cases h) (.inr (.inr (.inr (.inr (.inr ⟨obs, k, s, d, rfl, hs, hobs, hd, (List.getElem?_eq_some_iff.1 hdl).1, fun hm => ?_, fun e he hm => ?_, rfl⟩))))) h
          · rw [inL_iff.2 hm] at hH
            cases hH.1
          · have := List.any_eq_false.1 hH.2 e he
            rw [inL_iff.2 hm] at this
            exact this rfl
      split at h
      case h_2 => cases h
      rename_i obs s hs
      split at h
      case isTrue => exact h.elim
      rename_i hna
      have hna : s.isApp = false := by simpa using hna
      split at h
      · rename_i d hd
        split at h
        case h_2 => cases h
        rename_i _ hdl
        split at h
        case isTrue => cases h
        rename_i hH
        simp only [Bool.or_eq_true, not_or, Bool.not_eq_true] at hH
        obtain ⟨hobs, h⟩ := conjL_out h
        refine key (.one d s) na (fun h => ⟨h, by simp [Upd.plain, hna]⟩) (.inr (.inl ⟨obs, s, hs, hobs, hna, .inl ⟨d, hd, (List.getElem?_eq_some_iff.1 hdl).1, fun hm => ?_, fun e he hm => ?_, rfl⟩⟩)) h
        · rw [inL_iff.2 hm] at hH
          cases hH.1
        · have := List.any_eq_false.1 hH.2 e he
          rw [inL_iff.2 hm] at this
          exact this rfl
      · rename_i hd
        obtain ⟨hobs, h⟩ := conjL_out h
        exact key .no na (fun h => ⟨h, rfl⟩) (.inr (.inl ⟨obs, s, hs, hobs, hna, .inr ⟨hd, rfl⟩⟩)) h

theorem fo_len {n : Nat} : ∀ (us : List Upd) {L : Nat → Bool} (i : Nat) (σ : List Slot), σ.length = n → (∀ j (hj : j < us.length) σ', us[j] = .all σ' → σ'.length = n) → (fo us L i σ).length = n
  | [], _, _, _, h, _ => h
  | u :: us, L, i, σ, h, hu => by
    simp only [fo]
    refine fo_len us (i + 1) _ ?_ fun j hj σ' e => hu (j + 1) (by simpa using hj) σ' (by simpa using e)
    split
    · cases hue : u with
      | all σ' => exact hu 0 (by simp) σ' (by simpa using hue)
      | one d s => simp only [Upd.go]; rw [setS_len]; exact h
      | sto d s => simp only [Upd.go]; rw [setV_len]; exact h
      | mv r k s => simp only [Upd.go]; rw [setV_len, setS_len]; exact h
      | gv r d s => simp only [Upd.go]; rw [setS_len, setS_len]; exact h
      | no => exact h
    · exact h

section
variable {E : Env} {tab : Tab} {specs : Specs} {ops : Array Oper} {ms : List Nat} {us : List Upd} {σ0 : List Slot}

theorem good_len {pl : Nat → Prop} (hl : us.length = ops.toList.length) (hg : ∀ j (hj : j < ops.toList.length) (hu : j < us.length), Good tab specs ops.toList ms (0 + j) ops.toList[j] (fo us (fun k => Nat.blt k (0 + j)) 0 σ0) us[j] (pl j)) : ∀ j (hj : j < us.length) σ', us[j] = .all σ' → σ'.length = σ0.length := by
  intro j
  induction j using Nat.strongRecOn with
  | _ j ih =>
    intro hj σ' e
    rcases hg j (by omega) hj with ⟨obs, σ2, h1, h2, h3, h4⟩ | ⟨obs, s, _, _, _, ⟨d, _, _, _, _, h4⟩ | ⟨_, h4⟩⟩ | ⟨k, s, _, _, _, h4⟩ | ⟨r, k, s, _, _, _, _, _, _, h4⟩ | ⟨obs, r, s, d, _, _, _, _, _, _, _, h4⟩ | ⟨obs, k, s, d, _, _, _, _, _, _, _, h4⟩
    · rw [e] at h4
      simp only [Upd.all.injEq] at h4
      subst h4
      rw [stepX_len h2]
      -- the operations before j
      have h5 : fo us (fun k => Nat.blt k (0 + j)) 0 σ0 = fo (us.take j) (fun k => Nat.blt k (0 + j)) 0 σ0 := by
        have key : ∀ (us : List Upd) (i j : Nat) (σ : List Slot), fo us (fun k => Nat.blt k (i + j)) i σ = fo (us.take j) (fun k => Nat.blt k (i + j)) i σ := by
          intro us
          induction us with
          | nil => intro i j σ; simp [fo]
          | cons u us ihu =>
            intro i j σ
            cases j with
            | zero => rw [fo_none _ i σ (fun k hk => by
                cases hb : Nat.blt k (i + 0)
                · rfl
                · have := blt_iff.1 hb; omega)]; rfl
            | succ j =>
              simp only [List.take_succ_cons, fo]
              rw [show i + (j + 1) = i + 1 + j by omega]
              exact ihu (i + 1) j _
        exact key us 0 j σ0
      rw [h5]
      refine fo_len (us.take j) 0 σ0 rfl fun k hk σ3 e3 => ?_
      have hk' : k < j := by
        rw [List.length_take] at hk
        omega
      rw [List.getElem_take] at e3
      exact ih k hk' (by omega) σ3 e3
    · rw [e] at h4; cases h4
    · rw [e] at h4; cases h4
    · rw [e] at h4; cases h4
    · rw [e] at h4; cases h4
    · rw [e] at h4; cases h4
    · rw [e] at h4; cases h4

/-- What the operation writes, if it has no fixed place. -/
theorem good_upd {ops : List Oper} {i : Nat} {o : Oper} {τ : List Slot} {u : Upd} {pl : Prop} (h : Good tab specs ops ms i o τ u pl) : (allCmp ms i 0 ops = true) ∨ ∀ b ∈ u.bas, ∃ d s, d ∈ dstL ops o ∧ d ∉ hidL ms i ops 0 ops ∧
    ((b = .one d s ∧ ∀ e ∈ s.deps, e ∉ hidL ms i ops 0 ops) ∨ (b = .sto d s ∧ s.deps = [])) := by
  rcases h with ⟨_, _, h, _⟩ | ⟨_, s, _, _, _, ⟨d, hd, _, h1, h2, rfl⟩ | ⟨_, rfl⟩⟩ | ⟨k, s, h1, _, h2, rfl⟩ | ⟨r, k, s, h1, _, _, h2, h3, h4, rfl⟩ | ⟨_, r, s, d, h1, _, hd, _, h2, h3, h4, rfl⟩ | ⟨_, k, s, d, _, _, _, hd, _, h1, h2, rfl⟩
  · exact .inl h
  · refine .inr fun b hb => ?_
    rw [List.mem_singleton.1 hb]
    exact ⟨d, s, dstS_mem (by simp [dstS, hd]), h1, .inl ⟨rfl, h2⟩⟩
  · exact .inr fun b hb => by cases hb
  · refine .inr fun b hb => ?_
    rw [List.mem_singleton.1 hb]
    obtain ⟨_, _, h4, h5, _⟩ := stoD_inv h1
    exact ⟨k, s, dstS_mem h4, h2, .inr ⟨rfl, h5⟩⟩
  · refine .inr fun b hb => ?_
    obtain ⟨_, _, h5, h6, _⟩ := mvD_inv h1
    simp only [Upd.bas, List.mem_cons, List.not_mem_nil, or_false] at hb
    rcases hb with rfl | rfl
    · exact ⟨r, .dead, h4, h3, .inl ⟨rfl, fun e he => by simp [Slot.deps] at he⟩⟩
    · exact ⟨k, s, dstS_mem h5, h2, .inr ⟨rfl, h6⟩⟩
  · refine .inr fun b hb => ?_
    obtain ⟨_, _, h6, _⟩ := gvD_inv h1
    simp only [Upd.bas, List.mem_cons, List.not_mem_nil, or_false] at hb
    rcases hb with rfl | rfl
    · exact ⟨r, .dead, h4, h3, .inl ⟨rfl, fun e he => by simp [Slot.deps] at he⟩⟩
    · exact ⟨d, s, dstS_mem (by simp [dstS, hd]), h2, .inl ⟨rfl, fun e he => by rw [h6] at he; cases he⟩⟩
  · refine .inr fun b hb => ?_
    rw [List.mem_singleton.1 hb]
    exact ⟨d, s, dstS_mem (by simp [dstS, hd]), h1, .inl ⟨rfl, h2⟩⟩

theorem good_comm {pl : Nat → Prop} (hl : us.length = ops.toList.length) (hg : ∀ j (hj : j < ops.toList.length) (hu : j < us.length), Good tab specs ops.toList ms (0 + j) ops.toList[j] (fo us (fun k => Nat.blt k (0 + j)) 0 σ0) us[j] (pl j)) {b c : Nat} (hb : b < us.length) (hc : c < us.length) (hbc : b ≠ c) (hcmp : cmpB ms b c = false) :
    ∀ τ, us[b].go (us[c].go τ) = us[c].go (us[b].go τ) := by
  have hcmp' : cmpB ms c b = false := by unfold cmpB at hcmp ⊢; rw [Bool.or_comm]; exact hcmp
  have hob : ops.toList[b]? = some (ops.toList[b]'(by omega)) := List.getElem?_eq_getElem _
  have hoc : ops.toList[c]? = some (ops.toList[c]'(by omega)) := List.getElem?_eq_getElem _
  rcases good_upd (hg b (by omega) hb) with h1 | hB
  · have := allCmp_out (j0 := 0) (j := c) h1 hoc (by omega)
    simp only [Nat.zero_add] at this
    rw [hcmp] at this
    cases this
  rcases good_upd (hg c (by omega) hc) with h1 | hC
  · have := allCmp_out (j0 := 0) (j := b) h1 hob (by omega)
    simp only [Nat.zero_add] at this
    rw [hcmp'] at this
    cases this
  refine Upd.comm fun u hu v hv τ => ?_
  obtain ⟨d, s, hd, hdH, hs⟩ := hB u hu
  obtain ⟨d', s', hd', hdH', hs'⟩ := hC v hv
  have m1 := hidL_mem (ms := ms) (i := b) (j0 := 0) hoc hd' (by omega) (by simpa using hcmp)
  have m2 := hidL_mem (ms := ms) (i := c) (j0 := 0) hob hd (by omega) (by simpa using hcmp')
  simp only [Nat.zero_add] at hdH hs hdH' hs'
  have hne : d' ≠ d := fun e0 => hdH' (by rw [e0]; exact m2)
  rcases hs with ⟨e, hs⟩ | ⟨e, hs⟩ <;> rcases hs' with ⟨e', hs'⟩ | ⟨e', hs'⟩ <;> rw [e, e']
  · exact setS_comm hne (fun hm => hs' d hm m2) (fun hm => hs d' hm m1) τ
  · exact setSV_comm (fun e => hne e.symm) (fun hm => hs d' hm m1) hs' τ
  · exact (setSV_comm hne (fun hm => hs' d hm m2) hs τ).symm
  · exact setVV_comm (fun e => hne e.symm) hs hs' τ
theorem drawn_state {σ : List Slot} {a : Act} {w : World} {fl : List Nat} {n : Nat} (h : RepSt E σ a w fl) : RepSt E σ a { w with drawn := n } fl :=
  grow_state h (fun _ _ => rfl) (h.below.trans ⟨rfl, rfl, rfl, Nat.le_refl _, fun _ _ => rfl⟩) (Nat.le_refl _)

theorem draw_any (htab : TabOk E.P tab) (hsp : SpecsOk E.P specs) (hms : AncOk ops.toList ms) (hl : us.length = ops.toList.length)
    (hg : ∀ j (hj : j < ops.toList.length) (hu : j < us.length), Good tab specs ops.toList ms (0 + j) ops.toList[j] (fo us (fun k => Nat.blt k (0 + j)) 0 σ0) us[j] (NoApps σ0 ∧ ∀ k (hk : k < us.length), k < j → us[k].plain = true)) {Q : Exit → Act → World → Prop} (hK : ∀ a w, RepState E (fo us (fun _ => true) 0 σ0) a w → Q .normal a w) :
    ∀ (fuel : Nat) (listed : Array Bool) (lst : List Nat) (a : Act) (w : World), listed.size = ops.size → lst.length = fuel → lst.Nodup → (∀ i, i ∈ lst ↔ i < ops.size ∧ listed.getD i false = false) →
      (∀ i o, listed.getD i false = true → ops[i]? = some o → ∀ e ∈ o.after, Region.binds .any e = true → listed.getD e.on false = true) →
      RepState E (fo us (fun k => listed.getD k false) 0 σ0) a w → wpAny E.P .any ops Q fuel listed a w := by
  have hgd : ∀ (listed : Array Bool) (i : Nat), i < listed.size → listed.getD i true = listed.getD i false := fun listed i hi => by simp [hi]
  have hdone : ∀ (listed : Array Bool) (a : Act) (w : World), (∀ i, i < ops.size → listed.getD i false = true) → RepState E (fo us (fun k => listed.getD k false) 0 σ0) a w → Q .normal a w := by
    intro listed a w hall hst
    refine hK a w ?_
    rw [fo_congr us (L' := fun k => listed.getD k false) 0 σ0 fun j _ hj => (hall j (by rw [hl] at hj; simpa using hj)).symm]
    exact hst
  intro fuel
  induction fuel with
  | zero =>
    intro listed lst a w hsz hlen hnd hmem hdc hst
    have : lst = [] := List.length_eq_zero_iff.1 hlen
    subst this
    have hall : ∀ i, i < ops.size → listed.getD i false = true := fun i hi => by
      cases hb : listed.getD i false
      · exact absurd ((hmem i).2 ⟨hi, hb⟩) (by simp)
      · rfl
    refine ⟨?_, hdone listed a w hall hst⟩
    cases hr : Region.ready .any ops listed with
    | nil => rfl
    | cons i r =>
      have hm : i ∈ Region.ready .any ops listed := by rw [hr]; simp
      obtain ⟨h1, o, h2, _⟩ := mem_ready.1 hm
      have hi := (Array.getElem?_eq_some_iff.1 h2).1
      rw [hgd listed i (by omega), hall i hi] at h1
      cases h1
  | succ fuel ih =>
    intro listed lst a w hsz hlen hnd hmem hdc hst
    refine ⟨fun hr => ?_, fun i hi => ?_⟩
    · -- the first that has not come up may come up
      exfalso
      have hex : ∃ i, i < ops.size ∧ listed.getD i false = false := by
        cases lst with
        | nil => simp at hlen
        | cons i r => exact ⟨i, (hmem i).1 (by simp)⟩
      have hmin : ∀ n, n < ops.size → listed.getD n false = false → False := by
        intro n
        induction n using Nat.strongRecOn with
        | _ n ihn =>
          intro hn hf
          have ho : ops[n]? = some ops[n] := Array.getElem?_eq_getElem hn
          have : n ∈ Region.ready .any ops listed := by
            refine mem_ready.2 ⟨by rw [hgd listed n (by omega)]; exact hf, _, ho, fun e he hb => ?_⟩
            have hlt := (hms.down n ops[n] (by simp) e he hb).1
            cases hb2 : listed.getD e.on false
            · exact (ihn e.on hlt (by omega) hb2).elim
            · rfl
          rw [hr] at this
          cases this
      obtain ⟨i, h1, h2⟩ := hex
      exact hmin i h1 h2
    · obtain ⟨h1, o, h2, h3⟩ := mem_ready.1 hi
      have hin := (Array.getElem?_eq_some_iff.1 h2).1
      rw [hgd listed i (by omega)] at h1
      have ho : ops.toList[i]? = some o := by simpa using h2
      have hol : i < ops.toList.length := by simpa using hin
      have hoe : ops.toList[i] = o := by
        have := List.getElem?_eq_getElem hol
        rw [ho] at this
        exact (Option.some.inj this).symm
      have hul : i < us.length := by omega
      -- what is before i has come up; what is behind it has not
      have hbef : ∀ j, bitAt ms i j = true → listed.getD j false = true := hms.listed (L := fun k => listed.getD k false) (fun j o' hj ho' => hdc j o' hj (by simpa using ho')) i o ho h3
      have haft : ∀ j, listed.getD j false = true → j < ops.size → bitAt ms j i = false := fun j hj hjn => by
        cases hb : bitAt ms j i
        · rfl
        · have hoj : ops.toList[j]? = some (ops.toList[j]'(by simpa using hjn)) := List.getElem?_eq_getElem _
          have := hms.listed (L := fun k => listed.getD k false) (fun j o' hj ho' => hdc j o' hj (by simpa using ho')) j _ hoj (hdc j _ hj (by simp)) i hb
          rw [h1] at this
          cases this
      -- behind it
      have hnext : ∀ a' w', RepState E (us[i].go (fo us (fun k => listed.getD k false) 0 σ0)) a' w' → wpAny E.P .any ops Q fuel (listed.setIfInBounds i true) a' w' := by
        intro a' w' hst'
        have hset : ∀ k, k < ops.size → (listed.setIfInBounds i true).getD k false = (listed.getD k false || Nat.beq k i) := fun k hk => by
          by_cases hki : k = i
          · subst hki
            simp [hsz, hk]
          · have : Nat.beq k i = false := by
              cases hb : Nat.beq k i
              · rfl
              · exact absurd (Nat.eq_of_beq_eq_true hb) hki
            rw [this, Bool.or_false]
            have hik : i ≠ k := fun e => hki e.symm
            simp [Array.getElem?_setIfInBounds_ne hik]
        refine ih (listed.setIfInBounds i true) (lst.erase i) a' w' (by simpa using hsz) ?_ (hnd.erase i) (fun j => ?_) (fun j o' hj ho' e he hb => ?_) ?_
        · rw [List.length_erase_of_mem ((hmem i).2 ⟨hin, h1⟩), hlen]
          rfl
        · rw [hnd.mem_erase_iff, hmem j]
          by_cases hj : j < ops.size
          · rw [hset j hj]
            constructor
            · rintro ⟨g1, g2, g3⟩
              refine ⟨g2, ?_⟩
              have : Nat.beq j i = false := by
                cases hb : Nat.beq j i
                · rfl
                · exact absurd (Nat.eq_of_beq_eq_true hb) g1
              rw [g3, this]; rfl
            · rintro ⟨g1, g2⟩
              simp only [Bool.or_eq_false_iff] at g2
              exact ⟨fun e => by rw [e] at g2; simp at g2, g1, g2.1⟩
          · constructor
            · rintro ⟨_, g2, _⟩; exact absurd g2 hj
            · rintro ⟨g2, _⟩; exact absurd g2 hj
        · have hjn := (Array.getElem?_eq_some_iff.1 ho').1
          rw [hset j hjn] at hj
          have hon : e.on < ops.size := by
            have := (hms.down j o' (by simpa using ho') e he hb).1
            omega
          rw [hset e.on hon]
          simp only [Bool.or_eq_true] at hj ⊢
          rcases hj with hj | hj
          · exact .inl (hdc j o' hj ho' e he hb)
          · have : j = i := Nat.eq_of_beq_eq_true hj
            subst this
            rw [h2] at ho'
            obtain rfl := Option.some.inj ho'
            exact .inl (h3 e he hb)
        · rw [fo_congr us (L' := fun k => listed.getD k false || Nat.beq k (0 + i)) 0 σ0 fun j _ hj => by
            rw [Nat.zero_add]
            exact hset j (by rw [hl] at hj; simpa using hj)]
          rw [fo_add us 0 i hul σ0 (by simpa using h1) fun k hk hik hLk τ => ?_]
          · exact hst'
          · simp only [Nat.zero_add] at hLk
            by_cases hc : cmpB ms k i = false
            · exact good_comm hl hg hk hul (by omega) hc τ
            · simp only [cmpB, Bool.or_eq_false_iff, not_and] at hc
              have h5 := haft k hLk (by rw [hl] at hk; simpa using hk)
              have h6 : bitAt ms i k = true := by simpa using hc h5
              have := hms.lt i k h6
              omega
      -- what it looks at
      have hM1 : ∀ j, bitAt ms i j = true → Nat.blt j (0 + i) = true := fun j hj => blt_iff.2 (by have := hms.lt i j hj; omega)
      have hin_no : ∀ (M : Nat → Bool), (∀ c, c < us.length → M c = true → bitAt ms i c = false → c ≠ i ∧ bitAt ms c i = false) → ∀ c (hc : c < us.length), (M (0 + c) && !bitAt ms i (0 + c)) = true → ∀ b ∈ us[c].bas, InH (hidL ms (0 + i) ops.toList 0 ops.toList) b := by
        intro M hM c hc hMc
        simp only [Nat.zero_add, Bool.and_eq_true, Bool.not_eq_true'] at hMc
        obtain ⟨k1, k2⟩ := hM c hc hMc.1 hMc.2
        have hcmp : cmpB ms i c = false := by simp only [cmpB, hMc.2, k2, Bool.or_self]
        have hoc : ops.toList[c]? = some (ops.toList[c]'(by omega)) := List.getElem?_eq_getElem _
        rcases good_upd (hg c (by omega) hc) with f1 | f2
        · have := allCmp_out (j0 := 0) (j := i) f1 ho (by omega)
          simp only [Nat.zero_add] at this
          unfold cmpB at this hcmp
          rw [Bool.or_comm] at this
          rw [hcmp] at this
          cases this
        · intro b hb
          obtain ⟨d, s2, f1, _, f3⟩ := f2 b hb
          refine ⟨d, s2, f3.imp And.left And.left, ?_⟩
          exact hidL_mem (j0 := 0) hoc f1 (by omega) (by simpa using hcmp)
      have hsplit : ∀ (M : Nat → Bool), (∀ j, bitAt ms i j = true → M j = true) → fo us M 0 σ0 = fo us (fun k => M k && !bitAt ms i k) 0 (fo us (bitAt ms i) 0 σ0) := by
        intro M hM
        refine fo_split us 0 σ0 hM fun c hc b hb hcb k1 k2 k3 τ => ?_
        simp only [Nat.zero_add] at k1 k2 k3
        refine good_comm hl hg hb hc (by omega) ?_ τ
        simp only [cmpB, Bool.or_eq_false_iff]
        refine ⟨?_, ?_⟩
        · cases hx : bitAt ms b c
          · rfl
          · rw [hms.trans i b c k3 hx] at k2; cases k2
        · cases hx : bitAt ms c b
          · rfl
          · have := hms.lt c b hx; omega
      have hlook : Looks (maskS (hidL ms (0 + i) ops.toList 0 ops.toList) (fo us (fun k => Nat.blt k (0 + i)) 0 σ0)) (fo us (fun k => listed.getD k false) 0 σ0) := by
        intro k
        unfold maskS
        split
        · exact .inl rfl
        · rename_i hv
          simp only [Bool.or_eq_true, not_or, Bool.not_eq_true] at hv
          have hkH : k ∉ hidL ms (0 + i) ops.toList 0 ops.toList := fun hm => by rw [inL_iff.2 hm] at hv; cases hv.1
          have hs1 := hsplit (fun k => Nat.blt k (0 + i)) hM1
          have hs2 := hsplit (fun k => listed.getD k false) hbef
          have f1 := fo_hid (H := hidL ms (0 + i) ops.toList 0 ops.toList) us (M := fun k => Nat.blt k (0 + i) && !bitAt ms i k) 0 (fo us (bitAt ms i) 0 σ0) (hin_no (fun k => Nat.blt k (0 + i)) fun c _ hc hb => by
            have := blt_iff.1 hc
            refine ⟨by omega, ?_⟩
            cases hx : bitAt ms c i
            · rfl
            · have := hms.lt c i hx; omega) k hkH
          have f2 := fo_hid (H := hidL ms (0 + i) ops.toList 0 ops.toList) us (M := fun k => listed.getD k false && !bitAt ms i k) 0 (fo us (bitAt ms i) 0 σ0) (hin_no (fun k => listed.getD k false) fun c hcu hc hb => by
            exact ⟨fun e => (by rw [e, h1] at hc; cases hc), haft c hc (by rw [hl] at hcu; simpa using hcu)⟩) k hkH
          rw [hs1] at hv ⊢
          rcases f1.2 with f3 | f3
          · exact .inl f3
          · right
            rw [hs2, f3]
            refine (f2.1 fun d hd hm => ?_).symm
            rw [f3] at hv
            have := List.any_eq_false.1 hv.2 d hd
            rw [inL_iff.2 hm] at this
            exact this rfl
      rcases hg i hol hul with ⟨obs, σ', g1, g2, g3, g4⟩ | ⟨obs, s, g1, g2, _, g3⟩ | ⟨k, s, g1, g2, g3, g4⟩ | ⟨r, k, s, g1, g2, g3, _, _, _, g4⟩ | ⟨obs, r, s, d, g1, g2, hd, hdl, _, _, _, g4⟩ | ⟨obs, k, s, d, ⟨p1, p2⟩, g1, g2, hd, hdl, _, _, hu⟩
      · -- an operation that has its place
        rw [hoe] at g2
        have heq : fo us (fun k => Nat.blt k (0 + i)) 0 σ0 = fo us (fun k => listed.getD k false) 0 σ0 := by
          refine fo_congr us 0 σ0 fun j _ hj => ?_
          have hjn : j < ops.size := by rw [hl] at hj; simpa using hj
          by_cases hji : j = i
          · subst hji
            rw [h1]
            cases hb : Nat.blt j (0 + j)
            · rfl
            · have := blt_iff.1 hb; omega
          · have hoj : ops.toList[j]? = some (ops.toList[j]'(by simpa using hjn)) := List.getElem?_eq_getElem _
            have hc := allCmp_out (j0 := 0) (j := j) g1 hoj (by omega)
            simp only [Nat.zero_add, cmpB, Bool.or_eq_true] at hc
            rcases hc with hc | hc
            · rw [hbef j hc, blt_iff.2 (by have := hms.lt i j hc; omega)]
            · have hlt := hms.lt j i hc
              have : listed.getD j false = false := by
                cases hb : listed.getD j false
                · rfl
                · rw [haft j hb hjn] at hc; cases hc
              rw [this]
              cases hb : Nat.blt j (0 + i)
              · rfl
              · have := blt_iff.1 hb; omega
        rw [heq] at g2
        refine stepX_sound htab hst h2 g2 g3 fun a' w' hst' => hnext a' w' ?_
        rw [g4]
        exact hst'
      · rw [hoe] at g1 g3
        refine evL_sound htab hsp hst hlook h2 g1 g2 fun v w' A f1 f2 f3 f4 f5 => ?_
        rcases g3 with ⟨d, hd, hdl, _, _, hu⟩ | ⟨hd, hu⟩
        · rw [hd]
          refine hnext _ _ ?_
          rw [hu]
          have hlen1 : (fo us (fun k => Nat.blt k (0 + i)) 0 σ0).length = σ0.length := fo_len us 0 σ0 rfl fun j hj σ' e => good_len hl hg j hj σ' e
          have hlen2 : (fo us (fun k => listed.getD k false) 0 σ0).length = σ0.length := fo_len us 0 σ0 rfl fun j hj σ' e => good_len hl hg j hj σ' e
          obtain ⟨Ad, _, _, _, h6⟩ := set_state hst f1 (hst.below.of_below f2) f2.size (d := d) (by rw [hlen2, ← hlen1]; exact hdl) f3 (fun b hb => .inl (f4 b hb)) f5
          exact h6 [] List.nodup_nil (fun b hb => by simp at hb)
        · rw [hd]
          refine hnext _ _ ?_
          rw [hu]
          exact grow_state hst f1 (hst.below.of_below f2) f2.size
      · -- a store that has no fixed place
        rw [hoe] at g1
        refine stepX_sound htab hst h2 (stoD_store hlook g1) (fun _ hp => by simp at hp) fun a' w' hst' => hnext a' w' ?_
        rw [g4]
        exact hst'
      · -- a store that has no fixed place, of what another slot owned
        rw [hoe] at g1
        have hlen1 : (fo us (fun k => Nat.blt k (0 + i)) 0 σ0).length = σ0.length := fo_len us 0 σ0 rfl fun j hj σ' e => good_len hl hg j hj σ' e
        have hlen2 : (fo us (fun k => listed.getD k false) 0 σ0).length = σ0.length := fo_len us 0 σ0 rfl fun j hj σ' e => good_len hl hg j hj σ' e
        obtain ⟨T, x, y, hgd, hdn, hop, hsx⟩ := mvD_store hlook g1 (by rw [hlen2, ← hlen1]; exact g2) (by rw [hlen2, ← hlen1]; exact g3)
        obtain ⟨w', f1, f2⟩ := aStoreX_sound htab hst hop hsx
        unfold wpOp
        rw [h2]
        dsimp only
        rw [if_pos (by simp [Region.wanted, hgd])]
        refine .inl ?_
        unfold Oper.wp
        rw [f1]
        show wpAny E.P .any ops Q fuel (listed.setIfInBounds i true) (a.put o.dst undef) w'
        rw [hdn]
        refine hnext _ _ ?_
        rw [g4]
        exact f2
      · -- an append that has no fixed place, to what one owns
        rw [hoe] at g1 hd
        have hlen1 : (fo us (fun k => Nat.blt k (0 + i)) 0 σ0).length = σ0.length := fo_len us 0 σ0 rfl fun j hj σ' e => good_len hl hg j hj σ' e
        have hlen2 : (fo us (fun k => listed.getD k false) 0 σ0).length = σ0.length := fo_len us 0 σ0 rfl fun j hj σ' e => good_len hl hg j hj σ' e
        obtain ⟨hgd, _, _, y, T, T', hop, hm⟩ := gvD_inv g1
        obtain ⟨v, w', f1, f2⟩ := aAppM_sound htab hst hlook hop hm g2 (d := d) (by rw [hlen2, ← hlen1]; exact hdl)
        unfold wpOp
        rw [h2]
        dsimp only
        rw [if_pos (by simp [Region.wanted, hgd])]
        refine .inl ?_
        unfold Oper.wp
        rw [f1]
        show wpAny E.P .any ops Q fuel (listed.setIfInBounds i true) (a.put o.dst v) w'
        rw [hd]
        refine hnext _ _ ?_
        rw [g4]
        exact f2
      · -- an append that has no fixed place
        rw [hoe] at g1 hd
        have hsa := aAppP_app g1
        have hNA : NoApps (fo us (fun k => listed.getD k false) 0 σ0) := by
          refine fo_plain us 0 σ0 (fun j hj hM => ?_) p1
          rw [Nat.zero_add] at hM
          rcases Nat.lt_trichotomy j i with hji | hji | hji
          · exact p2 j hj hji
          · subst hji; rw [h1] at hM; cases hM
          · have hjo : j < ops.size := by rw [hl] at hj; simpa using hj
            have hcmp : cmpB ms j i = false := by
              simp only [cmpB, Bool.or_eq_false_iff]
              refine ⟨haft j hM hjo, ?_⟩
              cases hx : bitAt ms i j
              · rfl
              · have := hms.lt i j hx; omega
            rcases hg j (by omega) hj with ⟨_, _, q1, _⟩ | ⟨_, s', _, _, q1, ⟨_, _, _, _, _, q2⟩ | ⟨_, q2⟩⟩ | ⟨_, _, q1, _, _, q2⟩ | ⟨_, _, _, q1, _, _, _, _, _, q2⟩ | ⟨_, _, _, _, q1, _, _, _, _, _, _, q2⟩ | ⟨_, _, _, _, ⟨_, q1⟩, _⟩
            · have := allCmp_out (j0 := 0) (j := i) q1 ho (by omega)
              simp only [Nat.zero_add] at this
              rw [hcmp] at this
              cases this
            · rw [q2]; simp [Upd.plain, q1]
            · rw [q2]; rfl
            · obtain ⟨_, _, _, _, _, _, _, _, _, _, _, _, _, _, hsv⟩ := stoD_inv q1
              rw [q2, hsv]; rfl
            · obtain ⟨_, _, _, _, hap, _⟩ := mvD_inv q1
              rw [q2]; simp [Upd.plain, hap]
            · obtain ⟨_, hap, _⟩ := gvD_inv q1
              rw [q2]; simp [Upd.plain, hap]
            · have := q1 i hul hji
              rw [hu] at this
              simp [Upd.plain, hsa] at this
        have hlen1 : (fo us (fun k => Nat.blt k (0 + i)) 0 σ0).length = σ0.length := fo_len us 0 σ0 rfl fun j hj σ' e => good_len hl hg j hj σ' e
        have hlen2 : (fo us (fun k => listed.getD k false) 0 σ0).length = σ0.length := fo_len us 0 σ0 rfl fun j hj σ' e => good_len hl hg j hj σ' e
        obtain ⟨hgd, v, w', f1, f2⟩ := aAppP_sound htab hst hlook g1 g2 (d := d) (by rw [hlen2, ← hlen1]; exact hdl) (fun j _ => hNA j)
        unfold wpOp
        rw [h2]
        dsimp only
        rw [if_pos (by simp [Region.wanted, hgd])]
        refine .inl ?_
        unfold Oper.wp
        rw [f1]
        show wpAny E.P .any ops Q fuel (listed.setIfInBounds i true) (a.put o.dst v) w'
        rw [hd]
        refine hnext _ _ ?_
        rw [hu]
        exact f2

end

theorem draw_sound {E : Env} {tab : Tab} (htab : TabOk E.P tab) {specs : Specs} (hsp : SpecsOk E.P specs) {ops : Array Oper} {ms : List Nat} (hms : masksGo ops.toList 0 [] = some ms) {Q : Exit → Act → World → Prop} {K : List Slot → Prop} (hK : ∀ σ a w, K σ → RepState E σ a w → Q .normal a w)
    {σ : List Slot} (h : evD real0 tab specs ops.toList ms (noApps σ) 0 ops.toList σ K) {a : Act} {w : World} (hst : RepState E σ a w) : wpAny E.P .any ops Q ops.size (Array.replicate ops.size false) a w := by
  obtain ⟨us, h1, h2, h3⟩ := evD_out ops.toList (noApps σ) 0 σ h
  refine draw_any htab hsp (masks_ok hms) h1 (fun j hj hu => (h2 j hj hu).mono fun ⟨a, b⟩ => ⟨noApps_out a, b⟩) (fun a w hst => hK _ a w h3 hst) ops.size (Array.replicate ops.size false) (List.range ops.size) a w (by simp) (by simp) List.nodup_range (fun i => ?_) (fun i o hi => ?_) ?_
  · simp only [List.mem_range]
    constructor
    · intro hi
      exact ⟨hi, by simp [hi]⟩
    · exact fun h => h.1
  · by_cases hl : i < ops.size
    · simp [hl] at hi
    · simp [hl] at hi
  · rw [fo_none us 0 σ fun j _ => by
      by_cases hl : j < ops.size
      · simp [hl]
      · simp [hl]]
    exact hst

end Go.Proofs.Ytaachifkgcdeoaa.Sy

namespace Go.Proofs.Ytaachifkgcdeoaa.Sy
open Go.RowKit
set_option linter.unusedSimpArgs false
set_option linter.unusedVariables false

def isNilC : Operand → Bool
  | .const (.slice none 0 0) => true
  | _ => false

/-- A comparison of a list with nil: where its answer goes, how long the list is, and whether the answer is turned round. -/
def nilC (A : Alg) (tab : Tab) (σ : List Slot) (o : Oper) : Option (Nat × Int × Bool) :=
  match o.guard with
  | some _ => none
  | none => match o.op with
    | .binOp op T x y _ => if isNilC y then (match tyT tab T with
      | some (.list _) => match o.dst with
        | some d => match opdOf tab T x with
          | some xo => match (match viewL (opd (lk σ) [] xo) with
              | some L => some (A.len L.te L.xs)
              | none => match ownL A (lk σ) xo (opd (lk σ) [] xo) with
                | some (_, _, L) => some (A.len L.te L.xs)
                | none => none) with
            | some n => match op with
              | .eql => some (d, n, false)
              | .neq => some (d, n, true)
              | _ => none
            | none => none
          | none => none
        | none => none
      | _ => none) else none
    | _ => none

def negB (neg b : Bool) : Bool := match neg with
  | true => !b
  | false => b

theorem nilC_sound {E : Env} {tab : Tab} (htab : TabOk E.P tab) {ops : Array Oper} {σ : List Slot} {a : Act} {w : World} (hst : RepState E σ a w) {i : Nat} {o : Oper} (hi : ops[i]? = some o) {d : Nat} {n : Int} {neg : Bool} (h : nilC real0 tab σ o = some (d, n, neg)) (hd : d < σ.length)
    {next : Act → World → Prop} {Q : Exit → Act → World → Prop} (hK : ∀ b : Bool, (b = true → n = 0) → ∀ a' w', RepState E (setS σ d (.val .bool .n (negB neg b))) a' w' → next a' w') : wpOp E.P ops Q i next a w := by
  unfold nilC at h
  split at h
  · cases h
  rename_i hg
  split at h
  case h_2 => cases h
  rename_i op T x y yT ho
  split at h
  case isFalse => cases h
  rename_i hy
  split at h
  case h_2 => cases h
  rename_i te hT
  split at h
  case h_2 => cases h
  rename_i d' hdst
  split at h
  case h_2 => cases h
  rename_i xo hx
  split at h
  case h_2 => cases h
  rename_i n' hn
  have hyv : y = .const (.slice none 0 0) := by
    unfold isNilC at hy
    split at hy
    · rfl
    · cases hy
  subst hyv
  have hlk : Looks (lk σ) σ := fun k => .inr rfl
  have hgn : holdsG (vl a) [] := fun g hg => by simp at hg
  obtain ⟨el, hu⟩ := (htab.ty _ _ hT).list_u
  have hval : ∃ al len cap, a.eval x = .slice al len cap ∧ n' = (len : Int) ∧ (al = none → len = 0) := by
    split at hn
    · rename_i L hL
      obtain rfl := Option.some.inj hn
      obtain ⟨B, _, _, hr⟩ := opd_rep hst hlk hgn (opdOf_ok hx)
      unfold viewL at hL
      split at hL
      · rename_i t v e
        obtain rfl := Option.some.inj hL
        rw [e] at hr
        obtain ⟨cs, h1, h2⟩ := hr
        simp only [Rep] at h1
        obtain ⟨_, _, al, cap, rfl, _, h3⟩ := h1
        refine ⟨al, _, cap, h2, rfl, fun e => ?_⟩
        rcases h3 with rfl | ⟨b, off, c, e', fr, h4, _⟩
        · rfl
        · rw [e] at h4; cases h4
      · cases hL
    · split at hn
      · rename_i k p L hL
        obtain rfl := Option.some.inj hn
        obtain ⟨cur, al, cap, A, _, h2, _, h3⟩ := ownL_rep hst hlk hgn (opdOf_ok hx) hL
        simp only [Rep] at h3
        obtain ⟨_, a', cap', h4, h5⟩ := h3
        simp only [List.cons.injEq, Value.slice.injEq, and_true] at h4
        obtain ⟨rfl, _, rfl⟩ := h4
        refine ⟨al, _, cap, h2, rfl, fun e => ?_⟩
        rcases h5 with ⟨h6, _⟩ | ⟨b, off, c, e', fr, A', h4, _⟩
        · rw [h6]; rfl
        · rw [e] at h4; cases h4
      · cases hn
  obtain ⟨al, len, cap, hxv, hnl, hnil⟩ := hval
  have key : ∀ neg', op = (if neg' = true then BinOp.neq else .eql) → (d', n', neg') = (d, n, neg) → wpOp E.P ops Q i next a w := by
    intro neg' hop he
    simp only [Prod.mk.injEq] at he
    obtain ⟨rfl, rfl, rfl⟩ := he
    have hrun : (execOp a.eval o).run E.P w = .ok (.value (.bool (negB neg' al.isNone))) w := by
      subst hop
      have hgrd : (eqGuard (if neg' = true then BinOp.neq else .eql) T x (.const (.slice none 0 0)) (.slice al len cap) (.slice none 0 0)).run E.P w = .ok () w := by
        cases neg' <;> simp [eqGuard]
      have heq : (Op.equal T (.slice al len cap) (.slice none 0 0)).run E.P w = .ok al.isNone w := by
        unfold Op.equal
        rw [show Op.maxDepth = 9999 + 1 from rfl, Op.equalIn]
        simp only [Sem.run_bind, run_underlying hu, Result.andThen_ok]
        cases al <;> simp
      have hev : a.eval (.const (.slice none 0 0)) = .slice none 0 0 := rfl
      simp only [execOp, ho, hxv, hev, Sem.run_bind, hgrd, Result.andThen_ok]
      cases neg' <;> simp [binOp, heq, negB]
    unfold wpOp
    rw [hi]
    dsimp only
    rw [if_pos (by simp [Region.wanted, hg])]
    refine .inl ?_
    unfold Oper.wp
    rw [hrun]
    show next (a.put o.dst _) w
    rw [hdst]
    obtain ⟨_, _, _, _, h6⟩ := set_state hst (fun _ _ => rfl) hst.below (Nat.le_refl _) hd (s := .val .bool .n (negB neg' al.isNone)) (v := .bool (negB neg' al.isNone)) (A := []) List.nodup_nil (fun b hb => by simp at hb) bool_rep
    refine hK al.isNone (fun e => ?_) _ _ (h6 [] List.nodup_nil (fun b hb => by simp at hb))
    rw [hnl, hnil (by simpa using e)]
    rfl
  split at h
  · exact key false rfl (Option.some.inj h)
  · exact key true rfl (Option.some.inj h)
  · cases h

end Go.Proofs.Ytaachifkgcdeoaa.Sy

namespace Go.Proofs.Ytaachifkgcdeoaa.Sy
open Go.RowKit
set_option linter.unusedSimpArgs false
set_option linter.unusedVariables false


/-- One operation after the other. -/
def evS (A : Alg) (tab : Tab) (specs : Specs) (ops : List Oper) : List Oper → List Slot → (List Slot → Prop) → Prop
  | [], σ, K => K σ
  | o :: os, σ, K => match stepX A tab σ o with
    | some (obs, σ') => conjL obs (evS A tab specs ops os σ' K)
    | none => match evL A tab specs ops (lk σ) o with
      | some (obs, s) => match o.dst with
        | some d => match σ[d]? with
          | some _ => conjL obs (evS A tab specs ops os (setS σ d s) K)
          | none => False
        | none => conjL obs (evS A tab specs ops os σ K)
      | none => match nilC A tab σ o with
        | some (d, n, neg) => match σ[d]? with
          | some _ => A.nilq n fun b => evS A tab specs ops os (setS σ d (.val .bool .n (negB neg b))) K
          | none => False
        | none => False

theorem behind_state {E : Env} {σ : List Slot} {a : Act} {w : World} (hst : RepState E σ a w) {s : Slot} {d : Nat} (hd : d < σ.length) : Behind E σ a w s fun v w' => RepState E (setS σ d s) (a.put (some d) v) w' := by
  intro v w' A h1 h2 h3 h4 h5
  obtain ⟨Ad, _, _, _, h6⟩ := set_state hst h1 (hst.below.of_below h2) h2.size hd h3 (fun b hb => .inl (h4 b hb)) h5
  exact h6 [] List.nodup_nil (fun b hb => by simp at hb)

theorem evS_sound {E : Env} {tab : Tab} (htab : TabOk E.P tab) {specs : Specs} (hsp : SpecsOk E.P specs) {ops : Array Oper} {Q : Exit → Act → World → Prop} {K : List Slot → Prop} (hK : ∀ σ a w, K σ → RepState E σ a w → Q .normal a w) : ∀ (os : List Oper) (i : Nat) (σ : List Slot) (a : Act) (w : World), os = ops.toList.drop i → evS real0 tab specs ops.toList os σ K → RepState E σ a w → wpOps E.P ops Q (List.range' i os.length) a w
  | [], i, σ, a, w, _, h, hst => hK σ a w h hst
  | o :: os, i, σ, a, w, ho, h, hst => by
    have hi : ops[i]? = some o := by
      have : (ops.toList.drop i)[0]? = some o := by rw [← ho]; rfl
      simpa using this
    have hos : os = ops.toList.drop (i + 1) := by
      rw [← List.drop_drop, ← ho]; rfl
    rw [List.length_cons, List.range'_succ, wpOps_cons]
    simp only [evS] at h
    split at h
    · rename_i obs σ' hs
      obtain ⟨hobs, h⟩ := conjL_out h
      exact stepX_sound htab hst hi hs hobs fun a' w' hst' => evS_sound htab hsp hK os (i + 1) σ' a' w' hos h hst'
    · split at h
      case h_2 =>
        split at h
        case h_2 => cases h
        rename_i d n neg hn
        split at h
        case h_2 => cases h
        rename_i _ hdl
        have h : ∀ b : Bool, (b = true → n = 0) → evS real0 tab specs ops.toList os (setS σ d (.val .bool .n (negB neg b))) K := h
        exact nilC_sound htab hst hi hn (List.getElem?_eq_some_iff.1 hdl).1 fun b hb a' w' hst' => evS_sound htab hsp hK os (i + 1) _ a' w' hos (h b hb) hst'
      rename_i obs s hs
      split at h
      · rename_i d hd
        split at h
        case h_2 => cases h
        rename_i _ hdl
        obtain ⟨hobs, h⟩ := conjL_out h
        refine evL_sound htab hsp hst (fun k => .inr rfl) hi hs hobs fun v w' A h1 h2 h3 h4 h5 => ?_
        rw [hd]
        exact evS_sound htab hsp hK os (i + 1) _ _ w' hos h (behind_state hst (List.getElem?_eq_some_iff.1 hdl).1 v w' A h1 h2 h3 h4 h5)
      · rename_i hd
        obtain ⟨hobs, h⟩ := conjL_out h
        refine evL_sound htab hsp hst (fun k => .inr rfl) hi hs hobs fun v w' A h1 h2 h3 h4 h5 => ?_
        rw [hd]
        exact evS_sound htab hsp hK os (i + 1) _ _ w' hos h (grow_state hst h1 (hst.below.of_below h2) h2.size)

inductive Ex where
  | nrm
  | exit (id : Nat)
  | ret

/-- A frame and a world that some state of K's describes. -/
def postOf (E : Env) (K : Ex → List Slot → Prop) : Exit → Act → World → Prop
  | .normal, a, w => ∃ σ, K .nrm σ ∧ RepState E σ a w
  | .exit id, a, w => ∃ σ, K (.exit id) σ ∧ RepState E σ a w
  | .ret, a, w => ∃ σ, K .ret σ ∧ RepState E σ a w
  | _, _, _ => False

/-- A loop, from these slots on. -/
def LpR (E : Env) (c : Code) (σ : List Slot) (K : Ex → List Slot → Prop) : Prop := ∀ a w, RepState E σ a w → (Code.loop c).wp E.P (postOf E K) a w
def pw (A : Alg) (tab : Tab) (specs : Specs) (Lp : Code → List Slot → (Ex → List Slot → Prop) → Prop) : Code → List Slot → (Ex → List Slot → Prop) → Prop
  | .skip, σ, K => K .nrm σ
  | .region _ ops false, σ, K => evS A tab specs ops.toList ops.toList σ (K .nrm)
  | .region _ ops true, σ, K => match masksGo ops.toList 0 [] with
    | some ms => evD A tab specs ops.toList ms (noApps σ) 0 ops.toList σ (K .nrm)
    | none => False
  | .seq a b, σ, K => pw A tab specs Lp a σ fun e σ => match e with
    | .nrm => pw A tab specs Lp b σ K
    | .exit i => K (.exit i) σ
    | .ret => K .ret σ
  | .cond (.tmp k) a b, σ, K => match lk σ k with
    | .val .bool .n x => A.ite x (pw A tab specs Lp a σ K) (pw A tab specs Lp b σ K)
    | _ => False
  | .block id b, σ, K => pw A tab specs Lp b σ fun e σ => match e with
    | .nrm => K .nrm σ
    | .exit i => if Nat.beq i id then K .nrm σ else K (.exit i) σ
    | .ret => K .ret σ
  | .loop b, σ, K => Lp b σ K
  | .exit id, σ, K => K (.exit id) σ
  | .ret, σ, K => K .ret σ
  | _, _, _ => False

theorem postOf_mono {E : Env} {K K' : Ex → List Slot → Prop} (h : ∀ e σ, K e σ → K' e σ) : ∀ e a w, postOf E K e a w → postOf E K' e a w := by
  intro e a w hp
  cases e <;> simp only [postOf] at hp ⊢ <;> first | exact hp | (obtain ⟨σ, h1, h2⟩ := hp; exact ⟨σ, h _ _ h1, h2⟩)

theorem pw_sound {E : Env} {tab : Tab} (htab : TabOk E.P tab) {specs : Specs} (hsp : SpecsOk E.P specs) : ∀ (c : Code) (σ : List Slot) (K : Ex → List Slot → Prop), pw real0 tab specs (LpR E) c σ K → ∀ a w, RepState E σ a w → c.wp E.P (postOf E K) a w
  | .skip, σ, K, h, a, w, hst => wp_skip ⟨σ, h, hst⟩
  | .region id ops false, σ, K, h, a, w, hst => by
    refine wp_region ?_
    have := evS_sound htab hsp (ops := ops) (Q := postOf E K) (K := K .nrm) (fun σ a w hK hst => ⟨σ, hK, hst⟩) ops.toList 0 σ a w rfl h hst
    rw [List.range_eq_range']
    simpa using this
  | .region id ops true, σ, K, h, a, w, hst => by
    simp only [pw] at h
    split at h
    case h_2 => cases h
    rename_i ms hms
    refine wp_region_any htab.mixed (draw_sound htab hsp hms (Q := postOf E K) (K := K .nrm) (fun σ a w hK hst => ⟨σ, hK, hst⟩) h (drawn_state hst))
  | .seq x y, σ, K, h, a, w, hst => by
    refine wp_seq (wp_mono (pw_sound htab hsp x σ _ h a w hst) fun e a' w' hp => ?_)
    cases e <;> simp only [postOf, Exit.then] at hp ⊢ <;> try exact hp
    obtain ⟨σ', h1, h2⟩ := hp
    exact pw_sound htab hsp y σ' K h1 a' w' h2
  | .cond c x y, σ, K, h, a, w, hst => by
    cases c <;> simp only [pw] at h
    rename_i k
    split at h
    case h_2 => cases h
    rename_i b hk
    obtain ⟨ow, how, _, _, hsl⟩ := hst.slots
    obtain ⟨B, _, _, hr⟩ := hsl k
    rw [show σ.getD k .dead = .val .bool .n b from hk] at hr
    obtain ⟨e1, _⟩ := rep_bool hr
    have hi : ∀ (b : Bool) (p q : Prop), real0.ite b p q → (b = true → p) ∧ (b = false → q) := fun b p q h => h
    have h := hi _ _ _ h
    refine wp_cond (t := b) e1 ?_
    cases b
    · exact pw_sound htab hsp y σ K (h.2 rfl) a w hst
    · exact pw_sound htab hsp x σ K (h.1 rfl) a w hst
  | .block id b, σ, K, h, a, w, hst => by
    refine wp_block (wp_mono (pw_sound htab hsp b σ _ h a w hst) fun e a' w' hp => ?_)
    cases e <;> simp only [postOf, Exit.inBlock] at hp ⊢ <;> try exact hp
    rename_i i
    obtain ⟨σ', h1, h2⟩ := hp
    by_cases hid : i = id
    · subst hid
      simp only [Nat.beq_eq_true_eq, if_true] at h1 ⊢
      exact ⟨σ', by simpa using h1, h2⟩
    · have : ¬ Nat.beq i id = true := by simpa using hid
      rw [if_neg this] at h1
      rw [if_neg hid]
      exact ⟨σ', h1, h2⟩
  | .loop b, σ, K, h, a, w, hst => h a w hst
  | .rangeFunc .., σ, K, h, a, w, hst => by simp [pw] at h
  | .exit id, σ, K, h, a, w, hst => wp_exit ⟨σ, h, hst⟩
  | .scope b, σ, K, h, a, w, hst => by simp [pw] at h
  | .label l, σ, K, h, a, w, hst => by simp [pw] at h
  | .goto l, σ, K, h, a, w, hst => by simp [pw] at h
  | .ret, σ, K, h, a, w, hst => wp_ret ⟨σ, h, hst⟩
  | .refuse s, σ, K, h, a, w, hst => by simp [pw] at h

/-! ### Loops -/
/-- Some slots forgotten. -/
def wk : List Nat → List Slot → List Slot
  | [], σ => σ
  | d :: ds, σ => match σ[d]? with
    | some _ => wk ds (setS σ d .dead)
    | none => wk ds σ

theorem wk_state {E : Env} : ∀ (ds : List Nat) {σ : List Slot} {a : Act} {w : World}, RepState E σ a w → RepState E (wk ds σ) a w
  | [], _, _, _, h => h
  | d :: ds, σ, a, w, h => by
    simp only [wk]
    split
    · rename_i _ hd
      exact wk_state ds (setS_dead h (List.getElem?_eq_some_iff.1 hd).1)
    · exact wk_state ds h

def updS : List (Nat × Slot) → List Slot → List Slot
  | [], σ => σ
  | (k, s) :: us, σ => updS us (σ.set k s)

/-- The temporaries that a code writes. -/
def dstOf : Code → List Nat
  | .region _ ops _ => ops.toList.filterMap (·.dst)
  | .seq a b => dstOf a ++ dstOf b
  | .cond _ a b => dstOf a ++ dstOf b
  | .block _ b => dstOf b
  | .loop b => dstOf b
  | _ => []

/-- A list without some. -/
def wo (ks ds : List Nat) : List Nat := ds.filter fun d => !(ks.any fun k => Nat.beq k d)

/-- The slots at a loop's head. -/
def headS (ds : List Nat) (us : List (Nat × Slot)) (σ : List Slot) : List Slot := updS us (wk ds σ)

/-- **A LOOP**: its variables x, what holds of them at each round's start, and what decreases. -/
theorem loop_rule {E : Env} {tab : Tab} (htab : TabOk E.P tab) {specs : Specs} (hsp : SpecsOk E.P specs) {c : Code} {σ : List Slot} {K : Ex → List Slot → Prop} {X : Type} (ds : List Nat) (us : X → List (Nat × Slot)) (D : X → Prop) (μ : X → Nat) (x0 : X)
    (h0 : D x0) (hσ : headS ds (us x0) σ = wk ds σ)
    (round : ∀ x, D x → ∀ R : List Slot → Prop, (∀ x', D x' → μ x' < μ x → R (headS ds (us x') σ)) → pw real0 tab specs (LpR E) c (headS ds (us x) σ) fun e σ' => match e with
      | .nrm => R (wk ds σ')
      | .exit i => K (.exit i) σ'
      | .ret => K .ret σ') : LpR E c σ K := by
  intro a w hst
  refine wp_loop_ghost (fun n a w => ∃ x, μ x = n ∧ D x ∧ RepState E (headS ds (us x) σ) a w) (μ x0) ⟨x0, rfl, h0, by rw [hσ]; exact wk_state ds hst⟩ fun n a w hI => ?_
  obtain ⟨x, rfl, hD, hx⟩ := hI
  have := pw_sound htab hsp c _ _ (round x hD (fun σ'' => ∃ x', D x' ∧ μ x' < μ x ∧ σ'' = headS ds (us x') σ) fun x' h1 h2 => ⟨x', h1, h2, rfl⟩) a w hx
  refine wp_mono this fun e a' w' hp => ?_
  cases e <;> simp only [postOf, Exit.then] at hp ⊢ <;> try exact hp
  obtain ⟨σ', ⟨x', h1, h2, h3⟩, h4⟩ := hp
  have h5 := wk_state ds h4
  rw [h3] at h5
  exact ⟨μ x', h2, x', rfl, h1, h5⟩

theorem loop_at {E : Env} {tab : Tab} (htab : TabOk E.P tab) {specs : Specs} (hsp : SpecsOk E.P specs) {c : Code} {σ : List Slot} {K : Ex → List Slot → Prop} {X : Type} (ks : List Nat) (us : X → List (Nat × Slot)) (D : X → Prop) (μ : X → Nat) (x0 : X)
    (h0 : D x0) (hσ : headS (wo ks (dstOf c)) (us x0) σ = wk (wo ks (dstOf c)) σ)
    (round : ∀ x, D x → ∀ R : List Slot → Prop, (∀ σ' x', D x' → μ x' < μ x → σ' = headS (wo ks (dstOf c)) (us x') σ → R σ') → pw real0 tab specs (LpR E) c (headS (wo ks (dstOf c)) (us x) σ) fun e σ' => match e with
      | .nrm => R (wk (wo ks (dstOf c)) σ')
      | .exit i => K (.exit i) σ'
      | .ret => K .ret σ') : LpR E c σ K := loop_rule htab hsp _ us D μ x0 h0 hσ fun x hx R hR => round x hx R fun σ' x' h1 h2 h3 => h3 ▸ hR x' h1 h2

/-- The same, more slots forgotten. -/
theorem loop_atF {E : Env} {tab : Tab} (htab : TabOk E.P tab) {specs : Specs} (hsp : SpecsOk E.P specs) {c : Code} {σ : List Slot} {K : Ex → List Slot → Prop} {X : Type} (fs ks : List Nat) (us : X → List (Nat × Slot)) (D : X → Prop) (μ : X → Nat) (x0 : X)
    (h0 : D x0) (hσ : headS (wo ks (fs ++ dstOf c)) (us x0) σ = wk (wo ks (fs ++ dstOf c)) σ)
    (round : ∀ x, D x → ∀ R : List Slot → Prop, (∀ σ' x', D x' → μ x' < μ x → σ' = headS (wo ks (fs ++ dstOf c)) (us x') σ → R σ') → pw real0 tab specs (LpR E) c (headS (wo ks (fs ++ dstOf c)) (us x) σ) fun e σ' => match e with
      | .nrm => R (wk (wo ks (fs ++ dstOf c)) σ')
      | .exit i => K (.exit i) σ'
      | .ret => K .ret σ') : LpR E c σ K := loop_rule htab hsp _ us D μ x0 h0 hσ fun x hx R hR => round x hx R fun σ' x' h1 h2 h3 => h3 ▸ hR x' h1 h2

end Go.Proofs.Ytaachifkgcdeoaa.Sy

namespace Go.Proofs.Ytaachifkgcdeoaa.Sy
open Go.RowKit
set_option linter.unusedSimpArgs false
set_option linter.unusedVariables false

/-- A result: its value, and the slot on which what it owns hangs. -/
def retV (σ : List Slot) (t : PT) (m : Md) (k : Nat) : Option (t.den × List Nat) :=
  match lk σ k with
  | .val t' m' x => if ownT t m then (match castT t' t x with
    | some y => if Md.beq m' m then some (y, if m.owned then [k] else []) else if plainT t' m' && Md.beq m .n then some (y, []) else none
    | none => none) else none
  | .bor r [] => match lk σ r with
    | .val t' m' x => if ownT t m && Md.beq m' m then (match castT t' t x with
      | some y => some (y, [r])
      | none => none) else none
    | _ => none
  | _ => none

/-- A result that lies in a variable of the call's own. -/
def retC (tab : Tab) (σ : List Slot) (t : PT) (m : Md) (k : Nat) (T : TypeId) : Option (t.den × List Nat) :=
  match tyT tab T with
  | some t1 => match lk σ k with
    | .val (.box t') (.b m') x => if PT.beq t1 t' && ownT t m then (match castT t' t x with
      | some y => if Md.beq m' m then some (y, [k]) else if plainT t' m' && Md.beq m .n then some (y, []) else none
      | none => none) else none
    | _ => none
  | none => none

def retR (tab : Tab) (σ : List Slot) (t : PT) (m : Md) : ResultVar → Option (t.den × List Nat)
  | .tmp k => retV σ t m k
  | .cell k T => retC tab σ t m k T

def retL (tab : Tab) (σ : List Slot) : (ts : List PT) → List Md → List ResultVar → Option (PT.denL ts × List Nat)
  | [], [], [] => some ((), [])
  | t :: ts, m :: ms, r :: rs => match retR tab σ t m r with
    | some (y, ks) => match retL tab σ ts ms rs with
      | some (ys, ks') => some ((y, ys), ks ++ ks')
      | none => none
    | none => none
  | _, _, _ => none

def nodupB : List Nat → Bool
  | [] => true
  | k :: ks => !(ks.any fun j => Nat.beq k j) && nodupB ks
theorem nodupB_out : ∀ {ks : List Nat}, nodupB ks = true → ks.Nodup
  | [], _ => List.nodup_nil
  | k :: ks, h => by
    simp only [nodupB, Bool.and_eq_true, Bool.not_eq_true', List.any_eq_false] at h
    refine List.nodup_cons.2 ⟨fun hm => h.1 k hm (by simp), nodupB_out h.2⟩

/-- The function's end. -/
def atEnd (tab : Tab) (s : FSpec) (rs : List ResultVar) (R : PT.denL s.rs → Prop) (e : Ex) (σ : List Slot) : Prop :=
  match e with
  | .exit _ => False
  | _ => match retL tab σ s.rs s.rm rs with
    | some (y, ks) => match nodupB ks with
      | true => R y
      | false => False
    | none => False

theorem rep_own_n {t : PT} : ∀ {w : World} {F : Nat → Prop} {x : t.den} {cs : List Value} {A : List Nat}, Rep w F t .n x cs A → A = [] := fun {w F x cs A} h => plain_nil t .n x cs A rfl h

theorem ownedL_at : ∀ (ms : List Md) (j : Nat), Md.ownedL ms = false → (ms.getD j .j).owned = false
  | [], j, _ => by simp [Md.owned]
  | m :: ms, 0, h => by
    simp only [Md.ownedL, Bool.or_eq_false_iff] at h
    simpa using h.1
  | m :: ms, j + 1, h => by
    simp only [Md.ownedL, Bool.or_eq_false_iff] at h
    simpa using ownedL_at ms j h.2
mutual
theorem unowned_nil {w : World} {F : Nat → Prop} : ∀ (t : PT) (m : Md) (x : t.den) (cs : List Value) (A : List Nat), m.owned = false → Rep w F t m x cs A → A = []
  | .int k, m, x, cs, A, _, h => by cases m <;> simp_all [Rep]
  | .bool, m, x, cs, A, _, h => by cases m <;> simp_all [Rep]
  | .str, m, x, cs, A, _, h => by cases m <;> simp_all [Rep]
  | .list t, m, x, cs, A, hn, h => by
    cases m <;> simp only [Rep] at h <;> first | exact h.1 | (simp [Md.owned] at hn)
  | .arr n t, m, x, cs, A, hn, h => by
    cases m <;> simp only [Rep] at h
    · exact unowned_nilL t .n x cs A (by simp [Md.owned]) h.2
    · exact h.1
    · exact unowned_nilL t _ x cs A (by simpa [Md.owned] using hn) h.2
  | .st ts, m, x, cs, A, hn, h => by
    cases m <;> simp only [Rep] at h
    · exact unowned_nilS ts .n 0 x cs A (fun j => by simp [Md.fld, Md.owned]) h
    · exact h.1
    · exact unowned_nilS ts _ 0 x cs A (fun j => by
        simp only [Md.fld, Nat.zero_add]
        exact ownedL_at _ j (by simpa [Md.owned] using hn)) h
  | .box t, m, x, cs, A, hn, h => by
    cases m <;> simp only [Rep] at h <;> first | exact h.1 | (simp [Md.owned] at hn)
theorem unowned_nilL {w : World} {F : Nat → Prop} (t : PT) (m : Md) : ∀ (xs : List t.den) (cs : List Value) (A : List Nat), m.owned = false → RepL (Rep w F t m) xs cs A → A = []
  | [], cs, A, _, h => h.2
  | x :: xs, cs, A, hn, h => by
    obtain ⟨c1, c2, A1, A2, _, rfl, h1, h2⟩ := h
    rw [unowned_nil t m x c1 A1 hn h1, unowned_nilL t m xs c2 A2 hn h2]; rfl
theorem unowned_nilS {w : World} {F : Nat → Prop} : ∀ (ts : List PT) (m : Md) (i : Nat) (x : PT.denL ts) (cs : List Value) (A : List Nat), (∀ j, (m.fld (i + j)).owned = false) → RepS w F ts m i x cs A → A = []
  | [], _, _, _, cs, A, _, h => by simp only [RepS] at h; exact h.2
  | t :: ts, m, i, x, cs, A, hn, h => by
    simp only [RepS] at h
    obtain ⟨c1, c2, A1, A2, _, rfl, h1, h2⟩ := h
    rw [unowned_nil t _ _ c1 A1 (hn 0) h1, unowned_nilS ts m (i + 1) x.2 c2 A2 (fun j => by
      have := hn (j + 1)
      simpa [Nat.add_assoc, Nat.add_comm 1 j] using this) h2]; rfl
end

theorem retV_ok {E : Env} {σ : List Slot} {a : Act} {w : World} (hst : RepState E σ a w) {ow : Nat → Option Nat} (how : ∀ b k, ow b = some k → ¬ E.F b ∧ b < w.heap.size)
    (hsl : ∀ k, ∃ A, A.Nodup ∧ (∀ b ∈ A, ow b = some k) ∧ RepSlot w E.F (lk σ) (vl a) (lk σ k) (vl a k) A) {t : PT} {m : Md} {k : Nat} {y : t.den} {ks : List Nat} (h : retV σ t m k = some (y, ks)) :
    ∃ cs A, A.Nodup ∧ (∀ b ∈ A, ∃ r ∈ ks, ow b = some r) ∧ Rep w noF t m y cs A ∧ vl a k = wrapV t cs := by
  obtain ⟨A, hA1, hA2, hA3⟩ := hsl k
  unfold retV at h
  split at h
  · rename_i t' m' x hk
    split at h
    case isFalse => cases h
    rename_i hown
    split at h
    case h_2 => cases h
    rename_i y' hc
    obtain ⟨e, rfl⟩ := castT_some hc
    subst e
    rw [hk] at hA3
    obtain ⟨cs, hr, hu⟩ := hA3
    split at h
    · rename_i hm
      obtain rfl := Md.eq_of_beq hm
      simp only [Option.some.injEq, Prod.mk.injEq] at h
      obtain ⟨rfl, rfl⟩ := h
      refine ⟨cs, A, hA1, fun b hb => ⟨k, ?_, hA2 b hb⟩, own_any _ _ _ _ _ hown hr, hu⟩
      split
      · simp
      · rename_i hno
        exfalso
        have := unowned_nil _ _ _ _ _ (by simpa using hno) hr
        subst this
        simp at hb
    · split at h
      · rename_i hm
        simp only [Bool.and_eq_true] at hm
        obtain rfl := Md.eq_of_beq hm.2
        simp only [Option.some.injEq, Prod.mk.injEq] at h
        obtain ⟨rfl, rfl⟩ := h
        have hr' := plainT_n _ _ _ _ _ hm.1 hr
        have := rep_own_n hr'
        subst this
        exact ⟨cs, [], List.nodup_nil, fun b hb => by simp at hb, own_any _ _ _ _ _ hown hr', hu⟩
      · cases h
  · rename_i r hk
    split at h
    case h_2 => cases h
    rename_i t' m' x hr
    split at h
    case isFalse => cases h
    rename_i hb
    simp only [Bool.and_eq_true] at hb
    split at h
    case h_2 => cases h
    rename_i y' hc
    obtain ⟨e, rfl⟩ := castT_some hc
    subst e
    obtain rfl := Md.eq_of_beq hb.2
    simp only [Option.some.injEq, Prod.mk.injEq] at h
    obtain ⟨rfl, rfl⟩ := h
    rw [hk] at hA3
    obtain ⟨_, v, cur, cs', hroot, hu⟩ := hA3
    obtain ⟨B, hB1, hB2, hB3⟩ := hsl r
    rw [hr] at hB3
    obtain ⟨cs, hr1, hu1⟩ := hB3
    obtain ⟨t0, m0, x0, cs0, e1, e2, e3, e4, e5, e6⟩ := hroot
    rw [hr] at e1
    simp only [Slot.val.injEq] at e1
    obtain ⟨rfl, rfl, e1⟩ := e1
    obtain rfl := eq_of_heq e1
    simp only [getP, Option.some.injEq] at e5
    subst e5
    simp only [loc, Option.some.injEq, Prod.mk.injEq] at e6
    obtain ⟨_, rfl⟩ := e6
    rw [hu1] at e3
    obtain rfl := wrapV_inj (rep_length _ _ _ _ _ hr1) e4 e3
    exact ⟨cs, B, hB1, fun b hb => ⟨r, by simp, hB2 b hb⟩, own_any _ _ _ _ _ hb.1 hr1, hu⟩
  · cases h

theorem ret_disj {ow : Nat → Option Nat} {ks ks' : List Nat} (h : (ks ++ ks').Nodup) {A A' : List Nat} (hA : ∀ b ∈ A, ∃ r ∈ ks, ow b = some r) (hA' : ∀ b ∈ A', ∃ r ∈ ks', ow b = some r) : ∀ b ∈ A, ∀ b' ∈ A', b ≠ b' := by
  intro b hb b' hb' e
  subst e
  obtain ⟨r, h1, h2⟩ := hA b hb
  obtain ⟨r', h3, h4⟩ := hA' b hb'
  rw [h2] at h4
  obtain rfl := Option.some.inj h4
  rw [List.nodup_append] at h
  exact h.2.2 r h1 r h3 rfl

theorem retC_ok {E : Env} {tab : Tab} (htab : TabOk E.P tab) {σ : List Slot} {a : Act} {w : World} (hst : RepState E σ a w) {ow : Nat → Option Nat}
    (hsl : ∀ k, ∃ A, A.Nodup ∧ (∀ b ∈ A, ow b = some k) ∧ RepSlot w E.F (lk σ) (vl a) (lk σ k) (vl a k) A) {t : PT} {m : Md} {k : Nat} {T : TypeId} {y : t.den} {ks : List Nat} (h : retC tab σ t m k T = some (y, ks)) :
    ∃ cs A, A.Nodup ∧ (∀ b ∈ A, ∃ r ∈ ks, ow b = some r) ∧ Rep w noF t m y cs A ∧ (do loadVar T (← asAddr (a.tmps.getD k undef)) : Sem Value).run E.P w = .ok (wrapV t cs) w := by
  obtain ⟨A, hA1, hA2, hA3⟩ := hsl k
  unfold retC at h
  split at h
  case h_2 => cases h
  rename_i t1 ht1
  split at h
  case h_2 => cases h
  rename_i t' m' x hk
  split at h
  case isFalse => cases h
  rename_i hb
  simp only [Bool.and_eq_true] at hb
  obtain ⟨hb1, hown⟩ := hb
  obtain rfl := PT.eq_of_beq hb1
  split at h
  case h_2 => cases h
  rename_i y' hc
  obtain ⟨e, rfl⟩ := castT_some hc
  subst e
  rw [hk] at hA3
  obtain ⟨cs0, hr, hu⟩ := hA3
  simp only [Rep] at hr
  obtain ⟨b, c, e, fr, A', rfl, rfl, hc, hfree, hr⟩ := hr
  have hT := htab.ty _ _ ht1
  have hlen : c.toList.length = t1.size := rep_length _ _ _ _ _ hr
  have hval : a.tmps.getD k undef = .pointer (some ⟨b, 0, none⟩) := hu
  have hrun : (do loadVar T (← asAddr (a.tmps.getD k undef)) : Sem Value).run E.P w = .ok (wrapV t1 c.toList) w := by
    have h1 := run_loadVar_at (P := E.P) hT hc (off := 0) (by simp at hlen; omega)
    rw [List.drop_zero, List.take_of_length_le (by omega)] at h1
    rw [hval]
    simp only [asAddr, Sem.run_bind, Sem.run_pure, Result.andThen_ok]
    exact h1
  have hA1' := (List.nodup_cons.1 hA1).2
  split at h
  · rename_i hm
    obtain rfl := Md.eq_of_beq hm
    simp only [Option.some.injEq, Prod.mk.injEq] at h
    obtain ⟨rfl, rfl⟩ := h
    exact ⟨c.toList, A', hA1', fun b hb => ⟨k, by simp, hA2 b (by simp [hb])⟩, own_any _ _ _ _ _ hown hr, hrun⟩
  · split at h
    · rename_i hm
      simp only [Bool.and_eq_true] at hm
      obtain rfl := Md.eq_of_beq hm.2
      simp only [Option.some.injEq, Prod.mk.injEq] at h
      obtain ⟨rfl, rfl⟩ := h
      have hr' := plainT_n _ _ _ _ _ hm.1 hr
      have := rep_own_n hr'
      subst this
      exact ⟨c.toList, [], List.nodup_nil, fun b hb => by simp at hb, own_any _ _ _ _ _ hown hr', hrun⟩
    · cases h

/-- What a result variable is read as. -/
def readR (tmps : Array Value) (r : ResultVar) : Sem Value := match r with
  | .tmp t => pure (tmps.getD t undef)
  | .cell a t => do loadVar t (← asAddr (tmps.getD a undef))

theorem retL_ok {E : Env} {tab : Tab} (htab : TabOk E.P tab) {σ : List Slot} {a : Act} {w : World} (hst : RepState E σ a w) {ow : Nat → Option Nat} (how : ∀ b k, ow b = some k → ¬ E.F b ∧ b < w.heap.size)
    (hsl : ∀ k, ∃ A, A.Nodup ∧ (∀ b ∈ A, ow b = some k) ∧ RepSlot w E.F (lk σ) (vl a) (lk σ k) (vl a k) A) : ∀ (ts : List PT) (ms : List Md) (rs : List ResultVar) (y : PT.denL ts) (ks : List Nat), retL tab σ ts ms rs = some (y, ks) → ks.Nodup →
    ∃ us A, A.Nodup ∧ (∀ b ∈ A, ∃ r ∈ ks, ow b = some r) ∧ RepTup w noF (tupL ts ms y) us A ∧ (rs.mapM (readR a.tmps)).run E.P w = .ok us w
  | [], ms, rs, y, ks, h, _ => by
    cases ms <;> cases rs <;> simp only [retL] at h <;> try (cases h; done)
    exact ⟨[], [], List.nodup_nil, fun b hb => by simp at hb, ⟨rfl, rfl⟩, by simp⟩
  | t :: ts, [], rs, y, ks, h, _ => by cases rs <;> simp [retL] at h
  | t :: ts, m :: ms, [], y, ks, h, _ => by simp [retL] at h
  | t :: ts, m :: ms, r :: rs, y, ks, h, hn => by
    simp only [retL] at h
    split at h
    case h_2 => cases h
    rename_i y1 ks1 h1
    split at h
    case h_2 => cases h
    rename_i y2 ks2 h2
    simp only [Option.some.injEq, Prod.mk.injEq] at h
    obtain ⟨rfl, rfl⟩ := h
    have hn' := hn
    rw [List.nodup_append] at hn'
    have h1' : ∃ cs A, A.Nodup ∧ (∀ b ∈ A, ∃ r ∈ ks1, ow b = some r) ∧ Rep w noF t m y1 cs A ∧ (readR a.tmps r).run E.P w = .ok (wrapV t cs) w := by
      cases r with
      | tmp k =>
        obtain ⟨cs, A1, g1, g2, g3, g4⟩ := retV_ok hst how hsl h1
        exact ⟨cs, A1, g1, g2, g3, by rw [← g4]; rfl⟩
      | cell k T => exact retC_ok htab hst hsl h1
    obtain ⟨cs, A1, g1, g2, g3, g4⟩ := h1'
    obtain ⟨us, A2, f1, f2, f3, f4⟩ := retL_ok htab hst how hsl ts ms rs y2 ks2 h2 hn'.2.1
    refine ⟨wrapV t cs :: us, A1 ++ A2, ?_, fun b hb => ?_, ⟨[wrapV t cs], us, A1, A2, rfl, rfl, ⟨rfl, cs, g3, rfl⟩, f3⟩, ?_⟩
    · rw [List.nodup_append]
      exact ⟨g1, f1, ret_disj hn g2 f2⟩
    · rcases List.mem_append.1 hb with hb | hb
      · obtain ⟨r, h5, h6⟩ := g2 b hb
        exact ⟨r, by simp [h5], h6⟩
      · obtain ⟨r, h5, h6⟩ := f2 b hb
        exact ⟨r, by simp [h5], h6⟩
    · simp only [List.mapM_cons, Sem.run_bind, Sem.run_pure, g4, f4, Result.andThen_ok]

/-- What comes back, laid out. -/
theorem res_rep {w : World} {ts : List PT} {ms : List Md} {y : PT.denL ts} {us : List Value} {A : List Nat} (h : RepTup w noF (tupL ts ms y) us A) (hms : ms.length = ts.length) :
    RepSlot w noF nolook noval (resSlot ts ms y) (if h : us.toArray.size = 1 then us.toArray[0] else .tuple us.toArray) A := by
  have hlen : us.length = ts.length := by
    have h1 := repL_length (n := 1) (fun o c A h => by cases o <;> exact h.1) _ _ _ h
    have h2 : ∀ (ts : List PT) (ms : List Md) (y : PT.denL ts), (tupL ts ms y).length = ts.length := by
      intro ts
      induction ts with
      | nil => intro ms y; rfl
      | cons t ts ih => intro ms y; cases ms <;> simp [tupL, ih]
    rw [h1, h2, Nat.mul_one]
  match ts, ms, hms with
  | [t], [m], _ =>
    obtain ⟨c1, c2, A1, A2, rfl, rfl, ⟨_, cs, h2, rfl⟩, h3, h4⟩ := h
    subst h3 h4
    simp only [resSlot]
    refine ⟨cs, by simpa using h2, by simp⟩
  | [], ms, _ =>
    have : us = [] := List.length_eq_zero_iff.1 hlen
    subst this
    cases ms <;> exact ⟨_, rfl, h⟩
  | t :: t2 :: ts, ms, _ =>
    have h3 : ¬ us.toArray.size = 1 := by simp [hlen]
    rw [dif_neg h3]
    cases ms <;> exact ⟨_, rfl, h⟩

/-! ### Arguments -/
def argSlots : (ts : List PT) → List AM → PT.denL ts → List Slot
  | [], _, _ => []
  | t :: ts, m :: ms, x => argSlot m t x.1 :: argSlots ts ms x.2
  | t :: ts, [], x => .dead :: argSlots ts [] x.2

/-- The slots at a function's start. -/
def sig0 (s : FSpec) (n : Nat) (x : PT.denL s.ts) : List Slot := argSlots s.ts s.ms x ++ List.replicate (n - s.ts.length) .dead

theorem capsT_any {w : World} {F : Nat → Prop} {look look' : Nat → Slot} {vs vs' : Nat → Value} : ∀ (ts : List PT) (ms : List Md) (x : PT.denL ts) (us : List Value), RepCaps w F look vs (capsT ts ms x) us → RepCaps w F look' vs' (capsT ts ms x) us
  | [], ms, x, us, h => h
  | t :: ts, m :: ms, x, us, h => by
    obtain ⟨b, off, c, e, fr, us', h1, h2, h3, h4, h5, h6⟩ := h
    exact ⟨b, off, c, e, fr, us', h1, h2, h3, h4, h5, capsT_any ts ms x.2 us' h6⟩
  | t :: ts, [], x, us, h => by
    obtain ⟨b, off, c, e, fr, us', h1, h2, h3, h4, h5, h6⟩ := h
    exact ⟨b, off, c, e, fr, us', h1, h2, h3, h4, h5, capsT_any ts [] x.2 us' h6⟩
theorem argC_any {w : World} {F : Nat → Prop} {look look' : Nat → Slot} {vs vs' : Nat → Value} {f : FuncId} {ms : List Md} {t : PT} {x : t.den} {u : Value} {A : List Nat} (h : RepSlot w F look vs (argSlot (.c f ms) t x) u A) : RepSlot w F look' vs' (argSlot (.c f ms) t x) u A := by
  cases t <;> try exact h
  obtain ⟨h1, us, h2, h3⟩ := h
  exact ⟨h1, us, h2, capsT_any _ _ _ _ h3⟩

theorem args_own {w : World} {F : Nat → Prop} : ∀ (ts : List PT) (ms : List AM) (x : PT.denL ts) (us : List Value) (B : List Nat), ArgsRep w F ts ms x us B → B.Nodup →
    us.length = ts.length ∧ (argSlots ts ms x).length = ts.length ∧ ∃ ow : Nat → Option Nat, (∀ b k, ow b = some k → b ∈ B) ∧ ∀ (look : Nat → Slot) (vs : Nat → Value) k, ∃ A, A.Nodup ∧ (∀ b ∈ A, ow b = some k) ∧ RepSlot w F look vs ((argSlots ts ms x).getD k .dead) (us.getD k undef) A
  | [], ms, x, us, B, h, hB => by
    obtain ⟨rfl, rfl⟩ := h
    exact ⟨rfl, rfl, fun _ => none, fun b k h => by simp at h, fun look vs k => ⟨[], List.nodup_nil, fun b hb => by simp at hb, by simp [argSlots, RepSlot]⟩⟩
  | t :: ts, ms, x, us, B, h, hB => by
    obtain ⟨m, ms', u, us', A1, A2, rfl, rfl, rfl, h1, h2⟩ := h
    rw [List.nodup_append] at hB
    obtain ⟨e1, e2, ow, how, hsl⟩ := args_own ts ms' x.2 us' A2 h2 hB.2.1
    refine ⟨by simp [e1], by simp [argSlots, e2], fun b => if b ∈ A1 then some 0 else (ow b).map (· + 1), fun b k hk => ?_, fun look vs k => ?_⟩
    · dsimp only at hk
      split at hk
      · rename_i hm; simp [hm]
      · cases ho : ow b with
        | none => rw [ho] at hk; cases hk
        | some j => exact List.mem_append_right _ (how b j ho)
    · cases k with
      | zero =>
        refine ⟨A1, hB.1, fun b hb => by simp [hb], ?_⟩
        simp only [argSlots, List.getD_cons_zero]
        cases m with
        | c f cms => exact argC_any h1
        | _ => exact h1
      | succ k =>
        obtain ⟨A, g1, g2, g3⟩ := hsl look vs k
        refine ⟨A, g1, fun b hb => ?_, by simpa [argSlots] using g3⟩
        have hb2 := how b k (g2 b hb)
        dsimp only
        rw [if_neg (fun hm => hB.2.2 b hm b hb2 rfl), g2 b hb]
        rfl

/-- **A FUNCTION KEEPS ITS PROMISE** if the symbolic run of its code ends as promised. -/
theorem specRuns_of_wp {P : Program} {tab : Tab} (htab : TabOk P tab) {f : FuncId} {fn : Func} {c : Code} {s : FSpec} (hf : P.funcs[f]? = some fn) (hb : fn.body = some c) (hn : s.ts.length ≤ fn.ntmps) (hr : s.rm.length = s.rs.length)
    (h : ∀ (E : Env) (x : PT.denL s.ts), E.P = P → s.pre x → ∀ a w, RepState E (sig0 s fn.ntmps x) a w → c.wp E.P (postOf E (atEnd tab s fn.results.toList fun y => y = s.fn x)) a w) : SpecRuns P f s := by
  intro w x us B hB hBw hargs hpre
  let E : Env := ⟨P, w, fun b => b < w.heap.size ∧ b ∉ B, fun b hb => hb.1⟩
  obtain ⟨e1, e2, ow, how, hsl⟩ := args_own s.ts s.ms x us.toList B hargs hB
  have hus : us.size = s.ts.length := by simpa using e1
  have hst : RepState E (sig0 s fn.ntmps x) { tmps := us ++ Array.replicate (fn.ntmps - us.size) undef, defers := [] } w := by
    refine ⟨rfl, ?_, Kept.refl _ _, ow, fun b k hk => ⟨fun hF => hF.2 (how b k hk), hBw b (how b k hk)⟩, List.nodup_nil, fun b hb => by simp at hb, fun k => ?_⟩
    · simp [sig0, e2, hus]
    · obtain ⟨A, g1, g2, g3⟩ := hsl (fun k => (sig0 s fn.ntmps x).getD k .dead) (fun k => (us ++ Array.replicate (fn.ntmps - us.size) undef).getD k undef) k
      by_cases hk : k < s.ts.length
      · refine ⟨A, g1, g2, ?_⟩
        have h1 : (sig0 s fn.ntmps x).getD k .dead = (argSlots s.ts s.ms x).getD k .dead := by
          simp only [sig0, List.getD_eq_getElem?_getD]
          rw [List.getElem?_append_left (by rw [e2]; exact hk)]
        have h2 : (us ++ Array.replicate (fn.ntmps - us.size) undef).getD k undef = us.toList.getD k undef := by
          simp only [Array.getD_eq_getD_getElem?, List.getD_eq_getElem?_getD]
          rw [Array.getElem?_append_left (by rw [hus]; exact hk)]
          simp
        dsimp only
        rw [h1, h2]
        exact g3
      · refine ⟨[], List.nodup_nil, fun b hb => by simp at hb, ?_⟩
        have h1 : (sig0 s fn.ntmps x).getD k .dead = .dead := by
          simp only [sig0, List.getD_eq_getElem?_getD]
          rw [List.getElem?_append_right (by rw [e2]; omega)]
          simp only [List.getElem?_replicate]
          split <;> rfl
        dsimp only
        rw [h1]
        rfl
  refine calls_of_wp hf hb (wp_mono (h E x rfl hpre _ w hst) fun e a w' hp => ?_)
  have key : ∀ σ, atEnd tab s fn.results.toList (fun y => y = s.fn x) .nrm σ → RepState E σ a w' → a.defers = [] ∧ ∃ v, (results fn a.tmps).run P w' = .ok v w' ∧
      (Kept (fun b => b < w.heap.size ∧ b ∉ B) w w' ∧ ∃ A, A.Nodup ∧ (∀ b ∈ A, (b ∈ B ∨ w.heap.size ≤ b) ∧ b < w'.heap.size) ∧ RepSlot w' noF nolook noval (resSlot s.rs s.rm (s.fn x)) v A) := by
    intro σ hK hst'
    simp only [atEnd] at hK
    split at hK
    case h_2 => cases hK
    rename_i y ks hret
    split at hK
    case h_2 => cases hK
    rename_i hnd
    subst hK
    obtain ⟨ow', how', _, _, hsl'⟩ := hst'.slots
    obtain ⟨us', A, g1, g2, g3, g4⟩ := retL_ok (E := E) htab hst' how' hsl' _ _ _ _ _ hret (nodupB_out hnd)
    refine ⟨hst'.defers, _, ?_, hst'.below, A, g1, fun b hb => ?_, res_rep g3 hr⟩
    · unfold results
      have hm : (fn.results.toList.mapM (fun (r : ResultVar) => match r with
        | .tmp t => (pure (a.tmps.getD t undef) : Sem Value)
        | .cell k t => do loadVar t (← asAddr (a.tmps.getD k undef)))).run P w' = .ok us' w' := g4
      rw [Array.mapM_eq_mapM_toList]
      simp only [Sem.run_bind, Sem.run_map, Sem.run_pure]
      refine Eq.trans (congrArg (fun r => (Result.andThen r fun a w' => Result.ok a.toArray w').andThen fun a w' => Result.ok (if h : a.size = 1 then a[0] else Value.tuple a) w') hm) ?_
      rfl
    · obtain ⟨r, _, h2⟩ := g2 b hb
      obtain ⟨h3, h4⟩ := how' b r h2
      refine ⟨?_, h4⟩
      by_cases hbB : b ∈ B
      · exact .inl hbB
      · exact .inr (Nat.le_of_not_lt fun hlt => h3 ⟨hlt, hbB⟩)
  cases e <;> simp only [postOf, bodyPost] at hp ⊢
  · obtain ⟨σ, h1, h2⟩ := hp
    exact key σ h1 h2
  · obtain ⟨σ, h1, h2⟩ := hp
    simp [atEnd] at h1
  · obtain ⟨σ, h1, h2⟩ := hp
    exact key σ h1 h2

theorem specRuns_of_pw {P : Program} {tab : Tab} (htab : TabOk P tab) {specs : Specs} (hsp : SpecsOk P specs) {f : FuncId} {fn : Func} {c : Code} {s : FSpec} (hf : P.funcs[f]? = some fn) (hb : fn.body = some c) (hn : s.ts.length ≤ fn.ntmps) (hr : s.rm.length = s.rs.length)
    (h : ∀ (E : Env) (x : PT.denL s.ts), E.P = P → s.pre x → pw real0 tab specs (LpR E) c (sig0 s fn.ntmps x) (atEnd tab s fn.results.toList fun y => y = s.fn x)) : SpecRuns P f s :=
  specRuns_of_wp htab hf hb hn hr fun E x hP hpre => pw_sound (E := E) (by rw [hP]; exact htab) (by rw [hP]; exact hsp) c _ _ (h E x hP hpre)

/-! ### For the walks -/
theorem ite_in {A : Alg} (hA : A = real0) {b : Bool} {p q : Prop} (h1 : b = true → p) (h2 : b = false → q) : A.ite b p q := hA ▸ ⟨h1, h2⟩
theorem imp_in {A : Alg} (hA : A = real0) {b : Bool} {p : Prop} (h1 : b = true → p) : A.imp b p := hA ▸ h1
theorem inb_in {A : Alg} (hA : A = real0) {i n : Int} (h : 0 ≤ i ∧ i < n) : A.inb i n := hA ▸ h
theorem bnd_in {A : Alg} (hA : A = real0) {l h n : Int} (hh : 0 ≤ l ∧ l ≤ h ∧ h ≤ n) : A.bnd l h n := hA ▸ hh
theorem nz_in {A : Alg} (hA : A = real0) {i : Int} (h : i ≠ 0) : A.nz i := hA ▸ h
theorem nn_in {A : Alg} (hA : A = real0) {i : Int} (h : 0 ≤ i) : A.nn i := hA ▸ h
theorem sml_in {A : Alg} (hA : A = real0) {i : Int} (h : i ≤ 1099511627776) : A.sml i := hA ▸ h
theorem smL_in {A : Alg} (hA : A = real0) {i : Int} (h : i ≤ 4294967296) : A.smL i := hA ▸ h

end Go.Proofs.Ytaachifkgcdeoaa.Sy
